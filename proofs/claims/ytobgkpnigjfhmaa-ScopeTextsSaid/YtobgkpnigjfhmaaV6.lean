/- Texts of this claim, merged. -/
import Derived.Test.YtobgkpnigjfhmaaV5
import Derived.Deep.Slices
set_option maxRecDepth 100000
set_option maxHeartbeats 8000000
set_option linter.unusedVariables false
set_option linter.unusedSimpArgs false
namespace Go.Proofs.Ytobgkpnigjfhmaa.H
open Go.RowKit Go.Proofs.YtobgkpnigjfhmaaW.PrintWords Go.Proofs.YtobgkpnigjfhmaaW.PrintLast Go.Proofs.YtobgkpnigjfhmaaW.PrintMore
theorem block_calls (g : Nat) (A : Option Addr) (c : Nat) (lt : List S40) (htk : TkOk lt) (a : Nat) (hbeg : CBegun g A c lt (hd lt a)) (b : Nat) (ok : Nat → Prop) (W : World) (k w wd : Int) (v : Value) (l : List S24) (N : Nat) (hP : PS W g A c lt a) (hN : NV b ok W k w wd v l N) (hb : b ≤ W.heap.size) (hg : ∀ q, ok q → g < q) (hf : ∀ q, W.heap.size ≤ q → ok q) (hs : N + 40 * (lt.length - a) + 10 ≤ 900000) :
  Calls Try.prog 63 #[.pointer (some ⟨g, 0, none⟩), .agg #[.int .u8 k, .int .u8 w, .int .i64 wd, v]] W fun e W' => ∃ a', a ≤ a' ∧ a' ≤ lt.length ∧ Ext g A c lt b ok W k w v.ownBlock a' (N + 40 * (a' - a) + 1) e W' := by
 obtain ⟨AA, cc, rfl, hlc, hC⟩ := Kd.zaL hN.row; have HTO := J htk; have HBEG := J hbeg; have hle := hP.le; have hge := hd_ge lt a; have HHL := J (And.intro hge (hd_le hle)); clear htk hC hbeg; have hu := Try.underlying24; go_enter Try.func63, Try.ntmps63
 go_upto_region 1 with (fail)
 obtain ⟨X, hX⟩ : ∃ X, X = (W.alloc (nodeO k w wd (.slice AA l.length cc))).alloc (nodeO 0 0 0 (.slice none 0 0)) := ⟨_, rfl⟩; obtain ⟨h2, hn, hv⟩ := S2.start hP hN hg hf hX; change Code.wp Try.prog _ _ _ ((W.alloc (nodeO k w wd (.slice AA l.length cc))).alloc (nodeO 0 0 0 (.slice none 0 0)))
 rw [← hX]; generalize okm ok W 2 = okx at h2 hn hv
 have H2 := J h2; have HN := J hn; have HV := J hv; have HBW := J hb; clear h2 hn hv hX hP hN hg hf; have HKC := J (za5 g A c lt a X H2.out.ps); obtain ⟨q, hq⟩ : ∃ q, q = cu lt a := ⟨_, rfl⟩; rw [← hq] at HKC; have HQ := J hq; clear hq; by_cases hqk : q = 22
 case neg =>
  have d0 : (q != 22) = true := by simp [hqk]
  go_upto_region 2 with (go_at_call 21; refine HKC.out.mono ?_; rintro e w2 ⟨rfl, hb2⟩; have I2 := J (H2.out.below hb2); have IN := J (HN.out.below hb2); have IV := J (HV.out.below hb2); clear hb2 H2 HN HV HKC)
  obtain ⟨x0, x1, x2, x3⟩ := IN.out.cells; go_wp2_with (go_at_call 72; refine (zbW g A c lt a b okx w2 k w wd _ l N 52 q9 I2.out.ps IN.out.nv (Nat.le_trans HBW.out I2.out.fr.size) (fun q hq => I2.out.hg q (I2.out.sub q hq)) I2.out.fresh q9).mono ?_; rintro e w3 ⟨wd1, u1, l1, rfl, h1, h2, h3, h4⟩; obtain ⟨A1, c1, rfl, _, _⟩ := Kd.zaL h2.row; have hv_ := IV.out.same (I2.out.var IV.out h3 (fun q hq => IN.out.nv.row.1 q hq)); have HEND := J ((I2.out.ext IN.out h1 h3).done hv_ h2 (zaF IN.out.near I2.out.fr.size h4)); obtain ⟨z0, z1, z2, z3, hz_⟩ := hv_.at_; have HZ := J hz_; have f0 := zab hz_ 0; have f1 := zab hz_ 1; have f2 := zab hz_ 2; have f3 := zab hz_ 3; obtain ⟨⟨d0, d1, d2, d3⟩, dl⟩ := zaB hz_; clear h1 h2 h3 h4 hv_ hz_ x0 x1 x2 x3)
  refine bodyPost_ret (zaM (r := .cell 4 24) rfl (.cell (W.heap.size + 1) 24 _ (0, 0) _ rfl (za7 HZ.out) Try.underlying24 rfl qb .nil)) rfl ?_
  refine ⟨a, Nat.le_refl _, q9, ?_⟩
  obtain ⟨wd9, u9, l9, e1, e2, e3, e4, e5⟩ := HEND.out; exact ⟨wd9, u9, l9, e1, e2, e3.more q9, e4, e5⟩
 case pos =>
  have d0 : (q != 22) = false := by simp [hqk]
  have HLT := J (cu_lt (l := lt) (a := a) (by rw [← HQ.out, hqk]; omega))
  clear hqk; go_upto_region 3 with (go_at_call 21; refine HKC.out.mono ?_; rintro e w2 ⟨rfl, hb2⟩; have I2 := J (H2.out.below hb2); have IN := J (HN.out.below hb2); have IV := J (HV.out.below hb2); clear hb2 H2 HN HV HKC)
  obtain ⟨x0, x1, x2, x3⟩ := IN.out.cells; go_upto_region 4 with (go_at_call 23; refine (zbU g A c lt HTO.out a b okx w2 k w wd _ l N I2.out.ps IN.out.nv (Nat.le_trans HBW.out I2.out.fr.size) (fun q hq => I2.out.hg q (I2.out.sub q hq)) I2.out.fresh qI).mono ?_; rintro e w3 ⟨wd1, u1, l1, rfl, h1, h2, h3, h4⟩; obtain ⟨A1, c1, rfl, _, _⟩ := Kd.zaL h2.row; have hp_ := IN.out.vi.same (I2.out.var IN.out.vi h3 (fun q hq => IN.out.nv.row.1 q hq)); have J2 := J ((I2.out.ext IN.out h1 h3).put (k := k) (w := w) (wd := wd1) (u := .slice A1 l1.length c1) hp_); have JN := J (NI.put hp_ h2 (zaF IN.out.near I2.out.fr.size h4)); have hv_ := IV.out.same (I2.out.var IV.out h3 (fun q hq => IN.out.nv.row.1 q hq)); have JV := J (hv_.put (p := W.heap.size) (k := k) (w := w) (wd := wd1) (u := .slice A1 l1.length c1) q9); clear hv_; obtain ⟨z0, z1, z2, z3, hz_⟩ := hp_.at_; have f0 := zab hz_ 0; have f1 := zab hz_ 1; have f2 := zab hz_ 2; have f3 := zab hz_ 3; obtain ⟨⟨d0, d1, d2, d3⟩, dl⟩ := zaB hz_; clear h1 h2 h3 h4 hp_ hz_ x0 x1 x2 x3 I2 IN IV)
  obtain ⟨X1, hX1⟩ : ∃ X1, X1 = putN w3 W.heap.size k w wd1 (.slice A1 l1.length c1) := ⟨_, rfl⟩; rw [← hX1] at J2 JN JV; simp only [putN] at hX1; rw [← hX1]; clear hX1 f0 f1 f2 f3 d0 d1 d2 d3 dl; obtain ⟨x0, x1, x2, x3⟩ := JN.out.cells; obtain ⟨N1, hN1⟩ : ∃ N1, N1 = N + (hd lt a - a) := ⟨_, rfl⟩; rw [← hN1] at JN; have HN1 := J hN1; clear hN1; go_upto_region 5 with (go_at_call 44; refine (taken_calls g A c lt (hd lt a) b okx X1 k w wd1 _ l1 N1 52 J2.out.ps JN.out.nv (fun q hq => J2.out.hg q (J2.out.sub q hq))).mono ?_; rintro e w4 ⟨rfl, h1, h2, h3⟩; have K2 := J (J2.out.ext JN.out h1 h3); have KN := J (JN.out.kept (J2.out.var JN.out.vi h3 (fun q hq => JN.out.nv.row.1 q hq)) h2); have KV := J (JV.out.same (J2.out.var JV.out h3 (fun q hq => JN.out.nv.row.1 q hq))); clear h1 h2 h3 x0 x1 x2 x3 J2 JN JV)
  have n_ := J (K2.out.newv (o := nodeO k w wd1 (.slice A1 l1.length c1))); clear K2; have K2 := n_; clear n_; have n_ := J (KN.out.newv (o := nodeO k w wd1 (.slice A1 l1.length c1))); clear KN; have KN := n_; clear n_; have n_ := J (KV.out.newv (o := nodeO k w wd1 (.slice A1 l1.length c1))); clear KV; have KV := n_; clear n_; obtain ⟨Y, hX1⟩ : ∃ X1, X1 = w4.alloc (nodeO k w wd1 (.slice A1 l1.length c1)) := ⟨_, rfl⟩; rw [← hX1] at K2 KN KV; change Code.wp Try.prog _ _ _ (w4.alloc (nodeO k w wd1 (.slice A1 l1.length c1)))
  rw [← hX1]; clear hX1; obtain ⟨x0, x1, x2, x3⟩ := KN.out.cells; have HSZ := J (show N1 + 40 * (lt.length - hd lt a) ≤ 899990 by have := HN1.out; have := HHL.out; omega)
  go_upto_region 7 with (fail)
  clear x0 x1 x2 x3; have D2 := J (K2.out.below (Y := Y.drew) (Below.refl _ _).drew); have DN := J (KN.out.below (Y := Y.drew) (Below.refl _ _).drew); have DV := J (KV.out.below (Y := Y.drew) (Below.refl _ _).drew); have HS0 := J DN.out.cells; clear K2 KN KV; refine wp_region_noPanic (zba [0, 1, 2, 3] (fun W' => W'.cell? ⟨W.heap.size, 0, none⟩ = some (.int .u8 k) ∧ W'.cell? ⟨W.heap.size, 1, none⟩ = some (.int .u8 w) ∧ W'.cell? ⟨W.heap.size, 2, none⟩ = some (.int .i64 wd1) ∧ W'.cell? ⟨W.heap.size, 3, none⟩ = some (.slice A1 l1.length c1)) qb ?_)
  refine zah 0 rfl HS0.out (fun _ h => qj) ?_
  simp only [Act.put, zai]; refine zah 1 rfl HS0.out (fun _ h => qj) ?_
  simp only [Act.put, zai]; refine zaI (i := 2) rfl qb (fun K hK => ?_)
  go_simp
  refine (HBEG.out Y.drew D2.out.ps (by rw [hd_hd]; exact HLT.out)).mono ?_
  rintro e w5 ⟨a9, hlo, hhi, k9, w9, wd9, u9, l9, rfl, p1, p2, p3⟩
  obtain ⟨kA, kc, rfl, _, _⟩ := Kd.zaL p2.row; have E2 := J (D2.out.ret p1 p3); have EN := J (NI.ret D2.out DN.out p3); have EV := J (VI.ret D2.out DV.out p3); have HKID := J (kid_nv (b := b) (okx := (oky okx w4.heap.size)) p2 (Nat.le_trans HBW.out D2.out.fr.size) D2.out.fresh (fun q hq => Kd.N_lt DN.out.nv.row q hq))
  have HS1 := J EN.out.cells; clear p1 p2 p3; refine hK.out _ _ (fun _ => HS1.out) (fun _ => ?_)
  clear hK K; try simp only [Act.put, zai]
  refine zaI (i := 3) rfl qb (fun K hK => ?_)
  go_simp
  refine (zb0 b (oky okx w4.heap.size) w5 k w wd1 _ l1 N1 _ _ _ _ _ _ EN.out.nv (Nat.le_trans HBW.out E2.out.fr.size) E2.out.fresh HKID.out qG).mono ?_
  rintro e w6 ⟨wd6, u6, l6, rfl, h1, h2, h3⟩
  obtain ⟨A6, c6, rfl, _, _⟩ := Kd.zaL h1.row; have F2 := J (E2.out.ext EN.out (E2.out.addps EN.out h2) (Fr.zaX h2)); have hv_ := EV.out.same (E2.out.var EV.out (Fr.zaX h2) (fun q hq => EN.out.nv.row.1 q hq))
  have FN := J (EN.out.vi.same (E2.out.var EN.out.vi (Fr.zaX h2) (fun q hq => EN.out.nv.row.1 q hq)))
  have HS2 := J ((zaB ((E2.out.var EN.out.vi (Fr.zaX h2) (fun q hq => EN.out.nv.row.1 q hq)).trans EN.out.box)).1)
  have HEND := J (F2.out.done hv_ h1 (zaF EN.out.near E2.out.fr.size h3)); obtain ⟨z0, z1, z2, z3, hz_⟩ := hv_.at_; have HZ := J hz_; have f0 := zab hz_ 0; have f1 := zab hz_ 1; have f2 := zab hz_ 2; have f3 := zab hz_ 3; obtain ⟨⟨d0, d1, d2, d3⟩, dl⟩ := zaB hz_
  clear h1 h2 h3 hv_ hz_; refine hK.out _ _ (fun _ => HS2.out) (fun _ => ?_)
  clear hK K; try simp only [Act.put, zai]
  refine zaI (i := 4) rfl qb (fun K hK => ?_)
  go_simp
  refine hK.out _ _ (fun h => Bool.noConfusion (show false = true from h)) (fun _ => ?_)
  clear hK K; try simp only [Act.put, zai]
  refine za3 qb (NoPanic.normal ?_) _
  clear d0 d1 d2 d3 dl f0 f1 f2 f3; go_wp2
  refine bodyPost_ret (zaM (r := .cell 4 24) rfl (.cell (W.heap.size + 1) 24 _ (0, 0) _ rfl (za7 HZ.out) Try.underlying24 rfl qb .nil)) rfl ?_
  refine ⟨a9, qI, hhi, ?_⟩
  obtain ⟨wd8, u8, l8, e1, e2, e3, e4, e5⟩ := HEND.out; exact ⟨wd8, u8, l8, e1, e2, e3.more qZ, e4, e5⟩
theorem begun_calls (g : Nat) (A : Option Addr) (c : Nat) (lt : List S40) (htk : TkOk lt) (a : Nat) (hexp : ∀ a1, a < a1 → CInner g A c lt a1) (W : World) (hP : PS W g A c lt a) (hlt : hd lt a < lt.length) :
  Calls Try.prog 64 #[.pointer (some ⟨g, 0, none⟩)] W fun e W' => ∃ a', a < a' ∧ a' ≤ lt.length ∧ Ret g A c lt W a' (40 * (a' - a) - 10) e W' := by
 have HTO := J htk; have HEXP := J hexp; have HLT := J hlt; have HLEN := J hP.len; clear htk hexp hlt; have hu := Try.underlying24; go_enter Try.func64, Try.ntmps64
 go_upto_region 1 with (fail)
 obtain ⟨X, hX⟩ : ∃ X, X = W.alloc (nodeO 0 0 0 (.slice none 0 0)) := ⟨_, rfl⟩; obtain ⟨h2, hv⟩ := S2.start1 hP hX; change Code.wp Try.prog _ _ _ (W.alloc (nodeO 0 0 0 (.slice none 0 0)))
 rw [← hX]; generalize oky (fun q => W.heap.size ≤ q) W.heap.size = okx at h2 hv
 have I2 := J h2; have IV := J hv; clear h2 hv hX hP; go_upto_region 2 with (go_at_call 47; refine (zbq g A c lt HTO.out a W.heap.size okx X 52 0 0 (.slice none 0 0) [] 1 I2.out.ps (NV.leaf q9 q9 q9 (Nat.le_refl _)) I2.out.fr.size (fun q hq => I2.out.hg q (I2.out.sub q hq)) I2.out.fresh HLT.out Q0).mono ?_; rintro e w3 ⟨wd1, u1, l1, rfl, h1, h2, h3, h4⟩; obtain ⟨A1, c1, rfl, _, _⟩ := Kd.zaL h2.row; have hs_ := I2.out.ret h1 h3; have J2 := J (hs_.newv (o := nodeO 52 0 wd1 (.slice A1 l1.length c1))); have JN := J (NI.new_ (W := W) (r := none) hs_.fr.size h2 (zaF (v := .slice none 0 0) (.inl rfl) I2.out.fr.size h4)); have JV := J ((VI.ret I2.out IV.out h3).newv (o := nodeO 52 0 wd1 (.slice A1 l1.length c1))); have HW3_ := J (show W.heap.size < w3.heap.size from Nat.lt_of_lt_of_le IV.out.zav h3.size); clear h1 h2 h3 h4 hs_ I2 IV)
 have HW3 := J HW3_.out; clear HW3_; obtain ⟨X1, hX1⟩ : ∃ X1, X1 = w3.alloc (nodeO 52 0 wd1 (.slice A1 l1.length c1)) := ⟨_, rfl⟩; rw [← hX1] at J2 JN JV; change Code.wp Try.prog _ _ _ (w3.alloc (nodeO 52 0 wd1 (.slice A1 l1.length c1)))
 rw [← hX1]; clear hX1; obtain ⟨a1, ha1⟩ : ∃ a1, a1 = hd lt a + 1 := ⟨_, rfl⟩; have hge := hd_ge lt a; have hl1 : a < a1 ∧ a1 ≤ lt.length := ⟨q9, by have := HLT.out; omega⟩
 obtain ⟨hl1a, hl1b⟩ := hl1; have n_ := J (JN.out.more (N' := 40 * (a1 - a) - 38) q9)
 rw [← ha1] at J2; clear JN ha1 hge; have JN := n_; clear n_; go_loopg [] (lt.length - a1) (fun kq w' => ∃ (ai : Nat) (wdi : Int) (vi : Value) (li : List S24), a < ai ∧ ai ≤ lt.length ∧ zaa (kq = lt.length - ai) ∧ zaa (S2 g A c lt (fun q => W.heap.size ≤ q) (oky okx w3.heap.size) W none w' ai) ∧ zaa (NI W.heap.size (oky okx w3.heap.size) W none w' w3.heap.size 52 0 wdi vi li (40 * (ai - a) - 38)) ∧ zaa (VI (oky okx w3.heap.size) W w' W.heap.size))
 case atStart => exact ⟨a1, wd1, _, l1, q9, hl1b, ⟨rfl⟩, J2, JN, JV⟩
 case round =>
  obtain ⟨ai, wdi, vi, li, hai, hail, HK, M2, MN, MV⟩ := hrel; obtain ⟨Ai, ci, rfl, _, _⟩ := Kd.zaL MN.out.nv.row; obtain ⟨q2, hq2⟩ : ∃ q2, q2 = cu lt ai := ⟨_, rfl⟩; have HKF := J (fun (X : World) (h : PS X g A c lt ai) => (show Calls Try.prog 21 #[.pointer (some ⟨g, 0, none⟩)] X fun e w' => e = .returned (.int .u8 q2) ∧ Below X.heap.size X w' from by rw [hq2]; exact za5 g A c lt ai X h))
  have HQ2 := J hq2; clear hq2; by_cases h23 : q2 = 23
  ·have d23 : (q2 != 23) = false := by simp [h23]
   clear h23; go_upto_region 4 with (go_at_call 21; refine (HKF.out _ M2.out.ps).mono ?_; rintro e w7 ⟨rfl, hb2⟩; have O2 := J (M2.out.below hb2); have ON := J (MN.out.below hb2); have OV := J (MV.out.below hb2); clear hb2 M2 MN MV)
   obtain ⟨x0, x1, x2, x3⟩ := ON.out.cells; go_wp2_with (go_at_call 60; refine (zbA g A c lt HTO.out ai W.heap.size (oky okx w3.heap.size) w7 52 0 wdi _ li (40 * (ai - a) - 38) 23 q9 O2.out.ps ON.out.nv O2.out.fr.size (fun q hq => O2.out.hg q (O2.out.sub q hq)) O2.out.fresh qz).mono ?_; rintro e w9 ⟨b3, b3a, b3l, wd3, u3, l3, rfl, h1, h2, h3, h4⟩; obtain ⟨A3, c3, rfl, _, _⟩ := Kd.zaL h2.row; have hv_ := OV.out.same (O2.out.var OV.out h3 (fun q hq => ON.out.nv.row.1 q hq)); have HEND := J ((O2.out.ext ON.out h1 h3).done hv_ h2 (zaF ON.out.near O2.out.fr.size h4)); obtain ⟨z0, z1, z2, z3, hz_⟩ := hv_.at_; have HZ := J hz_; have f0 := zab hz_ 0; have f1 := zab hz_ 1; have f2 := zab hz_ 2; have f3 := zab hz_ 3; obtain ⟨⟨d0, d1, d2, d3⟩, dl⟩ := zaB hz_; clear h1 h2 h3 h4 hv_ hz_ x0 x1 x2 x3)
   refine bodyPost_ret (zaM (r := .cell 2 24) rfl (.cell (W.heap.size) 24 _ (0, 0) _ rfl (za7 HZ.out) Try.underlying24 rfl qb .nil)) rfl ?_
   refine ⟨b3, q9, b3l, ?_⟩
   obtain ⟨wd8, u8, l8, e1, e2, e3, e4, e5⟩ := HEND.out; exact ⟨_, _, wd8, u8, l8, e1, e2, e3.more q9, e4⟩
  have d23 : (q2 != 23) = true := by simp [h23]
  by_cases h0 : q2 = 0
  ·have d0_ : (q2 != 0) = false := by simp [h0]
   clear h0 h23; go_upto_region 4 with (first | (go_at_call 21; refine (HKF.out _ M2.out.ps).mono ?_; rintro e w7 ⟨rfl, hb2⟩; have O2 := J (M2.out.below hb2); have ON := J (MN.out.below hb2); have OV := J (MV.out.below hb2); clear hb2 M2 MN MV) | (go_at_call 21; refine (HKF.out _ O2.out.ps).mono ?_; rintro e w8 ⟨rfl, hb2⟩; have T2 := J (O2.out.below hb2); have TN := J (ON.out.below hb2); have TV := J (OV.out.below hb2); clear hb2 O2 ON OV))
   obtain ⟨x0, x1, x2, x3⟩ := TN.out.cells; go_wp2_with (go_at_call 60; refine (zbA g A c lt HTO.out ai W.heap.size (oky okx w3.heap.size) w8 52 0 wdi _ li (40 * (ai - a) - 38) 23 q9 T2.out.ps TN.out.nv T2.out.fr.size (fun q hq => T2.out.hg q (T2.out.sub q hq)) T2.out.fresh qz).mono ?_; rintro e w9 ⟨b3, b3a, b3l, wd3, u3, l3, rfl, h1, h2, h3, h4⟩; obtain ⟨A3, c3, rfl, _, _⟩ := Kd.zaL h2.row; have hv_ := TV.out.same (T2.out.var TV.out h3 (fun q hq => TN.out.nv.row.1 q hq)); have HEND := J ((T2.out.ext TN.out h1 h3).done hv_ h2 (zaF TN.out.near T2.out.fr.size h4)); obtain ⟨z0, z1, z2, z3, hz_⟩ := hv_.at_; have HZ := J hz_; have f0 := zab hz_ 0; have f1 := zab hz_ 1; have f2 := zab hz_ 2; have f3 := zab hz_ 3; obtain ⟨⟨d0, d1, d2, d3⟩, dl⟩ := zaB hz_; clear h1 h2 h3 h4 hv_ hz_ x0 x1 x2 x3)
   refine bodyPost_ret (zaM (r := .cell 2 24) rfl (.cell (W.heap.size) 24 _ (0, 0) _ rfl (za7 HZ.out) Try.underlying24 rfl qb .nil)) rfl ?_
   refine ⟨b3, q9, b3l, ?_⟩
   obtain ⟨wd8, u8, l8, e1, e2, e3, e4, e5⟩ := HEND.out; exact ⟨_, _, wd8, u8, l8, e1, e2, e3.more q9, e4⟩
  ·have d0_ : (q2 != 0) = true := by simp [h0]
   have HC0 := J (show cu lt ai ≠ 0 by rw [← HQ2.out]; exact h0)
   clear h0 h23; go_upto_region 3 with (first | (go_at_call 21; refine (HKF.out _ M2.out.ps).mono ?_; rintro e w7 ⟨rfl, hb2⟩; have O2 := J (M2.out.below hb2); have ON := J (MN.out.below hb2); have OV := J (MV.out.below hb2); clear hb2 M2 MN MV) | (go_at_call 21; refine (HKF.out _ O2.out.ps).mono ?_; rintro e w8 ⟨rfl, hb2⟩; have T2 := J (O2.out.below hb2); have TN := J (ON.out.below hb2); have TV := J (OV.out.below hb2); clear hb2 O2 ON OV))
   obtain ⟨x0, x1, x2, x3⟩ := TN.out.cells; go_wp2_with (go_at_call 22; refine (HEXP.out ai hai W.heap.size (oky okx w3.heap.size) w8 52 0 wdi _ li (40 * (ai - a) - 38) T2.out.ps TN.out.nv T2.out.fr.size (fun q hq => T2.out.hg q (T2.out.sub q hq)) T2.out.fresh HC0.out qz).mono ?_; rintro e w9 ⟨b5, b5a, b5l, wd5, u5, l5, rfl, h1, h2, h3, h4⟩; obtain ⟨A5, c5, rfl, _, _⟩ := Kd.zaL h2.row; have hp_ := TN.out.vi.same (T2.out.var TN.out.vi h3 (fun q hq => TN.out.nv.row.1 q hq)); have R2 := J ((T2.out.ext TN.out h1 h3).put (k := 52) (w := 0) (wd := wd5) (u := .slice A5 l5.length c5) hp_); have RN := J (NI.put hp_ h2 (zaF TN.out.near T2.out.fr.size h4)); have hv_ := TV.out.same (T2.out.var TV.out h3 (fun q hq => TN.out.nv.row.1 q hq)); have RV := J (hv_.put (p := w3.heap.size) (k := 52) (w := 0) (wd := wd5) (u := .slice A5 l5.length c5) (fun e_ => qV)); clear hv_; obtain ⟨z0, z1, z2, z3, hz_⟩ := hp_.at_; have f0 := zab hz_ 0; have f1 := zab hz_ 1; have f2 := zab hz_ 2; have f3 := zab hz_ 3; obtain ⟨⟨d0, d1, d2, d3⟩, dl⟩ := zaB hz_; clear h1 h2 h3 h4 hp_ hz_ x0 x1 x2 x3 T2 TN TV)
   obtain ⟨X5, hX1⟩ : ∃ X1, X1 = putN w9 w3.heap.size 52 0 wd5 (.slice A5 l5.length c5) := ⟨_, rfl⟩; rw [← hX1] at R2 RN RV; simp only [putN] at hX1; rw [← hX1]; clear hX1 f0 f1 f2 f3 d0 d1 d2 d3 dl; go_roundg (lt.length - b5)
   case measure => have := HK.out; omega
   case rel => exact ⟨b5, wd5, _, l5, q9, b5l, ⟨rfl⟩, R2, ⟨RN.out.more q9⟩, RV⟩
theorem primary_calls (g : Nat) (A : Option Addr) (c : Nat) (lt : List S40) (htk : TkOk lt) (a : Nat) (hexp : ∀ a1, a < a1 → CExpr g A c lt a1) (W : World) (hP : PS W g A c lt a) (hlt : hd lt a < lt.length) :
  Calls Try.prog 81 #[.pointer (some ⟨g, 0, none⟩)] W fun e W' => ∃ a', a < a' ∧ a' ≤ lt.length ∧ Ret g A c lt W a' (40 * (a' - a) - 20) e W' := by
 have HTO := J htk; have HEXP := J hexp; have HLT := J hlt; have HLEN := J hP.len; clear htk hexp hlt; have hu := Try.underlying24; go_enter Try.func81, Try.ntmps81
 go_upto_region 1 with (fail)
 obtain ⟨X, hX⟩ : ∃ X, X = W.alloc (nodeO 0 0 0 (.slice none 0 0)) := ⟨_, rfl⟩; obtain ⟨h2, hv⟩ := S2.start1 hP hX; change Code.wp Try.prog _ _ _ (W.alloc (nodeO 0 0 0 (.slice none 0 0)))
 rw [← hX]; generalize oky (fun q => W.heap.size ≤ q) W.heap.size = okx at h2 hv
 have H2 := J h2; have HV := J hv; clear h2 hv hX hP; have HKC := J (za5 g A c lt a X H2.out.ps); obtain ⟨q, hq⟩ : ∃ q, q = cu lt a := ⟨_, rfl⟩; rw [← hq] at HKC; clear hq; by_cases h6 : q = 6
 ·have d6 : (q == 6) = true := by simp [h6]
  clear h6; go_wp2_with (first | (go_at_call 21; refine HKC.out.mono ?_; rintro e w2 ⟨rfl, hb2⟩; have I2 := J (H2.out.below hb2); have IV := J (HV.out.below hb2); clear hb2 H2 HV HKC) | (go_at_call 47; refine (zbq g A c lt HTO.out a W.heap.size okx w2 66 0 0 (.slice none 0 0) [] 1 I2.out.ps (NV.leaf q9 q9 q9 (Nat.le_refl _)) I2.out.fr.size (fun q hq => I2.out.hg q (I2.out.sub q hq)) I2.out.fresh HLT.out Q0).mono ?_; rintro e w3 ⟨wd1, u1, l1, rfl, h1, h2, h3, h4⟩; obtain ⟨A1, c1, rfl, _, _⟩ := Kd.zaL h2.row; have hv_ := VI.ret I2.out IV.out h3; have HEND := J ((I2.out.ret h1 h3).done hv_ h2 (zaF (v := .slice none 0 0) (.inl rfl) I2.out.fr.size h4)); obtain ⟨z0, z1, z2, z3, hz_⟩ := hv_.at_; have HZ := J hz_; have f0 := zab hz_ 0; have f1 := zab hz_ 1; have f2 := zab hz_ 2; have f3 := zab hz_ 3; obtain ⟨⟨d0, d1, d2, d3⟩, dl⟩ := zaB hz_; clear h1 h2 h3 h4 hv_ hz_))
  refine bodyPost_ret (zaM (r := .cell 2 24) rfl (.cell (W.heap.size) 24 _ (0, 0) _ rfl (za7 HZ.out) Try.underlying24 rfl qb .nil)) rfl ?_
  refine ⟨hd lt a + 1, by have := hd_ge lt a; omega, by have := HLT.out; omega, ?_⟩
  obtain ⟨wd8, u8, l8, e1, e2, e3, e4, e5⟩ := HEND.out; exact ⟨_, _, wd8, u8, l8, e1, e2, e3.more (by have := hd_ge lt a; omega), e4⟩
 have d6 : (q == 6) = false := by simp [h6]
 by_cases h20 : q = 20
 ·have d20 : (q == 20) = true := by simp [h20]
  clear h6 h20; go_upto_region 6 with (first | (go_at_call 21; refine HKC.out.mono ?_; rintro e w2 ⟨rfl, hb2⟩; have I2 := J (H2.out.below hb2); have IV := J (HV.out.below hb2); clear hb2 H2 HV HKC) | (go_at_call 47; refine (zbq g A c lt HTO.out a W.heap.size okx w2 65 0 0 (.slice none 0 0) [] 1 I2.out.ps (NV.leaf q9 q9 q9 (Nat.le_refl _)) I2.out.fr.size (fun q hq => I2.out.hg q (I2.out.sub q hq)) I2.out.fresh HLT.out Q0).mono ?_; rintro e w3 ⟨wd1, u1, l1, rfl, h1, h2, h3, h4⟩; obtain ⟨A1, c1, rfl, _, _⟩ := Kd.zaL h2.row; have hs_ := I2.out.ret h1 h3; have J2 := J (hs_.newv (o := nodeO 65 0 wd1 (.slice A1 l1.length c1))); have JN := J (NI.new_ (W := W) (r := none) hs_.fr.size h2 (zaF (v := .slice none 0 0) (.inl rfl) I2.out.fr.size h4)); have JV := J ((VI.ret I2.out IV.out h3).newv (o := nodeO 65 0 wd1 (.slice A1 l1.length c1))); have HW3_ := J (show W.heap.size < w3.heap.size from Nat.lt_of_lt_of_le IV.out.zav h3.size); clear h1 h2 h3 h4 hs_ I2 IV))
  have HW3 := J HW3_.out; clear HW3_; obtain ⟨X1, hX1⟩ : ∃ X1, X1 = w3.alloc (nodeO 65 0 wd1 (.slice A1 l1.length c1)) := ⟨_, rfl⟩; rw [← hX1] at J2 JN JV; change Code.wp Try.prog _ _ _ (w3.alloc (nodeO 65 0 wd1 (.slice A1 l1.length c1)))
  rw [← hX1]; clear hX1; have HNE := J (show W.heap.size ≠ w3.heap.size from fun e => by have := JV.out.zav; have := JN.out.zav; have h := JV.out.out; have := JN.out.out; exact absurd (HW3.out) q9)
  obtain ⟨a1, ha1⟩ : ∃ a1, a1 = hd lt a + 1 := ⟨_, rfl⟩; rw [← ha1] at J2; obtain ⟨N1, hN1⟩ : ∃ N1, N1 = 1 + (a1 - a) := ⟨_, rfl⟩; have HA1 := J (show a < a1 ∧ a1 ≤ lt.length from ⟨by have := hd_ge lt a; omega, by have := HLT.out; omega⟩)
  have HN1 := J hN1; have e0 : 1 + (hd lt a + 1 - a) = N1 := by omega
  rw [e0] at JN; clear hN1 e0 ha1; obtain ⟨x0, x1, x2, x3⟩ := JN.out.cells; go_upto_region 7 with (go_at_call 61; refine (HEXP.out a1 HA1.out.1 W.heap.size (oky okx w3.heap.size) X1 65 0 wd1 _ l1 N1 J2.out.ps JN.out.nv J2.out.fr.size (fun q hq => J2.out.hg q (J2.out.sub q hq)) J2.out.fresh (by have := HLEN.out; have := HN1.out; have := HA1.out; omega)).mono ?_; rintro e w4 ⟨a2, h2a, h2l, wd2, u2, l2, rfl, h1, h2, h3, h4⟩; obtain ⟨A2, c2, rfl, _, _⟩ := Kd.zaL h2.row; have hp_ := JN.out.vi.same (J2.out.var JN.out.vi h3 (fun q hq => JN.out.nv.row.1 q hq)); have K2 := J ((J2.out.ext JN.out h1 h3).put (k := 65) (w := 0) (wd := wd2) (u := .slice A2 l2.length c2) hp_); have KN := J (NI.put hp_ h2 (zaF JN.out.near J2.out.fr.size h4)); have hv_ := JV.out.same (J2.out.var JV.out h3 (fun q hq => JN.out.nv.row.1 q hq)); have KV := J (hv_.put (p := w3.heap.size) (k := 65) (w := 0) (wd := wd2) (u := .slice A2 l2.length c2) (fun e_ => qr)); clear hv_; obtain ⟨z0, z1, z2, z3, hz_⟩ := hp_.at_; have f0 := zab hz_ 0; have f1 := zab hz_ 1; have f2 := zab hz_ 2; have f3 := zab hz_ 3; obtain ⟨⟨d0, d1, d2, d3⟩, dl⟩ := zaB hz_; clear h1 h2 h3 h4 hp_ hz_ x0 x1 x2 x3 J2 JN JV)
  obtain ⟨X2, hX2⟩ : ∃ X2, X2 = putN w4 w3.heap.size 65 0 wd2 (.slice A2 l2.length c2) := ⟨_, rfl⟩; rw [← hX2] at K2 KN KV; simp only [putN] at hX2; rw [← hX2]; clear hX2 f0 f1 f2 f3 d0 d1 d2 d3 dl; obtain ⟨x0, x1, x2, x3⟩ := KN.out.cells; go_wp2_with (go_at_call 60; refine (zbA g A c lt HTO.out a2 W.heap.size (oky okx w3.heap.size) X2 65 0 wd2 _ l2 (N1 + 40 * (a2 - a1) + 1) 21 q9 K2.out.ps KN.out.nv K2.out.fr.size (fun q hq => K2.out.hg q (K2.out.sub q hq)) K2.out.fresh (by have := HLEN.out; have := HN1.out; have := HA1.out; omega)).mono ?_; rintro e w5 ⟨a3, h3a, h3l, wd3, u3, l3, rfl, h1, h2, h3, h4⟩; obtain ⟨A3, c3, rfl, _, _⟩ := Kd.zaL h2.row; have hv_ := KV.out.same (K2.out.var KV.out h3 (fun q hq => KN.out.nv.row.1 q hq)); have HEND := J ((K2.out.ext KN.out h1 h3).done hv_ h2 (zaF KN.out.near K2.out.fr.size h4)); obtain ⟨z0, z1, z2, z3, hz_⟩ := hv_.at_; have HZ := J hz_; have f0 := zab hz_ 0; have f1 := zab hz_ 1; have f2 := zab hz_ 2; have f3 := zab hz_ 3; obtain ⟨⟨d0, d1, d2, d3⟩, dl⟩ := zaB hz_; clear h1 h2 h3 h4 hv_ hz_ x0 x1 x2 x3)
  refine bodyPost_ret (zaM (r := .cell 2 24) rfl (.cell (W.heap.size) 24 _ (0, 0) _ rfl (za7 HZ.out) Try.underlying24 rfl qb .nil)) rfl ?_
  refine ⟨a3, by have := HA1.out; omega, h3l, ?_⟩
  obtain ⟨wd8, u8, l8, e1, e2, e3, e4, e5⟩ := HEND.out; exact ⟨_, _, wd8, u8, l8, e1, e2, e3.more (by have := HA1.out; have := HN1.out; omega), e4⟩
 ·have d20 : (q == 20) = false := by simp [h20]
  clear h6 h20; go_wp2_with (first | (go_at_call 21; refine HKC.out.mono ?_; rintro e w2 ⟨rfl, hb2⟩; have I2 := J (H2.out.below hb2); have IV := J (HV.out.below hb2); clear hb2 H2 HV HKC) | (go_at_call 47; refine (zbq g A c lt HTO.out a W.heap.size okx w2 67 0 0 (.slice none 0 0) [] 1 I2.out.ps (NV.leaf q9 q9 q9 (Nat.le_refl _)) I2.out.fr.size (fun q hq => I2.out.hg q (I2.out.sub q hq)) I2.out.fresh HLT.out Q0).mono ?_; rintro e w3 ⟨wd1, u1, l1, rfl, h1, h2, h3, h4⟩; obtain ⟨A1, c1, rfl, _, _⟩ := Kd.zaL h2.row; have hv_ := VI.ret I2.out IV.out h3; have HEND := J ((I2.out.ret h1 h3).done hv_ h2 (zaF (v := .slice none 0 0) (.inl rfl) I2.out.fr.size h4)); obtain ⟨z0, z1, z2, z3, hz_⟩ := hv_.at_; have HZ := J hz_; have f0 := zab hz_ 0; have f1 := zab hz_ 1; have f2 := zab hz_ 2; have f3 := zab hz_ 3; obtain ⟨⟨d0, d1, d2, d3⟩, dl⟩ := zaB hz_; clear h1 h2 h3 h4 hv_ hz_))
  refine bodyPost_ret (zaM (r := .cell 2 24) rfl (.cell (W.heap.size) 24 _ (0, 0) _ rfl (za7 HZ.out) Try.underlying24 rfl qb .nil)) rfl ?_
  refine ⟨hd lt a + 1, by have := hd_ge lt a; omega, by have := HLT.out; omega, ?_⟩
  obtain ⟨wd8, u8, l8, e1, e2, e3, e4, e5⟩ := HEND.out; exact ⟨_, _, wd8, u8, l8, e1, e2, e3.more (by have := hd_ge lt a; omega), e4⟩
theorem Ext.more {g : Nat} {A : Option Addr} {c : Nat} {lt : List S40} {b : Nat} {ok : Nat → Prop} {W W' : World} {k w : Int} {r : Option Nat} {a N N' : Nat} {e : Ending} (h : Ext g A c lt b ok W k w r a N e W') (hN : N ≤ N') : Ext g A c lt b ok W k w r a N' e W' := by
 obtain ⟨wd, u, l, h1, h2, h3, h4, h5⟩ := h; exact ⟨wd, u, l, h1, h2, h3.more hN, h4, h5⟩
structure All16 (g : Nat) (A : Option Addr) (c : Nat) (lt : List S40) (a : Nat) : Prop where
 primary : CPrimary g A c lt a
 args : CArgs g A c lt a
 unary : CUnary g A c lt a
 level : ∀ j : Int, 1 ≤ j → j ≤ 6 → CLevel g A c lt a j
 exprS : CExprS g A c lt a
 expr : CExpr g A c lt a
 begun : CBegun g A c lt a
 block : CBlock g A c lt a
 statement : CStatement g A c lt a
 inner : CInner g A c lt a
theorem all16_step (g : Nat) (A : Option Addr) (c : Nat) (lt : List S40) (htk : TkOk lt) (a : Nat) (ih : ∀ a1, a < a1 → All16 g A c lt a1) : All16 g A c lt a := by
 have h1 : CPrimary g A c lt a := fun W hP hlt => primary_calls g A c lt htk a (fun a1 h => (ih a1 h).expr) W hP hlt
 have h2 : CArgs g A c lt a := fun W hP hlt => args_calls g A c lt htk a (fun a1 h => (ih a1 h).expr) W hP hlt
 have h3 : CUnary g A c lt a := fun W hP hlt => unary_calls g A c lt htk a (fun a1 h => (ih a1 h).unary) h1 (fun a1 h => (ih a1 h).args) W hP hlt
 have h6 : CLevel g A c lt a 6 := fun W hP hlt => level6_calls g A c lt htk a h3 W hP hlt
 have down : ∀ j : Int, 1 ≤ j → j ≤ 5 → CLevel g A c lt a (j + 1) → CLevel g A c lt a j := fun j hj1 hj5 h W hP hlt => level_calls g A c lt htk a j hj1 hj5 h (fun a1 h' => (ih a1 h').level (j + 1) q9 q9) W hP hlt
 have h5 := down 5 q9 q9 h6
 have h4 := down 4 q9 q9 h5
 have h3' := down 3 q9 q9 h4
 have h2' := down 2 q9 q9 h3'
 have h1' := down 1 q9 q9 h2'
 have hL : ∀ j : Int, 1 ≤ j → j ≤ 6 → CLevel g A c lt a j := by
  intro j hj1 hj6
  have : j = 1 ∨ j = 2 ∨ j = 3 ∨ j = 4 ∨ j = 5 ∨ j = 6 := by omega
  rcases this with rfl | rfl | rfl | rfl | rfl | rfl
  ·exact h1'
  ·exact h2'
  ·exact h3'
  ·exact h4
  ·exact h5
  ·exact h6
 have hge := hd_ge lt a; have hLh : CLevel g A c lt (hd lt a) 1 := by
  by_cases e : hd lt a = a
  ·rw [e]; exact h1'
  ·exact (ih _ q9).level 1 q9 q9
 have hS : CExprS g A c lt a := fun b ok W k w wd v l N hP hN hb hg hf hs => expression_calls g A c lt htk a hLh b ok W k w wd v l N hP hN hb hg hf hs
 have hE : CExpr g A c lt a := by
  intro b ok W k w wd v l N hP hN hb hg hf hs
  refine (hS b ok W k w wd v l N hP hN hb hg hf hs).mono ?_
  rintro e W' ⟨a', ha, hl, _, hx⟩
  refine ⟨a', ha, hl, hx.more ?_⟩
  split <;> omega
 have hBg : CBegun g A c lt a := fun W hP hlt => begun_calls g A c lt htk a (fun a1 h => (ih a1 h).inner) W hP hlt
 have hBh : CBegun g A c lt (hd lt a) := by
  by_cases e : hd lt a = a
  ·rw [e]; exact hBg
  ·exact (ih _ q9).begun
 have hB : CBlock g A c lt a := fun b ok W k w wd v l N hP hN hb hg hf hs => block_calls g A c lt htk a hBh b ok W k w wd v l N hP hN hb hg hf hs
 have hSt : CStatement g A c lt a := statement_calls g A c lt htk a (fun a1 h => (ih a1 h).expr) hS (fun a1 h => (ih a1 h).block) hBg (fun a1 h => (ih a1 h).statement)
 have hSth : CStatement g A c lt (hd lt a) := by
  by_cases e : hd lt a = a
  ·rw [e]; exact hSt
  ·exact (ih _ q9).statement
 have hI : CInner g A c lt a := fun b ok W k w wd v l N hP hN hb hg hf hcu hs => inner_calls g A c lt htk a hSth b ok W k w wd v l N hP hN hb hg hf hcu hs
 exact ⟨h1, h2, h3, hL, hS, hE, hBg, hB, hSt, hI⟩
theorem all16_far (g : Nat) (A : Option Addr) (c : Nat) (lt : List S40) (a : Nat) (h : lt.length < a) : All16 g A c lt a := by
 have no : ∀ {W : World}, ¬ PS W g A c lt a := fun hP => by have := hP.le; omega
 exact ⟨fun W hP => absurd hP no, fun W hP => absurd hP no, fun W hP => absurd hP no, fun j _ _ W hP => absurd hP no, fun b ok W k w wd v l N hP => absurd hP no, fun b ok W k w wd v l N hP => absurd hP no, fun W hP => absurd hP no, fun b ok W k w wd v l N hP => absurd hP no, fun W hP => absurd hP no, fun b ok W k w wd v l N hP => absurd hP no⟩
theorem all16 (g : Nat) (A : Option Addr) (c : Nat) (lt : List S40) (htk : TkOk lt) : ∀ n a, lt.length + 1 - a ≤ n → All16 g A c lt a
 | 0, a, h => all16_far g A c lt a q9
 | n + 1, a, h => by
  by_cases hl : a ≤ lt.length
  ·exact all16_step g A c lt htk a (fun a1 h1 => all16 g A c lt htk n a1 q9)
  ·exact all16_far g A c lt a q9
theorem inner_all (g : Nat) (A : Option Addr) (c : Nat) (lt : List S40) (htk : TkOk lt) (a : Nat) : CInner g A c lt a := (all16 g A c lt htk _ a (Nat.le_refl _)).inner
def Filed (W : World) (v : Value) (W' : World) : Prop :=
 ∃ (k w wd : Int) (u : Value) (l : List S24), v = .agg #[.int .u8 k, .int .u8 w, .int .i64 wd, u] ∧ NV W.heap.size (fun q => W.heap.size ≤ q) W' k w wd u l 900000 ∧ Below W.heap.size W W'
theorem tok_tot (x : Int) : ∃ r, zaP.f x = some r := by
 unfold zaP.f
 repeat' split
 all_goals exact ⟨_, rfl⟩
theorem filed {W W2 X : World} {g rx : Nat} {k w wd : Int} {u : Value} {l : List S24} {N b : Nat} {okx : Nat → Prop} (hb : Below W.heap.size W W2) (hF : Fr g none W2 X) (hg : W.heap.size ≤ g) (hrx : W.heap.size ≤ rx) (hN : NV b okx X k w wd u l N) (hbb : W.heap.size ≤ b) (hok : ∀ q, okx q → W.heap.size ≤ q ∧ q ≠ rx) (hNN : N ≤ 900000) : Filed W (.agg #[.int .u8 k, .int .u8 w, .int .i64 wd, u]) (putN X rx k w wd u) := by
 refine ⟨k, w, wd, u, l, rfl, ?_, ?_⟩
 ·have h1 : NV b (fun q => W.heap.size ≤ q) (putN X rx k w wd u) k w wd u l N := (hN.step (fun q hq _ => zbF (hok q hq).2)).mono (fun q hq => (hok q hq).1)
  refine NV.more ⟨?_, h1.kb, h1.wb, h1.lb, h1.wd, h1.size⟩ hNN
  obtain ⟨h2, rows, h3, h4, h5⟩ := h1.row; exact ⟨h2, rows, h3, Kd.zbz h4 hbb, h5⟩
 ·exact ⟨by simp [putN, World.setCell, hF.os, hb.os], by simp [putN, World.setCell, hF.tape, hb.tape], by simp [putN, World.setCell, hF.output, hb.output], by rw [putN_size]; exact Nat.le_trans hb.size hF.size, fun q hq => (zbF q9).trans ((hF.block q (Nat.lt_of_lt_of_le hq hb.size) q9 qf).trans (hb.block q hq))⟩
theorem by_calls (A : Option Addr) (c : Nat) (lt : List S40) (W : World) (hC : Kd.C k40 W A lt.length lt) (hlc : lt.length ≤ c) (hl : lt.length ≤ 3000) (hk : ∀ i : Nat, i < lt.length → 0 ≤ (zbI lt i).f0 ∧ (zbI lt i).f0 ≤ 255) :
  Calls Try.prog 9 #[.slice A lt.length c, .slice none 0 0] W fun e W' => ∃ v p er, e = .returned (.tuple #[v, p, er]) ∧ Filed W v W' := by
 have HC := J hC; have HKB := J hk; have HLEN := J hl; have HLC := J hlc; clear hC hk hlc; have hu := Try.underlying24; have h16 : ¬ (16384 : Int) < (lt.length : Int) := by omega
 have h16' : ¬ 16384 < lt.length := by omega
 go_enter Try.func9, Try.ntmps9
 go_upto_region 4 with (fail)
 have HX1 := J (show Below W.heap.size W (W.alloc (nodeO 0 0 0 (.slice none 0 0))) from zad (Below.refl _ _) _)
 have HX2 := J (heap_alloc_new W (nodeO 0 0 0 (.slice none 0 0))); obtain ⟨X, hX⟩ : ∃ X, X = W.alloc (nodeO 0 0 0 (.slice none 0 0)) := ⟨_, rfl⟩; rw [← hX] at HX1 HX2; change Code.wp Try.prog _ _ _ (W.alloc (nodeO 0 0 0 (.slice none 0 0)))
 rw [← hX]; clear hX h16 h16'; go_loopg [7] lt.length (fun kq v7 w' => ∃ i : Nat, v7 = .int .i64 i ∧ i ≤ lt.length ∧ zaa (kq = lt.length - i) ∧ zaa (Below W.heap.size W w') ∧ zaa (w'.heap[W.heap.size]? = some (nodeO 0 0 0 (.slice none 0 0))) ∧ zaa (∀ j : Nat, j < i → 1 ≤ (zbI lt j).f1 ∧ (zbI lt j).f1 ≤ 67108864))
 case atStart => exact ⟨0, rfl, Nat.zero_le _, ⟨rfl⟩, HX1, HX2, ⟨fun j hj => absurd hj (Nat.not_lt_zero _)⟩⟩
 case round =>
  obtain ⟨i, rfl, hi, HK, HB, HRZ, HG⟩ := hrel; by_cases hlt : i < lt.length
  ·have hC_ := Kd.za1 HC.out HB.out
   obtain ⟨ad, e1, g0, g1, g2⟩ := at_T40 hC_ (i : Int) q9 q9
   rw [Int.toNat_natCast] at g0 g1 g2; obtain ⟨z0, hz0⟩ : ∃ z, z = (zbI lt (i : Int)).f0 := ⟨_, rfl⟩; obtain ⟨z1, hz1⟩ : ∃ z, z = (zbI lt (i : Int)).f1 := ⟨_, rfl⟩; have HZ0 := J hz0.symm; have HZ1 := J hz1.symm; rw [← hz0] at g0; rw [← hz1] at g1; clear hC_ hz0 hz1; subst e1; obtain ⟨tb, htb⟩ := tok_tot z0; have HTK := J htb; clear htb; cases tb with
   | false =>
    go_wp2_with (go_at_call 20; refine (zaP.calls _ _ _ HTK.out).mono ?_; rintro e w5 ⟨rfl, hd2⟩; have HB3 := J hd2.below; have HRZ2 := J ((hd2.below.block W.heap.size (zaN HRZ.out)).trans HRZ.out); have hF5_ := Kd.za1 HC.out (HB.out.trans (hd2.below.mono HB.out.size)); obtain ⟨ad5, e5, g0, g1, g2⟩ := at_T40 hF5_ (i : Int) q9 q9; injection e5 with e5; subst e5; rw [Int.toNat_natCast] at g0 g1 g2; rw [HZ1.out] at g1; have f0 := zab HRZ2.out 0; have f1 := zab HRZ2.out 1; have f2 := zab HRZ2.out 2; have f3 := zab HRZ2.out 3; obtain ⟨⟨d0, d1, d2, d3⟩, dl⟩ := zaB HRZ2.out; clear hd2 hF5_)
    refine bodyPost_ret (results_ctt rfl _ _ W.heap.size 24 _ (0, 0) _ rfl (za7 HRZ2.out) Try.underlying24 rfl qb) rfl ?_
    exact ⟨_, _, _, rfl, filed (W2 := wr) (g := W.heap.size) HB.out (Fr.of_below HB3.out) (Nat.le_refl _) (Nat.le_refl _) (NV.leaf (b := W.heap.size) (ok := fun q => W.heap.size < q) (k := 0) (w := 0) (wd := 0) (N := 1) q9 q9 q9 (Nat.le_refl _)) (Nat.le_refl _) (fun q hq => ⟨q9, q9⟩) q9⟩
   | true =>
    by_cases h1 : z1 < 1
    ·have h1_ : decide (z1 < 1) = true := by simpa using h1
     go_wp2_with (go_at_call 20; refine (zaP.calls _ _ _ HTK.out).mono ?_; rintro e w5 ⟨rfl, hd2⟩; have HB3 := J hd2.below; have HRZ2 := J ((hd2.below.block W.heap.size (zaN HRZ.out)).trans HRZ.out); have hF5_ := Kd.za1 HC.out (HB.out.trans (hd2.below.mono HB.out.size)); obtain ⟨ad5, e5, g0, g1, g2⟩ := at_T40 hF5_ (i : Int) q9 q9; injection e5 with e5; subst e5; rw [Int.toNat_natCast] at g0 g1 g2; rw [HZ1.out] at g1; have f0 := zab HRZ2.out 0; have f1 := zab HRZ2.out 1; have f2 := zab HRZ2.out 2; have f3 := zab HRZ2.out 3; obtain ⟨⟨d0, d1, d2, d3⟩, dl⟩ := zaB HRZ2.out; clear hd2 hF5_)
     refine bodyPost_ret (results_ctt rfl _ _ W.heap.size 24 _ (0, 0) _ rfl (za7 HRZ2.out) Try.underlying24 rfl qb) rfl ?_
     exact ⟨_, _, _, rfl, filed (W2 := wr) (g := W.heap.size) HB.out (Fr.of_below HB3.out) (Nat.le_refl _) (Nat.le_refl _) (NV.leaf (b := W.heap.size) (ok := fun q => W.heap.size < q) (k := 0) (w := 0) (wd := 0) (N := 1) q9 q9 q9 (Nat.le_refl _)) (Nat.le_refl _) (fun q hq => ⟨q9, q9⟩) q9⟩
    ·have h1_ : decide (z1 < 1) = false := by simpa using h1
     by_cases h2 : 67108864 < z1
     ·have h2_ : decide (67108864 < z1) = true := by simpa using h2
      go_wp2_with (go_at_call 20; refine (zaP.calls _ _ _ HTK.out).mono ?_; rintro e w5 ⟨rfl, hd2⟩; have HB3 := J hd2.below; have HRZ2 := J ((hd2.below.block W.heap.size (zaN HRZ.out)).trans HRZ.out); have hF5_ := Kd.za1 HC.out (HB.out.trans (hd2.below.mono HB.out.size)); obtain ⟨ad5, e5, g0, g1, g2⟩ := at_T40 hF5_ (i : Int) q9 q9; injection e5 with e5; subst e5; rw [Int.toNat_natCast] at g0 g1 g2; rw [HZ1.out] at g1; have f0 := zab HRZ2.out 0; have f1 := zab HRZ2.out 1; have f2 := zab HRZ2.out 2; have f3 := zab HRZ2.out 3; obtain ⟨⟨d0, d1, d2, d3⟩, dl⟩ := zaB HRZ2.out; clear hd2 hF5_)
      refine bodyPost_ret (results_ctt rfl _ _ W.heap.size 24 _ (0, 0) _ rfl (za7 HRZ2.out) Try.underlying24 rfl qb) rfl ?_
      exact ⟨_, _, _, rfl, filed (W2 := wr) (g := W.heap.size) HB.out (Fr.of_below HB3.out) (Nat.le_refl _) (Nat.le_refl _) (NV.leaf (b := W.heap.size) (ok := fun q => W.heap.size < q) (k := 0) (w := 0) (wd := 0) (N := 1) q9 q9 q9 (Nat.le_refl _)) (Nat.le_refl _) (fun q hq => ⟨q9, q9⟩) q9⟩
     ·have h2_ : decide (67108864 < z1) = false := by simpa using h2
      have HG2 := J (show ∀ j : Nat, j < i + 1 → 1 ≤ (zbI lt j).f1 ∧ (zbI lt j).f1 ≤ 67108864 from fun j hj => by
       by_cases e : j = i
       ·subst e; rw [HZ1.out]; omega
       ·exact HG.out j q9)
      clear h1 h2; go_wp2_with (go_at_call 20; refine (zaP.calls _ _ _ HTK.out).mono ?_; rintro e w5 ⟨rfl, hd2⟩; have HB3 := J hd2.below; have HRZ2 := J ((hd2.below.block W.heap.size (zaN HRZ.out)).trans HRZ.out); have hF5_ := Kd.za1 HC.out (HB.out.trans (hd2.below.mono HB.out.size)); obtain ⟨ad5, e5, g0, g1, g2⟩ := at_T40 hF5_ (i : Int) q9 q9; injection e5 with e5; subst e5; rw [Int.toNat_natCast] at g0 g1 g2; rw [HZ1.out] at g1; skip; clear hd2 hF5_)
      go_roundg (lt.length - (i + 1))
      case measure => have := HK.out; omega
      case rel => exact ⟨i + 1, qk, q9, ⟨rfl⟩, ⟨HB.out.trans (HB3.out.mono HB.out.size)⟩, HRZ2, HG2⟩
  ·have hie : i = lt.length := by omega
   subst hie; have HTO := J (show TkOk lt from fun j hj => ⟨HKB.out j hj, by have := HG.out j hj; omega⟩)
   clear HK HG hlt hi; go_upto_region 9 with (fail)
   obtain ⟨g, hg⟩ : ∃ g, g = wr.heap.size := ⟨_, rfl⟩; have HGW := J (show W.heap.size < g by rw [hg]; exact zaN HRZ.out)
   obtain ⟨W2, hW2⟩ : ∃ W2, W2 = wr.alloc (.cells #[.slice A lt.length c, .int .i64 0, .slice none 0 0, .int .i64 0, .int .i64 0] 68) := ⟨_, rfl⟩; have hb2 : Below wr.heap.size wr W2 := by rw [hW2]; exact zad (Below.refl _ _) _
   have hs2 : W2.heap.size = g + 1 := by rw [hW2, hg]; exact zbP _ _
   have hPg : W2.heap[g]? = some (.cells #[.slice A lt.length c, .int .i64 0, .slice none 0 0, .int .i64 0, .int .i64 0] 68 (0, 0)) := by rw [hW2, hg]; exact heap_alloc_new _ _
   have hP : PS W2 g A c lt 0 := ⟨⟨0, 0, hPg⟩, HLC.out, hl, Kd.F_below (by rw [hg]; exact Kd.C_F k40_heap (Kd.za1 HC.out HB.out)) hb2, Nat.zero_le _⟩
   have HP := J hP; have HS2 := J hs2; have HBB := J (HB.out.trans (hb2.mono HB.out.size)); have HRZ2 := J ((hb2.block W.heap.size (zaN HRZ.out)).trans HRZ.out); rw [← hg]; change Code.wp Try.prog _ _ _ (wr.alloc (.cells #[.slice A lt.length c, .int .i64 0, .slice none 0 0, .int .i64 0, .int .i64 0] 68))
   rw [← hW2]; clear hPg hP hb2 hs2 hW2 hg HB HRZ; go_upto_region 10 with (fail)
   have M2_ := J (S2.startv (o := nodeO 51 0 0 (.slice none 0 0)) HP.out); have MN_ := J (NI.new_ (b := W2.heap.size) (okx := fun q => W2.heap.size ≤ q) (W := W2) (r := none) (X := W2) (N := 1) (Nat.le_refl _) (NV.leaf (k := 51) (w := 0) (wd := 0) q9 q9 q9 (Nat.le_refl _)) (.inl rfl))
   obtain ⟨Z, hZ⟩ : ∃ Z, Z = W2.alloc (nodeO 51 0 0 (.slice none 0 0)) := ⟨_, rfl⟩; rw [← hZ] at M2_ MN_; change Code.wp Try.prog _ _ _ (W2.alloc (nodeO 51 0 0 (.slice none 0 0)))
   rw [← hZ]; clear hZ; go_loopg [] lt.length (fun kq w' => ∃ (ai : Nat) (wdi : Int) (vi : Value) (li : List S24), ai ≤ lt.length ∧ zaa (kq = lt.length - ai) ∧ zaa (S2 g A c lt (fun q => W2.heap.size ≤ q) (oky (fun q => W2.heap.size ≤ q) W2.heap.size) W2 none w' ai) ∧ zaa (NI W2.heap.size (oky (fun q => W2.heap.size ≤ q) W2.heap.size) W2 none w' W2.heap.size 51 0 wdi vi li (1 + 40 * ai)))
   case atStart => exact ⟨0, 0, _, _, Nat.zero_le _, ⟨rfl⟩, M2_, MN_⟩
   case round =>
    obtain ⟨ai, wdi, vi, li, hail, HK, M2, MN⟩ := hrel; obtain ⟨Ai, ci, rfl, _, _⟩ := Kd.zaL MN.out.nv.row; have HKC := J (za5 g A c lt ai wr M2.out.ps); obtain ⟨q1, hq1⟩ : ∃ q1, q1 = cu lt ai := ⟨_, rfl⟩; rw [← hq1] at HKC; have HQ1 := J hq1; clear hq1; by_cases h0 : q1 = 0
    case neg =>
     have d0 : (q1 != 0) = true := by simp [h0]
     have HC0 := J (show cu lt ai ≠ 0 by rw [← HQ1.out]; exact h0)
     clear h0; go_upto_region 11 with (go_at_call 21; refine HKC.out.mono ?_; rintro e w7 ⟨rfl, hb2⟩; have O2 := J (M2.out.below hb2); have ON := J (MN.out.below hb2); clear hb2 M2 MN HKC)
     obtain ⟨x0, x1, x2, x3⟩ := ON.out.cells; go_wp2_with (go_at_call 22; refine (inner_all g A c lt HTO.out ai W2.heap.size (oky (fun q => W2.heap.size ≤ q) W2.heap.size) w7 51 0 wdi _ li (1 + 40 * ai) O2.out.ps ON.out.nv O2.out.fr.size (fun q hq => O2.out.hg q (O2.out.sub q hq)) O2.out.fresh HC0.out qz).mono ?_; rintro e w8 ⟨b4, b4a, b4l, wd4, u4, l4, rfl, h1, h2, h3, h4⟩; obtain ⟨A4, c4, rfl, _, _⟩ := Kd.zaL h2.row; have hp_ := ON.out.vi.same (O2.out.var ON.out.vi h3 (fun q hq => ON.out.nv.row.1 q hq)); have Q2 := J ((O2.out.ext ON.out h1 h3).put (k := 51) (w := 0) (wd := wd4) (u := .slice A4 l4.length c4) hp_); have QN := J (NI.put hp_ h2 (zaF ON.out.near O2.out.fr.size h4)); obtain ⟨z0, z1, z2, z3, hz_⟩ := hp_.at_; have f0 := zab hz_ 0; have f1 := zab hz_ 1; have f2 := zab hz_ 2; have f3 := zab hz_ 3; obtain ⟨⟨d0, d1, d2, d3⟩, dl⟩ := zaB hz_; clear h1 h2 h3 h4 hp_ hz_ x0 x1 x2 x3 O2 ON )
     obtain ⟨X4, hX1⟩ : ∃ X1, X1 = putN w8 W2.heap.size 51 0 wd4 (.slice A4 l4.length c4) := ⟨_, rfl⟩; rw [← hX1] at Q2 QN; simp only [putN] at hX1; rw [← hX1]; clear hX1 f0 f1 f2 f3 d0 d1 d2 d3 dl; go_roundg (lt.length - b4)
     case measure => have := HK.out; omega
     case rel => exact ⟨b4, wd4, _, l4, b4l, ⟨rfl⟩, Q2, ⟨QN.out.more q9⟩⟩
    case pos =>
     have d0 : (q1 != 0) = false := by simp [h0]
     clear h0; go_upto_region 12 with (go_at_call 21; refine HKC.out.mono ?_; rintro e w7 ⟨rfl, hb2⟩; have O2 := J (M2.out.below hb2); have ON := J (MN.out.below hb2); clear hb2 M2 MN HKC)
     obtain ⟨x0, x1, x2, x3⟩ := ON.out.cells; go_upto_region 13 with (go_at_call 23; refine (zbU g A c lt HTO.out ai W2.heap.size (oky (fun q => W2.heap.size ≤ q) W2.heap.size) w7 51 0 wdi _ li (1 + 40 * ai) O2.out.ps ON.out.nv O2.out.fr.size (fun q hq => O2.out.hg q (O2.out.sub q hq)) O2.out.fresh (by have := HLEN.out; have := hd_le O2.out.ps.le; omega)).mono ?_; rintro e w8 ⟨wd5, u5, l5, rfl, h1, h2, h3, h4⟩; obtain ⟨A5, c5, rfl, _, _⟩ := Kd.zaL h2.row; have hp_ := ON.out.vi.same (O2.out.var ON.out.vi h3 (fun q hq => ON.out.nv.row.1 q hq)); have Q2 := J ((O2.out.ext ON.out h1 h3).put (k := 51) (w := 0) (wd := wd5) (u := .slice A5 l5.length c5) hp_); have QN := J (NI.put hp_ h2 (zaF ON.out.near O2.out.fr.size h4)); obtain ⟨z0, z1, z2, z3, hz_⟩ := hp_.at_; have f0 := zab hz_ 0; have f1 := zab hz_ 1; have f2 := zab hz_ 2; have f3 := zab hz_ 3; obtain ⟨⟨d0, d1, d2, d3⟩, dl⟩ := zaB hz_; clear h1 h2 h3 h4 hp_ hz_ x0 x1 x2 x3 O2 ON )
     obtain ⟨X5, hX1⟩ : ∃ X1, X1 = putN w8 W2.heap.size 51 0 wd5 (.slice A5 l5.length c5) := ⟨_, rfl⟩; rw [← hX1] at Q2 QN; simp only [putN] at hX1; rw [← hX1]; clear hX1 f0 f1 f2 f3 d0 d1 d2 d3 dl; have HHI := J (hd_le hail); have HRW := J ((Q2.out.fr.block W.heap.size (by have := HS2.out; have := HGW.out; omega) (by have := HGW.out; omega) qf).trans HRZ2.out)
     obtain ⟨sk5, pt5, hblk⟩ := Q2.out.ps.blk; have c4 := zaf hblk 4; simp at c4; have HS0 := J (show X5.drew.cell? ⟨W2.heap.size, 0, none⟩ = some (.int .u8 51) ∧ X5.drew.cell? ⟨W2.heap.size, 1, none⟩ = some (.int .u8 0) ∧ X5.drew.cell? ⟨W2.heap.size, 2, none⟩ = some (.int .i64 wd5) ∧ X5.drew.cell? ⟨W2.heap.size, 3, none⟩ = some (.slice A5 l5.length c5) ∧ X5.drew.cell? ⟨g, 4, none⟩ = some (.int .i64 pt5) from ⟨QN.out.cells.1, QN.out.cells.2.1, QN.out.cells.2.2.1, QN.out.cells.2.2.2, c4⟩)
     have HEND := J (filed (W := W) (W2 := W2) (X := X5.drew) (g := g) (rx := W.heap.size) (N := 200000) HBB.out (Q2.out.fr.trans (r' := none) (Fr.of_below (Below.refl _ _).drew) (fun q hq => by cases hq)) (Nat.le_of_lt HGW.out) (Nat.le_refl _) ((QN.out.below (Y := X5.drew) (Below.refl _ _).drew).nv.more (by have := HHI.out; have := HLEN.out; omega)) (by have := HS2.out; have := HGW.out; omega) (fun q hq => by have := hq.1; have := HS2.out; have := HGW.out; exact ⟨q9, q9⟩) q9)
     have HZ := J (show X5.drew.heap[W.heap.size]? = some (nodeO 0 0 0 (.slice none 0 0)) from HRW.out)
     have HS1 := J (show ∀ (k_ w_ wd_ : Int) (v_ : Value), (putN X5 W.heap.size k_ w_ wd_ v_).cell? ⟨W2.heap.size, 0, none⟩ = some (.int .u8 51) ∧ (putN X5 W.heap.size k_ w_ wd_ v_).cell? ⟨W2.heap.size, 1, none⟩ = some (.int .u8 0) ∧ (putN X5 W.heap.size k_ w_ wd_ v_).cell? ⟨W2.heap.size, 2, none⟩ = some (.int .i64 wd5) ∧ (putN X5 W.heap.size k_ w_ wd_ v_).cell? ⟨W2.heap.size, 3, none⟩ = some (.slice A5 l5.length c5) ∧ (putN X5 W.heap.size k_ w_ wd_ v_).cell? ⟨g, 4, none⟩ = some (.int .i64 pt5) from fun k_ w_ wd_ v_ => by
      have h1 := (zaB ((zbF (k := k_) (w := w_) (wd := wd_) (v := v_) (by have := HS2.out; have := HGW.out; omega : W2.heap.size ≠ W.heap.size)).trans QN.out.box)).1
      have h2 := zaf ((zbF (k := k_) (w := w_) (wd := wd_) (v := v_) (by have := HGW.out; omega : g ≠ W.heap.size)).trans hblk) 4
      simp at h2; exact ⟨h1.1, h1.2.1, h1.2.2.1, h1.2.2.2, h2⟩)
     clear c4 Q2 QN hblk; refine wp_region_noPanic (zba [0, 1, 2, 3, 4, 5, 6, 7] (fun W' => W'.cell? ⟨W2.heap.size, 0, none⟩ = some (.int .u8 51) ∧ W'.cell? ⟨W2.heap.size, 1, none⟩ = some (.int .u8 0) ∧ W'.cell? ⟨W2.heap.size, 2, none⟩ = some (.int .i64 wd5) ∧ W'.cell? ⟨W2.heap.size, 3, none⟩ = some (.slice A5 l5.length c5) ∧ W'.cell? ⟨g, 4, none⟩ = some (.int .i64 pt5)) qb ?_)
     refine zah 0 rfl HS0.out (fun _ h => Q9) ?_
     simp only [Act.put, zai]; refine zah 1 rfl HS0.out (fun _ h => Q9) ?_
     simp only [Act.put, zai]; refine zah 2 rfl HS0.out (fun _ h => Q9) ?_
     simp only [Act.put, zai]; refine zah 3 rfl HS0.out (fun _ h => Q9) ?_
     simp only [Act.put, zai]; refine zah 4 rfl HS0.out (fun _ h => Q9) ?_
     simp only [Act.put, zai]; have f0 := zab HRW.out 0; have f1 := zab HRW.out 1; have f2 := zab HRW.out 2; have f3 := zab HRW.out 3; obtain ⟨⟨d0, d1, d2, d3⟩, dl⟩ := zaB HRW.out
     refine zaI (i := 5) rfl qb (fun K hK => ?_)
     go_simp
     refine hK.out _ _ (fun _ => HS1.out 51 0 wd5 (.slice A5 l5.length c5)) (fun _ => ?_)
     clear hK K; obtain ⟨X6, hX6⟩ : ∃ X6, X6 = putN X5 W.heap.size 51 0 wd5 (.slice A5 l5.length c5) := ⟨_, rfl⟩; have HS2_ := J (HS1.out 51 0 wd5 (.slice A5 l5.length c5)); have HZ6 := J (za7 (k := 51) (w := 0) (wd := wd5) (v := .slice A5 l5.length c5) HRW.out); have HE6 := J (show Filed W (.agg #[.int .u8 51, .int .u8 0, .int .i64 wd5, .slice A5 l5.length c5]) (putN X5 W.heap.size 51 0 wd5 (.slice A5 l5.length c5)).drew from HEND.out)
     rw [← hX6] at HS2_ HZ6 HE6; simp only [putN] at hX6; rw [← hX6]; clear hX6 HEND; clear f0 f1 f2 f3 d0 d1 d2 d3 dl; try simp only [Act.put, zai]
     refine zah 6 rfl HS2_.out (fun _ h => Q9) ?_
     simp only [Act.put, zai]; refine zah 7 rfl HS2_.out (fun _ h => Q9) ?_
     simp only [Act.put, zai]; refine za3 qb (NoPanic.normal ?_) _
     go_wp2
     refine bodyPost_ret (results_ctt rfl _ _ W.heap.size 24 _ (0, 0) _ rfl HZ6.out Try.underlying24 rfl qb) rfl ?_
     exact ⟨_, _, _, rfl, HE6.out⟩
theorem file_calls (A : Option Addr) (c : Nat) (lt : List S40) (W : World) (hC : Kd.C k40 W A lt.length lt) (hlc : lt.length ≤ c) (hl : lt.length ≤ 3000) (hk : ∀ i : Nat, i < lt.length → 0 ≤ (zbI lt i).f0 ∧ (zbI lt i).f0 ≤ 255) :
  Calls Try.prog 5 #[.slice A lt.length c] W fun e W' => ∃ v er, e = .returned (.tuple #[v, er]) ∧ Filed W v W' := by
 have HC := J hC; have HKB := J hk; have HLC := J hlc; clear hC hk hlc; have hu := Try.underlying24; go_enter Try.func5, Try.ntmps5
 go_upto_region 1 with (fail)
 have HX1 := J (show Below W.heap.size W (W.alloc (nodeO 0 0 0 (.slice none 0 0))) from zad (Below.refl _ _) _)
 have HX2 := J (heap_alloc_new W (nodeO 0 0 0 (.slice none 0 0))); have HX3 := J (zbP W (nodeO 0 0 0 (.slice none 0 0))); obtain ⟨X, hX⟩ : ∃ X, X = W.alloc (nodeO 0 0 0 (.slice none 0 0)) := ⟨_, rfl⟩; rw [← hX] at HX1 HX2 HX3; change Code.wp Try.prog _ _ _ (W.alloc (nodeO 0 0 0 (.slice none 0 0)))
 rw [← hX]; clear hX; go_upto_region 2 with (go_at_call 9; refine (by_calls A c lt X (Kd.za1 HC.out HX1.out) HLC.out hl HKB.out).mono ?_; rintro e w2 ⟨v, p, er, rfl, k, w, wd, u, l, rfl, hN, hB⟩; obtain ⟨A2, c2, rfl, _, _⟩ := Kd.zaL hN.row; have HN := J hN; have HB := J hB; clear hN hB)
 have hb3 : Below w2.heap.size w2 (w2.alloc (nodeO k w wd (.slice A2 l.length c2))) := zad (Below.refl _ _) _; have HN3 := J (HN.out.step (fun q _ hq => hb3.block q hq))
 have HB3 := J (HB.out.trans (hb3.mono HB.out.size)); have hv := heap_alloc_new w2 (nodeO k w wd (.slice A2 l.length c2)); obtain ⟨x0, x1, x2, x3⟩ := (zaB hv).1; have HZ := J ((HB3.out.block W.heap.size (zaN HX2.out)).trans HX2.out); obtain ⟨Y, hY⟩ : ∃ Y, Y = w2.alloc (nodeO k w wd (.slice A2 l.length c2)) := ⟨_, rfl⟩; rw [← hY] at HN3 HB3 HZ x0 x1 x2 x3; change Code.wp Try.prog _ _ _ (w2.alloc (nodeO k w wd (.slice A2 l.length c2)))
 rw [← hY]; clear hY hv hb3 HN HB; have f0 := zab HZ.out 0; have f1 := zab HZ.out 1; have f2 := zab HZ.out 2; have f3 := zab HZ.out 3; obtain ⟨⟨d0, d1, d2, d3⟩, dl⟩ := zaB HZ.out
 have HEND := J (filed (W := W) (W2 := X) (X := Y) (g := W.heap.size) (rx := W.heap.size) HX1.out (Fr.of_below HB3.out) (Nat.le_refl _) (Nat.le_refl _) HN3.out (by have := HX3.out; omega) (fun q hq => by have := HX3.out; exact ⟨q9, q9⟩) (Nat.le_refl _))
 go_wp2
 refine bodyPost_ret (zbO rfl _ _ W.heap.size 24 _ (0, 0) _ rfl (za7 HZ.out) Try.underlying24 rfl qb) rfl ?_
 exact ⟨_, _, rfl, HEND.out⟩
end Go.Proofs.Ytobgkpnigjfhmaa.H
set_option linter.unusedVariables false
set_option linter.unusedSimpArgs false
namespace Go.Proofs.Ytobgkpnigjfhmaa.H
open Go.RowKit Go.Proofs.YtobgkpnigjfhmaaW.PrintWords Go.Proofs.YtobgkpnigjfhmaaW.PrintLast Go.Proofs.YtobgkpnigjfhmaaW.PrintMore
inductive AT where
 | node (k w wd : Int) (A : Option Addr) (c : Nat) (kids : List AT)
namespace AT
def k : AT → Int
 | node k _ _ _ _ _ => k
def w : AT → Int
 | node _ w _ _ _ _ => w
def wd : AT → Int
 | node _ _ wd _ _ _ => wd
def A : AT → Option Addr
 | node _ _ _ A _ _ => A
def c : AT → Nat
 | node _ _ _ _ c _ => c
def kids : AT → List AT
 | node _ _ _ _ _ kids => kids
def val (T : AT) : Value := .agg #[.int .u8 T.k, .int .u8 T.w, .int .i64 T.wd, .slice T.A T.kids.length T.c]
end AT
mutual
def AT.erase : AT → S24
 | .node k w wd _ _ kids => ⟨k, w, wd, zbr kids⟩
def zbr : List AT → List S24
 | [] => []
 | T :: r => T.erase :: zbr r
end
theorem zbj : ∀ l : List AT, (zbr l).length = l.length
 | [] => rfl
 | _ :: r => by simp [zbr, zbj r]
def w0 (W : World) (ad : Addr) (i : Nat) (T : AT) : Prop := W.cell? (ad.add (i * 4)) = some (.int .u8 T.k) ∧ W.cell? ⟨(ad.add (i * 4)).block, (ad.add (i * 4)).off + 1, none⟩ = some (.int .u8 T.w) ∧ W.cell? ⟨(ad.add (i * 4)).block, (ad.add (i * 4)).off + 2, none⟩ = some (.int .i64 T.wd) ∧ W.cell? ⟨(ad.add (i * 4)).block, (ad.add (i * 4)).off + 3, none⟩ = some (.slice T.A T.kids.length T.c)
theorem w0.below {W W1 : World} {ad : Addr} {i : Nat} {T : AT} (h : w0 W ad i T) (hb : Below W.heap.size W W1) : w0 W1 ad i T := by
 obtain ⟨h0, h1, h2, h3⟩ := h
 exact ⟨(hb.cell (World.block_lt_of_cell? W _ h0)).trans h0, (hb.cell (World.block_lt_of_cell? W _ h1)).trans h1, (hb.cell (World.block_lt_of_cell? W _ h2)).trans h2, (hb.cell (World.block_lt_of_cell? W _ h3)).trans h3⟩
mutual
def AtT (W : World) : AT → Prop
 | .node _ _ _ A c kids => kids.length ≤ c ∧ kids.length ≤ 9223372036854775807 ∧ (kids = [] ∨ ∃ ad, A = some ad ∧ AtL W ad 0 kids)
def AtL (W : World) (ad : Addr) : Nat → List AT → Prop
 | _, [] => True
 | i, T :: r => (w0 W ad i T ∧ AtT W T) ∧ AtL W ad (i + 1) r
end
mutual
theorem AtT.below {W W1 : World} (hb : Below W.heap.size W W1) : ∀ (T : AT), AtT W T → AtT W1 T
 | .node _ _ _ A c kids, h => by
  simp only [AtT] at h ⊢
  refine ⟨h.1, h.2.1, ?_⟩
  rcases h.2.2 with h | ⟨ad, h1, h2⟩
  ·exact .inl h
  ·exact .inr ⟨ad, h1, AtL.below hb ad 0 kids h2⟩
theorem AtL.below {W W1 : World} (hb : Below W.heap.size W W1) (ad : Addr) : ∀ (i : Nat) (l : List AT), AtL W ad i l → AtL W1 ad i l
 | _, [], _ => by simp only [AtL]
 | i, T :: r, h => by
  simp only [AtL] at h ⊢
  exact ⟨⟨h.1.1.below hb, AtT.below hb T h.1.2⟩, AtL.below hb ad (i + 1) r h.2⟩
end
theorem AtL.get {W : World} {ad : Addr} : ∀ (l : List AT) (i j : Nat) (h : AtL W ad i l) (hj : j < l.length), w0 W ad (i + j) l[j] ∧ AtT W l[j]
 | [], i, j, _, hj => absurd hj (Nat.not_lt_zero _)
 | T :: r, i, 0, h, _ => by simp only [AtL] at h; exact h.1
 | T :: r, i, j + 1, h, hj => by
  simp only [AtL] at h
  have := AtL.get r (i + 1) j h.2 (by simpa using hj)
  rw [show i + (j + 1) = i + 1 + j by omega]
  exact this
theorem AtT.kid {W : World} {k w wd : Int} {A : Option Addr} {c : Nat} {kids : List AT} (h : AtT W (.node k w wd A c kids)) (j : Nat) (hj : j < kids.length) : ∃ ad, A = some ad ∧ w0 W ad j kids[j] ∧ AtT W kids[j] := by
 simp only [AtT] at h
 rcases h.2.2 with rfl | ⟨ad, h1, h2⟩
 ·exact absurd hj (Nat.not_lt_zero _)
 ·have := AtL.get kids 0 j h2 hj
  rw [Nat.zero_add] at this
  exact ⟨ad, h1, this⟩
theorem AtL.of {W : World} {ad : Addr} : ∀ (l : List AT) (i : Nat), (∀ (j : Nat) (hj : j < l.length), w0 W ad (i + j) l[j] ∧ AtT W l[j]) → AtL W ad i l
 | [], i, _ => by simp only [AtL]
 | T :: r, i, h => by
  simp only [AtL]
  refine ⟨by have := h 0 qf; simpa using this, AtL.of r (i + 1) fun j hj => ?_⟩
  have := h (j + 1) (by simpa using hj)
  rw [show i + (j + 1) = i + 1 + j by omega] at this
  exact this
theorem eraseL_get : ∀ (l : List AT) (j : Nat) (h : j < l.length), za6 (zbr l) (j : Int) = l[j].erase
 | [], j, h => absurd h (Nat.not_lt_zero _)
 | T :: r, 0, _ => by simp [zbr, za6]
 | T :: r, j + 1, h => by
  have := eraseL_get r j (by simpa using h)
  simp only [zbr, List.getElem_cons_succ]
  rw [← this]
  simp [za6]
theorem erase_f (T : AT) : T.erase = ⟨T.k, T.w, T.wd, zbr T.kids⟩ := by cases T; simp [AT.erase, AT.k, AT.w, AT.wd, AT.kids]
theorem exists_AT (W : World) (n : Nat) : ∀ (t : S24), SizeOf.sizeOf t < n → ∀ (A : Option Addr) (c : Nat), t.f3.length ≤ c → Kd.C k24 W A t.f3.length t.f3 → ∃ kids : List AT, zbr kids = t.f3 ∧ AtT W (.node t.f0 t.f1 t.f2 A c kids) := by
 induction n with
 | zero => intro t h; exact absurd h (Nat.not_lt_zero _)
 | succ n ih =>
  rintro ⟨k, w, wd, l⟩ ht A c hc hC
  simp only at hc hC ⊢
  have hel : ∀ i, i < l.length → ∃ T : AT, T.erase = za6 l (i : Int) ∧ ∃ ad, A = some ad ∧ w0 W ad i T ∧ AtT W T := by
   intro i hi
   obtain ⟨ad, A3, c3, e, g0, g1, g2, g3, gl, gC⟩ := at_T24 hC (i : Int) q9 q9
   rw [Int.toNat_natCast] at g0 g1 g2 g3
   have hm : za6 l (i : Int) ∈ l := by rw [rd_at24 l i hi]; exact List.getElem_mem hi
   have hsz := List.sizeOf_lt_of_mem hm
   simp only [S24.mk.sizeOf_spec] at ht
   obtain ⟨kids, he, hA⟩ := ih (za6 l (i : Int)) q9 A3 c3 gl gC
   refine ⟨.node _ _ _ A3 c3 kids, ?_, ad, e, ⟨g0, g1, g2, ?_⟩, hA⟩
   ·rw [AT.erase, he, eta24]
   ·rw [show (AT.node (za6 l (i : Int)).f0 (za6 l (i : Int)).f1 (za6 l (i : Int)).f2 A3 c3 kids).kids.length = (za6 l (i : Int)).f3.length by rw [← he, zbj]; rfl]
    exact g3
  haveI : Inhabited AT := ⟨.node 0 0 0 none 0 []⟩
  obtain ⟨f, hf⟩ := Deep.choose_lt hel
  have hlen : ((List.range l.length).map f).length = l.length := by simp
  refine ⟨(List.range l.length).map f, ?_, ?_⟩
  ·refine List.ext_getElem (by rw [zbj, hlen]) fun j h1 h2 => ?_
   have := (hf j h2).1
   rw [rd_at24 l j h2] at this
   rw [← rd_at24 _ j h1, eraseL_get _ j (by rw [hlen]; exact h2), ← this]
   simp
  ·simp only [AtT]
   refine ⟨by rw [hlen]; exact hc, by rw [hlen]; exact hC.2.1, ?_⟩
   rcases Nat.eq_zero_or_pos l.length with h0 | h0
   ·exact .inl (by rw [h0]; rfl)
   ·obtain ⟨_, ad, he, _⟩ := hf 0 h0
    refine .inr ⟨ad, he, AtL.of _ 0 fun j hj => ?_⟩
    rw [hlen] at hj
    obtain ⟨_, ad', he', h1, h2⟩ := hf j hj
    rw [he] at he'
    cases he'
    simpa using ⟨h1, h2⟩
theorem C_of_AT (n : Nat) : ∀ (T : AT), SizeOf.sizeOf T < n → ∀ (W : World), AtT W T → Kd.C k24 W T.A T.kids.length (zbr T.kids) := by
 induction n with
 | zero => intro T h; exact absurd h (Nat.not_lt_zero _)
 | succ n ih =>
  rintro ⟨k, w, wd, A, c, kids⟩ ht W h
  simp only [AT.A, AT.kids]
  have hm : kids.length ≤ 9223372036854775807 := by simp only [AtT] at h; exact h.2.1
  refine ⟨zbj kids, hm, fun hpos => ?_⟩
  obtain ⟨ad, e, _, _⟩ := AtT.kid h 0 hpos
  refine ⟨ad, e, fun j p hj => ?_⟩
  obtain ⟨hlt, rfl⟩ := List.getElem?_eq_some_iff.1 hj
  have hlt2 : j < kids.length := by rw [← zbj]; exact hlt
  obtain ⟨ad', e', ⟨h0, h1, h2, h3⟩, hT⟩ := AtT.kid h j hlt2
  rw [e] at e'
  cases e'
  have hs : SizeOf.sizeOf kids[j] < n := by
   have := List.sizeOf_lt_of_mem (List.getElem_mem hlt2)
   simp only [AT.node.sizeOf_spec] at ht
   omega
  have hC := ih kids[j] hs W hT
  have hle : kids[j].kids.length ≤ kids[j].c := by
   cases hk : kids[j] with
   | node k w wd A c l =>
    rw [hk] at hT
    simp only [AtT] at hT
    exact hT.1
  have ep : (zbr kids)[j] = kids[j].erase := by rw [← rd_at24 _ j hlt, eraseL_get _ j hlt2]
  rw [ep, erase_f]
  refine ⟨[.int .u8 kids[j].k, .int .u8 kids[j].w, .int .i64 kids[j].wd, .slice kids[j].A kids[j].kids.length kids[j].c], rfl, ?_, fun i u hu => ?_⟩
  ·have := k24_mk W ⟨kids[j].k, kids[j].w, kids[j].wd, zbr kids[j].kids⟩ (A3 := kids[j].A) (c3 := kids[j].c) (by simp only; rw [zbj]; exact hle) (by simp only; rw [zbj]; exact hC)
   simp only [zbj] at this
   exact this
  ·match i, hu with
   | 0, hu => simp only [List.getElem?_cons_zero, Option.some.injEq] at hu; subst hu; exact h0
   | 1, hu => simp only [List.getElem?_cons_succ, List.getElem?_cons_zero, Option.some.injEq] at hu; subst hu; rw [show k24.sz = 4 from rfl, zbm _ _ 1 q9]; exact h1
   | 2, hu => simp only [List.getElem?_cons_succ, List.getElem?_cons_zero, Option.some.injEq] at hu; subst hu; rw [show k24.sz = 4 from rfl, zbm _ _ 2 q9]; exact h2
   | 3, hu => simp only [List.getElem?_cons_succ, List.getElem?_cons_zero, Option.some.injEq] at hu; subst hu; rw [show k24.sz = 4 from rfl, zbm _ _ 3 q9]; exact h3
end Go.Proofs.Ytobgkpnigjfhmaa.H
