/- Texts of this claim, merged. -/
import Derived.Test.YtceddikbmbadlaaZ6
set_option linter.unusedVariables false
set_option linter.unusedSimpArgs false
namespace Go.Proofs.Ytceddikbmbadlaa.H
open Go.RowKit Go.Proofs.YtceddikbmbadlaaW.PrintWords Go.Proofs.YtceddikbmbadlaaW.PrintLast Go.Proofs.YtceddikbmbadlaaW.PrintMore
theorem lev_tot (x : Int) : ∃ r, zaA.f 3 x = some r ∧ (r ≠ 0 → x ≠ 0) := by
 by_cases h : x = 0
 ·subst h
  exact ⟨0, by simp [zaA.f, zaA.j0, zaA.j1], fun h => absurd rfl h⟩
 ·have : ∃ r, zaA.f 3 x = some r := by
   have t1 : ∀ k x b, ∃ r, zaA.j1 (k + 1) x b = some r := by
    intro k x b
    simp only [zaA.j1]; repeat' split
    all_goals exact ⟨_, rfl⟩
   have t0 : ∀ k x b, ∃ r, zaA.j0 (k + 2) x b = some r := by
    intro k x b
    simp only [zaA.j0]; repeat' split
    all_goals first | exact ⟨_, rfl⟩ | exact t1 _ _ _
   unfold zaA.f
   repeat' split
   all_goals first | exact ⟨_, rfl⟩ | exact t0 1 _ _
  obtain ⟨r, hr⟩ := this; exact ⟨r, hr, fun _ => h⟩
set_option maxHeartbeats 8000000 in
set_option maxRecDepth 100000 in
theorem level6_calls (g : Nat) (A : Option Addr) (c : Nat) (lt : List S50) (htk : TkOk lt) (a : Nat) (hun : CUnary g A c lt a) (W : World) (hP : PS W g A c lt a) (hlt : hd lt a < lt.length) :
  Calls Try.prog 66 #[.pointer (some ⟨g, 0, none⟩), .int .i64 6] W fun e W' => ∃ a', a < a' ∧ a' ≤ lt.length ∧ Ret g A c lt W a' (40 * (a' - a) - 20) e W' := by
 have HUN := zaa.mk hun; clear hun; have HTO := zaa.mk htk; have HLT := zaa.mk hlt; have HLEN := zaa.mk hP.len; clear htk hlt; have hu := Try.underlying25; go_enter Try.func66, Try.ntmps66
 go_upto_region 1 with (fail)
 obtain ⟨X, hX⟩ : ∃ X, X = W.alloc (nodeO 0 0 0 (.slice none 0 0)) := ⟨_, rfl⟩; obtain ⟨h2, hv⟩ := S2.start1 hP hX; change Code.wp Try.prog _ _ _ (W.alloc (nodeO 0 0 0 (.slice none 0 0)))
 rw [← hX]; generalize oky (fun q => W.heap.size ≤ q) W.heap.size = okx at h2 hv
 have I2 := zaa.mk h2; have IV := zaa.mk hv; clear h2 hv hX hP; go_wp2_with (go_at_call 69; refine (HUN.out X I2.out.ps HLT.out).mono ?_; rintro e w3 ⟨b1, b1a, b1l, k1, w1, wd1, u1, l1, rfl, h1, h2, h3⟩; obtain ⟨A1, c1, rfl, _, _⟩ := Kd.zaU h2.row; have hv_ := VI.ret I2.out IV.out h3; have HEND := zaa.mk ((I2.out.ret h1 h3).done hv_ (nv_new (b := W.heap.size) h2 I2.out.fr.size I2.out.fresh) (near_new (W := W) h2 I2.out.fr.size)); obtain ⟨z0, z1, z2, z3, hz_⟩ := hv_.at_; have HZ := zaa.mk hz_; have f0 := zab hz_ 0; have f1 := zab hz_ 1; have f2 := zab hz_ 2; have f3 := zab hz_ 3; obtain ⟨⟨d0, d1, d2, d3⟩, dl⟩ := zaL hz_; clear h1 h2 h3 hv_ hz_)
 refine bodyPost_ret (zaV (r := .cell 4 25) rfl (.cell (W.heap.size) 25 _ (0, 0) _ rfl (zbk HZ.out) Try.underlying25 rfl (by kernel_rfl) .nil)) rfl ?_
 refine ⟨b1, by omega, b1l, ?_⟩
 obtain ⟨wd8, u8, l8, e1, e2, e3, e4, e5⟩ := HEND.out; exact ⟨_, _, wd8, u8, l8, e1, e2, e3.more (by omega), e4⟩
set_option maxHeartbeats 8000000 in
set_option maxRecDepth 100000 in
theorem level_calls (g : Nat) (A : Option Addr) (c : Nat) (lt : List S50) (htk : TkOk lt) (a : Nat) (j : Int) (hj1 : 1 ≤ j) (hj5 : j ≤ 5) (hle : CLevel g A c lt a (j + 1)) (hlv : ∀ a1, a < a1 → CLevel g A c lt a1 (j + 1)) (W : World) (hP : PS W g A c lt a) (hlt : hd lt a < lt.length) :
  Calls Try.prog 66 #[.pointer (some ⟨g, 0, none⟩), .int .i64 j] W fun e W' => ∃ a', a < a' ∧ a' ≤ lt.length ∧ Ret g A c lt W a' (40 * (a' - a) - 20) e W' := by
 have HLE := zaa.mk hle; have HLA := zaa.mk hlv; have d6 : (j == 6) = false := by simp; omega
 have HJ := zaa.mk (And.intro hj1 hj5); clear hle hlv; have HTO := zaa.mk htk; have HLT := zaa.mk hlt; have HLEN := zaa.mk hP.len; clear htk hlt; have hu := Try.underlying25; go_enter Try.func66, Try.ntmps66
 go_upto_region 1 with (fail)
 obtain ⟨X, hX⟩ : ∃ X, X = W.alloc (nodeO 0 0 0 (.slice none 0 0)) := ⟨_, rfl⟩; obtain ⟨h2, hv⟩ := S2.start1 hP hX; change Code.wp Try.prog _ _ _ (W.alloc (nodeO 0 0 0 (.slice none 0 0)))
 rw [← hX]; generalize oky (fun q => W.heap.size ≤ q) W.heap.size = okx at h2 hv
 have I2 := zaa.mk h2; have IV := zaa.mk hv; clear h2 hv hX hP; go_upto_region 4 with (go_at_call 66; refine (HLE.out X I2.out.ps HLT.out).mono ?_; rintro e w3 ⟨b1, b1a, b1l, k1, w1, wd1, u1, l1, rfl, h1, h2, h3⟩; obtain ⟨A1, c1, rfl, _, _⟩ := Kd.zaU h2.row; have hs_ := I2.out.ret h1 h3; have J2 := zaa.mk (hs_.newv (o := nodeO k1 w1 wd1 (.slice A1 l1.length c1))); have JN := zaa.mk (NI.new_ (W := W) (r := none) hs_.fr.size (nv_new (b := W.heap.size) h2 I2.out.fr.size I2.out.fresh) (near_new (W := W) h2 I2.out.fr.size)); have JV := zaa.mk ((VI.ret I2.out IV.out h3).newv (o := nodeO k1 w1 wd1 (.slice A1 l1.length c1))); have HW3_ := zaa.mk (show W.heap.size < w3.heap.size from Nat.lt_of_lt_of_le IV.out.zaB h3.size); clear h1 h2 h3 hs_ I2 IV)
 have HNE := zaa.mk HW3_.out; clear HW3_; obtain ⟨X1, hX1⟩ : ∃ X1, X1 = w3.alloc (nodeO k1 w1 wd1 (.slice A1 l1.length c1)) := ⟨_, rfl⟩; rw [← hX1] at J2 JN JV; change Code.wp Try.prog _ _ _ (w3.alloc (nodeO k1 w1 wd1 (.slice A1 l1.length c1)))
 rw [← hX1]; clear hX1; go_loopg [] (lt.length - b1) (fun kq w' => ∃ (ai : Nat) (ki wi wdi : Int) (vi : Value) (li : List S25), a < ai ∧ ai ≤ lt.length ∧ zaa (kq = lt.length - ai) ∧ zaa (S2 g A c lt (fun q => W.heap.size ≤ q) (oky okx w3.heap.size) W none w' ai) ∧ zaa (NI W.heap.size (oky okx w3.heap.size) W none w' w3.heap.size ki wi wdi vi li (40 * (ai - a) - 20)) ∧ zaa (VI (oky okx w3.heap.size) W w' W.heap.size))
 case atStart => exact ⟨b1, k1, w1, wd1, _, l1, b1a, b1l, ⟨rfl⟩, J2, JN, JV⟩
 case round =>
  obtain ⟨ai, ki, wi, wdi, vi, li, hai, hail, HK, M2, MN, MV⟩ := hrel; obtain ⟨Ai, ci, rfl, _, _⟩ := Kd.zaU MN.out.nv.row; have HKC := zaa.mk (zbi g A c lt ai wr M2.out.ps); obtain ⟨q2, hq2⟩ : ∃ q2, q2 = cu lt ai := ⟨_, rfl⟩; rw [← hq2] at HKC; have HQ2 := zaa.mk hq2; clear hq2; obtain ⟨r2, hr2, hr0⟩ := lev_tot q2; have HLV := zaa.mk hr2; have HR0 := zaa.mk hr0; clear hr2 hr0; by_cases hrj : r2 = j
  ·have drj : (r2 == j) = true := by simp [hrj]
   have HLI := zaa.mk (cu_lt (l := lt) (a := ai) (by rw [← HQ2.out]; exact HR0.out (by omega)))
   have HGI := zaa.mk (hd_ge lt ai); clear hrj HR0; have HM1 := zaa.mk (fun q hq => M2.out.sub q hq)
   have HM3 := zaa.mk MN.out.out; have HM4 := zaa.mk MV.out.out; go_upto_region 5 with (first | (go_at_call 22; refine HKC.out.mono ?_; rintro e w6 ⟨rfl, hb2⟩; have N2 := zaa.mk (M2.out.below hb2); have NN := zaa.mk (MN.out.below hb2); have NV_ := zaa.mk (MV.out.below hb2); clear hb2 M2 MN MV HKC) | (go_at_call 70; refine (zaA.calls 3 _ _ _ HLV.out).mono ?_; rintro e w7 ⟨rfl, hd2⟩; have hb2 := hd2.below; clear hd2; have O2 := zaa.mk (N2.out.below hb2); have ON := zaa.mk (NN.out.below hb2); have OV := zaa.mk (NV_.out.below hb2); clear hb2 N2 NN NV_))
   obtain ⟨x0, x1, x2, x3⟩ := ON.out.cells; go_upto_region 6 with (first | (go_at_call 46; refine (zcd W.heap.size (oky okx w3.heap.size) w7 61 0 0 (.slice none 0 0) [] 1 _ _ _ _ _ (40 * (ai - a) - 20) (NV.leaf (by omega) (by omega) (by omega) (Nat.le_refl _)) O2.out.fr.size O2.out.fresh (ON.out.nv.mono (fun q hq => ⟨hq, by simp [Value.ownBlock]⟩)) (by have := HLEN.out; omega)).mono ?_; rintro e w8 ⟨wd7, u7, l7, rfl, h1, h2, h3⟩; obtain ⟨A7, c7, rfl, _, _⟩ := Kd.zaU h1.row; have hfr : Fr g none w7 w8 := Fr.za5 h2; have P2 := zaa.mk (O2.out.ret (O2.out.ps.keep (fun q hq => h2.block q (by have := O2.out.ps.lt; omega) (by simp [Value.ownBlock]))) hfr); have PN := zaa.mk h1; have PA := zaa.mk (zaQ (v := .slice none 0 0) (.inl rfl) O2.out.fr.size h3 : Near W none _); have PT := zaa.mk (VI.ret O2.out ON.out.vi hfr); have PV := zaa.mk (VI.ret O2.out OV.out hfr); clear h1 h2 h3 hfr O2 ON OV x0 x1 x2 x3) | (go_at_call 48; refine (zby g A c lt HTO.out ai W.heap.size (oky okx w3.heap.size) w8 61 0 wd7 _ l7 (1 + (40 * (ai - a) - 20)) P2.out.ps PN.out P2.out.fr.size (fun q hq => P2.out.hg q (P2.out.sub q hq)) P2.out.fresh HLI.out (by have := HLEN.out; have := HLI.out; omega)).mono ?_; rintro e w9 ⟨wd4, u4, l4, rfl, h1, h2, h3, h4⟩; obtain ⟨A4, c4, rfl, _, _⟩ := Kd.zaU h2.row; have hs_ : S2 g A c lt (fun q => W.heap.size ≤ q) (oky okx w3.heap.size) W none w9 (hd lt ai + 1) := ⟨h1, P2.out.fr.trans h3 (near_row PA.out), P2.out.gW, P2.out.hg, P2.out.sub, fun q hq => P2.out.fresh q (Nat.le_trans h3.size hq)⟩; have hr_ : ∀ q, (Value.slice A7 l7.length c7).ownBlock = some q → (oky okx w3.heap.size) q := fun q hq => PN.out.row.1 q hq; have Q2 := zaa.mk (hs_.newv (o := nodeO 61 0 wd4 (.slice A4 l4.length c4))); have QN := zaa.mk (NI.new_ (W := W) (r := none) hs_.fr.size h2 (zaQ PA.out P2.out.fr.size h4)); have QT := zaa.mk ((PT.out.same (P2.out.var PT.out h3 hr_)).newv (o := nodeO 61 0 wd4 (.slice A4 l4.length c4))); have QV := zaa.mk ((PV.out.same (P2.out.var PV.out h3 hr_)).newv (o := nodeO 61 0 wd4 (.slice A4 l4.length c4))); have HNE2 := zaa.mk (show w3.heap.size < w9.heap.size from Nat.lt_of_lt_of_le PT.out.zaB h3.size); clear h1 h2 h3 h4 hs_ hr_ P2 PN PA PT PV))
   obtain ⟨X4, hX1⟩ : ∃ X1, X1 = w9.alloc (nodeO 61 0 wd4 (.slice A4 l4.length c4)) := ⟨_, rfl⟩; rw [← hX1] at Q2 QN QT QV; change Code.wp Try.prog _ _ _ (w9.alloc (nodeO 61 0 wd4 (.slice A4 l4.length c4)))
   rw [← hX1]; clear hX1; obtain ⟨aj, haj⟩ : ∃ aj, aj = hd lt ai + 1 := ⟨_, rfl⟩; have hajl : aj ≤ lt.length := by have := HLI.out; omega
   have haji : ai < aj := by have := HGI.out; omega
   have n_ := zaa.mk (QN.out.more (N' := 40 * (ai - a) - 18 + (aj - ai)) (by have := HGI.out; omega))
   rw [← haj] at Q2; clear QN haj; have QN := n_; clear n_; have HKC := zaa.mk (zbi g A c lt aj X4 Q2.out.ps); obtain ⟨q3, hq3⟩ : ∃ q3, q3 = cu lt aj := ⟨_, rfl⟩; rw [← hq3] at HKC; have HQ3 := zaa.mk hq3; clear hq3; obtain ⟨rr, hrr⟩ := expr_tot q3; have HRR := zaa.mk hrr; clear hrr; cases rr with
   | false =>
    go_upto_region 9 with (first | (go_at_call 22; refine HKC.out.mono ?_; rintro e w10 ⟨rfl, hb2⟩; have T2 := zaa.mk (Q2.out.below hb2); have TN := zaa.mk (QN.out.below hb2); have TT := zaa.mk (QT.out.below hb2); have TV := zaa.mk (QV.out.below hb2); clear hb2 Q2 QN QT QV HKC) | (go_at_call 54; refine (zaN.calls _ _ _ HRR.out).mono ?_; rintro e w11 ⟨rfl, hd2⟩; have hb2 := hd2.below; clear hd2; have U2 := zaa.mk (T2.out.below hb2); have UN := zaa.mk (TN.out.below hb2); have UT := zaa.mk (TT.out.below hb2); have UV := zaa.mk (TV.out.below hb2); clear hb2 T2 TN TT TV))
    obtain ⟨x0, x1, x2, x3⟩ := UN.out.cells; go_upto_region 10 with (go_at_call 65; refine (zb9 g A c lt aj W.heap.size (oky (oky okx w3.heap.size) w9.heap.size) w11 61 0 wd4 _ l4 (40 * (ai - a) - 18 + (aj - ai)) 60 (by omega) U2.out.ps UN.out.nv U2.out.fr.size (fun q hq => U2.out.hg q (U2.out.sub q hq)) U2.out.fresh (by have := HLEN.out; omega)).mono ?_; rintro e w12 ⟨wdq, uq, lq, rfl, h1, h2, h3, h4⟩; obtain ⟨Aq, cq, rfl, _, _⟩ := Kd.zaU h2.row; have hp_ := UN.out.vi.same (U2.out.var UN.out.vi h3 (fun q hq => UN.out.nv.row.1 q hq)); have R2 := zaa.mk ((U2.out.ext UN.out h1 h3).put (k := 61) (w := 0) (wd := wdq) (u := .slice Aq lq.length cq) hp_); have RN := zaa.mk (NI.put hp_ h2 (zaQ UN.out.near U2.out.fr.size h4)); have hv_ := UT.out.same (U2.out.var UT.out h3 (fun q hq => UN.out.nv.row.1 q hq)); have RT := zaa.mk (hv_.put (p := w9.heap.size) (k := 61) (w := 0) (wd := wdq) (u := .slice Aq lq.length cq) (fun e_ => by have := HNE.out; have := HNE2.out; omega)); clear hv_; have hv_ := UV.out.same (U2.out.var UV.out h3 (fun q hq => UN.out.nv.row.1 q hq)); have RV := zaa.mk (hv_.put (p := w9.heap.size) (k := 61) (w := 0) (wd := wdq) (u := .slice Aq lq.length cq) (fun e_ => by have := HNE.out; have := HNE2.out; omega)); clear hv_; obtain ⟨z0, z1, z2, z3, hz_⟩ := hp_.at_; have f0 := zab hz_ 0; have f1 := zab hz_ 1; have f2 := zab hz_ 2; have f3 := zab hz_ 3; obtain ⟨⟨d0, d1, d2, d3⟩, dl⟩ := zaL hz_; clear h1 h2 h3 h4 hp_ hz_ x0 x1 x2 x3 U2 UN UT UV)
    obtain ⟨X7, hX1⟩ : ∃ X1, X1 = putN w12 w9.heap.size 61 0 wdq (.slice Aq lq.length cq) := ⟨_, rfl⟩; rw [← hX1] at R2 RN RT RV; simp only [putN] at hX1; rw [← hX1]; clear hX1 f0 f1 f2 f3 d0 d1 d2 d3 dl; obtain ⟨x0, x1, x2, x3⟩ := RN.out.cells; have V2 := zaa.mk (R2.out.put (k := 61) (w := 0) (wd := wdq) (u := .slice Aq lq.length cq) RT.out); have VN := zaa.mk (NI.put RT.out RN.out.nv RN.out.near); have VV := zaa.mk (RV.out.put (p := w3.heap.size) (k := 61) (w := 0) (wd := wdq) (u := .slice Aq lq.length cq) (fun e_ => by have := HNE.out; have := HNE2.out; omega))
    obtain ⟨z0, z1, z2, z3, hz_⟩ := RT.out.at_; have f0 := zab hz_ 0; have f1 := zab hz_ 1; have f2 := zab hz_ 2; have f3 := zab hz_ 3; obtain ⟨⟨d0, d1, d2, d3⟩, dl⟩ := zaL hz_
    clear hz_ R2 RN RT RV; go_wp2_with fail
    obtain ⟨X8, hX1⟩ : ∃ X1, X1 = putN X7 w3.heap.size 61 0 wdq (.slice Aq lq.length cq) := ⟨_, rfl⟩; rw [← hX1] at V2 VN VV; simp only [putN] at hX1; rw [← hX1]; clear hX1 f0 f1 f2 f3 d0 d1 d2 d3 dl x0 x1 x2 x3; go_roundg (lt.length - aj)
    case measure => have := HK.out; omega
    case rel => exact ⟨aj, 61, 0, wdq, _, lq, by omega, hajl, ⟨rfl⟩, ⟨V2.out.okx HM1.out (fun q hq => (V2.out.fresh q hq).1)⟩, ⟨(VN.out.okx (fun q hq => hq.1) HM3.out).more (by omega)⟩, ⟨VV.out.okx HM4.out⟩⟩
   | true =>
    have HLJ := zaa.mk (cu_lt (l := lt) (a := aj) (by rw [← HQ3.out]; exact expr_ne HRR.out))
    have HGJ := zaa.mk (hd_ge lt aj); go_upto_region 7 with (first | (go_at_call 22; refine HKC.out.mono ?_; rintro e w10 ⟨rfl, hb2⟩; have T2 := zaa.mk (Q2.out.below hb2); have TN := zaa.mk (QN.out.below hb2); have TT := zaa.mk (QT.out.below hb2); have TV := zaa.mk (QV.out.below hb2); clear hb2 Q2 QN QT QV HKC) | (go_at_call 54; refine (zaN.calls _ _ _ HRR.out).mono ?_; rintro e w11 ⟨rfl, hd2⟩; have hb2 := hd2.below; clear hd2; have U2 := zaa.mk (T2.out.below hb2); have UN := zaa.mk (TN.out.below hb2); have UT := zaa.mk (TT.out.below hb2); have UV := zaa.mk (TV.out.below hb2); clear hb2 T2 TN TT TV))
    obtain ⟨x0, x1, x2, x3⟩ := UN.out.cells; go_upto_region 8 with (go_at_call 24; refine (zb6 g A c lt HTO.out aj W.heap.size (oky (oky okx w3.heap.size) w9.heap.size) w11 61 0 wd4 _ l4 (40 * (ai - a) - 18 + (aj - ai)) U2.out.ps UN.out.nv U2.out.fr.size (fun q hq => U2.out.hg q (U2.out.sub q hq)) U2.out.fresh (by have := HLEN.out; have := HLJ.out; omega)).mono ?_; rintro e w12 ⟨wd5, u5, l5, rfl, h1, h2, h3, h4⟩; obtain ⟨A5, c5, rfl, _, _⟩ := Kd.zaU h2.row; have hp_ := UN.out.vi.same (U2.out.var UN.out.vi h3 (fun q hq => UN.out.nv.row.1 q hq)); have R2 := zaa.mk ((U2.out.ext UN.out h1 h3).put (k := 61) (w := 0) (wd := wd5) (u := .slice A5 l5.length c5) hp_); have RN := zaa.mk (NI.put hp_ h2 (zaQ UN.out.near U2.out.fr.size h4)); have hv_ := UT.out.same (U2.out.var UT.out h3 (fun q hq => UN.out.nv.row.1 q hq)); have RT := zaa.mk (hv_.put (p := w9.heap.size) (k := 61) (w := 0) (wd := wd5) (u := .slice A5 l5.length c5) (fun e_ => by have := HNE.out; have := HNE2.out; omega)); clear hv_; have hv_ := UV.out.same (U2.out.var UV.out h3 (fun q hq => UN.out.nv.row.1 q hq)); have RV := zaa.mk (hv_.put (p := w9.heap.size) (k := 61) (w := 0) (wd := wd5) (u := .slice A5 l5.length c5) (fun e_ => by have := HNE.out; have := HNE2.out; omega)); clear hv_; obtain ⟨z0, z1, z2, z3, hz_⟩ := hp_.at_; have f0 := zab hz_ 0; have f1 := zab hz_ 1; have f2 := zab hz_ 2; have f3 := zab hz_ 3; obtain ⟨⟨d0, d1, d2, d3⟩, dl⟩ := zaL hz_; clear h1 h2 h3 h4 hp_ hz_ x0 x1 x2 x3 U2 UN UT UV)
    obtain ⟨X5, hX1⟩ : ∃ X1, X1 = putN w12 w9.heap.size 61 0 wd5 (.slice A5 l5.length c5) := ⟨_, rfl⟩; rw [← hX1] at R2 RN RT RV; simp only [putN] at hX1; rw [← hX1]; clear hX1 f0 f1 f2 f3 d0 d1 d2 d3 dl; obtain ⟨N5, hN5⟩ : ∃ N5, N5 = 40 * (ai - a) - 18 + (aj - ai) + (hd lt aj - aj) := ⟨_, rfl⟩; rw [← hN5] at RN; have HN5 := zaa.mk hN5; clear hN5; have HSZ := zaa.mk (show N5 + 40 * (lt.length - hd lt aj) ≤ 899990 by have := HN5.out; have := HLJ.out; have := HGJ.out; have := HLEN.out; omega)
    have HBW := zaa.mk (Nat.le_refl W.heap.size); have RO := zaa.mk RN.out.vi; have hwj : IntKind.i64.wrap (j + 1) = j + 1 := IntWalk.i64_in _ (by omega)
    have D2 := zaa.mk (R2.out.below (Y := X5.drew) (Below.refl _ _).drew); have DN := zaa.mk (RN.out.below (Y := X5.drew) (Below.refl _ _).drew); have DV := zaa.mk (RO.out.below (Y := X5.drew) (Below.refl _ _).drew); have DYT := zaa.mk (RT.out.below (Y := X5.drew) (Below.refl _ _).drew); have DYV := zaa.mk (RV.out.below (Y := X5.drew) (Below.refl _ _).drew); have HS0 := zaa.mk DN.out.cells; clear R2 RN RO RT RV; refine wp_region_noPanic (zbS [0, 1, 2, 3, 4, 5] (fun W' => W'.cell? ⟨w9.heap.size, 0, none⟩ = some (.int .u8 61) ∧ W'.cell? ⟨w9.heap.size, 1, none⟩ = some (.int .u8 0) ∧ W'.cell? ⟨w9.heap.size, 2, none⟩ = some (.int .i64 wd5) ∧ W'.cell? ⟨w9.heap.size, 3, none⟩ = some (.slice A5 l5.length c5)) (by kernel_rfl) ?_)
    refine zaH (i := 0) (v := ?_) rfl (by kernel_rfl) (by kernel_rfl) (by kernel_rfl) (by kernel_rfl) (fun _ _ _ h => h) (.inl ⟨by rfl, ?_⟩) HS0.out ?_
    rotate_left
    ·(intro W' hW'; obtain ⟨s0, s1, s2, s3⟩ := hW'; go_simp; try rfl)
    simp only [Act.put, zaw]; refine zaH (i := 1) (v := ?_) rfl (by kernel_rfl) (by kernel_rfl) (by kernel_rfl) (by kernel_rfl) (fun _ _ _ h => h) (.inl ⟨by rfl, ?_⟩) HS0.out ?_
    rotate_left
    ·(intro W' hW'; obtain ⟨s0, s1, s2, s3⟩ := hW'; go_simp; try rfl)
    simp only [Act.put, zaw]; refine zaH (i := 2) (v := ?_) rfl (by kernel_rfl) (by kernel_rfl) (by kernel_rfl) (by kernel_rfl) (fun _ _ _ h => h) (.inl ⟨by rfl, ?_⟩) HS0.out ?_
    rotate_left
    ·(intro W' hW'; obtain ⟨s0, s1, s2, s3⟩ := hW'; go_simp; try rfl)
    simp only [Act.put, zaw]; refine zaH (i := 3) (v := ?_) rfl (by kernel_rfl) (by kernel_rfl) (by kernel_rfl) (by kernel_rfl) (fun _ _ _ h => h) (.inl ⟨by rfl, ?_⟩) HS0.out ?_
    rotate_left
    ·(intro W' hW'; obtain ⟨s0, s1, s2, s3⟩ := hW'; go_simp; try rfl)
    simp only [Act.put, zaw]; refine zba (i := 4) rfl (by kernel_rfl) (fun K hK => ?_)
    go_simp
    refine (HLA.out (hd lt aj) (by have := HGJ.out; omega) X5.drew D2.out.ps (by rw [hd_hd]; exact HLJ.out)).mono ?_
    rintro e w5 ⟨a9, hlo, hhi, k9, w9_, wd9, u9, l9, rfl, p1, p2, p3⟩
    obtain ⟨kA, kc, rfl, _, _⟩ := Kd.zaU p2.row; have E2 := zaa.mk (D2.out.ret p1 p3); have EN := zaa.mk (NI.ret D2.out DN.out p3); have EV := zaa.mk (VI.ret D2.out DV.out p3); have EYT := zaa.mk (VI.ret D2.out DYT.out p3); have EYV := zaa.mk (VI.ret D2.out DYV.out p3); have HKID := zaa.mk (kid_nv (b := W.heap.size) (okx := (oky (oky okx w3.heap.size) w9.heap.size)) p2 (Nat.le_trans HBW.out D2.out.fr.size) D2.out.fresh (fun q hq => Kd.N_lt DN.out.nv.row q hq))
    have HS1 := zaa.mk EN.out.cells; clear p1 p2 p3; refine hK.out _ _ (fun _ => HS1.out) (fun _ => ?_)
    clear hK K; try simp only [Act.put, zaw]
    refine zba (i := 5) rfl (by kernel_rfl) (fun K hK => ?_)
    go_simp
    refine (zcd W.heap.size (oky (oky okx w3.heap.size) w9.heap.size) w5 61 0 wd5 _ l5 N5 _ _ _ _ _ _ EN.out.nv (Nat.le_trans HBW.out E2.out.fr.size) E2.out.fresh HKID.out (by have := HSZ.out; omega)).mono ?_
    rintro e w6 ⟨wd6, u6, l6, rfl, h1, h2, h3⟩
    obtain ⟨A6, c6, rfl, _, _⟩ := Kd.zaU h1.row; have F2 := zaa.mk (E2.out.ext EN.out (E2.out.addps EN.out h2) (Fr.za5 h2)); have hv_ := EV.out.same (E2.out.var EV.out (Fr.za5 h2) (fun q hq => EN.out.nv.row.1 q hq))
    have FN := zaa.mk (EN.out.vi.same (E2.out.var EN.out.vi (Fr.za5 h2) (fun q hq => EN.out.nv.row.1 q hq)))
    have HS2 := zaa.mk ((zaL ((E2.out.var EN.out.vi (Fr.za5 h2) (fun q hq => EN.out.nv.row.1 q hq)).trans EN.out.box)).1)
    have Y2 := zaa.mk (F2.out.put (k := 61) (w := 0) (wd := wd6) (u := .slice A6 l6.length c6) hv_); have YN := zaa.mk (NI.put hv_ h1 (zaQ EN.out.near E2.out.fr.size h3)); have YT := zaa.mk ((EYT.out.same (E2.out.var EYT.out (Fr.za5 h2) (fun q hq => EN.out.nv.row.1 q hq))).put (p := w9.heap.size) (k := 61) (w := 0) (wd := wd6) (u := .slice A6 l6.length c6) (fun e_ => by have := HNE.out; have := HNE2.out; omega))
    have YV := zaa.mk ((EYV.out.same (E2.out.var EYV.out (Fr.za5 h2) (fun q hq => EN.out.nv.row.1 q hq))).put (p := w9.heap.size) (k := 61) (w := 0) (wd := wd6) (u := .slice A6 l6.length c6) (fun e_ => by have := HNE.out; have := HNE2.out; omega))
    obtain ⟨z0, z1, z2, z3, hz_⟩ := hv_.at_; have HZ := zaa.mk hz_; have f0 := zab hz_ 0; have f1 := zab hz_ 1; have f2 := zab hz_ 2; have f3 := zab hz_ 3; obtain ⟨⟨d0, d1, d2, d3⟩, dl⟩ := zaL hz_
    clear h1 h2 h3 hv_ hz_; refine hK.out _ _ (fun _ => HS2.out) (fun _ => ?_)
    clear hK K; try simp only [Act.put, zaw]
    refine zba (i := 6) rfl (by kernel_rfl) (fun K hK => ?_)
    go_simp
    refine hK.out _ _ (fun h => Bool.noConfusion (show false = true from h)) (fun _ => ?_)
    clear hK K; try simp only [Act.put, zaw]
    refine zbJ (by kernel_rfl) (NoPanic.normal ?_) _
    obtain ⟨X6, hX1⟩ : ∃ X1, X1 = putN w6 w9.heap.size 61 0 wd6 (.slice A6 l6.length c6) := ⟨_, rfl⟩; rw [← hX1] at Y2 YN YT YV; simp only [putN] at hX1; rw [← hX1]; clear hX1 f0 f1 f2 f3 d0 d1 d2 d3 dl; obtain ⟨x0, x1, x2, x3⟩ := YN.out.cells; have V2 := zaa.mk (Y2.out.put (k := 61) (w := 0) (wd := wd6) (u := .slice A6 l6.length c6) YT.out); have VN := zaa.mk (NI.put YT.out YN.out.nv YN.out.near); have VV := zaa.mk (YV.out.put (p := w3.heap.size) (k := 61) (w := 0) (wd := wd6) (u := .slice A6 l6.length c6) (fun e_ => by have := HNE.out; have := HNE2.out; omega))
    obtain ⟨z0, z1, z2, z3, hz_⟩ := YT.out.at_; have f0 := zab hz_ 0; have f1 := zab hz_ 1; have f2 := zab hz_ 2; have f3 := zab hz_ 3; obtain ⟨⟨d0, d1, d2, d3⟩, dl⟩ := zaL hz_
    clear hz_ Y2 YN YT YV; go_wp2_with fail
    obtain ⟨X8, hX1⟩ : ∃ X1, X1 = putN X6 w3.heap.size 61 0 wd6 (.slice A6 l6.length c6) := ⟨_, rfl⟩; rw [← hX1] at V2 VN VV; simp only [putN] at hX1; rw [← hX1]; clear hX1 f0 f1 f2 f3 d0 d1 d2 d3 dl x0 x1 x2 x3; go_roundg (lt.length - a9)
    case measure => have := HK.out; have := HGJ.out; omega
    case rel => exact ⟨a9, 61, 0, wd6, _, l6, by have := HGJ.out; omega, hhi, ⟨rfl⟩, ⟨V2.out.okx HM1.out (fun q hq => (V2.out.fresh q hq).1)⟩, ⟨(VN.out.okx (fun q hq => hq.1) HM3.out).more (by have := HN5.out; have := HGJ.out; omega)⟩, ⟨VV.out.okx HM4.out⟩⟩
  ·have drj : (r2 == j) = false := by simp [hrj]
   clear hrj HR0; go_upto_region 11 with (first | (go_at_call 22; refine HKC.out.mono ?_; rintro e w6 ⟨rfl, hb2⟩; have N2 := zaa.mk (M2.out.below hb2); have NN := zaa.mk (MN.out.below hb2); have NV_ := zaa.mk (MV.out.below hb2); clear hb2 M2 MN MV HKC) | (go_at_call 70; refine (zaA.calls 3 _ _ _ HLV.out).mono ?_; rintro e w7 ⟨rfl, hd2⟩; have hb2 := hd2.below; clear hd2; have O2 := zaa.mk (N2.out.below hb2); have ON := zaa.mk (NN.out.below hb2); have OV := zaa.mk (NV_.out.below hb2); clear hb2 N2 NN NV_))
   obtain ⟨x0, x1, x2, x3⟩ := ON.out.cells; have HEND := zaa.mk (O2.out.done OV.out ON.out.nv ON.out.near); obtain ⟨z0, z1, z2, z3, hz_⟩ := OV.out.at_; have HZ := zaa.mk hz_; have f0 := zab hz_ 0; have f1 := zab hz_ 1; have f2 := zab hz_ 2; have f3 := zab hz_ 3; obtain ⟨⟨d0, d1, d2, d3⟩, dl⟩ := zaL hz_
   clear hz_; go_wp2
   refine bodyPost_ret (zaV (r := .cell 4 25) rfl (.cell (W.heap.size) 25 _ (0, 0) _ rfl (zbk HZ.out) Try.underlying25 rfl (by kernel_rfl) .nil)) rfl ?_
   refine ⟨ai, by omega, hail, ?_⟩
   obtain ⟨wd8, u8, l8, e1, e2, e3, e4, e5⟩ := HEND.out; exact ⟨_, _, wd8, u8, l8, e1, e2, e3.more (by omega), e4⟩
set_option maxHeartbeats 8000000 in
set_option maxRecDepth 100000 in
theorem args_calls (g : Nat) (A : Option Addr) (c : Nat) (lt : List S50) (htk : TkOk lt) (a : Nat) (hexp : ∀ a1, a < a1 → CExpr g A c lt a1) (W : World) (hP : PS W g A c lt a) (hlt : hd lt a < lt.length) :
  Calls Try.prog 74 #[.pointer (some ⟨g, 0, none⟩)] W fun e W' => ∃ a', a < a' ∧ a' ≤ lt.length ∧ Ret g A c lt W a' (40 * (a' - a) - 20) e W' := by
 have HTO := zaa.mk htk; have HEXP := zaa.mk hexp; have HLT := zaa.mk hlt; have HLEN := zaa.mk hP.len; clear htk hexp hlt; have hu := Try.underlying25; go_enter Try.func74, Try.ntmps74
 go_upto_region 1 with (fail)
 obtain ⟨X, hX⟩ : ∃ X, X = W.alloc (nodeO 0 0 0 (.slice none 0 0)) := ⟨_, rfl⟩; obtain ⟨h2, hv⟩ := S2.start1 hP hX; change Code.wp Try.prog _ _ _ (W.alloc (nodeO 0 0 0 (.slice none 0 0)))
 rw [← hX]; generalize oky (fun q => W.heap.size ≤ q) W.heap.size = okx at h2 hv
 have I2 := zaa.mk h2; have IV := zaa.mk hv; clear h2 hv hX hP; go_upto_region 2 with (go_at_call 48; refine (zby g A c lt HTO.out a W.heap.size okx X 64 0 0 (.slice none 0 0) [] 1 I2.out.ps (NV.leaf (by omega) (by omega) (by omega) (Nat.le_refl _)) I2.out.fr.size (fun q hq => I2.out.hg q (I2.out.sub q hq)) I2.out.fresh HLT.out (by have := HLEN.out; have := HLT.out; omega)).mono ?_; rintro e w3 ⟨wd1, u1, l1, rfl, h1, h2, h3, h4⟩; obtain ⟨A1, c1, rfl, _, _⟩ := Kd.zaU h2.row; have hs_ := I2.out.ret h1 h3; have J2 := zaa.mk (hs_.newv (o := nodeO 64 0 wd1 (.slice A1 l1.length c1))); have JN := zaa.mk (NI.new_ (W := W) (r := none) hs_.fr.size h2 (zaQ (v := .slice none 0 0) (.inl rfl) I2.out.fr.size h4)); have JV := zaa.mk ((VI.ret I2.out IV.out h3).newv (o := nodeO 64 0 wd1 (.slice A1 l1.length c1))); have HW3_ := zaa.mk (show W.heap.size < w3.heap.size from Nat.lt_of_lt_of_le IV.out.zaB h3.size); clear h1 h2 h3 h4 hs_ I2 IV)
 have HW3 := zaa.mk HW3_.out; clear HW3_; obtain ⟨X1, hX1⟩ : ∃ X1, X1 = w3.alloc (nodeO 64 0 wd1 (.slice A1 l1.length c1)) := ⟨_, rfl⟩; rw [← hX1] at J2 JN JV; change Code.wp Try.prog _ _ _ (w3.alloc (nodeO 64 0 wd1 (.slice A1 l1.length c1)))
 rw [← hX1]; clear hX1; obtain ⟨a1, ha1⟩ : ∃ a1, a1 = hd lt a + 1 := ⟨_, rfl⟩; have hge := hd_ge lt a; have hl1 : a < a1 ∧ a1 ≤ lt.length := ⟨by omega, by have := HLT.out; omega⟩
 obtain ⟨hl1a, hl1b⟩ := hl1; have n_ := zaa.mk (JN.out.more (N' := 40 * (a1 - a) - 38) (by omega))
 rw [← ha1] at J2; clear JN ha1 hge; have JN := n_; clear n_; have HKC := zaa.mk (zbi g A c lt a1 X1 J2.out.ps); obtain ⟨q, hq⟩ : ∃ q, q = cu lt a1 := ⟨_, rfl⟩; rw [← hq] at HKC; clear hq; obtain ⟨rr, hrr⟩ := expr_tot q; have HRR := zaa.mk hrr; clear hrr; cases rr with
 | false =>
  go_upto_region 7 with (first | (go_at_call 22; refine HKC.out.mono ?_; rintro e w4 ⟨rfl, hb2⟩; have I1 := zaa.mk (J2.out.below hb2); have IN1 := zaa.mk (JN.out.below hb2); have IV1 := zaa.mk (JV.out.below hb2); clear hb2 J2 JN JV HKC) | (go_at_call 54; refine (zaN.calls _ _ _ HRR.out).mono ?_; rintro e w5 ⟨rfl, hd2⟩; have hb2 := hd2.below; clear hd2; have K2 := zaa.mk (I1.out.below hb2); have KN := zaa.mk (IN1.out.below hb2); have KV := zaa.mk (IV1.out.below hb2); clear hb2 I1 IN1 IV1))
  obtain ⟨x0, x1, x2, x3⟩ := KN.out.cells; go_wp2_with (go_at_call 55; refine (zbC g A c lt HTO.out a1 W.heap.size (oky okx w3.heap.size) w5 64 0 wd1 _ l1 (40 * (a1 - a) - 38) 21 (by omega) K2.out.ps KN.out.nv K2.out.fr.size (fun q hq => K2.out.hg q (K2.out.sub q hq)) K2.out.fresh (by have := HLEN.out; omega)).mono ?_; rintro e w6 ⟨b3, b3a, b3l, wd3, u3, l3, rfl, h1, h2, h3, h4⟩; obtain ⟨A3, c3, rfl, _, _⟩ := Kd.zaU h2.row; have hv_ := KV.out.same (K2.out.var KV.out h3 (fun q hq => KN.out.nv.row.1 q hq)); have HEND := zaa.mk ((K2.out.ext KN.out h1 h3).done hv_ h2 (zaQ KN.out.near K2.out.fr.size h4)); obtain ⟨z0, z1, z2, z3, hz_⟩ := hv_.at_; have HZ := zaa.mk hz_; have f0 := zab hz_ 0; have f1 := zab hz_ 1; have f2 := zab hz_ 2; have f3 := zab hz_ 3; obtain ⟨⟨d0, d1, d2, d3⟩, dl⟩ := zaL hz_; clear h1 h2 h3 h4 hv_ hz_ x0 x1 x2 x3)
  refine bodyPost_ret (zaV (r := .cell 2 25) rfl (.cell (W.heap.size) 25 _ (0, 0) _ rfl (zbk HZ.out) Try.underlying25 rfl (by kernel_rfl) .nil)) rfl ?_
  refine ⟨b3, by omega, b3l, ?_⟩
  obtain ⟨wd8, u8, l8, e1, e2, e3, e4, e5⟩ := HEND.out; exact ⟨_, _, wd8, u8, l8, e1, e2, e3.more (by omega), e4⟩
 | true =>
  go_upto_region 3 with (first | (go_at_call 22; refine HKC.out.mono ?_; rintro e w4 ⟨rfl, hb2⟩; have I1 := zaa.mk (J2.out.below hb2); have IN1 := zaa.mk (JN.out.below hb2); have IV1 := zaa.mk (JV.out.below hb2); clear hb2 J2 JN JV HKC) | (go_at_call 54; refine (zaN.calls _ _ _ HRR.out).mono ?_; rintro e w5 ⟨rfl, hd2⟩; have hb2 := hd2.below; clear hd2; have K2 := zaa.mk (I1.out.below hb2); have KN := zaa.mk (IN1.out.below hb2); have KV := zaa.mk (IV1.out.below hb2); clear hb2 I1 IN1 IV1))
  obtain ⟨x0, x1, x2, x3⟩ := KN.out.cells; go_wp2_with (go_at_call 56; refine (HEXP.out a1 hl1a W.heap.size (oky okx w3.heap.size) w5 64 0 wd1 _ l1 (40 * (a1 - a) - 38) K2.out.ps KN.out.nv K2.out.fr.size (fun q hq => K2.out.hg q (K2.out.sub q hq)) K2.out.fresh (by have := HLEN.out; omega)).mono ?_; rintro e w6 ⟨b2, b2a, b2l, wd2, u2, l2, rfl, h1, h2, h3, h4⟩; obtain ⟨A2, c2, rfl, _, _⟩ := Kd.zaU h2.row; have hp_ := KN.out.vi.same (K2.out.var KN.out.vi h3 (fun q hq => KN.out.nv.row.1 q hq)); have L2 := zaa.mk ((K2.out.ext KN.out h1 h3).put (k := 64) (w := 0) (wd := wd2) (u := .slice A2 l2.length c2) hp_); have LN := zaa.mk (NI.put hp_ h2 (zaQ KN.out.near K2.out.fr.size h4)); have hv_ := KV.out.same (K2.out.var KV.out h3 (fun q hq => KN.out.nv.row.1 q hq)); have LV := zaa.mk (hv_.put (p := w3.heap.size) (k := 64) (w := 0) (wd := wd2) (u := .slice A2 l2.length c2) (fun e_ => by have := HW3.out; omega)); clear hv_; obtain ⟨z0, z1, z2, z3, hz_⟩ := hp_.at_; have f0 := zab hz_ 0; have f1 := zab hz_ 1; have f2 := zab hz_ 2; have f3 := zab hz_ 3; obtain ⟨⟨d0, d1, d2, d3⟩, dl⟩ := zaL hz_; clear h1 h2 h3 h4 hp_ hz_ x0 x1 x2 x3 K2 KN KV)
  obtain ⟨X2, hX1⟩ : ∃ X1, X1 = putN w6 w3.heap.size 64 0 wd2 (.slice A2 l2.length c2) := ⟨_, rfl⟩; rw [← hX1] at L2 LN LV; simp only [putN] at hX1; rw [← hX1]; clear hX1 f0 f1 f2 f3 d0 d1 d2 d3 dl; have n_ := zaa.mk (LN.out.more (N' := 40 * (b2 - a) - 37) (by omega))
  clear LN; have LN := n_; clear n_; go_loopg [] (lt.length - b2) (fun kq w' => ∃ (ai : Nat) (wdi : Int) (vi : Value) (li : List S25), a < ai ∧ ai ≤ lt.length ∧ zaa (kq = lt.length - ai) ∧ zaa (S2 g A c lt (fun q => W.heap.size ≤ q) (oky okx w3.heap.size) W none w' ai) ∧ zaa (NI W.heap.size (oky okx w3.heap.size) W none w' w3.heap.size 64 0 wdi vi li (40 * (ai - a) - 37)) ∧ zaa (VI (oky okx w3.heap.size) W w' W.heap.size))
  case atStart => exact ⟨b2, wd2, _, l2, by omega, b2l, ⟨rfl⟩, L2, LN, LV⟩
  case round =>
   obtain ⟨ai, wdi, vi, li, hai, hail, HK, M2, MN, MV⟩ := hrel; obtain ⟨Ai, ci, rfl, _, _⟩ := Kd.zaU MN.out.nv.row; have HKC := zaa.mk (zbi g A c lt ai wr M2.out.ps); obtain ⟨q2, hq2⟩ : ∃ q2, q2 = cu lt ai := ⟨_, rfl⟩; rw [← hq2] at HKC; have HQ2 := zaa.mk hq2; clear hq2; by_cases h24 : q2 = 24
   ·have d24 : (q2 == 24) = true := by simp [h24]
    have HLI := zaa.mk (cu_lt (l := lt) (a := ai) (by rw [← HQ2.out, h24]; omega))
    clear h24; go_upto_region 5 with (go_at_call 22; refine HKC.out.mono ?_; rintro e w7 ⟨rfl, hb2⟩; have O2 := zaa.mk (M2.out.below hb2); have ON := zaa.mk (MN.out.below hb2); have OV := zaa.mk (MV.out.below hb2); clear hb2 M2 MN MV HKC)
    obtain ⟨x0, x1, x2, x3⟩ := ON.out.cells; go_upto_region 6 with (go_at_call 48; refine (zby g A c lt HTO.out ai W.heap.size (oky okx w3.heap.size) w7 64 0 wdi _ li (40 * (ai - a) - 37) O2.out.ps ON.out.nv O2.out.fr.size (fun q hq => O2.out.hg q (O2.out.sub q hq)) O2.out.fresh HLI.out (by have := HLEN.out; have := HLI.out; omega)).mono ?_; rintro e w8 ⟨wd4, u4, l4, rfl, h1, h2, h3, h4⟩; obtain ⟨A4, c4, rfl, _, _⟩ := Kd.zaU h2.row; have hp_ := ON.out.vi.same (O2.out.var ON.out.vi h3 (fun q hq => ON.out.nv.row.1 q hq)); have Q2 := zaa.mk ((O2.out.ext ON.out h1 h3).put (k := 64) (w := 0) (wd := wd4) (u := .slice A4 l4.length c4) hp_); have QN := zaa.mk (NI.put hp_ h2 (zaQ ON.out.near O2.out.fr.size h4)); have hv_ := OV.out.same (O2.out.var OV.out h3 (fun q hq => ON.out.nv.row.1 q hq)); have QV := zaa.mk (hv_.put (p := w3.heap.size) (k := 64) (w := 0) (wd := wd4) (u := .slice A4 l4.length c4) (fun e_ => by have := HW3.out; omega)); clear hv_; obtain ⟨z0, z1, z2, z3, hz_⟩ := hp_.at_; have f0 := zab hz_ 0; have f1 := zab hz_ 1; have f2 := zab hz_ 2; have f3 := zab hz_ 3; obtain ⟨⟨d0, d1, d2, d3⟩, dl⟩ := zaL hz_; clear h1 h2 h3 h4 hp_ hz_ x0 x1 x2 x3 O2 ON OV)
    obtain ⟨X4, hX1⟩ : ∃ X1, X1 = putN w8 w3.heap.size 64 0 wd4 (.slice A4 l4.length c4) := ⟨_, rfl⟩; rw [← hX1] at Q2 QN QV; simp only [putN] at hX1; rw [← hX1]; clear hX1 f0 f1 f2 f3 d0 d1 d2 d3 dl; obtain ⟨aj, haj⟩ : ∃ aj, aj = hd lt ai + 1 := ⟨_, rfl⟩; have hge2 := hd_ge lt ai; have hajl : aj ≤ lt.length := by have := HLI.out; omega
    have haji : ai < aj := by omega
    have n_ := zaa.mk (QN.out.more (N' := 40 * (ai - a) - 37 + (aj - ai)) (by omega))
    rw [← haj] at Q2; clear QN haj hge2; have QN := n_; clear n_; obtain ⟨x0, x1, x2, x3⟩ := QN.out.cells; go_wp2_with (go_at_call 56; refine (HEXP.out aj (by omega) W.heap.size (oky okx w3.heap.size) X4 64 0 wd4 _ l4 (40 * (ai - a) - 37 + (aj - ai)) Q2.out.ps QN.out.nv Q2.out.fr.size (fun q hq => Q2.out.hg q (Q2.out.sub q hq)) Q2.out.fresh (by have := HLEN.out; omega)).mono ?_; rintro e w9 ⟨b5, b5a, b5l, wd5, u5, l5, rfl, h1, h2, h3, h4⟩; obtain ⟨A5, c5, rfl, _, _⟩ := Kd.zaU h2.row; have hp_ := QN.out.vi.same (Q2.out.var QN.out.vi h3 (fun q hq => QN.out.nv.row.1 q hq)); have R2 := zaa.mk ((Q2.out.ext QN.out h1 h3).put (k := 64) (w := 0) (wd := wd5) (u := .slice A5 l5.length c5) hp_); have RN := zaa.mk (NI.put hp_ h2 (zaQ QN.out.near Q2.out.fr.size h4)); have hv_ := QV.out.same (Q2.out.var QV.out h3 (fun q hq => QN.out.nv.row.1 q hq)); have RV := zaa.mk (hv_.put (p := w3.heap.size) (k := 64) (w := 0) (wd := wd5) (u := .slice A5 l5.length c5) (fun e_ => by have := HW3.out; omega)); clear hv_; obtain ⟨z0, z1, z2, z3, hz_⟩ := hp_.at_; have f0 := zab hz_ 0; have f1 := zab hz_ 1; have f2 := zab hz_ 2; have f3 := zab hz_ 3; obtain ⟨⟨d0, d1, d2, d3⟩, dl⟩ := zaL hz_; clear h1 h2 h3 h4 hp_ hz_ x0 x1 x2 x3 Q2 QN QV)
    obtain ⟨X5, hX1⟩ : ∃ X1, X1 = putN w9 w3.heap.size 64 0 wd5 (.slice A5 l5.length c5) := ⟨_, rfl⟩; rw [← hX1] at R2 RN RV; simp only [putN] at hX1; rw [← hX1]; clear hX1 f0 f1 f2 f3 d0 d1 d2 d3 dl; go_roundg (lt.length - b5)
    case measure => have := HK.out; omega
    case rel => exact ⟨b5, wd5, _, l5, by omega, b5l, ⟨rfl⟩, R2, ⟨RN.out.more (by omega)⟩, RV⟩
   ·have d24 : (q2 == 24) = false := by simp [h24]
    clear h24; go_upto_region 7 with (go_at_call 22; refine HKC.out.mono ?_; rintro e w7 ⟨rfl, hb2⟩; have O2 := zaa.mk (M2.out.below hb2); have ON := zaa.mk (MN.out.below hb2); have OV := zaa.mk (MV.out.below hb2); clear hb2 M2 MN MV HKC)
    obtain ⟨x0, x1, x2, x3⟩ := ON.out.cells; go_wp2_with (go_at_call 55; refine (zbC g A c lt HTO.out ai W.heap.size (oky okx w3.heap.size) w7 64 0 wdi _ li (40 * (ai - a) - 37) 21 (by omega) O2.out.ps ON.out.nv O2.out.fr.size (fun q hq => O2.out.hg q (O2.out.sub q hq)) O2.out.fresh (by have := HLEN.out; omega)).mono ?_; rintro e w8 ⟨b3, b3a, b3l, wd3, u3, l3, rfl, h1, h2, h3, h4⟩; obtain ⟨A3, c3, rfl, _, _⟩ := Kd.zaU h2.row; have hv_ := OV.out.same (O2.out.var OV.out h3 (fun q hq => ON.out.nv.row.1 q hq)); have HEND := zaa.mk ((O2.out.ext ON.out h1 h3).done hv_ h2 (zaQ ON.out.near O2.out.fr.size h4)); obtain ⟨z0, z1, z2, z3, hz_⟩ := hv_.at_; have HZ := zaa.mk hz_; have f0 := zab hz_ 0; have f1 := zab hz_ 1; have f2 := zab hz_ 2; have f3 := zab hz_ 3; obtain ⟨⟨d0, d1, d2, d3⟩, dl⟩ := zaL hz_; clear h1 h2 h3 h4 hv_ hz_ x0 x1 x2 x3)
    refine bodyPost_ret (zaV (r := .cell 2 25) rfl (.cell (W.heap.size) 25 _ (0, 0) _ rfl (zbk HZ.out) Try.underlying25 rfl (by kernel_rfl) .nil)) rfl ?_
    refine ⟨b3, by omega, b3l, ?_⟩
    obtain ⟨wd8, u8, l8, e1, e2, e3, e4, e5⟩ := HEND.out; exact ⟨_, _, wd8, u8, l8, e1, e2, e3.more (by omega), e4⟩
set_option maxHeartbeats 8000000 in
set_option maxRecDepth 100000 in
theorem block_calls (g : Nat) (A : Option Addr) (c : Nat) (lt : List S50) (htk : TkOk lt) (a : Nat) (hbeg : CBegun g A c lt (hd lt a)) (b : Nat) (ok : Nat → Prop) (W : World) (k w wd : Int) (v : Value) (l : List S25) (N : Nat) (hP : PS W g A c lt a) (hN : NV b ok W k w wd v l N) (hb : b ≤ W.heap.size) (hg : ∀ q, ok q → g < q) (hf : ∀ q, W.heap.size ≤ q → ok q) (hs : N + 40 * (lt.length - a) + 10 ≤ 900000) :
  Calls Try.prog 58 #[.pointer (some ⟨g, 0, none⟩), .agg #[.int .u8 k, .int .u8 w, .int .i64 wd, v]] W fun e W' => ∃ a', a ≤ a' ∧ a' ≤ lt.length ∧ Ext g A c lt b ok W k w v.ownBlock a' (N + 40 * (a' - a) + 1) e W' := by
 obtain ⟨AA, cc, rfl, hlc, hC⟩ := Kd.zaU hN.row; have HTO := zaa.mk htk; have HBEG := zaa.mk hbeg; have hle := hP.le; have hge := hd_ge lt a; have HHL := zaa.mk (And.intro hge (hd_le hle)); clear htk hC hbeg; have hu := Try.underlying25; go_enter Try.func58, Try.ntmps58
 go_upto_region 1 with (fail)
 obtain ⟨X, hX⟩ : ∃ X, X = (W.alloc (nodeO k w wd (.slice AA l.length cc))).alloc (nodeO 0 0 0 (.slice none 0 0)) := ⟨_, rfl⟩; obtain ⟨h2, hn, hv⟩ := S2.start hP hN hg hf hX; change Code.wp Try.prog _ _ _ ((W.alloc (nodeO k w wd (.slice AA l.length cc))).alloc (nodeO 0 0 0 (.slice none 0 0)))
 rw [← hX]; generalize okm ok W 2 = okx at h2 hn hv
 have H2 := zaa.mk h2; have HN := zaa.mk hn; have HV := zaa.mk hv; have HBW := zaa.mk hb; clear h2 hn hv hX hP hN hg hf; have HKC := zaa.mk (zbi g A c lt a X H2.out.ps); obtain ⟨q, hq⟩ : ∃ q, q = cu lt a := ⟨_, rfl⟩; rw [← hq] at HKC; have HQ := zaa.mk hq; clear hq; by_cases hqk : q = 22
 case neg =>
  have d0 : (q != 22) = true := by simp [hqk]
  go_upto_region 2 with (go_at_call 22; refine HKC.out.mono ?_; rintro e w2 ⟨rfl, hb2⟩; have I2 := zaa.mk (H2.out.below hb2); have IN := zaa.mk (HN.out.below hb2); have IV := zaa.mk (HV.out.below hb2); clear hb2 H2 HN HV HKC)
  obtain ⟨x0, x1, x2, x3⟩ := IN.out.cells; go_wp2_with (go_at_call 65; refine (zb9 g A c lt a b okx w2 k w wd _ l N 52 (by omega) I2.out.ps IN.out.nv (Nat.le_trans HBW.out I2.out.fr.size) (fun q hq => I2.out.hg q (I2.out.sub q hq)) I2.out.fresh (by omega)).mono ?_; rintro e w3 ⟨wd1, u1, l1, rfl, h1, h2, h3, h4⟩; obtain ⟨A1, c1, rfl, _, _⟩ := Kd.zaU h2.row; have hv_ := IV.out.same (I2.out.var IV.out h3 (fun q hq => IN.out.nv.row.1 q hq)); have HEND := zaa.mk ((I2.out.ext IN.out h1 h3).done hv_ h2 (zaQ IN.out.near I2.out.fr.size h4)); obtain ⟨z0, z1, z2, z3, hz_⟩ := hv_.at_; have HZ := zaa.mk hz_; have f0 := zab hz_ 0; have f1 := zab hz_ 1; have f2 := zab hz_ 2; have f3 := zab hz_ 3; obtain ⟨⟨d0, d1, d2, d3⟩, dl⟩ := zaL hz_; clear h1 h2 h3 h4 hv_ hz_ x0 x1 x2 x3)
  refine bodyPost_ret (zaV (r := .cell 4 25) rfl (.cell (W.heap.size + 1) 25 _ (0, 0) _ rfl (zbk HZ.out) Try.underlying25 rfl (by kernel_rfl) .nil)) rfl ?_
  refine ⟨a, Nat.le_refl _, by omega, ?_⟩
  obtain ⟨wd9, u9, l9, e1, e2, e3, e4, e5⟩ := HEND.out; exact ⟨wd9, u9, l9, e1, e2, e3.more (by omega), e4, e5⟩
 case pos =>
  have d0 : (q != 22) = false := by simp [hqk]
  have HLT := zaa.mk (cu_lt (l := lt) (a := a) (by rw [← HQ.out, hqk]; omega))
  clear hqk; go_upto_region 3 with (go_at_call 22; refine HKC.out.mono ?_; rintro e w2 ⟨rfl, hb2⟩; have I2 := zaa.mk (H2.out.below hb2); have IN := zaa.mk (HN.out.below hb2); have IV := zaa.mk (HV.out.below hb2); clear hb2 H2 HN HV HKC)
  obtain ⟨x0, x1, x2, x3⟩ := IN.out.cells; go_upto_region 4 with (go_at_call 24; refine (zb6 g A c lt HTO.out a b okx w2 k w wd _ l N I2.out.ps IN.out.nv (Nat.le_trans HBW.out I2.out.fr.size) (fun q hq => I2.out.hg q (I2.out.sub q hq)) I2.out.fresh (by have := HHL.out; omega)).mono ?_; rintro e w3 ⟨wd1, u1, l1, rfl, h1, h2, h3, h4⟩; obtain ⟨A1, c1, rfl, _, _⟩ := Kd.zaU h2.row; have hp_ := IN.out.vi.same (I2.out.var IN.out.vi h3 (fun q hq => IN.out.nv.row.1 q hq)); have J2 := zaa.mk ((I2.out.ext IN.out h1 h3).put (k := k) (w := w) (wd := wd1) (u := .slice A1 l1.length c1) hp_); have JN := zaa.mk (NI.put hp_ h2 (zaQ IN.out.near I2.out.fr.size h4)); have hv_ := IV.out.same (I2.out.var IV.out h3 (fun q hq => IN.out.nv.row.1 q hq)); have JV := zaa.mk (hv_.put (p := W.heap.size) (k := k) (w := w) (wd := wd1) (u := .slice A1 l1.length c1) (by omega)); clear hv_; obtain ⟨z0, z1, z2, z3, hz_⟩ := hp_.at_; have f0 := zab hz_ 0; have f1 := zab hz_ 1; have f2 := zab hz_ 2; have f3 := zab hz_ 3; obtain ⟨⟨d0, d1, d2, d3⟩, dl⟩ := zaL hz_; clear h1 h2 h3 h4 hp_ hz_ x0 x1 x2 x3 I2 IN IV)
  obtain ⟨X1, hX1⟩ : ∃ X1, X1 = putN w3 W.heap.size k w wd1 (.slice A1 l1.length c1) := ⟨_, rfl⟩; rw [← hX1] at J2 JN JV; simp only [putN] at hX1; rw [← hX1]; clear hX1 f0 f1 f2 f3 d0 d1 d2 d3 dl; obtain ⟨x0, x1, x2, x3⟩ := JN.out.cells; obtain ⟨N1, hN1⟩ : ∃ N1, N1 = N + (hd lt a - a) := ⟨_, rfl⟩; rw [← hN1] at JN; have HN1 := zaa.mk hN1; clear hN1; go_upto_region 5 with (go_at_call 45; refine (taken_calls g A c lt (hd lt a) b okx X1 k w wd1 _ l1 N1 52 J2.out.ps JN.out.nv (fun q hq => J2.out.hg q (J2.out.sub q hq))).mono ?_; rintro e w4 ⟨rfl, h1, h2, h3⟩; have K2 := zaa.mk (J2.out.ext JN.out h1 h3); have KN := zaa.mk (JN.out.kept (J2.out.var JN.out.vi h3 (fun q hq => JN.out.nv.row.1 q hq)) h2); have KV := zaa.mk (JV.out.same (J2.out.var JV.out h3 (fun q hq => JN.out.nv.row.1 q hq))); clear h1 h2 h3 x0 x1 x2 x3 J2 JN JV)
  have n_ := zaa.mk (K2.out.newv (o := nodeO k w wd1 (.slice A1 l1.length c1))); clear K2; have K2 := n_; clear n_; have n_ := zaa.mk (KN.out.newv (o := nodeO k w wd1 (.slice A1 l1.length c1))); clear KN; have KN := n_; clear n_; have n_ := zaa.mk (KV.out.newv (o := nodeO k w wd1 (.slice A1 l1.length c1))); clear KV; have KV := n_; clear n_; obtain ⟨Y, hX1⟩ : ∃ X1, X1 = w4.alloc (nodeO k w wd1 (.slice A1 l1.length c1)) := ⟨_, rfl⟩; rw [← hX1] at K2 KN KV; change Code.wp Try.prog _ _ _ (w4.alloc (nodeO k w wd1 (.slice A1 l1.length c1)))
  rw [← hX1]; clear hX1; obtain ⟨x0, x1, x2, x3⟩ := KN.out.cells; have HSZ := zaa.mk (show N1 + 40 * (lt.length - hd lt a) ≤ 899990 by have := HN1.out; have := HHL.out; omega)
  go_upto_region 7 with (fail)
  clear x0 x1 x2 x3; have D2 := zaa.mk (K2.out.below (Y := Y.drew) (Below.refl _ _).drew); have DN := zaa.mk (KN.out.below (Y := Y.drew) (Below.refl _ _).drew); have DV := zaa.mk (KV.out.below (Y := Y.drew) (Below.refl _ _).drew); have HS0 := zaa.mk DN.out.cells; clear K2 KN KV; refine wp_region_noPanic (zbS [0, 1, 2, 3] (fun W' => W'.cell? ⟨W.heap.size, 0, none⟩ = some (.int .u8 k) ∧ W'.cell? ⟨W.heap.size, 1, none⟩ = some (.int .u8 w) ∧ W'.cell? ⟨W.heap.size, 2, none⟩ = some (.int .i64 wd1) ∧ W'.cell? ⟨W.heap.size, 3, none⟩ = some (.slice A1 l1.length c1)) (by kernel_rfl) ?_)
  refine zaH (i := 0) (v := ?_) rfl (by kernel_rfl) (by kernel_rfl) (by kernel_rfl) (by kernel_rfl) (fun _ _ _ h => h) (.inl ⟨by rfl, ?_⟩) HS0.out ?_
  rotate_left
  ·(intro W' hW'; obtain ⟨s0, s1, s2, s3⟩ := hW'; go_simp; try rfl)
  simp only [Act.put, zaw]; refine zaH (i := 1) (v := ?_) rfl (by kernel_rfl) (by kernel_rfl) (by kernel_rfl) (by kernel_rfl) (fun _ _ _ h => h) (.inl ⟨by rfl, ?_⟩) HS0.out ?_
  rotate_left
  ·(intro W' hW'; obtain ⟨s0, s1, s2, s3⟩ := hW'; go_simp; try rfl)
  simp only [Act.put, zaw]; refine zba (i := 2) rfl (by kernel_rfl) (fun K hK => ?_)
  go_simp
  refine (HBEG.out Y.drew D2.out.ps (by rw [hd_hd]; exact HLT.out)).mono ?_
  rintro e w5 ⟨a9, hlo, hhi, k9, w9, wd9, u9, l9, rfl, p1, p2, p3⟩
  obtain ⟨kA, kc, rfl, _, _⟩ := Kd.zaU p2.row; have E2 := zaa.mk (D2.out.ret p1 p3); have EN := zaa.mk (NI.ret D2.out DN.out p3); have EV := zaa.mk (VI.ret D2.out DV.out p3); have HKID := zaa.mk (kid_nv (b := b) (okx := (oky okx w4.heap.size)) p2 (Nat.le_trans HBW.out D2.out.fr.size) D2.out.fresh (fun q hq => Kd.N_lt DN.out.nv.row q hq))
  have HS1 := zaa.mk EN.out.cells; clear p1 p2 p3; refine hK.out _ _ (fun _ => HS1.out) (fun _ => ?_)
  clear hK K; try simp only [Act.put, zaw]
  refine zba (i := 3) rfl (by kernel_rfl) (fun K hK => ?_)
  go_simp
  refine (zcd b (oky okx w4.heap.size) w5 k w wd1 _ l1 N1 _ _ _ _ _ _ EN.out.nv (Nat.le_trans HBW.out E2.out.fr.size) E2.out.fresh HKID.out (by have := HSZ.out; omega)).mono ?_
  rintro e w6 ⟨wd6, u6, l6, rfl, h1, h2, h3⟩
  obtain ⟨A6, c6, rfl, _, _⟩ := Kd.zaU h1.row; have F2 := zaa.mk (E2.out.ext EN.out (E2.out.addps EN.out h2) (Fr.za5 h2)); have hv_ := EV.out.same (E2.out.var EV.out (Fr.za5 h2) (fun q hq => EN.out.nv.row.1 q hq))
  have FN := zaa.mk (EN.out.vi.same (E2.out.var EN.out.vi (Fr.za5 h2) (fun q hq => EN.out.nv.row.1 q hq)))
  have HS2 := zaa.mk ((zaL ((E2.out.var EN.out.vi (Fr.za5 h2) (fun q hq => EN.out.nv.row.1 q hq)).trans EN.out.box)).1)
  have HEND := zaa.mk (F2.out.done hv_ h1 (zaQ EN.out.near E2.out.fr.size h3)); obtain ⟨z0, z1, z2, z3, hz_⟩ := hv_.at_; have HZ := zaa.mk hz_; have f0 := zab hz_ 0; have f1 := zab hz_ 1; have f2 := zab hz_ 2; have f3 := zab hz_ 3; obtain ⟨⟨d0, d1, d2, d3⟩, dl⟩ := zaL hz_
  clear h1 h2 h3 hv_ hz_; refine hK.out _ _ (fun _ => HS2.out) (fun _ => ?_)
  clear hK K; try simp only [Act.put, zaw]
  refine zba (i := 4) rfl (by kernel_rfl) (fun K hK => ?_)
  go_simp
  refine hK.out _ _ (fun h => Bool.noConfusion (show false = true from h)) (fun _ => ?_)
  clear hK K; try simp only [Act.put, zaw]
  refine zbJ (by kernel_rfl) (NoPanic.normal ?_) _
  clear d0 d1 d2 d3 dl f0 f1 f2 f3; go_wp2
  refine bodyPost_ret (zaV (r := .cell 4 25) rfl (.cell (W.heap.size + 1) 25 _ (0, 0) _ rfl (zbk HZ.out) Try.underlying25 rfl (by kernel_rfl) .nil)) rfl ?_
  refine ⟨a9, by have := HHL.out; omega, hhi, ?_⟩
  obtain ⟨wd8, u8, l8, e1, e2, e3, e4, e5⟩ := HEND.out; exact ⟨wd8, u8, l8, e1, e2, e3.more (by have := HN1.out; have := HHL.out; omega), e4, e5⟩
set_option maxHeartbeats 8000000 in
set_option maxRecDepth 100000 in
theorem begun_calls (g : Nat) (A : Option Addr) (c : Nat) (lt : List S50) (htk : TkOk lt) (a : Nat) (hexp : ∀ a1, a < a1 → CInner g A c lt a1) (W : World) (hP : PS W g A c lt a) (hlt : hd lt a < lt.length) :
  Calls Try.prog 59 #[.pointer (some ⟨g, 0, none⟩)] W fun e W' => ∃ a', a < a' ∧ a' ≤ lt.length ∧ Ret g A c lt W a' (40 * (a' - a) - 10) e W' := by
 have HTO := zaa.mk htk; have HEXP := zaa.mk hexp; have HLT := zaa.mk hlt; have HLEN := zaa.mk hP.len; clear htk hexp hlt; have hu := Try.underlying25; go_enter Try.func59, Try.ntmps59
 go_upto_region 1 with (fail)
 obtain ⟨X, hX⟩ : ∃ X, X = W.alloc (nodeO 0 0 0 (.slice none 0 0)) := ⟨_, rfl⟩; obtain ⟨h2, hv⟩ := S2.start1 hP hX; change Code.wp Try.prog _ _ _ (W.alloc (nodeO 0 0 0 (.slice none 0 0)))
 rw [← hX]; generalize oky (fun q => W.heap.size ≤ q) W.heap.size = okx at h2 hv
 have I2 := zaa.mk h2; have IV := zaa.mk hv; clear h2 hv hX hP; go_upto_region 2 with (go_at_call 48; refine (zby g A c lt HTO.out a W.heap.size okx X 52 0 0 (.slice none 0 0) [] 1 I2.out.ps (NV.leaf (by omega) (by omega) (by omega) (Nat.le_refl _)) I2.out.fr.size (fun q hq => I2.out.hg q (I2.out.sub q hq)) I2.out.fresh HLT.out (by have := HLEN.out; have := HLT.out; omega)).mono ?_; rintro e w3 ⟨wd1, u1, l1, rfl, h1, h2, h3, h4⟩; obtain ⟨A1, c1, rfl, _, _⟩ := Kd.zaU h2.row; have hs_ := I2.out.ret h1 h3; have J2 := zaa.mk (hs_.newv (o := nodeO 52 0 wd1 (.slice A1 l1.length c1))); have JN := zaa.mk (NI.new_ (W := W) (r := none) hs_.fr.size h2 (zaQ (v := .slice none 0 0) (.inl rfl) I2.out.fr.size h4)); have JV := zaa.mk ((VI.ret I2.out IV.out h3).newv (o := nodeO 52 0 wd1 (.slice A1 l1.length c1))); have HW3_ := zaa.mk (show W.heap.size < w3.heap.size from Nat.lt_of_lt_of_le IV.out.zaB h3.size); clear h1 h2 h3 h4 hs_ I2 IV)
 have HW3 := zaa.mk HW3_.out; clear HW3_; obtain ⟨X1, hX1⟩ : ∃ X1, X1 = w3.alloc (nodeO 52 0 wd1 (.slice A1 l1.length c1)) := ⟨_, rfl⟩; rw [← hX1] at J2 JN JV; change Code.wp Try.prog _ _ _ (w3.alloc (nodeO 52 0 wd1 (.slice A1 l1.length c1)))
 rw [← hX1]; clear hX1; obtain ⟨a1, ha1⟩ : ∃ a1, a1 = hd lt a + 1 := ⟨_, rfl⟩; have hge := hd_ge lt a; have hl1 : a < a1 ∧ a1 ≤ lt.length := ⟨by omega, by have := HLT.out; omega⟩
 obtain ⟨hl1a, hl1b⟩ := hl1; have n_ := zaa.mk (JN.out.more (N' := 40 * (a1 - a) - 38) (by omega))
 rw [← ha1] at J2; clear JN ha1 hge; have JN := n_; clear n_; go_loopg [] (lt.length - a1) (fun kq w' => ∃ (ai : Nat) (wdi : Int) (vi : Value) (li : List S25), a < ai ∧ ai ≤ lt.length ∧ zaa (kq = lt.length - ai) ∧ zaa (S2 g A c lt (fun q => W.heap.size ≤ q) (oky okx w3.heap.size) W none w' ai) ∧ zaa (NI W.heap.size (oky okx w3.heap.size) W none w' w3.heap.size 52 0 wdi vi li (40 * (ai - a) - 38)) ∧ zaa (VI (oky okx w3.heap.size) W w' W.heap.size))
 case atStart => exact ⟨a1, wd1, _, l1, by omega, hl1b, ⟨rfl⟩, J2, JN, JV⟩
 case round =>
  obtain ⟨ai, wdi, vi, li, hai, hail, HK, M2, MN, MV⟩ := hrel; obtain ⟨Ai, ci, rfl, _, _⟩ := Kd.zaU MN.out.nv.row; obtain ⟨q2, hq2⟩ : ∃ q2, q2 = cu lt ai := ⟨_, rfl⟩; have HKF := zaa.mk (fun (X : World) (h : PS X g A c lt ai) => (show Calls Try.prog 22 #[.pointer (some ⟨g, 0, none⟩)] X fun e w' => e = .returned (.int .u8 q2) ∧ Below X.heap.size X w' from by rw [hq2]; exact zbi g A c lt ai X h))
  have HQ2 := zaa.mk hq2; clear hq2; by_cases h23 : q2 = 23
  ·have d23 : (q2 != 23) = false := by simp [h23]
   clear h23; go_upto_region 4 with (go_at_call 22; refine (HKF.out _ M2.out.ps).mono ?_; rintro e w7 ⟨rfl, hb2⟩; have O2 := zaa.mk (M2.out.below hb2); have ON := zaa.mk (MN.out.below hb2); have OV := zaa.mk (MV.out.below hb2); clear hb2 M2 MN MV)
   obtain ⟨x0, x1, x2, x3⟩ := ON.out.cells; go_wp2_with (go_at_call 55; refine (zbC g A c lt HTO.out ai W.heap.size (oky okx w3.heap.size) w7 52 0 wdi _ li (40 * (ai - a) - 38) 23 (by omega) O2.out.ps ON.out.nv O2.out.fr.size (fun q hq => O2.out.hg q (O2.out.sub q hq)) O2.out.fresh (by have := HLEN.out; omega)).mono ?_; rintro e w9 ⟨b3, b3a, b3l, wd3, u3, l3, rfl, h1, h2, h3, h4⟩; obtain ⟨A3, c3, rfl, _, _⟩ := Kd.zaU h2.row; have hv_ := OV.out.same (O2.out.var OV.out h3 (fun q hq => ON.out.nv.row.1 q hq)); have HEND := zaa.mk ((O2.out.ext ON.out h1 h3).done hv_ h2 (zaQ ON.out.near O2.out.fr.size h4)); obtain ⟨z0, z1, z2, z3, hz_⟩ := hv_.at_; have HZ := zaa.mk hz_; have f0 := zab hz_ 0; have f1 := zab hz_ 1; have f2 := zab hz_ 2; have f3 := zab hz_ 3; obtain ⟨⟨d0, d1, d2, d3⟩, dl⟩ := zaL hz_; clear h1 h2 h3 h4 hv_ hz_ x0 x1 x2 x3)
   refine bodyPost_ret (zaV (r := .cell 2 25) rfl (.cell (W.heap.size) 25 _ (0, 0) _ rfl (zbk HZ.out) Try.underlying25 rfl (by kernel_rfl) .nil)) rfl ?_
   refine ⟨b3, by omega, b3l, ?_⟩
   obtain ⟨wd8, u8, l8, e1, e2, e3, e4, e5⟩ := HEND.out; exact ⟨_, _, wd8, u8, l8, e1, e2, e3.more (by omega), e4⟩
  have d23 : (q2 != 23) = true := by simp [h23]
  by_cases h0 : q2 = 0
  ·have d0_ : (q2 != 0) = false := by simp [h0]
   clear h0 h23; go_upto_region 4 with (first | (go_at_call 22; refine (HKF.out _ M2.out.ps).mono ?_; rintro e w7 ⟨rfl, hb2⟩; have O2 := zaa.mk (M2.out.below hb2); have ON := zaa.mk (MN.out.below hb2); have OV := zaa.mk (MV.out.below hb2); clear hb2 M2 MN MV) | (go_at_call 22; refine (HKF.out _ O2.out.ps).mono ?_; rintro e w8 ⟨rfl, hb2⟩; have T2 := zaa.mk (O2.out.below hb2); have TN := zaa.mk (ON.out.below hb2); have TV := zaa.mk (OV.out.below hb2); clear hb2 O2 ON OV))
   obtain ⟨x0, x1, x2, x3⟩ := TN.out.cells; go_wp2_with (go_at_call 55; refine (zbC g A c lt HTO.out ai W.heap.size (oky okx w3.heap.size) w8 52 0 wdi _ li (40 * (ai - a) - 38) 23 (by omega) T2.out.ps TN.out.nv T2.out.fr.size (fun q hq => T2.out.hg q (T2.out.sub q hq)) T2.out.fresh (by have := HLEN.out; omega)).mono ?_; rintro e w9 ⟨b3, b3a, b3l, wd3, u3, l3, rfl, h1, h2, h3, h4⟩; obtain ⟨A3, c3, rfl, _, _⟩ := Kd.zaU h2.row; have hv_ := TV.out.same (T2.out.var TV.out h3 (fun q hq => TN.out.nv.row.1 q hq)); have HEND := zaa.mk ((T2.out.ext TN.out h1 h3).done hv_ h2 (zaQ TN.out.near T2.out.fr.size h4)); obtain ⟨z0, z1, z2, z3, hz_⟩ := hv_.at_; have HZ := zaa.mk hz_; have f0 := zab hz_ 0; have f1 := zab hz_ 1; have f2 := zab hz_ 2; have f3 := zab hz_ 3; obtain ⟨⟨d0, d1, d2, d3⟩, dl⟩ := zaL hz_; clear h1 h2 h3 h4 hv_ hz_ x0 x1 x2 x3)
   refine bodyPost_ret (zaV (r := .cell 2 25) rfl (.cell (W.heap.size) 25 _ (0, 0) _ rfl (zbk HZ.out) Try.underlying25 rfl (by kernel_rfl) .nil)) rfl ?_
   refine ⟨b3, by omega, b3l, ?_⟩
   obtain ⟨wd8, u8, l8, e1, e2, e3, e4, e5⟩ := HEND.out; exact ⟨_, _, wd8, u8, l8, e1, e2, e3.more (by omega), e4⟩
  ·have d0_ : (q2 != 0) = true := by simp [h0]
   have HC0 := zaa.mk (show cu lt ai ≠ 0 by rw [← HQ2.out]; exact h0)
   clear h0 h23; go_upto_region 3 with (first | (go_at_call 22; refine (HKF.out _ M2.out.ps).mono ?_; rintro e w7 ⟨rfl, hb2⟩; have O2 := zaa.mk (M2.out.below hb2); have ON := zaa.mk (MN.out.below hb2); have OV := zaa.mk (MV.out.below hb2); clear hb2 M2 MN MV) | (go_at_call 22; refine (HKF.out _ O2.out.ps).mono ?_; rintro e w8 ⟨rfl, hb2⟩; have T2 := zaa.mk (O2.out.below hb2); have TN := zaa.mk (ON.out.below hb2); have TV := zaa.mk (OV.out.below hb2); clear hb2 O2 ON OV))
   obtain ⟨x0, x1, x2, x3⟩ := TN.out.cells; go_wp2_with (go_at_call 23; refine (HEXP.out ai hai W.heap.size (oky okx w3.heap.size) w8 52 0 wdi _ li (40 * (ai - a) - 38) T2.out.ps TN.out.nv T2.out.fr.size (fun q hq => T2.out.hg q (T2.out.sub q hq)) T2.out.fresh HC0.out (by have := HLEN.out; omega)).mono ?_; rintro e w9 ⟨b5, b5a, b5l, wd5, u5, l5, rfl, h1, h2, h3, h4⟩; obtain ⟨A5, c5, rfl, _, _⟩ := Kd.zaU h2.row; have hp_ := TN.out.vi.same (T2.out.var TN.out.vi h3 (fun q hq => TN.out.nv.row.1 q hq)); have R2 := zaa.mk ((T2.out.ext TN.out h1 h3).put (k := 52) (w := 0) (wd := wd5) (u := .slice A5 l5.length c5) hp_); have RN := zaa.mk (NI.put hp_ h2 (zaQ TN.out.near T2.out.fr.size h4)); have hv_ := TV.out.same (T2.out.var TV.out h3 (fun q hq => TN.out.nv.row.1 q hq)); have RV := zaa.mk (hv_.put (p := w3.heap.size) (k := 52) (w := 0) (wd := wd5) (u := .slice A5 l5.length c5) (fun e_ => by have := HW3.out; omega)); clear hv_; obtain ⟨z0, z1, z2, z3, hz_⟩ := hp_.at_; have f0 := zab hz_ 0; have f1 := zab hz_ 1; have f2 := zab hz_ 2; have f3 := zab hz_ 3; obtain ⟨⟨d0, d1, d2, d3⟩, dl⟩ := zaL hz_; clear h1 h2 h3 h4 hp_ hz_ x0 x1 x2 x3 T2 TN TV)
   obtain ⟨X5, hX1⟩ : ∃ X1, X1 = putN w9 w3.heap.size 52 0 wd5 (.slice A5 l5.length c5) := ⟨_, rfl⟩; rw [← hX1] at R2 RN RV; simp only [putN] at hX1; rw [← hX1]; clear hX1 f0 f1 f2 f3 d0 d1 d2 d3 dl; go_roundg (lt.length - b5)
   case measure => have := HK.out; omega
   case rel => exact ⟨b5, wd5, _, l5, by omega, b5l, ⟨rfl⟩, R2, ⟨RN.out.more (by omega)⟩, RV⟩
set_option maxHeartbeats 8000000 in
set_option maxRecDepth 100000 in
theorem primary_calls (g : Nat) (A : Option Addr) (c : Nat) (lt : List S50) (htk : TkOk lt) (a : Nat) (hexp : ∀ a1, a < a1 → CExpr g A c lt a1) (W : World) (hP : PS W g A c lt a) (hlt : hd lt a < lt.length) :
  Calls Try.prog 73 #[.pointer (some ⟨g, 0, none⟩)] W fun e W' => ∃ a', a < a' ∧ a' ≤ lt.length ∧ Ret g A c lt W a' (40 * (a' - a) - 20) e W' := by
 have HTO := zaa.mk htk; have HEXP := zaa.mk hexp; have HLT := zaa.mk hlt; have HLEN := zaa.mk hP.len; clear htk hexp hlt; have hu := Try.underlying25; go_enter Try.func73, Try.ntmps73
 go_upto_region 1 with (fail)
 obtain ⟨X, hX⟩ : ∃ X, X = W.alloc (nodeO 0 0 0 (.slice none 0 0)) := ⟨_, rfl⟩; obtain ⟨h2, hv⟩ := S2.start1 hP hX; change Code.wp Try.prog _ _ _ (W.alloc (nodeO 0 0 0 (.slice none 0 0)))
 rw [← hX]; generalize oky (fun q => W.heap.size ≤ q) W.heap.size = okx at h2 hv
 have H2 := zaa.mk h2; have HV := zaa.mk hv; clear h2 hv hX hP; have HKC := zaa.mk (zbi g A c lt a X H2.out.ps); obtain ⟨q, hq⟩ : ∃ q, q = cu lt a := ⟨_, rfl⟩; rw [← hq] at HKC; clear hq; by_cases h6 : q = 6
 ·have d6 : (q == 6) = true := by simp [h6]
  clear h6; go_wp2_with (first | (go_at_call 22; refine HKC.out.mono ?_; rintro e w2 ⟨rfl, hb2⟩; have I2 := zaa.mk (H2.out.below hb2); have IV := zaa.mk (HV.out.below hb2); clear hb2 H2 HV HKC) | (go_at_call 48; refine (zby g A c lt HTO.out a W.heap.size okx w2 66 0 0 (.slice none 0 0) [] 1 I2.out.ps (NV.leaf (by omega) (by omega) (by omega) (Nat.le_refl _)) I2.out.fr.size (fun q hq => I2.out.hg q (I2.out.sub q hq)) I2.out.fresh HLT.out (by have := HLEN.out; have := HLT.out; omega)).mono ?_; rintro e w3 ⟨wd1, u1, l1, rfl, h1, h2, h3, h4⟩; obtain ⟨A1, c1, rfl, _, _⟩ := Kd.zaU h2.row; have hv_ := VI.ret I2.out IV.out h3; have HEND := zaa.mk ((I2.out.ret h1 h3).done hv_ h2 (zaQ (v := .slice none 0 0) (.inl rfl) I2.out.fr.size h4)); obtain ⟨z0, z1, z2, z3, hz_⟩ := hv_.at_; have HZ := zaa.mk hz_; have f0 := zab hz_ 0; have f1 := zab hz_ 1; have f2 := zab hz_ 2; have f3 := zab hz_ 3; obtain ⟨⟨d0, d1, d2, d3⟩, dl⟩ := zaL hz_; clear h1 h2 h3 h4 hv_ hz_))
  refine bodyPost_ret (zaV (r := .cell 2 25) rfl (.cell (W.heap.size) 25 _ (0, 0) _ rfl (zbk HZ.out) Try.underlying25 rfl (by kernel_rfl) .nil)) rfl ?_
  refine ⟨hd lt a + 1, by have := hd_ge lt a; omega, by have := HLT.out; omega, ?_⟩
  obtain ⟨wd8, u8, l8, e1, e2, e3, e4, e5⟩ := HEND.out; exact ⟨_, _, wd8, u8, l8, e1, e2, e3.more (by have := hd_ge lt a; omega), e4⟩
 have d6 : (q == 6) = false := by simp [h6]
 by_cases h20 : q = 20
 ·have d20 : (q == 20) = true := by simp [h20]
  clear h6 h20; go_upto_region 6 with (first | (go_at_call 22; refine HKC.out.mono ?_; rintro e w2 ⟨rfl, hb2⟩; have I2 := zaa.mk (H2.out.below hb2); have IV := zaa.mk (HV.out.below hb2); clear hb2 H2 HV HKC) | (go_at_call 48; refine (zby g A c lt HTO.out a W.heap.size okx w2 65 0 0 (.slice none 0 0) [] 1 I2.out.ps (NV.leaf (by omega) (by omega) (by omega) (Nat.le_refl _)) I2.out.fr.size (fun q hq => I2.out.hg q (I2.out.sub q hq)) I2.out.fresh HLT.out (by have := HLEN.out; have := HLT.out; omega)).mono ?_; rintro e w3 ⟨wd1, u1, l1, rfl, h1, h2, h3, h4⟩; obtain ⟨A1, c1, rfl, _, _⟩ := Kd.zaU h2.row; have hs_ := I2.out.ret h1 h3; have J2 := zaa.mk (hs_.newv (o := nodeO 65 0 wd1 (.slice A1 l1.length c1))); have JN := zaa.mk (NI.new_ (W := W) (r := none) hs_.fr.size h2 (zaQ (v := .slice none 0 0) (.inl rfl) I2.out.fr.size h4)); have JV := zaa.mk ((VI.ret I2.out IV.out h3).newv (o := nodeO 65 0 wd1 (.slice A1 l1.length c1))); have HW3_ := zaa.mk (show W.heap.size < w3.heap.size from Nat.lt_of_lt_of_le IV.out.zaB h3.size); clear h1 h2 h3 h4 hs_ I2 IV))
  have HW3 := zaa.mk HW3_.out; clear HW3_; obtain ⟨X1, hX1⟩ : ∃ X1, X1 = w3.alloc (nodeO 65 0 wd1 (.slice A1 l1.length c1)) := ⟨_, rfl⟩; rw [← hX1] at J2 JN JV; change Code.wp Try.prog _ _ _ (w3.alloc (nodeO 65 0 wd1 (.slice A1 l1.length c1)))
  rw [← hX1]; clear hX1; have HNE := zaa.mk (show W.heap.size ≠ w3.heap.size from fun e => by have := JV.out.zaB; have := JN.out.zaB; have h := JV.out.out; have := JN.out.out; exact absurd (HW3.out) (by omega))
  obtain ⟨a1, ha1⟩ : ∃ a1, a1 = hd lt a + 1 := ⟨_, rfl⟩; rw [← ha1] at J2; obtain ⟨N1, hN1⟩ : ∃ N1, N1 = 1 + (a1 - a) := ⟨_, rfl⟩; have HA1 := zaa.mk (show a < a1 ∧ a1 ≤ lt.length from ⟨by have := hd_ge lt a; omega, by have := HLT.out; omega⟩)
  have HN1 := zaa.mk hN1; have e0 : 1 + (hd lt a + 1 - a) = N1 := by omega
  rw [e0] at JN; clear hN1 e0 ha1; obtain ⟨x0, x1, x2, x3⟩ := JN.out.cells; go_upto_region 7 with (go_at_call 56; refine (HEXP.out a1 HA1.out.1 W.heap.size (oky okx w3.heap.size) X1 65 0 wd1 _ l1 N1 J2.out.ps JN.out.nv J2.out.fr.size (fun q hq => J2.out.hg q (J2.out.sub q hq)) J2.out.fresh (by have := HLEN.out; have := HN1.out; have := HA1.out; omega)).mono ?_; rintro e w4 ⟨a2, h2a, h2l, wd2, u2, l2, rfl, h1, h2, h3, h4⟩; obtain ⟨A2, c2, rfl, _, _⟩ := Kd.zaU h2.row; have hp_ := JN.out.vi.same (J2.out.var JN.out.vi h3 (fun q hq => JN.out.nv.row.1 q hq)); have K2 := zaa.mk ((J2.out.ext JN.out h1 h3).put (k := 65) (w := 0) (wd := wd2) (u := .slice A2 l2.length c2) hp_); have KN := zaa.mk (NI.put hp_ h2 (zaQ JN.out.near J2.out.fr.size h4)); have hv_ := JV.out.same (J2.out.var JV.out h3 (fun q hq => JN.out.nv.row.1 q hq)); have KV := zaa.mk (hv_.put (p := w3.heap.size) (k := 65) (w := 0) (wd := wd2) (u := .slice A2 l2.length c2) (fun e_ => by have := HNE.out; omega)); clear hv_; obtain ⟨z0, z1, z2, z3, hz_⟩ := hp_.at_; have f0 := zab hz_ 0; have f1 := zab hz_ 1; have f2 := zab hz_ 2; have f3 := zab hz_ 3; obtain ⟨⟨d0, d1, d2, d3⟩, dl⟩ := zaL hz_; clear h1 h2 h3 h4 hp_ hz_ x0 x1 x2 x3 J2 JN JV)
  obtain ⟨X2, hX2⟩ : ∃ X2, X2 = putN w4 w3.heap.size 65 0 wd2 (.slice A2 l2.length c2) := ⟨_, rfl⟩; rw [← hX2] at K2 KN KV; simp only [putN] at hX2; rw [← hX2]; clear hX2 f0 f1 f2 f3 d0 d1 d2 d3 dl; obtain ⟨x0, x1, x2, x3⟩ := KN.out.cells; go_wp2_with (go_at_call 55; refine (zbC g A c lt HTO.out a2 W.heap.size (oky okx w3.heap.size) X2 65 0 wd2 _ l2 (N1 + 40 * (a2 - a1) + 1) 21 (by omega) K2.out.ps KN.out.nv K2.out.fr.size (fun q hq => K2.out.hg q (K2.out.sub q hq)) K2.out.fresh (by have := HLEN.out; have := HN1.out; have := HA1.out; omega)).mono ?_; rintro e w5 ⟨a3, h3a, h3l, wd3, u3, l3, rfl, h1, h2, h3, h4⟩; obtain ⟨A3, c3, rfl, _, _⟩ := Kd.zaU h2.row; have hv_ := KV.out.same (K2.out.var KV.out h3 (fun q hq => KN.out.nv.row.1 q hq)); have HEND := zaa.mk ((K2.out.ext KN.out h1 h3).done hv_ h2 (zaQ KN.out.near K2.out.fr.size h4)); obtain ⟨z0, z1, z2, z3, hz_⟩ := hv_.at_; have HZ := zaa.mk hz_; have f0 := zab hz_ 0; have f1 := zab hz_ 1; have f2 := zab hz_ 2; have f3 := zab hz_ 3; obtain ⟨⟨d0, d1, d2, d3⟩, dl⟩ := zaL hz_; clear h1 h2 h3 h4 hv_ hz_ x0 x1 x2 x3)
  refine bodyPost_ret (zaV (r := .cell 2 25) rfl (.cell (W.heap.size) 25 _ (0, 0) _ rfl (zbk HZ.out) Try.underlying25 rfl (by kernel_rfl) .nil)) rfl ?_
  refine ⟨a3, by have := HA1.out; omega, h3l, ?_⟩
  obtain ⟨wd8, u8, l8, e1, e2, e3, e4, e5⟩ := HEND.out; exact ⟨_, _, wd8, u8, l8, e1, e2, e3.more (by have := HA1.out; have := HN1.out; omega), e4⟩
 ·have d20 : (q == 20) = false := by simp [h20]
  clear h6 h20; go_wp2_with (first | (go_at_call 22; refine HKC.out.mono ?_; rintro e w2 ⟨rfl, hb2⟩; have I2 := zaa.mk (H2.out.below hb2); have IV := zaa.mk (HV.out.below hb2); clear hb2 H2 HV HKC) | (go_at_call 48; refine (zby g A c lt HTO.out a W.heap.size okx w2 67 0 0 (.slice none 0 0) [] 1 I2.out.ps (NV.leaf (by omega) (by omega) (by omega) (Nat.le_refl _)) I2.out.fr.size (fun q hq => I2.out.hg q (I2.out.sub q hq)) I2.out.fresh HLT.out (by have := HLEN.out; have := HLT.out; omega)).mono ?_; rintro e w3 ⟨wd1, u1, l1, rfl, h1, h2, h3, h4⟩; obtain ⟨A1, c1, rfl, _, _⟩ := Kd.zaU h2.row; have hv_ := VI.ret I2.out IV.out h3; have HEND := zaa.mk ((I2.out.ret h1 h3).done hv_ h2 (zaQ (v := .slice none 0 0) (.inl rfl) I2.out.fr.size h4)); obtain ⟨z0, z1, z2, z3, hz_⟩ := hv_.at_; have HZ := zaa.mk hz_; have f0 := zab hz_ 0; have f1 := zab hz_ 1; have f2 := zab hz_ 2; have f3 := zab hz_ 3; obtain ⟨⟨d0, d1, d2, d3⟩, dl⟩ := zaL hz_; clear h1 h2 h3 h4 hv_ hz_))
  refine bodyPost_ret (zaV (r := .cell 2 25) rfl (.cell (W.heap.size) 25 _ (0, 0) _ rfl (zbk HZ.out) Try.underlying25 rfl (by kernel_rfl) .nil)) rfl ?_
  refine ⟨hd lt a + 1, by have := hd_ge lt a; omega, by have := HLT.out; omega, ?_⟩
  obtain ⟨wd8, u8, l8, e1, e2, e3, e4, e5⟩ := HEND.out; exact ⟨_, _, wd8, u8, l8, e1, e2, e3.more (by have := hd_ge lt a; omega), e4⟩
theorem Ext.more {g : Nat} {A : Option Addr} {c : Nat} {lt : List S50} {b : Nat} {ok : Nat → Prop} {W W' : World} {k w : Int} {r : Option Nat} {a N N' : Nat} {e : Ending} (h : Ext g A c lt b ok W k w r a N e W') (hN : N ≤ N') : Ext g A c lt b ok W k w r a N' e W' := by
 obtain ⟨wd, u, l, h1, h2, h3, h4, h5⟩ := h; exact ⟨wd, u, l, h1, h2, h3.more hN, h4, h5⟩
structure All16 (g : Nat) (A : Option Addr) (c : Nat) (lt : List S50) (a : Nat) : Prop where
 primary : CPrimary g A c lt a
 args : CArgs g A c lt a
 unary : CUnary g A c lt a
 level : ∀ j : Int, 1 ≤ j → j ≤ 6 → CLevel g A c lt a j
 exprS : CExprS g A c lt a
 expr : CExpr g A c lt a
 begun : CBegun g A c lt a
 block : CBlock g A c lt a
 statement : CStatement g A c lt a
 inner : CInner g A c lt a
theorem all16_step (g : Nat) (A : Option Addr) (c : Nat) (lt : List S50) (htk : TkOk lt) (a : Nat) (ih : ∀ a1, a < a1 → All16 g A c lt a1) : All16 g A c lt a := by
 have h1 : CPrimary g A c lt a := fun W hP hlt => primary_calls g A c lt htk a (fun a1 h => (ih a1 h).expr) W hP hlt
 have h2 : CArgs g A c lt a := fun W hP hlt => args_calls g A c lt htk a (fun a1 h => (ih a1 h).expr) W hP hlt
 have h3 : CUnary g A c lt a := fun W hP hlt => unary_calls g A c lt htk a (fun a1 h => (ih a1 h).unary) h1 (fun a1 h => (ih a1 h).args) W hP hlt
 have h6 : CLevel g A c lt a 6 := fun W hP hlt => level6_calls g A c lt htk a h3 W hP hlt
 have down : ∀ j : Int, 1 ≤ j → j ≤ 5 → CLevel g A c lt a (j + 1) → CLevel g A c lt a j := fun j hj1 hj5 h W hP hlt => level_calls g A c lt htk a j hj1 hj5 h (fun a1 h' => (ih a1 h').level (j + 1) (by omega) (by omega)) W hP hlt
 have h5 := down 5 (by omega) (by omega) h6
 have h4 := down 4 (by omega) (by omega) h5
 have h3' := down 3 (by omega) (by omega) h4
 have h2' := down 2 (by omega) (by omega) h3'
 have h1' := down 1 (by omega) (by omega) h2'
 have hL : ∀ j : Int, 1 ≤ j → j ≤ 6 → CLevel g A c lt a j := by
  intro j hj1 hj6
  have : j = 1 ∨ j = 2 ∨ j = 3 ∨ j = 4 ∨ j = 5 ∨ j = 6 := by omega
  rcases this with rfl | rfl | rfl | rfl | rfl | rfl
  ·exact h1'
  ·exact h2'
  ·exact h3'
  ·exact h4
  ·exact h5
  ·exact h6
 have hge := hd_ge lt a; have hLh : CLevel g A c lt (hd lt a) 1 := by
  by_cases e : hd lt a = a
  ·rw [e]; exact h1'
  ·exact (ih _ (by omega)).level 1 (by omega) (by omega)
 have hS : CExprS g A c lt a := fun b ok W k w wd v l N hP hN hb hg hf hs => expression_calls g A c lt htk a hLh b ok W k w wd v l N hP hN hb hg hf hs
 have hE : CExpr g A c lt a := by
  intro b ok W k w wd v l N hP hN hb hg hf hs
  refine (hS b ok W k w wd v l N hP hN hb hg hf hs).mono ?_
  rintro e W' ⟨a', ha, hl, _, hx⟩
  refine ⟨a', ha, hl, hx.more ?_⟩
  split <;> omega
 have hBg : CBegun g A c lt a := fun W hP hlt => begun_calls g A c lt htk a (fun a1 h => (ih a1 h).inner) W hP hlt
 have hBh : CBegun g A c lt (hd lt a) := by
  by_cases e : hd lt a = a
  ·rw [e]; exact hBg
  ·exact (ih _ (by omega)).begun
 have hB : CBlock g A c lt a := fun b ok W k w wd v l N hP hN hb hg hf hs => block_calls g A c lt htk a hBh b ok W k w wd v l N hP hN hb hg hf hs
 have hSt : CStatement g A c lt a := statement_calls g A c lt htk a (fun a1 h => (ih a1 h).expr) hS (fun a1 h => (ih a1 h).block) hBg (fun a1 h => (ih a1 h).statement)
 have hSth : CStatement g A c lt (hd lt a) := by
  by_cases e : hd lt a = a
  ·rw [e]; exact hSt
  ·exact (ih _ (by omega)).statement
 have hI : CInner g A c lt a := fun b ok W k w wd v l N hP hN hb hg hf hcu hs => inner_calls g A c lt htk a hSth b ok W k w wd v l N hP hN hb hg hf hcu hs
 exact ⟨h1, h2, h3, hL, hS, hE, hBg, hB, hSt, hI⟩
theorem all16_far (g : Nat) (A : Option Addr) (c : Nat) (lt : List S50) (a : Nat) (h : lt.length < a) : All16 g A c lt a := by
 have no : ∀ {W : World}, ¬ PS W g A c lt a := fun hP => by have := hP.le; omega
 exact ⟨fun W hP => absurd hP no, fun W hP => absurd hP no, fun W hP => absurd hP no, fun j _ _ W hP => absurd hP no, fun b ok W k w wd v l N hP => absurd hP no, fun b ok W k w wd v l N hP => absurd hP no, fun W hP => absurd hP no, fun b ok W k w wd v l N hP => absurd hP no, fun W hP => absurd hP no, fun b ok W k w wd v l N hP => absurd hP no⟩
theorem all16 (g : Nat) (A : Option Addr) (c : Nat) (lt : List S50) (htk : TkOk lt) : ∀ n a, lt.length + 1 - a ≤ n → All16 g A c lt a
 | 0, a, h => all16_far g A c lt a (by omega)
 | n + 1, a, h => by
  by_cases hl : a ≤ lt.length
  ·exact all16_step g A c lt htk a (fun a1 h1 => all16 g A c lt htk n a1 (by omega))
  ·exact all16_far g A c lt a (by omega)
theorem inner_all (g : Nat) (A : Option Addr) (c : Nat) (lt : List S50) (htk : TkOk lt) (a : Nat) : CInner g A c lt a := (all16 g A c lt htk _ a (Nat.le_refl _)).inner
def Filed (W : World) (v : Value) (W' : World) : Prop :=
 ∃ (k w wd : Int) (u : Value) (l : List S25), v = .agg #[.int .u8 k, .int .u8 w, .int .i64 wd, u] ∧ NV W.heap.size (fun q => W.heap.size ≤ q) W' k w wd u l 900000 ∧ Below W.heap.size W W'
theorem tok_tot (x : Int) : ∃ r, zaZ.f x = some r := by
 unfold zaZ.f
 repeat' split
 all_goals exact ⟨_, rfl⟩
theorem filed {W W2 X : World} {g rx : Nat} {k w wd : Int} {u : Value} {l : List S25} {N b : Nat} {okx : Nat → Prop} (hb : Below W.heap.size W W2) (hF : Fr g none W2 X) (hg : W.heap.size ≤ g) (hrx : W.heap.size ≤ rx) (hN : NV b okx X k w wd u l N) (hbb : W.heap.size ≤ b) (hok : ∀ q, okx q → W.heap.size ≤ q ∧ q ≠ rx) (hNN : N ≤ 900000) : Filed W (.agg #[.int .u8 k, .int .u8 w, .int .i64 wd, u]) (putN X rx k w wd u) := by
 refine ⟨k, w, wd, u, l, rfl, ?_, ?_⟩
 ·have h1 : NV b (fun q => W.heap.size ≤ q) (putN X rx k w wd u) k w wd u l N := (hN.step (fun q hq _ => zbL (hok q hq).2)).mono (fun q hq => (hok q hq).1)
  refine NV.more ⟨?_, h1.kb, h1.wb, h1.lb, h1.wd, h1.size⟩ hNN
  obtain ⟨h2, rows, h3, h4, h5⟩ := h1.row; exact ⟨h2, rows, h3, Kd.zbG h4 hbb, h5⟩
 ·exact ⟨by simp [putN, World.setCell, hF.os, hb.os], by simp [putN, World.setCell, hF.tape, hb.tape], by simp [putN, World.setCell, hF.output, hb.output], by rw [putN_size]; exact Nat.le_trans hb.size hF.size, fun q hq => (zbL (by omega)).trans ((hF.block q (Nat.lt_of_lt_of_le hq hb.size) (by omega) (by simp)).trans (hb.block q hq))⟩
set_option maxHeartbeats 8000000 in
set_option maxRecDepth 100000 in
theorem by_calls (A : Option Addr) (c : Nat) (lt : List S50) (W : World) (hC : Kd.C k50 W A lt.length lt) (hlc : lt.length ≤ c) (hl : lt.length ≤ 3000) (hk : ∀ i : Nat, i < lt.length → 0 ≤ (zbP lt i).f0 ∧ (zbP lt i).f0 ≤ 255) :
  Calls Try.prog 15 #[.slice A lt.length c, .slice none 0 0] W fun e W' => ∃ v p er, e = .returned (.tuple #[v, p, er]) ∧ Filed W v W' := by
 have HC := zaa.mk hC; have HKB := zaa.mk hk; have HLEN := zaa.mk hl; have HLC := zaa.mk hlc; clear hC hk hlc; have hu := Try.underlying25; have h16 : ¬ (16384 : Int) < (lt.length : Int) := by omega
 have h16' : ¬ 16384 < lt.length := by omega
 go_enter Try.func15, Try.ntmps15
 go_upto_region 4 with (fail)
 have HX1 := zaa.mk (show Below W.heap.size W (W.alloc (nodeO 0 0 0 (.slice none 0 0))) from zad (Below.refl _ _) _)
 have HX2 := zaa.mk (heap_alloc_new W (nodeO 0 0 0 (.slice none 0 0))); obtain ⟨X, hX⟩ : ∃ X, X = W.alloc (nodeO 0 0 0 (.slice none 0 0)) := ⟨_, rfl⟩; rw [← hX] at HX1 HX2; change Code.wp Try.prog _ _ _ (W.alloc (nodeO 0 0 0 (.slice none 0 0)))
 rw [← hX]; clear hX h16 h16'; go_loopg [7] lt.length (fun kq v7 w' => ∃ i : Nat, v7 = .int .i64 i ∧ i ≤ lt.length ∧ zaa (kq = lt.length - i) ∧ zaa (Below W.heap.size W w') ∧ zaa (w'.heap[W.heap.size]? = some (nodeO 0 0 0 (.slice none 0 0))) ∧ zaa (∀ j : Nat, j < i → 1 ≤ (zbP lt j).f1 ∧ (zbP lt j).f1 ≤ 67108864))
 case atStart => exact ⟨0, rfl, Nat.zero_le _, ⟨rfl⟩, HX1, HX2, ⟨fun j hj => absurd hj (Nat.not_lt_zero _)⟩⟩
 case round =>
  obtain ⟨i, rfl, hi, HK, HB, HRZ, HG⟩ := hrel; by_cases hlt : i < lt.length
  ·have hC_ := Kd.zbH HC.out HB.out
   obtain ⟨ad, e1, g0, g1, g2⟩ := at_T50 hC_ (i : Int) (by omega) (by omega)
   rw [Int.toNat_natCast] at g0 g1 g2; obtain ⟨z0, hz0⟩ : ∃ z, z = (zbP lt (i : Int)).f0 := ⟨_, rfl⟩; obtain ⟨z1, hz1⟩ : ∃ z, z = (zbP lt (i : Int)).f1 := ⟨_, rfl⟩; have HZ0 := zaa.mk hz0.symm; have HZ1 := zaa.mk hz1.symm; rw [← hz0] at g0; rw [← hz1] at g1; clear hC_ hz0 hz1; subst e1; obtain ⟨tb, htb⟩ := tok_tot z0; have HTK := zaa.mk htb; clear htb; cases tb with
   | false =>
    go_wp2_with (go_at_call 21; refine (zaZ.calls _ _ _ HTK.out).mono ?_; rintro e w5 ⟨rfl, hd2⟩; have HB3 := zaa.mk hd2.below; have HRZ2 := zaa.mk ((hd2.below.block W.heap.size (za9 HRZ.out)).trans HRZ.out); have hF5_ := Kd.zbH HC.out (HB.out.trans (hd2.below.mono HB.out.size)); obtain ⟨ad5, e5, g0, g1, g2⟩ := at_T50 hF5_ (i : Int) (by omega) (by omega); injection e5 with e5; subst e5; rw [Int.toNat_natCast] at g0 g1 g2; rw [HZ1.out] at g1; have f0 := zab HRZ2.out 0; have f1 := zab HRZ2.out 1; have f2 := zab HRZ2.out 2; have f3 := zab HRZ2.out 3; obtain ⟨⟨d0, d1, d2, d3⟩, dl⟩ := zaL HRZ2.out; clear hd2 hF5_)
    refine bodyPost_ret (results_ctt rfl _ _ W.heap.size 25 _ (0, 0) _ rfl (zbk HRZ2.out) Try.underlying25 rfl (by kernel_rfl)) rfl ?_
    exact ⟨_, _, _, rfl, filed (W2 := wr) (g := W.heap.size) HB.out (Fr.of_below HB3.out) (Nat.le_refl _) (Nat.le_refl _) (NV.leaf (b := W.heap.size) (ok := fun q => W.heap.size < q) (k := 0) (w := 0) (wd := 0) (N := 1) (by omega) (by omega) (by omega) (Nat.le_refl _)) (Nat.le_refl _) (fun q hq => ⟨by omega, by omega⟩) (by omega)⟩
   | true =>
    by_cases h1 : z1 < 1
    ·have h1_ : decide (z1 < 1) = true := by simpa using h1
     go_wp2_with (go_at_call 21; refine (zaZ.calls _ _ _ HTK.out).mono ?_; rintro e w5 ⟨rfl, hd2⟩; have HB3 := zaa.mk hd2.below; have HRZ2 := zaa.mk ((hd2.below.block W.heap.size (za9 HRZ.out)).trans HRZ.out); have hF5_ := Kd.zbH HC.out (HB.out.trans (hd2.below.mono HB.out.size)); obtain ⟨ad5, e5, g0, g1, g2⟩ := at_T50 hF5_ (i : Int) (by omega) (by omega); injection e5 with e5; subst e5; rw [Int.toNat_natCast] at g0 g1 g2; rw [HZ1.out] at g1; have f0 := zab HRZ2.out 0; have f1 := zab HRZ2.out 1; have f2 := zab HRZ2.out 2; have f3 := zab HRZ2.out 3; obtain ⟨⟨d0, d1, d2, d3⟩, dl⟩ := zaL HRZ2.out; clear hd2 hF5_)
     refine bodyPost_ret (results_ctt rfl _ _ W.heap.size 25 _ (0, 0) _ rfl (zbk HRZ2.out) Try.underlying25 rfl (by kernel_rfl)) rfl ?_
     exact ⟨_, _, _, rfl, filed (W2 := wr) (g := W.heap.size) HB.out (Fr.of_below HB3.out) (Nat.le_refl _) (Nat.le_refl _) (NV.leaf (b := W.heap.size) (ok := fun q => W.heap.size < q) (k := 0) (w := 0) (wd := 0) (N := 1) (by omega) (by omega) (by omega) (Nat.le_refl _)) (Nat.le_refl _) (fun q hq => ⟨by omega, by omega⟩) (by omega)⟩
    ·have h1_ : decide (z1 < 1) = false := by simpa using h1
     by_cases h2 : 67108864 < z1
     ·have h2_ : decide (67108864 < z1) = true := by simpa using h2
      go_wp2_with (go_at_call 21; refine (zaZ.calls _ _ _ HTK.out).mono ?_; rintro e w5 ⟨rfl, hd2⟩; have HB3 := zaa.mk hd2.below; have HRZ2 := zaa.mk ((hd2.below.block W.heap.size (za9 HRZ.out)).trans HRZ.out); have hF5_ := Kd.zbH HC.out (HB.out.trans (hd2.below.mono HB.out.size)); obtain ⟨ad5, e5, g0, g1, g2⟩ := at_T50 hF5_ (i : Int) (by omega) (by omega); injection e5 with e5; subst e5; rw [Int.toNat_natCast] at g0 g1 g2; rw [HZ1.out] at g1; have f0 := zab HRZ2.out 0; have f1 := zab HRZ2.out 1; have f2 := zab HRZ2.out 2; have f3 := zab HRZ2.out 3; obtain ⟨⟨d0, d1, d2, d3⟩, dl⟩ := zaL HRZ2.out; clear hd2 hF5_)
      refine bodyPost_ret (results_ctt rfl _ _ W.heap.size 25 _ (0, 0) _ rfl (zbk HRZ2.out) Try.underlying25 rfl (by kernel_rfl)) rfl ?_
      exact ⟨_, _, _, rfl, filed (W2 := wr) (g := W.heap.size) HB.out (Fr.of_below HB3.out) (Nat.le_refl _) (Nat.le_refl _) (NV.leaf (b := W.heap.size) (ok := fun q => W.heap.size < q) (k := 0) (w := 0) (wd := 0) (N := 1) (by omega) (by omega) (by omega) (Nat.le_refl _)) (Nat.le_refl _) (fun q hq => ⟨by omega, by omega⟩) (by omega)⟩
     ·have h2_ : decide (67108864 < z1) = false := by simpa using h2
      have HG2 := zaa.mk (show ∀ j : Nat, j < i + 1 → 1 ≤ (zbP lt j).f1 ∧ (zbP lt j).f1 ≤ 67108864 from fun j hj => by
       by_cases e : j = i
       ·subst e; rw [HZ1.out]; omega
       ·exact HG.out j (by omega))
      clear h1 h2; go_wp2_with (go_at_call 21; refine (zaZ.calls _ _ _ HTK.out).mono ?_; rintro e w5 ⟨rfl, hd2⟩; have HB3 := zaa.mk hd2.below; have HRZ2 := zaa.mk ((hd2.below.block W.heap.size (za9 HRZ.out)).trans HRZ.out); have hF5_ := Kd.zbH HC.out (HB.out.trans (hd2.below.mono HB.out.size)); obtain ⟨ad5, e5, g0, g1, g2⟩ := at_T50 hF5_ (i : Int) (by omega) (by omega); injection e5 with e5; subst e5; rw [Int.toNat_natCast] at g0 g1 g2; rw [HZ1.out] at g1; skip; clear hd2 hF5_)
      go_roundg (lt.length - (i + 1))
      case measure => have := HK.out; omega
      case rel => exact ⟨i + 1, by go_num, by omega, ⟨rfl⟩, ⟨HB.out.trans (HB3.out.mono HB.out.size)⟩, HRZ2, HG2⟩
  ·have hie : i = lt.length := by omega
   subst hie; have HTO := zaa.mk (show TkOk lt from fun j hj => ⟨HKB.out j hj, by have := HG.out j hj; omega⟩)
   clear HK HG hlt hi; go_upto_region 9 with (fail)
   obtain ⟨g, hg⟩ : ∃ g, g = wr.heap.size := ⟨_, rfl⟩; have HGW := zaa.mk (show W.heap.size < g by rw [hg]; exact za9 HRZ.out)
   obtain ⟨W2, hW2⟩ : ∃ W2, W2 = wr.alloc (.cells #[.slice A lt.length c, .int .i64 0, .slice none 0 0, .int .i64 0, .int .i64 0] 67) := ⟨_, rfl⟩; have hb2 : Below wr.heap.size wr W2 := by rw [hW2]; exact zad (Below.refl _ _) _
   have hs2 : W2.heap.size = g + 1 := by rw [hW2, hg]; exact zbZ _ _
   have hPg : W2.heap[g]? = some (.cells #[.slice A lt.length c, .int .i64 0, .slice none 0 0, .int .i64 0, .int .i64 0] 67 (0, 0)) := by rw [hW2, hg]; exact heap_alloc_new _ _
   have hP : PS W2 g A c lt 0 := ⟨⟨0, 0, hPg⟩, HLC.out, hl, Kd.F_below (by rw [hg]; exact Kd.C_F k50_heap (Kd.zbH HC.out HB.out)) hb2, Nat.zero_le _⟩
   have HP := zaa.mk hP; have HS2 := zaa.mk hs2; have HBB := zaa.mk (HB.out.trans (hb2.mono HB.out.size)); have HRZ2 := zaa.mk ((hb2.block W.heap.size (za9 HRZ.out)).trans HRZ.out); rw [← hg]; change Code.wp Try.prog _ _ _ (wr.alloc (.cells #[.slice A lt.length c, .int .i64 0, .slice none 0 0, .int .i64 0, .int .i64 0] 67))
   rw [← hW2]; clear hPg hP hb2 hs2 hW2 hg HB HRZ; go_upto_region 10 with (fail)
   have M2_ := zaa.mk (S2.startv (o := nodeO 51 0 0 (.slice none 0 0)) HP.out); have MN_ := zaa.mk (NI.new_ (b := W2.heap.size) (okx := fun q => W2.heap.size ≤ q) (W := W2) (r := none) (X := W2) (N := 1) (Nat.le_refl _) (NV.leaf (k := 51) (w := 0) (wd := 0) (by omega) (by omega) (by omega) (Nat.le_refl _)) (.inl rfl))
   obtain ⟨Z, hZ⟩ : ∃ Z, Z = W2.alloc (nodeO 51 0 0 (.slice none 0 0)) := ⟨_, rfl⟩; rw [← hZ] at M2_ MN_; change Code.wp Try.prog _ _ _ (W2.alloc (nodeO 51 0 0 (.slice none 0 0)))
   rw [← hZ]; clear hZ; go_loopg [] lt.length (fun kq w' => ∃ (ai : Nat) (wdi : Int) (vi : Value) (li : List S25), ai ≤ lt.length ∧ zaa (kq = lt.length - ai) ∧ zaa (S2 g A c lt (fun q => W2.heap.size ≤ q) (oky (fun q => W2.heap.size ≤ q) W2.heap.size) W2 none w' ai) ∧ zaa (NI W2.heap.size (oky (fun q => W2.heap.size ≤ q) W2.heap.size) W2 none w' W2.heap.size 51 0 wdi vi li (1 + 40 * ai)))
   case atStart => exact ⟨0, 0, _, _, Nat.zero_le _, ⟨rfl⟩, M2_, MN_⟩
   case round =>
    obtain ⟨ai, wdi, vi, li, hail, HK, M2, MN⟩ := hrel; obtain ⟨Ai, ci, rfl, _, _⟩ := Kd.zaU MN.out.nv.row; have HKC := zaa.mk (zbi g A c lt ai wr M2.out.ps); obtain ⟨q1, hq1⟩ : ∃ q1, q1 = cu lt ai := ⟨_, rfl⟩; rw [← hq1] at HKC; have HQ1 := zaa.mk hq1; clear hq1; by_cases h0 : q1 = 0
    case neg =>
     have d0 : (q1 != 0) = true := by simp [h0]
     have HC0 := zaa.mk (show cu lt ai ≠ 0 by rw [← HQ1.out]; exact h0)
     clear h0; go_upto_region 11 with (go_at_call 22; refine HKC.out.mono ?_; rintro e w7 ⟨rfl, hb2⟩; have O2 := zaa.mk (M2.out.below hb2); have ON := zaa.mk (MN.out.below hb2); clear hb2 M2 MN HKC)
     obtain ⟨x0, x1, x2, x3⟩ := ON.out.cells; go_wp2_with (go_at_call 23; refine (inner_all g A c lt HTO.out ai W2.heap.size (oky (fun q => W2.heap.size ≤ q) W2.heap.size) w7 51 0 wdi _ li (1 + 40 * ai) O2.out.ps ON.out.nv O2.out.fr.size (fun q hq => O2.out.hg q (O2.out.sub q hq)) O2.out.fresh HC0.out (by have := HLEN.out; omega)).mono ?_; rintro e w8 ⟨b4, b4a, b4l, wd4, u4, l4, rfl, h1, h2, h3, h4⟩; obtain ⟨A4, c4, rfl, _, _⟩ := Kd.zaU h2.row; have hp_ := ON.out.vi.same (O2.out.var ON.out.vi h3 (fun q hq => ON.out.nv.row.1 q hq)); have Q2 := zaa.mk ((O2.out.ext ON.out h1 h3).put (k := 51) (w := 0) (wd := wd4) (u := .slice A4 l4.length c4) hp_); have QN := zaa.mk (NI.put hp_ h2 (zaQ ON.out.near O2.out.fr.size h4)); obtain ⟨z0, z1, z2, z3, hz_⟩ := hp_.at_; have f0 := zab hz_ 0; have f1 := zab hz_ 1; have f2 := zab hz_ 2; have f3 := zab hz_ 3; obtain ⟨⟨d0, d1, d2, d3⟩, dl⟩ := zaL hz_; clear h1 h2 h3 h4 hp_ hz_ x0 x1 x2 x3 O2 ON )
     obtain ⟨X4, hX1⟩ : ∃ X1, X1 = putN w8 W2.heap.size 51 0 wd4 (.slice A4 l4.length c4) := ⟨_, rfl⟩; rw [← hX1] at Q2 QN; simp only [putN] at hX1; rw [← hX1]; clear hX1 f0 f1 f2 f3 d0 d1 d2 d3 dl; go_roundg (lt.length - b4)
     case measure => have := HK.out; omega
     case rel => exact ⟨b4, wd4, _, l4, b4l, ⟨rfl⟩, Q2, ⟨QN.out.more (by omega)⟩⟩
    case pos =>
     have d0 : (q1 != 0) = false := by simp [h0]
     clear h0; go_upto_region 12 with (go_at_call 22; refine HKC.out.mono ?_; rintro e w7 ⟨rfl, hb2⟩; have O2 := zaa.mk (M2.out.below hb2); have ON := zaa.mk (MN.out.below hb2); clear hb2 M2 MN HKC)
     obtain ⟨x0, x1, x2, x3⟩ := ON.out.cells; go_upto_region 13 with (go_at_call 24; refine (zb6 g A c lt HTO.out ai W2.heap.size (oky (fun q => W2.heap.size ≤ q) W2.heap.size) w7 51 0 wdi _ li (1 + 40 * ai) O2.out.ps ON.out.nv O2.out.fr.size (fun q hq => O2.out.hg q (O2.out.sub q hq)) O2.out.fresh (by have := HLEN.out; have := hd_le O2.out.ps.le; omega)).mono ?_; rintro e w8 ⟨wd5, u5, l5, rfl, h1, h2, h3, h4⟩; obtain ⟨A5, c5, rfl, _, _⟩ := Kd.zaU h2.row; have hp_ := ON.out.vi.same (O2.out.var ON.out.vi h3 (fun q hq => ON.out.nv.row.1 q hq)); have Q2 := zaa.mk ((O2.out.ext ON.out h1 h3).put (k := 51) (w := 0) (wd := wd5) (u := .slice A5 l5.length c5) hp_); have QN := zaa.mk (NI.put hp_ h2 (zaQ ON.out.near O2.out.fr.size h4)); obtain ⟨z0, z1, z2, z3, hz_⟩ := hp_.at_; have f0 := zab hz_ 0; have f1 := zab hz_ 1; have f2 := zab hz_ 2; have f3 := zab hz_ 3; obtain ⟨⟨d0, d1, d2, d3⟩, dl⟩ := zaL hz_; clear h1 h2 h3 h4 hp_ hz_ x0 x1 x2 x3 O2 ON )
     obtain ⟨X5, hX1⟩ : ∃ X1, X1 = putN w8 W2.heap.size 51 0 wd5 (.slice A5 l5.length c5) := ⟨_, rfl⟩; rw [← hX1] at Q2 QN; simp only [putN] at hX1; rw [← hX1]; clear hX1 f0 f1 f2 f3 d0 d1 d2 d3 dl; have HHI := zaa.mk (hd_le hail); have HRW := zaa.mk ((Q2.out.fr.block W.heap.size (by have := HS2.out; have := HGW.out; omega) (by have := HGW.out; omega) (by simp)).trans HRZ2.out)
     obtain ⟨sk5, pt5, hblk⟩ := Q2.out.ps.blk; have c4 := zaf hblk 4; simp at c4; have HS0 := zaa.mk (show X5.drew.cell? ⟨W2.heap.size, 0, none⟩ = some (.int .u8 51) ∧ X5.drew.cell? ⟨W2.heap.size, 1, none⟩ = some (.int .u8 0) ∧ X5.drew.cell? ⟨W2.heap.size, 2, none⟩ = some (.int .i64 wd5) ∧ X5.drew.cell? ⟨W2.heap.size, 3, none⟩ = some (.slice A5 l5.length c5) ∧ X5.drew.cell? ⟨g, 4, none⟩ = some (.int .i64 pt5) from ⟨QN.out.cells.1, QN.out.cells.2.1, QN.out.cells.2.2.1, QN.out.cells.2.2.2, c4⟩)
     have HEND := zaa.mk (filed (W := W) (W2 := W2) (X := X5.drew) (g := g) (rx := W.heap.size) (N := 200000) HBB.out (Q2.out.fr.trans (r' := none) (Fr.of_below (Below.refl _ _).drew) (fun q hq => by cases hq)) (Nat.le_of_lt HGW.out) (Nat.le_refl _) ((QN.out.below (Y := X5.drew) (Below.refl _ _).drew).nv.more (by have := HHI.out; have := HLEN.out; omega)) (by have := HS2.out; have := HGW.out; omega) (fun q hq => by have := hq.1; have := HS2.out; have := HGW.out; exact ⟨by omega, by omega⟩) (by omega))
     have HZ := zaa.mk (show X5.drew.heap[W.heap.size]? = some (nodeO 0 0 0 (.slice none 0 0)) from HRW.out)
     have HS1 := zaa.mk (show ∀ (k_ w_ wd_ : Int) (v_ : Value), (putN X5 W.heap.size k_ w_ wd_ v_).cell? ⟨W2.heap.size, 0, none⟩ = some (.int .u8 51) ∧ (putN X5 W.heap.size k_ w_ wd_ v_).cell? ⟨W2.heap.size, 1, none⟩ = some (.int .u8 0) ∧ (putN X5 W.heap.size k_ w_ wd_ v_).cell? ⟨W2.heap.size, 2, none⟩ = some (.int .i64 wd5) ∧ (putN X5 W.heap.size k_ w_ wd_ v_).cell? ⟨W2.heap.size, 3, none⟩ = some (.slice A5 l5.length c5) ∧ (putN X5 W.heap.size k_ w_ wd_ v_).cell? ⟨g, 4, none⟩ = some (.int .i64 pt5) from fun k_ w_ wd_ v_ => by
      have h1 := (zaL ((zbL (k := k_) (w := w_) (wd := wd_) (v := v_) (by have := HS2.out; have := HGW.out; omega : W2.heap.size ≠ W.heap.size)).trans QN.out.box)).1
      have h2 := zaf ((zbL (k := k_) (w := w_) (wd := wd_) (v := v_) (by have := HGW.out; omega : g ≠ W.heap.size)).trans hblk) 4
      simp at h2; exact ⟨h1.1, h1.2.1, h1.2.2.1, h1.2.2.2, h2⟩)
     clear c4 Q2 QN hblk; refine wp_region_noPanic (zbS [0, 1, 2, 3, 4, 5, 6, 7] (fun W' => W'.cell? ⟨W2.heap.size, 0, none⟩ = some (.int .u8 51) ∧ W'.cell? ⟨W2.heap.size, 1, none⟩ = some (.int .u8 0) ∧ W'.cell? ⟨W2.heap.size, 2, none⟩ = some (.int .i64 wd5) ∧ W'.cell? ⟨W2.heap.size, 3, none⟩ = some (.slice A5 l5.length c5) ∧ W'.cell? ⟨g, 4, none⟩ = some (.int .i64 pt5)) (by kernel_rfl) ?_)
     refine zaH (i := 0) (v := ?_) rfl (by kernel_rfl) (by kernel_rfl) (by kernel_rfl) (by kernel_rfl) (fun _ _ _ h => h) (.inl ⟨by rfl, ?_⟩) HS0.out ?_
     rotate_left
     ·(intro W' hW'; obtain ⟨s0, s1, s2, s3, s4⟩ := hW'; go_simp; try rfl)
     simp only [Act.put, zaw]; refine zaH (i := 1) (v := ?_) rfl (by kernel_rfl) (by kernel_rfl) (by kernel_rfl) (by kernel_rfl) (fun _ _ _ h => h) (.inl ⟨by rfl, ?_⟩) HS0.out ?_
     rotate_left
     ·(intro W' hW'; obtain ⟨s0, s1, s2, s3, s4⟩ := hW'; go_simp; try rfl)
     simp only [Act.put, zaw]; refine zaH (i := 2) (v := ?_) rfl (by kernel_rfl) (by kernel_rfl) (by kernel_rfl) (by kernel_rfl) (fun _ _ _ h => h) (.inl ⟨by rfl, ?_⟩) HS0.out ?_
     rotate_left
     ·(intro W' hW'; obtain ⟨s0, s1, s2, s3, s4⟩ := hW'; go_simp; try rfl)
     simp only [Act.put, zaw]; refine zaH (i := 3) (v := ?_) rfl (by kernel_rfl) (by kernel_rfl) (by kernel_rfl) (by kernel_rfl) (fun _ _ _ h => h) (.inl ⟨by rfl, ?_⟩) HS0.out ?_
     rotate_left
     ·(intro W' hW'; obtain ⟨s0, s1, s2, s3, s4⟩ := hW'; go_simp; try rfl)
     simp only [Act.put, zaw]; refine zaH (i := 4) (v := ?_) rfl (by kernel_rfl) (by kernel_rfl) (by kernel_rfl) (by kernel_rfl) (fun _ _ _ h => h) (.inl ⟨by rfl, ?_⟩) HS0.out ?_
     rotate_left
     ·(intro W' hW'; obtain ⟨s0, s1, s2, s3, s4⟩ := hW'; go_simp; try rfl)
     simp only [Act.put, zaw]; have f0 := zab HRW.out 0; have f1 := zab HRW.out 1; have f2 := zab HRW.out 2; have f3 := zab HRW.out 3; obtain ⟨⟨d0, d1, d2, d3⟩, dl⟩ := zaL HRW.out
     refine zba (i := 5) rfl (by kernel_rfl) (fun K hK => ?_)
     go_simp
     refine hK.out _ _ (fun _ => HS1.out 51 0 wd5 (.slice A5 l5.length c5)) (fun _ => ?_)
     clear hK K; obtain ⟨X6, hX6⟩ : ∃ X6, X6 = putN X5 W.heap.size 51 0 wd5 (.slice A5 l5.length c5) := ⟨_, rfl⟩; have HS2_ := zaa.mk (HS1.out 51 0 wd5 (.slice A5 l5.length c5)); have HZ6 := zaa.mk (zbk (k := 51) (w := 0) (wd := wd5) (v := .slice A5 l5.length c5) HRW.out); have HE6 := zaa.mk (show Filed W (.agg #[.int .u8 51, .int .u8 0, .int .i64 wd5, .slice A5 l5.length c5]) (putN X5 W.heap.size 51 0 wd5 (.slice A5 l5.length c5)).drew from HEND.out)
     rw [← hX6] at HS2_ HZ6 HE6; simp only [putN] at hX6; rw [← hX6]; clear hX6 HEND; clear f0 f1 f2 f3 d0 d1 d2 d3 dl; try simp only [Act.put, zaw]
     refine zaH (i := 6) (v := ?_) rfl (by kernel_rfl) (by kernel_rfl) (by kernel_rfl) (by kernel_rfl) (fun _ _ _ h => h) (.inl ⟨by rfl, ?_⟩) HS2_.out ?_
     rotate_left
     ·(intro W' hW'; obtain ⟨s0, s1, s2, s3, s4⟩ := hW'; go_simp; try rfl)
     simp only [Act.put, zaw]; refine zaH (i := 7) (v := ?_) rfl (by kernel_rfl) (by kernel_rfl) (by kernel_rfl) (by kernel_rfl) (fun _ _ _ h => h) (.inl ⟨by rfl, ?_⟩) HS2_.out ?_
     rotate_left
     ·(intro W' hW'; obtain ⟨s0, s1, s2, s3, s4⟩ := hW'; go_simp; try rfl)
     simp only [Act.put, zaw]; refine zbJ (by kernel_rfl) (NoPanic.normal ?_) _
     go_wp2
     refine bodyPost_ret (results_ctt rfl _ _ W.heap.size 25 _ (0, 0) _ rfl HZ6.out Try.underlying25 rfl (by kernel_rfl)) rfl ?_
     exact ⟨_, _, _, rfl, HE6.out⟩
set_option maxHeartbeats 8000000 in
set_option maxRecDepth 100000 in
theorem file_calls (A : Option Addr) (c : Nat) (lt : List S50) (W : World) (hC : Kd.C k50 W A lt.length lt) (hlc : lt.length ≤ c) (hl : lt.length ≤ 3000) (hk : ∀ i : Nat, i < lt.length → 0 ≤ (zbP lt i).f0 ∧ (zbP lt i).f0 ≤ 255) :
  Calls Try.prog 7 #[.slice A lt.length c] W fun e W' => ∃ v er, e = .returned (.tuple #[v, er]) ∧ Filed W v W' := by
 have HC := zaa.mk hC; have HKB := zaa.mk hk; have HLC := zaa.mk hlc; clear hC hk hlc; have hu := Try.underlying25; go_enter Try.func7, Try.ntmps7
 go_upto_region 1 with (fail)
 have HX1 := zaa.mk (show Below W.heap.size W (W.alloc (nodeO 0 0 0 (.slice none 0 0))) from zad (Below.refl _ _) _)
 have HX2 := zaa.mk (heap_alloc_new W (nodeO 0 0 0 (.slice none 0 0))); have HX3 := zaa.mk (zbZ W (nodeO 0 0 0 (.slice none 0 0))); obtain ⟨X, hX⟩ : ∃ X, X = W.alloc (nodeO 0 0 0 (.slice none 0 0)) := ⟨_, rfl⟩; rw [← hX] at HX1 HX2 HX3; change Code.wp Try.prog _ _ _ (W.alloc (nodeO 0 0 0 (.slice none 0 0)))
 rw [← hX]; clear hX; go_upto_region 2 with (go_at_call 15; refine (by_calls A c lt X (Kd.zbH HC.out HX1.out) HLC.out hl HKB.out).mono ?_; rintro e w2 ⟨v, p, er, rfl, k, w, wd, u, l, rfl, hN, hB⟩; obtain ⟨A2, c2, rfl, _, _⟩ := Kd.zaU hN.row; have HN := zaa.mk hN; have HB := zaa.mk hB; clear hN hB)
 have hb3 : Below w2.heap.size w2 (w2.alloc (nodeO k w wd (.slice A2 l.length c2))) := zad (Below.refl _ _) _; have HN3 := zaa.mk (HN.out.step (fun q _ hq => hb3.block q hq))
 have HB3 := zaa.mk (HB.out.trans (hb3.mono HB.out.size)); have hv := heap_alloc_new w2 (nodeO k w wd (.slice A2 l.length c2)); obtain ⟨x0, x1, x2, x3⟩ := (zaL hv).1; have HZ := zaa.mk ((HB3.out.block W.heap.size (za9 HX2.out)).trans HX2.out); obtain ⟨Y, hY⟩ : ∃ Y, Y = w2.alloc (nodeO k w wd (.slice A2 l.length c2)) := ⟨_, rfl⟩; rw [← hY] at HN3 HB3 HZ x0 x1 x2 x3; change Code.wp Try.prog _ _ _ (w2.alloc (nodeO k w wd (.slice A2 l.length c2)))
 rw [← hY]; clear hY hv hb3 HN HB; have f0 := zab HZ.out 0; have f1 := zab HZ.out 1; have f2 := zab HZ.out 2; have f3 := zab HZ.out 3; obtain ⟨⟨d0, d1, d2, d3⟩, dl⟩ := zaL HZ.out
 have HEND := zaa.mk (filed (W := W) (W2 := X) (X := Y) (g := W.heap.size) (rx := W.heap.size) HX1.out (Fr.of_below HB3.out) (Nat.le_refl _) (Nat.le_refl _) HN3.out (by have := HX3.out; omega) (fun q hq => by have := HX3.out; exact ⟨by omega, by omega⟩) (Nat.le_refl _))
 go_wp2
 refine bodyPost_ret (results_ct rfl _ _ W.heap.size 25 _ (0, 0) _ rfl (zbk HZ.out) Try.underlying25 rfl (by kernel_rfl)) rfl ?_
 exact ⟨_, _, rfl, HEND.out⟩
section
attribute [local go_sem] zbq zbo zbx zbw zbg zbf zbp zbn
def zay.l0 : Nat → List (S44) → List (S58) → Int → Option ((List (S44)))
 | 0, _, _, _ => none
 | k + 1, x3, x4, x5 => if x5 < (x4.length : Int) then (if 0 ≤ x5 then (if ((zaJ x4 x5).f0.f0) = 50 then (if x3.length < 5864062014805 then (zay.l0 k (x3 ++ [(⟨(⟨(zaJ x4 x5).f1.f0, (zaJ x4 x5).f1.f1⟩ : S42), (zaJ x4 x5).f0.f0, (zaJ x4 x5).f0.f1⟩ : S44)]) x4 (wrap64 (x5 + 1))) else (none)) else (if ((zaJ x4 x5).f0.f0) = 68 then (if x3.length < 5864062014805 then (zay.l0 k (x3 ++ [(⟨(⟨(zaJ x4 x5).f1.f0, (zaJ x4 x5).f1.f1⟩ : S42), (zaJ x4 x5).f0.f0, (zaJ x4 x5).f0.f1⟩ : S44)]) x4 (wrap64 (x5 + 1))) else (none)) else (if ((zaJ x4 x5).f0.f0) = 5 then (if x3.length < 5864062014805 then (zay.l0 k (x3 ++ [(⟨(⟨(zaJ x4 x5).f1.f0, (zaJ x4 x5).f1.f1⟩ : S42), (zaJ x4 x5).f0.f0, (zaJ x4 x5).f0.f1⟩ : S44)]) x4 (wrap64 (x5 + 1))) else (none)) else (if ((zaJ x4 x5).f0.f0) = 9 then (if x3.length < 5864062014805 then (zay.l0 k (x3 ++ [(⟨(⟨(zaJ x4 x5).f1.f0, (zaJ x4 x5).f1.f1⟩ : S42), (zaJ x4 x5).f0.f0, (zaJ x4 x5).f0.f1⟩ : S44)]) x4 (wrap64 (x5 + 1))) else (none)) else (if ((zaJ x4 x5).f0.f0) = 4 then (if x3.length < 5864062014805 then (zay.l0 k (x3 ++ [(⟨(⟨(zaJ x4 x5).f1.f0, (zaJ x4 x5).f1.f1⟩ : S42), (zaJ x4 x5).f0.f0, (zaJ x4 x5).f0.f1⟩ : S44)]) x4 (wrap64 (x5 + 1))) else (none)) else (zay.l0 k x3 x4 (wrap64 (x5 + 1)))))))) else (none)) else (some x3)
def zay.f (k : Nat) (a0_0 : Int) (a0_1 : Int) (a0_2 : Int) (l0_3 : List (S25)) : Option ((List (S44))) := (zbc.f k a0_0 a0_1 a0_2 l0_3).bind fun t153 => (zay.l0 k ([] : List (S44)) t153 0)
theorem zay.zbr : ∀ k, (∀ y0 y1 y2, LeO (zay.l0 k y0 y1 y2) (zay.l0 (k + 1) y0 y1 y2))
 | 0 => fun _ _ _ r h => by simp [zay.l0] at h
 | k + 1 => by
  have ih0 := zay.zbr k
  ·intro y0 y1 y2
   unfold zay.l0
   repeat' first
   | (with_reducible exact ih0 _ _ _)
   | (with_reducible exact zbc.mono _ _ _ _ _)
   | (with_reducible exact LeO.refl _)
   | (with_reducible exact LeO.none _)
   | (with_reducible refine LeO.ite ?_ ?_)
   | (with_reducible refine LeO.bind ?_ (fun _ => ?_))
   | exact ih0 _ _ _
   | exact zbc.mono _ _ _ _ _
   | exact LeO.none _
   | refine LeO.ite ?_ ?_
   | refine LeO.bind ?_ (fun _ => ?_)
theorem zay.mono : ∀ a0 a1 a2 a3 k, LeO (zay.f k a0 a1 a2 a3) (zay.f (k + 1) a0 a1 a2 a3) := by
 intro a0 a1 a2 a3 k
 have ih0 := zay.zbr k; unfold zay.f
 repeat' first
   | (with_reducible exact ih0 _ _ _)
   | (with_reducible exact zbc.mono _ _ _ _ _)
   | (with_reducible exact LeO.refl _)
   | (with_reducible exact LeO.none _)
   | (with_reducible refine LeO.ite ?_ ?_)
   | (with_reducible refine LeO.bind ?_ (fun _ => ?_))
   | exact ih0 _ _ _
   | exact zbc.mono _ _ _ _ _
   | exact LeO.none _
   | refine LeO.ite ?_ ?_
   | refine LeO.bind ?_ (fun _ => ?_)
def zay.T8 : Bool × List (List Nat × List Nat) := (true, [([], []), ([], []), ([], []), ([1, 2], [1, 2]), ([3], [3]), ([4], [4]), ([], []), ([], []), ([], []), ([7, 8], [7, 8]), ([9], [9]), ([10], [10]), ([11], [11]), ([5, 6, 12], [5, 6, 12]), ([13], [13]), ([0, 14], [0, 14]), ([15, 15, 0, 1, 2, 3, 4, 5, 6, 7, 8, 9, 10, 11, 12, 13, 14, 15], [0, 15])])
def zay.B8 : List Nat := [0, 0, 0, 6, 14, 30, 0, 0, 0, 384, 896, 1920, 3968, 8190, 16382, 32767, 65535]
theorem zay.tab8 : rtab .any (opsOf Try.f11 8) = zay.T8 := by kernel_rfl
theorem zay.bits8 : waitsOk zay.T8.2 zay.B8 = true := by kernel_rfl
set_option maxHeartbeats 8000000 in
set_option maxRecDepth 100000 in
theorem zay.calls (k : Nat) (a0_0 : Int) (a0_1 : Int) (a0_2 : Int) (A0_3 : Option Addr) (c0_3 : Nat) (l0_3 : List (S25)) (r : List (S44)) (w : World) (hr0_3 : Kd.C k25 w A0_3 l0_3.length l0_3) (hc0_3 : l0_3.length ≤ c0_3) (h : zay.f k a0_0 a0_1 a0_2 l0_3 = some r) :
  Calls Try.prog 11 #[.agg #[.int .u8 a0_0, .int .u8 a0_1, .int .i64 a0_2, .slice A0_3 l0_3.length c0_3]] w fun e w' => ∃ v0_ : Value, e = .returned (v0_) ∧ Kd.R k44 44 w' w.heap.size (fun _ => True) v0_ r ∧ Below w.heap.size w w' := by
 have hu25 := Try.underlying25; have hu42 := Try.underlying42; have hu44 := Try.underlying44; have HR0_3 := zaa.mk hr0_3; have HC0_3 := zaa.mk hc0_3; clear hr0_3 hc0_3; have HB := zaa.mk (Below.refl w.heap.size w); have H : ((zbc.f k a0_0 a0_1 a0_2 l0_3).bind fun t153 => (zay.l0 k ([] : List (S44)) t153 0)) = some r := h
 clear h; replace H := Option.bind_eq_some_iff.mp H; obtain ⟨t153, A20, H⟩ := H; replace H : (zay.l0 k ([] : List (S44)) t153 0) = some r := H; have A2 := zaa.mk A20; clear A20; have H' := zaa.mk H; clear H; go_enter Try.func11, Try.ntmps11
 go_wp2_with (first | ((with_reducible refine za7 (N := 1) rfl ?_); refine zbl ?hg (N := 1) ?hd (cs := #[.int .u8 a0_0, .int .u8 a0_1, .int .i64 a0_2, .slice A0_3 l0_3.length c0_3]) (t := 25) ?hr ?_; (case hd => rfl); (case hg => rfl); (case hr => first | (go_simp; done) | (go_simp; rfl)); intro gb152 hg w3 hbox hb; have n0_ := zaa.mk (zaG (by repeat (first | exact HB.out | apply zad | apply zac | apply zae)) hb); have n1_ := zaa.mk (hbox); have n2_ := zaa.mk ((by rw [hg]; exact (zaB (by repeat (first | exact HB.out | apply zad | apply zac | apply zae))) : w.heap.size ≤ gb152)); have n3_ := zaa.mk ((by rw [hg]; exact (zaB (by repeat (first | exact HB.out | apply zad | apply zac | apply zae))) : w.heap.size ≤ gb152)); clear HB; have HB := n0_; have BK152 := n1_; have GW152 := n2_; have GE152 := n3_; clear n0_ n1_ n2_ n3_; clear hb hbox hg; have hcz4_0 : w3.cell? ⟨gb152, 0, none⟩ = some (.int .u8 a0_0) := (zaf BK152.out 0).trans rfl; have hcz4_1 : w3.cell? ⟨gb152, 1, none⟩ = some (.int .u8 a0_1) := (zaf BK152.out 1).trans rfl; have hcz4_2 : w3.cell? ⟨gb152, 2, none⟩ = some (.int .i64 a0_2) := (zaf BK152.out 2).trans rfl; have hcz4_3 : w3.cell? ⟨gb152, 3, none⟩ = some (.slice A0_3 l0_3.length c0_3) := (zaf BK152.out 3).trans rfl; have hfz4_0 := zab BK152.out 0; have hfz4_1 := zab BK152.out 1; have hfz4_2 := zab BK152.out 2; have hfz4_3 := zab BK152.out 3) | ((with_reducible refine zaS (f := 18) rfl ?_); refine zbj (some 8) rfl rfl Try.func18 (by kernel_rfl) rfl #[.agg #[.int .u8 a0_0, .int .u8 a0_1, .int .i64 a0_2, .slice A0_3 l0_3.length c0_3]] rfl (by (try simp only [List.map_toArray, List.map_cons, List.map_nil]); first | done | rfl | (simp only [List.length_drop, List.length_take]; rfl)) ?_; (with_reducible refine (zbc.calls k a0_0 a0_1 a0_2 (fun k_ => k_ < w.heap.size) _ _ l0_3 t153 _ ?side1 A2.out).mono ?_); (case side1 => exact Kd.V_mk HC0_3.out (Kd.F_below (Kd.C_F k25_heap HR0_3.out) (by repeat (first | (with_reducible first | exact HB.out | apply zad | apply zac | apply zae | refine zaq ?_ GE152.out) | exact HB.out)))); rintro e w5 ⟨v154, rfl, ho0, hb⟩; refine ⟨_, rfl, ?_⟩; have n0_ := zaa.mk (Kd.V_lower (Kd.zbX (ok' := fun k_ => k_ ≠ gb152) ho0 (fun k_ hk_ => Or.elim hk_ (fun hs_ => fun e_ => Nat.not_le.2 hs_ (by rw [e_]; exact GW152.out)) (fun hn_ => (Kd.freshB (g := gb152) (o := .cells #[.int .u8 a0_0, .int .u8 a0_1, .int .i64 a0_2, .slice A0_3 l0_3.length c0_3] 25 (0, 0)) (by (with_reducible repeat (first | refine zar ?_ _ | refine zav ?_ | refine zas ?_ _)); exact BK152.out) k_ hn_)))) (zaB (by repeat (first | (with_reducible first | exact HB.out | apply zad | apply zac | apply zae | refine zaq ?_ GE152.out) | exact HB.out)))); have n1_ := zaa.mk (zaX (g := gb152) (o := .cells #[.int .u8 a0_0, .int .u8 a0_1, .int .i64 a0_2, .slice A0_3 l0_3.length c0_3] 25 (0, 0)) (by (with_reducible repeat (first | refine zar ?_ _ | refine zav ?_ | refine zas ?_ _)); exact BK152.out) hb); have n2_ := zaa.mk (zaG (by repeat (first | (with_reducible first | exact HB.out | apply zad | apply zac | apply zae | refine zaq ?_ GE152.out) | exact HB.out)) hb); clear BK152; clear HB; have HO155 := n0_; have BK152 := n1_; have HB := n2_; clear n0_ n1_ n2_; (try clear hb); (try clear hb2); (try clear hk); (try clear hi); (try clear ho0)))
 go_loopg [3, 5] k (fun kq v3 v5 w' => ∃ (x3_1 : List (S44)) (x5_1 : Int), v5 = .int .i64 x5_1 ∧ zaa (zay.l0 kq x3_1 t153 x5_1 = some r) ∧ zaa (kq ≤ k) ∧ zaa (Kd.R k44 44 w' w.heap.size (fun _ => True) v3 x3_1) ∧ zaa (Kd.V k58 58 w' w.heap.size (fun k_ => some k_ ≠ (v3 : Value).ownBlock ∧ k_ ≠ gb152) v154 t153) ∧ zaa (w'.heap[gb152]? = some (.cells #[.int .u8 a0_0, .int .u8 a0_1, .int .i64 a0_2, (.slice A0_3 l0_3.length c0_3)] 25 (0, 0))) ∧ zaa (Below w.heap.size w w'))
 case atStart => exact ⟨(([] : List (S44))), (0), (by first | rfl | (simp; done) | (simp [*]; done)), H', ⟨Nat.le_refl _⟩, ⟨by first | exact Kd.R_nil _ _ _ _ _ | exact Kd.N_nil _ _ _ _ _ | exact Kd.V_nil _ _ _ _ _ | exact Kd.Q_nil _ _ _ _ _ | exact Kd.S_nil _ _ _ _ _⟩, ⟨by (with_reducible repeat (first | apply Kd.zbO | apply Kd.zbN | apply Kd.zbI)); exact Kd.zbX HO155.out (fun _ hk => ⟨(by simp [Value.ownBlock]), hk⟩)⟩, ⟨by (with_reducible repeat (first | refine zar ?_ _ | refine zav ?_ | refine zas ?_ _)); exact BK152.out⟩, ⟨by repeat (first | (with_reducible first | exact HB.out | apply zad | apply zac | apply zae | refine zaq ?_ GE152.out) | exact HB.out)⟩⟩
 case round =>
  clear H'; try clear c1
  try clear p2
  try clear hcz4_0
  try clear hcz4_1
  try clear hcz4_2
  try clear hcz4_3
  try clear hfz4_0
  try clear hfz4_1
  try clear hfz4_2
  try clear hfz4_3
  obtain ⟨x3_1, x5_1, rfl, HA, HK1, HO_3, HO_4, BK152, HB⟩ := hrel; cases gk with
  | zero => exact absurd HA.out (by simp [zay.l0])
  | succ k1 =>
   have H := HA.out; clear HA; simp only [zay.l0] at H; by_cases c6 : x5_1 < (t153.length : Int)
   ·rw [if_pos c6] at H
    have c6b0 : decide (x5_1 < (t153.length : Int)) = true := decide_eq_true c6; clear c6; by_cases c7 : 0 ≤ x5_1
    ·rw [if_pos c7] at H
     have c7b0 : decide (0 ≤ x5_1) = true := decide_eq_true c7; clear c7; by_cases c8 : ((zaJ t153 x5_1).f0.f0) = 50
     ·rw [if_pos c8] at H
      have c8b0 : (((zaJ t153 x5_1).f0.f0) == 50) = true := beq_iff_eq.mpr c8; have c8b1 : (((zaJ t153 x5_1).f0.f0) != 50) = false := bne_eq_false_iff_eq.mpr c8; clear c8; by_cases c9 : x3_1.length < 5864062014805
      ·rw [if_pos c9] at H
       have LMc9 := zaa.mk c9; clear c9; obtain ⟨y159, hy159⟩ : ∃ y_ : List (S44), y_ = (x3_1 ++ [(⟨(⟨(zaJ t153 x5_1).f1.f0, (zaJ t153 x5_1).f1.f1⟩ : S42), (zaJ t153 x5_1).f0.f0, (zaJ t153 x5_1).f0.f1⟩ : S44)]) := ⟨_, rfl⟩; replace H : (zay.l0 k1 y159 t153 (wrap64 (x5_1 + 1))) = some r := by first | (rw [hy159]; with_reducible exact H) | (have H2_ := (Option.bind_some _ _).symm.trans H; rw [hy159]; with_reducible exact H2_) | (have H2_ := (Option.bind_some _ _).symm.trans H; with_reducible exact H2_) | with_reducible exact H | (rw [hy159]; exact H) | exact H
       have Ny159 := zaa.mk hy159; clear hy159; have H' := zaa.mk H; clear H; obtain ⟨Ao10, co10, eo10⟩ := Kd.V_slice HO_4.out; subst eo10; have p156 : 0 ≤ (x5_1 : Int) := of_decide_eq_true (by assumption)
       have q156 : x5_1 < (t153.length : Int) := of_decide_eq_true (by assumption)
       obtain ⟨ad156, A156_3, c156_3, e156, hx156_0, hx156_1, hx156_2, hx156_3, hx156_4, hx156_5, hx156_6, hl156_3, hi156_3⟩ := at_T58 (Kd.zbu HO_4.out).2.2 x5_1 p156 q156; cases e156; obtain ⟨ce156, hce156, hMe156, hcc156⟩ := Kd.V_get HO_4.out z58 x5_1 p156 (by first | exact q156 | exact of_decide_eq_true (by assumption) | (have e_ := (Kd.zbu HO_4.out).1; omega))
       obtain ⟨ua156_3, uc156_3, rfl, ul156_3, ge156_3⟩ := zbR hMe156; have hv156_3 := hcc156 3 _ rfl; rw [zbe _ _ 3 (by omega)] at hv156_3
       replace hv156_3 := Option.some.inj (hv156_3.symm.trans hx156_3); injection hv156_3 with hva_ hvn_ hvc_
       rw [hva_] at ge156_3; rw [hvc_] at ul156_3; have HL156_3 := zaa.mk (show Kd.V k25 25 _ w.heap.size _ _ ((zaJ t153 x5_1).f0.f3) from Kd.V_mk ul156_3 ge156_3)
       clear hva_ hvn_ hvc_ ge156_3 ul156_3; clear hcc156 hce156; have HR156_3 := zaa.mk hi156_3; have HC156_3 := zaa.mk hl156_3; clear hi156_3 hl156_3; replace p156 := eq_true p156; replace q156 := eq_true q156; try go_wp2
       have n0_ := zaa.mk (Kd.za8 HO_3.out); have n1_ := zaa.mk (Kd.zbI HO_4.out); have n2_ := zaa.mk (Kd.zbI HL156_3.out); have n3_ := zaa.mk (zav BK152.out); have n4_ := zaa.mk (Kd.zb5 HR156_3.out); have n5_ := zaa.mk (zae HB.out); clear HO_3; clear HO_4; clear HL156_3; clear BK152; clear HR156_3; clear HB; have HO_3 := n0_; have HO_4 := n1_; have HL156_3 := n2_; have BK152 := n3_; have HR156_3 := n4_; have HB := n5_; clear n0_ n1_ n2_ n3_ n4_ n5_; have p157 : 0 ≤ (x5_1 : Int) := of_decide_eq_true (by assumption)
       have q157 : x5_1 < (t153.length : Int) := of_decide_eq_true (by assumption)
       obtain ⟨ad157, A157_3, c157_3, e157, hx157_0, hx157_1, hx157_2, hx157_3, hx157_4, hx157_5, hx157_6, hl157_3, hi157_3⟩ := at_T58 (Kd.zbu HO_4.out).2.2 x5_1 p157 q157; obtain rfl : ad156 = ad157 := (by injection e157)
       obtain ⟨ce157, hce157, hMe157, hcc157⟩ := Kd.V_get HO_4.out z58 x5_1 p157 (by first | exact q157 | exact of_decide_eq_true (by assumption) | (have e_ := (Kd.zbu HO_4.out).1; omega))
       obtain ⟨ua157_3, uc157_3, rfl, ul157_3, ge157_3⟩ := zbR hMe157; have hv157_3 := hcc157 3 _ rfl; rw [zbe _ _ 3 (by omega)] at hv157_3
       replace hv157_3 := Option.some.inj (hv157_3.symm.trans hx157_3); injection hv157_3 with hva_ hvn_ hvc_
       rw [hva_] at ge157_3; rw [hvc_] at ul157_3; have HL157_3 := zaa.mk (show Kd.V k25 25 _ w.heap.size _ _ ((zaJ t153 x5_1).f0.f3) from Kd.V_mk ul157_3 ge157_3)
       clear hva_ hvn_ hvc_ ge157_3 ul157_3; clear hcc157 hce157; have HR157_3 := zaa.mk hi157_3; have HC157_3 := zaa.mk hl157_3; clear hi157_3 hl157_3; replace p157 := eq_true p157; replace q157 := eq_true q157; have p158 : 0 ≤ (x5_1 : Int) := of_decide_eq_true (by assumption)
       have q158 : x5_1 < (t153.length : Int) := of_decide_eq_true (by assumption)
       obtain ⟨ad158, A158_3, c158_3, e158, hx158_0, hx158_1, hx158_2, hx158_3, hx158_4, hx158_5, hx158_6, hl158_3, hi158_3⟩ := at_T58 (Kd.zbu HO_4.out).2.2 x5_1 p158 q158; obtain rfl : ad156 = ad158 := (by injection e158)
       obtain ⟨ce158, hce158, hMe158, hcc158⟩ := Kd.V_get HO_4.out z58 x5_1 p158 (by first | exact q158 | exact of_decide_eq_true (by assumption) | (have e_ := (Kd.zbu HO_4.out).1; omega))
       obtain ⟨ua158_3, uc158_3, rfl, ul158_3, ge158_3⟩ := zbR hMe158; have hv158_3 := hcc158 3 _ rfl; rw [zbe _ _ 3 (by omega)] at hv158_3
       replace hv158_3 := Option.some.inj (hv158_3.symm.trans hx158_3); injection hv158_3 with hva_ hvn_ hvc_
       rw [hva_] at ge158_3; rw [hvc_] at ul158_3; have HL158_3 := zaa.mk (show Kd.V k25 25 _ w.heap.size _ _ ((zaJ t153 x5_1).f0.f3) from Kd.V_mk ul158_3 ge158_3)
       clear hva_ hvn_ hvc_ ge158_3 ul158_3; clear hcc158 hce158; have HR158_3 := zaa.mk hi158_3; have HC158_3 := zaa.mk hl158_3; clear hi158_3 hl158_3; replace p158 := eq_true p158; replace q158 := eq_true q158; have ea_ := Option.some.inj (hx157_3.symm.trans hx158_3); injection ea_ with ea_ en_ ec_
       subst ea_; subst ec_; clear en_; refine start_ (n := 17) (S := fun w' => w'.cell? (ad156.add ((x5_1).toNat * 7)) = some (.int .u8 ((zaJ t153 x5_1).f0.f0)) ∧ w'.cell? ⟨(ad156.add ((x5_1).toNat * 7)).block, (ad156.add ((x5_1).toNat * 7)).off + 1, none⟩ = some (.int .u8 ((zaJ t153 x5_1).f0.f1)) ∧ w'.cell? ⟨(ad156.add ((x5_1).toNat * 7)).block, (ad156.add ((x5_1).toNat * 7)).off + 2, none⟩ = some (.int .i64 ((zaJ t153 x5_1).f0.f2)) ∧ w'.cell? ⟨(ad156.add ((x5_1).toNat * 7)).block, (ad156.add ((x5_1).toNat * 7)).off + 3, none⟩ = some (.slice A157_3 ((zaJ t153 x5_1).f0.f3).length c157_3) ∧ w'.cell? ⟨(ad156.add ((x5_1).toNat * 7)).block, (ad156.add ((x5_1).toNat * 7)).off + 4, none⟩ = some (.int .i64 ((zaJ t153 x5_1).f1.f0)) ∧ w'.cell? ⟨(ad156.add ((x5_1).toNat * 7)).block, (ad156.add ((x5_1).toNat * 7)).off + 5, none⟩ = some (.int .i64 ((zaJ t153 x5_1).f1.f1)) ∧ w'.cell? ⟨(ad156.add ((x5_1).toNat * 7)).block, (ad156.add ((x5_1).toNat * 7)).off + 6, none⟩ = some (.int .i64 ((zaJ t153 x5_1).f2)) ∧ w'.cell? (ad156.add ((x5_1).toNat * 7)) = some (.int .u8 ((zaJ t153 x5_1).f0.f0)) ∧ w'.cell? ⟨(ad156.add ((x5_1).toNat * 7)).block, (ad156.add ((x5_1).toNat * 7)).off + 1, none⟩ = some (.int .u8 ((zaJ t153 x5_1).f0.f1)) ∧ w'.cell? ⟨(ad156.add ((x5_1).toNat * 7)).block, (ad156.add ((x5_1).toNat * 7)).off + 2, none⟩ = some (.int .i64 ((zaJ t153 x5_1).f0.f2)) ∧ w'.cell? ⟨(ad156.add ((x5_1).toNat * 7)).block, (ad156.add ((x5_1).toNat * 7)).off + 3, none⟩ = some (.slice A157_3 ((zaJ t153 x5_1).f0.f3).length c157_3) ∧ w'.cell? ⟨(ad156.add ((x5_1).toNat * 7)).block, (ad156.add ((x5_1).toNat * 7)).off + 4, none⟩ = some (.int .i64 ((zaJ t153 x5_1).f1.f0)) ∧ w'.cell? ⟨(ad156.add ((x5_1).toNat * 7)).block, (ad156.add ((x5_1).toNat * 7)).off + 5, none⟩ = some (.int .i64 ((zaJ t153 x5_1).f1.f1)) ∧ w'.cell? ⟨(ad156.add ((x5_1).toNat * 7)).block, (ad156.add ((x5_1).toNat * 7)).off + 6, none⟩ = some (.int .i64 ((zaJ t153 x5_1).f2))) (ds := [14, 15]) #[false, false, false, false, false, false, false, false, false, false, false, false, false, false, false, false, false] (by kernel_rfl) rfl rfl ⟨hx157_0, hx157_1, hx157_2, hx157_3, hx157_4, hx157_5, hx157_6, hx158_0, hx158_1, hx158_2, hx158_3, hx158_4, hx158_5, hx158_6⟩ (fun hHeld => ?_); refine with_tabW zay.tab8 zay.bits8 (fun HT_ HW_ => ?_)
       generalize wr.drew = w11 at HO_3 HO_4 HL156_3 BK152 HR156_3 HB HL157_3 HL158_3 HR157_3 HR158_3 hx157_0 hx157_1 hx157_2 hx157_3 hx157_4 hx157_5 hx157_6 hx158_0 hx158_1 hx158_2 hx158_3 hx158_4 hx158_5 hx158_6 hHeld ⊢
       refine pure_ (i := 0) (N := some 39) (v := ?_) (a' := ?_) #[true, false, false, false, false, false, false, false, false, false, false, false, false, false, false, false, false] rfl rfl (zbd HT_.out (by kernel_rfl)) (fun _ _ _ h => h) (Or.inl ⟨by rfl, ?_⟩) ?_ ?_
       rotate_left
       ·intro w'
        go_simp
        with_reducible rfl
       rotate_left
       ·simp only [Act.put, zaw, i64_w, i32_w]
        rfl
       refine pure_ (i := 1) (N := some 40) (v := ?_) (a' := ?_) #[true, true, false, false, false, false, false, false, false, false, false, false, false, false, false, false, false] rfl rfl (zbd HT_.out (by kernel_rfl)) (fun _ _ _ h => h) (Or.inl ⟨by rfl, ?_⟩) ?_ ?_
       rotate_left
       ·intro w'
        go_simp
        with_reducible rfl
       rotate_left
       ·simp only [Act.put, zaw, i64_w, i32_w]
        rfl
       refine pure_ (i := 2) (N := some 41) (v := ?_) (a' := ?_) #[true, true, true, false, false, false, false, false, false, false, false, false, false, false, false, false, false] rfl rfl (zbd HT_.out (by kernel_rfl)) (fun _ _ _ h => h) (Or.inl ⟨by rfl, ?_⟩) ?_ ?_
       rotate_left
       ·intro w'
        go_simp
        with_reducible rfl
       rotate_left
       ·simp only [Act.put, zaw, i64_w, i32_w]
        rfl
       refine pure_ (i := 3) (N := some 42) (v := ?_) (a' := ?_) #[true, true, true, true, false, false, false, false, false, false, false, false, false, false, false, false, false] rfl rfl (zbd HT_.out (by kernel_rfl)) (fun _ _ _ h => h) (Or.inl ⟨by rfl, ?_⟩) ?_ ?_
       rotate_left
       ·intro w'
        go_simp
        with_reducible rfl
       rotate_left
       ·simp only [Act.put, zaw, i64_w, i32_w]
        rfl
       refine pure_ (i := 4) (N := some 43) (v := ?_) (a' := ?_) #[true, true, true, true, true, false, false, false, false, false, false, false, false, false, false, false, false] rfl rfl (zbd HT_.out (by kernel_rfl)) (fun _ _ _ h => h) (Or.inl ⟨by rfl, ?_⟩) ?_ ?_
       rotate_left
       ·intro w'
        go_simp
        with_reducible rfl
       rotate_left
       ·simp only [Act.put, zaw, i64_w, i32_w]
        rfl
       refine pure_ (i := 6) (N := some 45) (v := ?_) (a' := ?_) #[true, true, true, true, true, false, true, false, false, false, false, false, false, false, false, false, false] rfl rfl (zbd HT_.out (by kernel_rfl)) (fun _ _ _ h => h) (Or.inl ⟨by rfl, ?_⟩) ?_ ?_
       rotate_left
       ·intro w'
        go_simp
        with_reducible rfl
       rotate_left
       ·simp only [Act.put, zaw, i64_w, i32_w]
        rfl
       refine pure_ (i := 7) (N := some 46) (v := ?_) (a' := ?_) #[true, true, true, true, true, false, true, true, false, false, false, false, false, false, false, false, false] rfl rfl (zbd HT_.out (by kernel_rfl)) (fun _ _ _ h => h) (Or.inl ⟨by rfl, ?_⟩) ?_ ?_
       rotate_left
       ·intro w'
        go_simp
        with_reducible rfl
       rotate_left
       ·simp only [Act.put, zaw, i64_w, i32_w]
        rfl
       refine pure_ (i := 8) (N := some 47) (v := ?_) (a' := ?_) #[true, true, true, true, true, false, true, true, true, false, false, false, false, false, false, false, false] rfl rfl (zbd HT_.out (by kernel_rfl)) (fun _ _ _ h => h) (Or.inl ⟨by rfl, ?_⟩) ?_ ?_
       rotate_left
       ·intro w'
        go_simp
        with_reducible rfl
       rotate_left
       ·simp only [Act.put, zaw, i64_w, i32_w]
        rfl
       refine pure_ (i := 9) (N := some 48) (v := ?_) (a' := ?_) #[true, true, true, true, true, false, true, true, true, true, false, false, false, false, false, false, false] rfl rfl (zbd HT_.out (by kernel_rfl)) (fun _ _ _ h => h) (Or.inl ⟨by rfl, ?_⟩) ?_ ?_
       rotate_left
       ·intro w'
        go_simp
        with_reducible rfl
       rotate_left
       ·simp only [Act.put, zaw, i64_w, i32_w]
        rfl
       refine pure_ (i := 10) (N := some 49) (v := ?_) (a' := ?_) #[true, true, true, true, true, false, true, true, true, true, true, false, false, false, false, false, false] rfl rfl (zbd HT_.out (by kernel_rfl)) (fun _ _ _ h => h) (Or.inl ⟨by rfl, ?_⟩) ?_ ?_
       rotate_left
       ·intro w'
        go_simp
        with_reducible rfl
       rotate_left
       ·simp only [Act.put, zaw, i64_w, i32_w]
        rfl
       refine pure_ (i := 11) (N := some 50) (v := ?_) (a' := ?_) #[true, true, true, true, true, false, true, true, true, true, true, true, false, false, false, false, false] rfl rfl (zbd HT_.out (by kernel_rfl)) (fun _ _ _ h => h) (Or.inl ⟨by rfl, ?_⟩) ?_ ?_
       rotate_left
       ·intro w'
        go_simp
        with_reducible rfl
       rotate_left
       ·simp only [Act.put, zaw, i64_w, i32_w]
        rfl
       refine take_ (i := 5) (N := some 44) (v := ?_) (a' := ?_) #[true, true, true, true, true, true, true, true, true, true, true, true, false, false, false, false, false] rfl rfl (zbU HT_.out HW_.out (by kernel_rfl)) (fun _ _ _ h => h) (Or.inl ⟨by rfl, ?_⟩) hHeld ?_ ?_
       rotate_left
       ·rintro w' ⟨s0, s1, s2, s3, s4, s5, s6, s7, s8, s9, s10, s11, s12, s13⟩
        go_simp
        with_reducible rfl
       rotate_left
       ·simp only [Act.put, zaw, i64_w, i32_w]
        rfl
       refine take_ (i := 12) (N := some 51) (v := ?_) (a' := ?_) #[true, true, true, true, true, true, true, true, true, true, true, true, true, false, false, false, false] rfl rfl (zbU HT_.out HW_.out (by kernel_rfl)) (fun _ _ _ h => h) (Or.inl ⟨by rfl, ?_⟩) hHeld ?_ ?_
       rotate_left
       ·rintro w' ⟨s0, s1, s2, s3, s4, s5, s6, s7, s8, s9, s10, s11, s12, s13⟩
        go_simp
        with_reducible rfl
       rotate_left
       ·simp only [Act.put, zaw, i64_w, i32_w]
        rfl
       refine pure_ (i := 13) (N := some 52) (v := ?_) (a' := ?_) #[true, true, true, true, true, true, true, true, true, true, true, true, true, true, false, false, false] rfl rfl (zbd HT_.out (by kernel_rfl)) (fun _ _ _ h => h) (Or.inl ⟨by rfl, ?_⟩) ?_ ?_
       rotate_left
       ·intro w'
        go_simp
        with_reducible rfl
       rotate_left
       ·simp only [Act.put, zaw, i64_w, i32_w]
        rfl
       refine last_ (i := 14) (N := some 53) #[true, true, true, true, true, true, true, true, true, true, true, true, true, true, true, false, false] rfl rfl (one_of HT_.out (by kernel_rfl)) (by decide) (fun K hK => ?_)
       refine value_ (w1 := ?_) (v := ?_) (by rfl) rfl ?_ ?_
       rotate_left 2
       ·go_simp
        constructor
        ·rfl
        ·rfl
       refine hK.out _ _ ?_
       clear hK K; refine norm_ (a' := ?_) ?_ ?_
       rotate_left
       ·show Act.put _ (some 53) _ = _
        simp only [Act.put, zaw, i64_w, i32_w]
        rfl
       refine last_ (i := 15) (N := some 54) #[true, true, true, true, true, true, true, true, true, true, true, true, true, true, true, true, false] rfl rfl (one_of HT_.out (by kernel_rfl)) (by decide) (fun K hK => ?_)
       refine Kd.R_append_step k44 (w0 := w) w.heap.size (by rfl) (.tmp 39) (.tmp 53) 37 44 (.agg #[(.int .i64 0), (.int .i64 0), (.int .u8 0), (.int .u8 0)]) 24 rfl Try.underlying37 info44 rfl (by decide) (by omega) u3 x3_1 (⟨(⟨(zaJ t153 x5_1).f1.f0, (zaJ t153 x5_1).f1.f1⟩ : S42), (zaJ t153 x5_1).f0.f0, (zaJ t153 x5_1).f0.f1⟩ : S44) [.int .i64 ((zaJ t153 x5_1).f1.f0), .int .i64 ((zaJ t153 x5_1).f1.f1), .int .u8 ((zaJ t153 x5_1).f0.f0), .int .u8 ((zaJ t153 x5_1).f0.f1)] (fun _ => True) (fun _ => False) rfl rfl ?aP (fun _ hk => hk.elim) ?aF ?aO ?aB ?aS ?aL ?_
       (case aP => exact k44_mkM _ _ _ (⟨(⟨(zaJ t153 x5_1).f1.f0, (zaJ t153 x5_1).f1.f1⟩ : S42), (zaJ t153 x5_1).f0.f0, (zaJ t153 x5_1).f0.f1⟩ : S44))
       (case aB => exact (by repeat (first | (with_reducible first | exact HB.out | apply zad | apply zac | apply zae | refine zaq ?_ GE152.out) | exact HB.out)))
       (case aF => exact (fun _ _ => trivial))
       (case aO => exact (by (with_reducible repeat (first | apply Kd.za3 | apply Kd.za2 | apply Kd.za8)); exact HO_3.out))
       (case aS => exact (zaB (by repeat (first | (with_reducible first | exact HB.out | apply zad | apply zac | apply zae | refine zaq ?_ GE152.out) | exact HB.out))))
       (case aL => have := LMc9.out; omega)
       intro v160 w12 ho hb hg hat
       rw [← Ny159.out] at ho; have n0_ := zaa.mk (Kd.zbQ (ok := (fun k_ => k_ ≠ gb152)) (by (with_reducible repeat (first | apply Kd.zbO | apply Kd.zbN | apply Kd.zbI)); exact Kd.zbX HO_4.out (fun _ hk => ⟨hk.2, hk.1⟩)) hg hat)
       have n1_ := zaa.mk (zcb (g := gb152) (o := .cells #[.int .u8 a0_0, .int .u8 a0_1, .int .i64 a0_2, .slice A0_3 l0_3.length c0_3] 25 (0, 0)) (by (with_reducible repeat (first | refine zar ?_ _ | refine zav ?_ | refine zas ?_ _)); exact BK152.out) hg (Kd.R_ne HO_3.out BK152.out (by decide)))
       have n2_ := zaa.mk (Kd.zbQ (ok := (fun k_ => k_ ≠ gb152)) (by (with_reducible repeat (first | apply Kd.zbO | apply Kd.zbN | apply Kd.zbI)); exact Kd.zbX HL156_3.out (fun _ hk => ⟨hk.2, hk.1⟩)) hg hat)
       have n3_ := zaa.mk (Kd.zbQ (ok := (fun k_ => k_ ≠ gb152)) (by (with_reducible repeat (first | apply Kd.zbO | apply Kd.zbN | apply Kd.zbI)); exact Kd.zbX HL157_3.out (fun _ hk => ⟨hk.2, hk.1⟩)) hg hat)
       have n4_ := zaa.mk (Kd.zbQ (ok := (fun k_ => k_ ≠ gb152)) (by (with_reducible repeat (first | apply Kd.zbO | apply Kd.zbN | apply Kd.zbI)); exact Kd.zbX HL158_3.out (fun _ hk => ⟨hk.2, hk.1⟩)) hg hat)
       have n5_ := zaa.mk (hb); have n6_ := zaa.mk (ho); clear HO_4; clear BK152; clear HL156_3; clear HL157_3; clear HL158_3; clear HB; clear HO_3; have HO_4 := n0_; have BK152 := n1_; have HL156_3 := n2_; have HL157_3 := n3_; have HL158_3 := n4_; have HB := n5_; have HO161 := n6_; clear n0_ n1_ n2_ n3_ n4_ n5_ n6_; clear ho hb hg hat; refine hK.out _ _ ?_
       clear hK K; refine norm_ (a' := ?_) ?_ ?_
       rotate_left
       ·show Act.put _ (some 54) _ = _
        simp only [Act.put, zaw, i64_w, i32_w]
        rfl
       refine pure_ (i := 16) (N := some 3) (v := ?_) (a' := ?_) #[true, true, true, true, true, true, true, true, true, true, true, true, true, true, true, true, true] rfl rfl (zbd HT_.out (by kernel_rfl)) (fun _ _ _ h => h) (Or.inl ⟨by rfl, ?_⟩) ?_ ?_
       rotate_left
       ·intro w'
        go_simp
        with_reducible rfl
       rotate_left
       ·simp only [Act.put, zaw, i64_w, i32_w]
        rfl
       refine done_ (done_of HT_.out (by kernel_rfl)) ?_
       try go_wp2
       go_roundg k1
       case measure => have := HK1.out; omega
       case rel => exact ⟨(y159), (wrap64 (x5_1 + 1)), (by first | rfl | (simp; done) | (simp [*]; done)), H', ⟨by have := HK1.out; omega⟩, ⟨by (with_reducible repeat (first | apply Kd.za3 | apply Kd.za2 | apply Kd.za8)); exact HO161.out⟩, ⟨by (with_reducible repeat (first | apply Kd.zbO | apply Kd.zbN | apply Kd.zbI)); exact Kd.zbX HO_4.out (fun _ hk => ⟨hk.2, hk.1⟩)⟩, ⟨by (with_reducible repeat (first | refine zar ?_ _ | refine zav ?_ | refine zas ?_ _)); exact BK152.out⟩, ⟨by repeat (first | (with_reducible first | exact HB.out | apply zad | apply zac | apply zae | refine zaq ?_ GE152.out) | exact HB.out)⟩⟩
      ·rw [if_neg c9] at H
       exact absurd H (by simp)
     ·rw [if_neg c8] at H
      have c8b0 : (((zaJ t153 x5_1).f0.f0) == 50) = false := beq_eq_false_iff_ne.mpr c8; have c8b1 : (((zaJ t153 x5_1).f0.f0) != 50) = true := bne_iff_ne.mpr c8; by_cases c13 : ((zaJ t153 x5_1).f0.f0) = 68
      ·rw [if_pos c13] at H
       have c13b0 : (((zaJ t153 x5_1).f0.f0) == 68) = true := beq_iff_eq.mpr c13; have c13b1 : (((zaJ t153 x5_1).f0.f0) != 68) = false := bne_eq_false_iff_eq.mpr c13; clear c13; by_cases c14 : x3_1.length < 5864062014805
       ·rw [if_pos c14] at H
        have LMc14 := zaa.mk c14; clear c14; obtain ⟨y164, hy164⟩ : ∃ y_ : List (S44), y_ = (x3_1 ++ [(⟨(⟨(zaJ t153 x5_1).f1.f0, (zaJ t153 x5_1).f1.f1⟩ : S42), (zaJ t153 x5_1).f0.f0, (zaJ t153 x5_1).f0.f1⟩ : S44)]) := ⟨_, rfl⟩; replace H : (zay.l0 k1 y164 t153 (wrap64 (x5_1 + 1))) = some r := by first | (rw [hy164]; with_reducible exact H) | (have H2_ := (Option.bind_some _ _).symm.trans H; rw [hy164]; with_reducible exact H2_) | (have H2_ := (Option.bind_some _ _).symm.trans H; with_reducible exact H2_) | with_reducible exact H | (rw [hy164]; exact H) | exact H
        have Ny164 := zaa.mk hy164; clear hy164; have H' := zaa.mk H; clear H; obtain ⟨Ao15, co15, eo15⟩ := Kd.V_slice HO_4.out; subst eo15; have p156 : 0 ≤ (x5_1 : Int) := of_decide_eq_true (by assumption)
        have q156 : x5_1 < (t153.length : Int) := of_decide_eq_true (by assumption)
        obtain ⟨ad156, A156_3, c156_3, e156, hx156_0, hx156_1, hx156_2, hx156_3, hx156_4, hx156_5, hx156_6, hl156_3, hi156_3⟩ := at_T58 (Kd.zbu HO_4.out).2.2 x5_1 p156 q156; cases e156; obtain ⟨ce156, hce156, hMe156, hcc156⟩ := Kd.V_get HO_4.out z58 x5_1 p156 (by first | exact q156 | exact of_decide_eq_true (by assumption) | (have e_ := (Kd.zbu HO_4.out).1; omega))
        obtain ⟨ua156_3, uc156_3, rfl, ul156_3, ge156_3⟩ := zbR hMe156; have hv156_3 := hcc156 3 _ rfl; rw [zbe _ _ 3 (by omega)] at hv156_3
        replace hv156_3 := Option.some.inj (hv156_3.symm.trans hx156_3); injection hv156_3 with hva_ hvn_ hvc_
        rw [hva_] at ge156_3; rw [hvc_] at ul156_3; have HL156_3 := zaa.mk (show Kd.V k25 25 _ w.heap.size _ _ ((zaJ t153 x5_1).f0.f3) from Kd.V_mk ul156_3 ge156_3)
        clear hva_ hvn_ hvc_ ge156_3 ul156_3; clear hcc156 hce156; have HR156_3 := zaa.mk hi156_3; have HC156_3 := zaa.mk hl156_3; clear hi156_3 hl156_3; replace p156 := eq_true p156; replace q156 := eq_true q156; try go_wp2
        have n0_ := zaa.mk (Kd.za8 HO_3.out); have n1_ := zaa.mk (Kd.zbI HO_4.out); have n2_ := zaa.mk (Kd.zbI HL156_3.out); have n3_ := zaa.mk (zav BK152.out); have n4_ := zaa.mk (Kd.zb5 HR156_3.out); have n5_ := zaa.mk (zae HB.out); clear HO_3; clear HO_4; clear HL156_3; clear BK152; clear HR156_3; clear HB; have HO_3 := n0_; have HO_4 := n1_; have HL156_3 := n2_; have BK152 := n3_; have HR156_3 := n4_; have HB := n5_; clear n0_ n1_ n2_ n3_ n4_ n5_; have p162 : 0 ≤ (x5_1 : Int) := of_decide_eq_true (by assumption)
        have q162 : x5_1 < (t153.length : Int) := of_decide_eq_true (by assumption)
        obtain ⟨ad162, A162_3, c162_3, e162, hx162_0, hx162_1, hx162_2, hx162_3, hx162_4, hx162_5, hx162_6, hl162_3, hi162_3⟩ := at_T58 (Kd.zbu HO_4.out).2.2 x5_1 p162 q162; obtain rfl : ad156 = ad162 := (by injection e162)
        obtain ⟨ce162, hce162, hMe162, hcc162⟩ := Kd.V_get HO_4.out z58 x5_1 p162 (by first | exact q162 | exact of_decide_eq_true (by assumption) | (have e_ := (Kd.zbu HO_4.out).1; omega))
        obtain ⟨ua162_3, uc162_3, rfl, ul162_3, ge162_3⟩ := zbR hMe162; have hv162_3 := hcc162 3 _ rfl; rw [zbe _ _ 3 (by omega)] at hv162_3
        replace hv162_3 := Option.some.inj (hv162_3.symm.trans hx162_3); injection hv162_3 with hva_ hvn_ hvc_
        rw [hva_] at ge162_3; rw [hvc_] at ul162_3; have HL162_3 := zaa.mk (show Kd.V k25 25 _ w.heap.size _ _ ((zaJ t153 x5_1).f0.f3) from Kd.V_mk ul162_3 ge162_3)
        clear hva_ hvn_ hvc_ ge162_3 ul162_3; clear hcc162 hce162; have HR162_3 := zaa.mk hi162_3; have HC162_3 := zaa.mk hl162_3; clear hi162_3 hl162_3; replace p162 := eq_true p162; replace q162 := eq_true q162; have p163 : 0 ≤ (x5_1 : Int) := of_decide_eq_true (by assumption)
        have q163 : x5_1 < (t153.length : Int) := of_decide_eq_true (by assumption)
        obtain ⟨ad163, A163_3, c163_3, e163, hx163_0, hx163_1, hx163_2, hx163_3, hx163_4, hx163_5, hx163_6, hl163_3, hi163_3⟩ := at_T58 (Kd.zbu HO_4.out).2.2 x5_1 p163 q163; obtain rfl : ad156 = ad163 := (by injection e163)
        obtain ⟨ce163, hce163, hMe163, hcc163⟩ := Kd.V_get HO_4.out z58 x5_1 p163 (by first | exact q163 | exact of_decide_eq_true (by assumption) | (have e_ := (Kd.zbu HO_4.out).1; omega))
        obtain ⟨ua163_3, uc163_3, rfl, ul163_3, ge163_3⟩ := zbR hMe163; have hv163_3 := hcc163 3 _ rfl; rw [zbe _ _ 3 (by omega)] at hv163_3
        replace hv163_3 := Option.some.inj (hv163_3.symm.trans hx163_3); injection hv163_3 with hva_ hvn_ hvc_
        rw [hva_] at ge163_3; rw [hvc_] at ul163_3; have HL163_3 := zaa.mk (show Kd.V k25 25 _ w.heap.size _ _ ((zaJ t153 x5_1).f0.f3) from Kd.V_mk ul163_3 ge163_3)
        clear hva_ hvn_ hvc_ ge163_3 ul163_3; clear hcc163 hce163; have HR163_3 := zaa.mk hi163_3; have HC163_3 := zaa.mk hl163_3; clear hi163_3 hl163_3; replace p163 := eq_true p163; replace q163 := eq_true q163; have ea_ := Option.some.inj (hx162_3.symm.trans hx163_3); injection ea_ with ea_ en_ ec_
        subst ea_; subst ec_; clear en_; refine start_ (n := 17) (S := fun w' => w'.cell? (ad156.add ((x5_1).toNat * 7)) = some (.int .u8 ((zaJ t153 x5_1).f0.f0)) ∧ w'.cell? ⟨(ad156.add ((x5_1).toNat * 7)).block, (ad156.add ((x5_1).toNat * 7)).off + 1, none⟩ = some (.int .u8 ((zaJ t153 x5_1).f0.f1)) ∧ w'.cell? ⟨(ad156.add ((x5_1).toNat * 7)).block, (ad156.add ((x5_1).toNat * 7)).off + 2, none⟩ = some (.int .i64 ((zaJ t153 x5_1).f0.f2)) ∧ w'.cell? ⟨(ad156.add ((x5_1).toNat * 7)).block, (ad156.add ((x5_1).toNat * 7)).off + 3, none⟩ = some (.slice A162_3 ((zaJ t153 x5_1).f0.f3).length c162_3) ∧ w'.cell? ⟨(ad156.add ((x5_1).toNat * 7)).block, (ad156.add ((x5_1).toNat * 7)).off + 4, none⟩ = some (.int .i64 ((zaJ t153 x5_1).f1.f0)) ∧ w'.cell? ⟨(ad156.add ((x5_1).toNat * 7)).block, (ad156.add ((x5_1).toNat * 7)).off + 5, none⟩ = some (.int .i64 ((zaJ t153 x5_1).f1.f1)) ∧ w'.cell? ⟨(ad156.add ((x5_1).toNat * 7)).block, (ad156.add ((x5_1).toNat * 7)).off + 6, none⟩ = some (.int .i64 ((zaJ t153 x5_1).f2)) ∧ w'.cell? (ad156.add ((x5_1).toNat * 7)) = some (.int .u8 ((zaJ t153 x5_1).f0.f0)) ∧ w'.cell? ⟨(ad156.add ((x5_1).toNat * 7)).block, (ad156.add ((x5_1).toNat * 7)).off + 1, none⟩ = some (.int .u8 ((zaJ t153 x5_1).f0.f1)) ∧ w'.cell? ⟨(ad156.add ((x5_1).toNat * 7)).block, (ad156.add ((x5_1).toNat * 7)).off + 2, none⟩ = some (.int .i64 ((zaJ t153 x5_1).f0.f2)) ∧ w'.cell? ⟨(ad156.add ((x5_1).toNat * 7)).block, (ad156.add ((x5_1).toNat * 7)).off + 3, none⟩ = some (.slice A162_3 ((zaJ t153 x5_1).f0.f3).length c162_3) ∧ w'.cell? ⟨(ad156.add ((x5_1).toNat * 7)).block, (ad156.add ((x5_1).toNat * 7)).off + 4, none⟩ = some (.int .i64 ((zaJ t153 x5_1).f1.f0)) ∧ w'.cell? ⟨(ad156.add ((x5_1).toNat * 7)).block, (ad156.add ((x5_1).toNat * 7)).off + 5, none⟩ = some (.int .i64 ((zaJ t153 x5_1).f1.f1)) ∧ w'.cell? ⟨(ad156.add ((x5_1).toNat * 7)).block, (ad156.add ((x5_1).toNat * 7)).off + 6, none⟩ = some (.int .i64 ((zaJ t153 x5_1).f2))) (ds := [14, 15]) #[false, false, false, false, false, false, false, false, false, false, false, false, false, false, false, false, false] (by kernel_rfl) rfl rfl ⟨hx162_0, hx162_1, hx162_2, hx162_3, hx162_4, hx162_5, hx162_6, hx163_0, hx163_1, hx163_2, hx163_3, hx163_4, hx163_5, hx163_6⟩ (fun hHeld => ?_); refine with_tabW zay.tab8 zay.bits8 (fun HT_ HW_ => ?_)
        generalize wr.drew = w16 at HO_3 HO_4 HL156_3 BK152 HR156_3 HB HL162_3 HL163_3 HR162_3 HR163_3 hx162_0 hx162_1 hx162_2 hx162_3 hx162_4 hx162_5 hx162_6 hx163_0 hx163_1 hx163_2 hx163_3 hx163_4 hx163_5 hx163_6 hHeld ⊢
        refine pure_ (i := 0) (N := some 39) (v := ?_) (a' := ?_) #[true, false, false, false, false, false, false, false, false, false, false, false, false, false, false, false, false] rfl rfl (zbd HT_.out (by kernel_rfl)) (fun _ _ _ h => h) (Or.inl ⟨by rfl, ?_⟩) ?_ ?_
        rotate_left
        ·intro w'
         go_simp
         with_reducible rfl
        rotate_left
        ·simp only [Act.put, zaw, i64_w, i32_w]
         rfl
        refine pure_ (i := 1) (N := some 40) (v := ?_) (a' := ?_) #[true, true, false, false, false, false, false, false, false, false, false, false, false, false, false, false, false] rfl rfl (zbd HT_.out (by kernel_rfl)) (fun _ _ _ h => h) (Or.inl ⟨by rfl, ?_⟩) ?_ ?_
        rotate_left
        ·intro w'
         go_simp
         with_reducible rfl
        rotate_left
        ·simp only [Act.put, zaw, i64_w, i32_w]
         rfl
        refine pure_ (i := 2) (N := some 41) (v := ?_) (a' := ?_) #[true, true, true, false, false, false, false, false, false, false, false, false, false, false, false, false, false] rfl rfl (zbd HT_.out (by kernel_rfl)) (fun _ _ _ h => h) (Or.inl ⟨by rfl, ?_⟩) ?_ ?_
        rotate_left
        ·intro w'
         go_simp
         with_reducible rfl
        rotate_left
        ·simp only [Act.put, zaw, i64_w, i32_w]
         rfl
        refine pure_ (i := 3) (N := some 42) (v := ?_) (a' := ?_) #[true, true, true, true, false, false, false, false, false, false, false, false, false, false, false, false, false] rfl rfl (zbd HT_.out (by kernel_rfl)) (fun _ _ _ h => h) (Or.inl ⟨by rfl, ?_⟩) ?_ ?_
        rotate_left
        ·intro w'
         go_simp
         with_reducible rfl
        rotate_left
        ·simp only [Act.put, zaw, i64_w, i32_w]
         rfl
        refine pure_ (i := 4) (N := some 43) (v := ?_) (a' := ?_) #[true, true, true, true, true, false, false, false, false, false, false, false, false, false, false, false, false] rfl rfl (zbd HT_.out (by kernel_rfl)) (fun _ _ _ h => h) (Or.inl ⟨by rfl, ?_⟩) ?_ ?_
        rotate_left
        ·intro w'
         go_simp
         with_reducible rfl
        rotate_left
        ·simp only [Act.put, zaw, i64_w, i32_w]
         rfl
        refine pure_ (i := 6) (N := some 45) (v := ?_) (a' := ?_) #[true, true, true, true, true, false, true, false, false, false, false, false, false, false, false, false, false] rfl rfl (zbd HT_.out (by kernel_rfl)) (fun _ _ _ h => h) (Or.inl ⟨by rfl, ?_⟩) ?_ ?_
        rotate_left
        ·intro w'
         go_simp
         with_reducible rfl
        rotate_left
        ·simp only [Act.put, zaw, i64_w, i32_w]
         rfl
        refine pure_ (i := 7) (N := some 46) (v := ?_) (a' := ?_) #[true, true, true, true, true, false, true, true, false, false, false, false, false, false, false, false, false] rfl rfl (zbd HT_.out (by kernel_rfl)) (fun _ _ _ h => h) (Or.inl ⟨by rfl, ?_⟩) ?_ ?_
        rotate_left
        ·intro w'
         go_simp
         with_reducible rfl
        rotate_left
        ·simp only [Act.put, zaw, i64_w, i32_w]
         rfl
        refine pure_ (i := 8) (N := some 47) (v := ?_) (a' := ?_) #[true, true, true, true, true, false, true, true, true, false, false, false, false, false, false, false, false] rfl rfl (zbd HT_.out (by kernel_rfl)) (fun _ _ _ h => h) (Or.inl ⟨by rfl, ?_⟩) ?_ ?_
        rotate_left
        ·intro w'
         go_simp
         with_reducible rfl
        rotate_left
        ·simp only [Act.put, zaw, i64_w, i32_w]
         rfl
        refine pure_ (i := 9) (N := some 48) (v := ?_) (a' := ?_) #[true, true, true, true, true, false, true, true, true, true, false, false, false, false, false, false, false] rfl rfl (zbd HT_.out (by kernel_rfl)) (fun _ _ _ h => h) (Or.inl ⟨by rfl, ?_⟩) ?_ ?_
        rotate_left
        ·intro w'
         go_simp
         with_reducible rfl
        rotate_left
        ·simp only [Act.put, zaw, i64_w, i32_w]
         rfl
        refine pure_ (i := 10) (N := some 49) (v := ?_) (a' := ?_) #[true, true, true, true, true, false, true, true, true, true, true, false, false, false, false, false, false] rfl rfl (zbd HT_.out (by kernel_rfl)) (fun _ _ _ h => h) (Or.inl ⟨by rfl, ?_⟩) ?_ ?_
        rotate_left
        ·intro w'
         go_simp
         with_reducible rfl
        rotate_left
        ·simp only [Act.put, zaw, i64_w, i32_w]
         rfl
        refine pure_ (i := 11) (N := some 50) (v := ?_) (a' := ?_) #[true, true, true, true, true, false, true, true, true, true, true, true, false, false, false, false, false] rfl rfl (zbd HT_.out (by kernel_rfl)) (fun _ _ _ h => h) (Or.inl ⟨by rfl, ?_⟩) ?_ ?_
        rotate_left
        ·intro w'
         go_simp
         with_reducible rfl
        rotate_left
        ·simp only [Act.put, zaw, i64_w, i32_w]
         rfl
        refine take_ (i := 5) (N := some 44) (v := ?_) (a' := ?_) #[true, true, true, true, true, true, true, true, true, true, true, true, false, false, false, false, false] rfl rfl (zbU HT_.out HW_.out (by kernel_rfl)) (fun _ _ _ h => h) (Or.inl ⟨by rfl, ?_⟩) hHeld ?_ ?_
        rotate_left
        ·rintro w' ⟨s0, s1, s2, s3, s4, s5, s6, s7, s8, s9, s10, s11, s12, s13⟩
         go_simp
         with_reducible rfl
        rotate_left
        ·simp only [Act.put, zaw, i64_w, i32_w]
         rfl
        refine take_ (i := 12) (N := some 51) (v := ?_) (a' := ?_) #[true, true, true, true, true, true, true, true, true, true, true, true, true, false, false, false, false] rfl rfl (zbU HT_.out HW_.out (by kernel_rfl)) (fun _ _ _ h => h) (Or.inl ⟨by rfl, ?_⟩) hHeld ?_ ?_
        rotate_left
        ·rintro w' ⟨s0, s1, s2, s3, s4, s5, s6, s7, s8, s9, s10, s11, s12, s13⟩
         go_simp
         with_reducible rfl
        rotate_left
        ·simp only [Act.put, zaw, i64_w, i32_w]
         rfl
        refine pure_ (i := 13) (N := some 52) (v := ?_) (a' := ?_) #[true, true, true, true, true, true, true, true, true, true, true, true, true, true, false, false, false] rfl rfl (zbd HT_.out (by kernel_rfl)) (fun _ _ _ h => h) (Or.inl ⟨by rfl, ?_⟩) ?_ ?_
        rotate_left
        ·intro w'
         go_simp
         with_reducible rfl
        rotate_left
        ·simp only [Act.put, zaw, i64_w, i32_w]
         rfl
        refine last_ (i := 14) (N := some 53) #[true, true, true, true, true, true, true, true, true, true, true, true, true, true, true, false, false] rfl rfl (one_of HT_.out (by kernel_rfl)) (by decide) (fun K hK => ?_)
        refine value_ (w1 := ?_) (v := ?_) (by rfl) rfl ?_ ?_
        rotate_left 2
        ·go_simp
         constructor
         ·rfl
         ·rfl
        refine hK.out _ _ ?_
        clear hK K; refine norm_ (a' := ?_) ?_ ?_
        rotate_left
        ·show Act.put _ (some 53) _ = _
         simp only [Act.put, zaw, i64_w, i32_w]
         rfl
        refine last_ (i := 15) (N := some 54) #[true, true, true, true, true, true, true, true, true, true, true, true, true, true, true, true, false] rfl rfl (one_of HT_.out (by kernel_rfl)) (by decide) (fun K hK => ?_)
        refine Kd.R_append_step k44 (w0 := w) w.heap.size (by rfl) (.tmp 39) (.tmp 53) 37 44 (.agg #[(.int .i64 0), (.int .i64 0), (.int .u8 0), (.int .u8 0)]) 24 rfl Try.underlying37 info44 rfl (by decide) (by omega) u3 x3_1 (⟨(⟨(zaJ t153 x5_1).f1.f0, (zaJ t153 x5_1).f1.f1⟩ : S42), (zaJ t153 x5_1).f0.f0, (zaJ t153 x5_1).f0.f1⟩ : S44) [.int .i64 ((zaJ t153 x5_1).f1.f0), .int .i64 ((zaJ t153 x5_1).f1.f1), .int .u8 ((zaJ t153 x5_1).f0.f0), .int .u8 ((zaJ t153 x5_1).f0.f1)] (fun _ => True) (fun _ => False) rfl rfl ?aP (fun _ hk => hk.elim) ?aF ?aO ?aB ?aS ?aL ?_
        (case aP => exact k44_mkM _ _ _ (⟨(⟨(zaJ t153 x5_1).f1.f0, (zaJ t153 x5_1).f1.f1⟩ : S42), (zaJ t153 x5_1).f0.f0, (zaJ t153 x5_1).f0.f1⟩ : S44))
        (case aB => exact (by repeat (first | (with_reducible first | exact HB.out | apply zad | apply zac | apply zae | refine zaq ?_ GE152.out) | exact HB.out)))
        (case aF => exact (fun _ _ => trivial))
        (case aO => exact (by (with_reducible repeat (first | apply Kd.za3 | apply Kd.za2 | apply Kd.za8)); exact HO_3.out))
        (case aS => exact (zaB (by repeat (first | (with_reducible first | exact HB.out | apply zad | apply zac | apply zae | refine zaq ?_ GE152.out) | exact HB.out))))
        (case aL => have := LMc14.out; omega)
        intro v165 w17 ho hb hg hat
        rw [← Ny164.out] at ho; have n0_ := zaa.mk (Kd.zbQ (ok := (fun k_ => k_ ≠ gb152)) (by (with_reducible repeat (first | apply Kd.zbO | apply Kd.zbN | apply Kd.zbI)); exact Kd.zbX HO_4.out (fun _ hk => ⟨hk.2, hk.1⟩)) hg hat)
        have n1_ := zaa.mk (zcb (g := gb152) (o := .cells #[.int .u8 a0_0, .int .u8 a0_1, .int .i64 a0_2, .slice A0_3 l0_3.length c0_3] 25 (0, 0)) (by (with_reducible repeat (first | refine zar ?_ _ | refine zav ?_ | refine zas ?_ _)); exact BK152.out) hg (Kd.R_ne HO_3.out BK152.out (by decide)))
        have n2_ := zaa.mk (Kd.zbQ (ok := (fun k_ => k_ ≠ gb152)) (by (with_reducible repeat (first | apply Kd.zbO | apply Kd.zbN | apply Kd.zbI)); exact Kd.zbX HL156_3.out (fun _ hk => ⟨hk.2, hk.1⟩)) hg hat)
        have n3_ := zaa.mk (Kd.zbQ (ok := (fun k_ => k_ ≠ gb152)) (by (with_reducible repeat (first | apply Kd.zbO | apply Kd.zbN | apply Kd.zbI)); exact Kd.zbX HL162_3.out (fun _ hk => ⟨hk.2, hk.1⟩)) hg hat)
        have n4_ := zaa.mk (Kd.zbQ (ok := (fun k_ => k_ ≠ gb152)) (by (with_reducible repeat (first | apply Kd.zbO | apply Kd.zbN | apply Kd.zbI)); exact Kd.zbX HL163_3.out (fun _ hk => ⟨hk.2, hk.1⟩)) hg hat)
        have n5_ := zaa.mk (hb); have n6_ := zaa.mk (ho); clear HO_4; clear BK152; clear HL156_3; clear HL162_3; clear HL163_3; clear HB; clear HO_3; have HO_4 := n0_; have BK152 := n1_; have HL156_3 := n2_; have HL162_3 := n3_; have HL163_3 := n4_; have HB := n5_; have HO166 := n6_; clear n0_ n1_ n2_ n3_ n4_ n5_ n6_; clear ho hb hg hat; refine hK.out _ _ ?_
        clear hK K; refine norm_ (a' := ?_) ?_ ?_
        rotate_left
        ·show Act.put _ (some 54) _ = _
         simp only [Act.put, zaw, i64_w, i32_w]
         rfl
        refine pure_ (i := 16) (N := some 3) (v := ?_) (a' := ?_) #[true, true, true, true, true, true, true, true, true, true, true, true, true, true, true, true, true] rfl rfl (zbd HT_.out (by kernel_rfl)) (fun _ _ _ h => h) (Or.inl ⟨by rfl, ?_⟩) ?_ ?_
        rotate_left
        ·intro w'
         go_simp
         with_reducible rfl
        rotate_left
        ·simp only [Act.put, zaw, i64_w, i32_w]
         rfl
        refine done_ (done_of HT_.out (by kernel_rfl)) ?_
        try go_wp2
        go_roundg k1
        case measure => have := HK1.out; omega
        case rel => exact ⟨(y164), (wrap64 (x5_1 + 1)), (by first | rfl | (simp; done) | (simp [*]; done)), H', ⟨by have := HK1.out; omega⟩, ⟨by (with_reducible repeat (first | apply Kd.za3 | apply Kd.za2 | apply Kd.za8)); exact HO166.out⟩, ⟨by (with_reducible repeat (first | apply Kd.zbO | apply Kd.zbN | apply Kd.zbI)); exact Kd.zbX HO_4.out (fun _ hk => ⟨hk.2, hk.1⟩)⟩, ⟨by (with_reducible repeat (first | refine zar ?_ _ | refine zav ?_ | refine zas ?_ _)); exact BK152.out⟩, ⟨by repeat (first | (with_reducible first | exact HB.out | apply zad | apply zac | apply zae | refine zaq ?_ GE152.out) | exact HB.out)⟩⟩
       ·rw [if_neg c14] at H
        exact absurd H (by simp)
      ·rw [if_neg c13] at H
       have c13b0 : (((zaJ t153 x5_1).f0.f0) == 68) = false := beq_eq_false_iff_ne.mpr c13; have c13b1 : (((zaJ t153 x5_1).f0.f0) != 68) = true := bne_iff_ne.mpr c13; by_cases c18 : ((zaJ t153 x5_1).f0.f0) = 5
       ·rw [if_pos c18] at H
        have c18b0 : (((zaJ t153 x5_1).f0.f0) == 5) = true := beq_iff_eq.mpr c18; have c18b1 : (((zaJ t153 x5_1).f0.f0) != 5) = false := bne_eq_false_iff_eq.mpr c18; clear c18; by_cases c19 : x3_1.length < 5864062014805
        ·rw [if_pos c19] at H
         have LMc19 := zaa.mk c19; clear c19; obtain ⟨y169, hy169⟩ : ∃ y_ : List (S44), y_ = (x3_1 ++ [(⟨(⟨(zaJ t153 x5_1).f1.f0, (zaJ t153 x5_1).f1.f1⟩ : S42), (zaJ t153 x5_1).f0.f0, (zaJ t153 x5_1).f0.f1⟩ : S44)]) := ⟨_, rfl⟩; replace H : (zay.l0 k1 y169 t153 (wrap64 (x5_1 + 1))) = some r := by first | (rw [hy169]; with_reducible exact H) | (have H2_ := (Option.bind_some _ _).symm.trans H; rw [hy169]; with_reducible exact H2_) | (have H2_ := (Option.bind_some _ _).symm.trans H; with_reducible exact H2_) | with_reducible exact H | (rw [hy169]; exact H) | exact H
         have Ny169 := zaa.mk hy169; clear hy169; have H' := zaa.mk H; clear H; obtain ⟨Ao20, co20, eo20⟩ := Kd.V_slice HO_4.out; subst eo20; have p156 : 0 ≤ (x5_1 : Int) := of_decide_eq_true (by assumption)
         have q156 : x5_1 < (t153.length : Int) := of_decide_eq_true (by assumption)
         obtain ⟨ad156, A156_3, c156_3, e156, hx156_0, hx156_1, hx156_2, hx156_3, hx156_4, hx156_5, hx156_6, hl156_3, hi156_3⟩ := at_T58 (Kd.zbu HO_4.out).2.2 x5_1 p156 q156; cases e156; obtain ⟨ce156, hce156, hMe156, hcc156⟩ := Kd.V_get HO_4.out z58 x5_1 p156 (by first | exact q156 | exact of_decide_eq_true (by assumption) | (have e_ := (Kd.zbu HO_4.out).1; omega))
         obtain ⟨ua156_3, uc156_3, rfl, ul156_3, ge156_3⟩ := zbR hMe156; have hv156_3 := hcc156 3 _ rfl; rw [zbe _ _ 3 (by omega)] at hv156_3
         replace hv156_3 := Option.some.inj (hv156_3.symm.trans hx156_3); injection hv156_3 with hva_ hvn_ hvc_
         rw [hva_] at ge156_3; rw [hvc_] at ul156_3; have HL156_3 := zaa.mk (show Kd.V k25 25 _ w.heap.size _ _ ((zaJ t153 x5_1).f0.f3) from Kd.V_mk ul156_3 ge156_3)
         clear hva_ hvn_ hvc_ ge156_3 ul156_3; clear hcc156 hce156; have HR156_3 := zaa.mk hi156_3; have HC156_3 := zaa.mk hl156_3; clear hi156_3 hl156_3; replace p156 := eq_true p156; replace q156 := eq_true q156; try go_wp2
         have n0_ := zaa.mk (Kd.za8 HO_3.out); have n1_ := zaa.mk (Kd.zbI HO_4.out); have n2_ := zaa.mk (Kd.zbI HL156_3.out); have n3_ := zaa.mk (zav BK152.out); have n4_ := zaa.mk (Kd.zb5 HR156_3.out); have n5_ := zaa.mk (zae HB.out); clear HO_3; clear HO_4; clear HL156_3; clear BK152; clear HR156_3; clear HB; have HO_3 := n0_; have HO_4 := n1_; have HL156_3 := n2_; have BK152 := n3_; have HR156_3 := n4_; have HB := n5_; clear n0_ n1_ n2_ n3_ n4_ n5_; have p167 : 0 ≤ (x5_1 : Int) := of_decide_eq_true (by assumption)
         have q167 : x5_1 < (t153.length : Int) := of_decide_eq_true (by assumption)
         obtain ⟨ad167, A167_3, c167_3, e167, hx167_0, hx167_1, hx167_2, hx167_3, hx167_4, hx167_5, hx167_6, hl167_3, hi167_3⟩ := at_T58 (Kd.zbu HO_4.out).2.2 x5_1 p167 q167; obtain rfl : ad156 = ad167 := (by injection e167)
         obtain ⟨ce167, hce167, hMe167, hcc167⟩ := Kd.V_get HO_4.out z58 x5_1 p167 (by first | exact q167 | exact of_decide_eq_true (by assumption) | (have e_ := (Kd.zbu HO_4.out).1; omega))
         obtain ⟨ua167_3, uc167_3, rfl, ul167_3, ge167_3⟩ := zbR hMe167; have hv167_3 := hcc167 3 _ rfl; rw [zbe _ _ 3 (by omega)] at hv167_3
         replace hv167_3 := Option.some.inj (hv167_3.symm.trans hx167_3); injection hv167_3 with hva_ hvn_ hvc_
         rw [hva_] at ge167_3; rw [hvc_] at ul167_3; have HL167_3 := zaa.mk (show Kd.V k25 25 _ w.heap.size _ _ ((zaJ t153 x5_1).f0.f3) from Kd.V_mk ul167_3 ge167_3)
         clear hva_ hvn_ hvc_ ge167_3 ul167_3; clear hcc167 hce167; have HR167_3 := zaa.mk hi167_3; have HC167_3 := zaa.mk hl167_3; clear hi167_3 hl167_3; replace p167 := eq_true p167; replace q167 := eq_true q167; have p168 : 0 ≤ (x5_1 : Int) := of_decide_eq_true (by assumption)
         have q168 : x5_1 < (t153.length : Int) := of_decide_eq_true (by assumption)
         obtain ⟨ad168, A168_3, c168_3, e168, hx168_0, hx168_1, hx168_2, hx168_3, hx168_4, hx168_5, hx168_6, hl168_3, hi168_3⟩ := at_T58 (Kd.zbu HO_4.out).2.2 x5_1 p168 q168; obtain rfl : ad156 = ad168 := (by injection e168)
         obtain ⟨ce168, hce168, hMe168, hcc168⟩ := Kd.V_get HO_4.out z58 x5_1 p168 (by first | exact q168 | exact of_decide_eq_true (by assumption) | (have e_ := (Kd.zbu HO_4.out).1; omega))
         obtain ⟨ua168_3, uc168_3, rfl, ul168_3, ge168_3⟩ := zbR hMe168; have hv168_3 := hcc168 3 _ rfl; rw [zbe _ _ 3 (by omega)] at hv168_3
         replace hv168_3 := Option.some.inj (hv168_3.symm.trans hx168_3); injection hv168_3 with hva_ hvn_ hvc_
         rw [hva_] at ge168_3; rw [hvc_] at ul168_3; have HL168_3 := zaa.mk (show Kd.V k25 25 _ w.heap.size _ _ ((zaJ t153 x5_1).f0.f3) from Kd.V_mk ul168_3 ge168_3)
         clear hva_ hvn_ hvc_ ge168_3 ul168_3; clear hcc168 hce168; have HR168_3 := zaa.mk hi168_3; have HC168_3 := zaa.mk hl168_3; clear hi168_3 hl168_3; replace p168 := eq_true p168; replace q168 := eq_true q168; have ea_ := Option.some.inj (hx167_3.symm.trans hx168_3); injection ea_ with ea_ en_ ec_
         subst ea_; subst ec_; clear en_; refine start_ (n := 17) (S := fun w' => w'.cell? (ad156.add ((x5_1).toNat * 7)) = some (.int .u8 ((zaJ t153 x5_1).f0.f0)) ∧ w'.cell? ⟨(ad156.add ((x5_1).toNat * 7)).block, (ad156.add ((x5_1).toNat * 7)).off + 1, none⟩ = some (.int .u8 ((zaJ t153 x5_1).f0.f1)) ∧ w'.cell? ⟨(ad156.add ((x5_1).toNat * 7)).block, (ad156.add ((x5_1).toNat * 7)).off + 2, none⟩ = some (.int .i64 ((zaJ t153 x5_1).f0.f2)) ∧ w'.cell? ⟨(ad156.add ((x5_1).toNat * 7)).block, (ad156.add ((x5_1).toNat * 7)).off + 3, none⟩ = some (.slice A167_3 ((zaJ t153 x5_1).f0.f3).length c167_3) ∧ w'.cell? ⟨(ad156.add ((x5_1).toNat * 7)).block, (ad156.add ((x5_1).toNat * 7)).off + 4, none⟩ = some (.int .i64 ((zaJ t153 x5_1).f1.f0)) ∧ w'.cell? ⟨(ad156.add ((x5_1).toNat * 7)).block, (ad156.add ((x5_1).toNat * 7)).off + 5, none⟩ = some (.int .i64 ((zaJ t153 x5_1).f1.f1)) ∧ w'.cell? ⟨(ad156.add ((x5_1).toNat * 7)).block, (ad156.add ((x5_1).toNat * 7)).off + 6, none⟩ = some (.int .i64 ((zaJ t153 x5_1).f2)) ∧ w'.cell? (ad156.add ((x5_1).toNat * 7)) = some (.int .u8 ((zaJ t153 x5_1).f0.f0)) ∧ w'.cell? ⟨(ad156.add ((x5_1).toNat * 7)).block, (ad156.add ((x5_1).toNat * 7)).off + 1, none⟩ = some (.int .u8 ((zaJ t153 x5_1).f0.f1)) ∧ w'.cell? ⟨(ad156.add ((x5_1).toNat * 7)).block, (ad156.add ((x5_1).toNat * 7)).off + 2, none⟩ = some (.int .i64 ((zaJ t153 x5_1).f0.f2)) ∧ w'.cell? ⟨(ad156.add ((x5_1).toNat * 7)).block, (ad156.add ((x5_1).toNat * 7)).off + 3, none⟩ = some (.slice A167_3 ((zaJ t153 x5_1).f0.f3).length c167_3) ∧ w'.cell? ⟨(ad156.add ((x5_1).toNat * 7)).block, (ad156.add ((x5_1).toNat * 7)).off + 4, none⟩ = some (.int .i64 ((zaJ t153 x5_1).f1.f0)) ∧ w'.cell? ⟨(ad156.add ((x5_1).toNat * 7)).block, (ad156.add ((x5_1).toNat * 7)).off + 5, none⟩ = some (.int .i64 ((zaJ t153 x5_1).f1.f1)) ∧ w'.cell? ⟨(ad156.add ((x5_1).toNat * 7)).block, (ad156.add ((x5_1).toNat * 7)).off + 6, none⟩ = some (.int .i64 ((zaJ t153 x5_1).f2))) (ds := [14, 15]) #[false, false, false, false, false, false, false, false, false, false, false, false, false, false, false, false, false] (by kernel_rfl) rfl rfl ⟨hx167_0, hx167_1, hx167_2, hx167_3, hx167_4, hx167_5, hx167_6, hx168_0, hx168_1, hx168_2, hx168_3, hx168_4, hx168_5, hx168_6⟩ (fun hHeld => ?_); refine with_tabW zay.tab8 zay.bits8 (fun HT_ HW_ => ?_)
         generalize wr.drew = w21 at HO_3 HO_4 HL156_3 BK152 HR156_3 HB HL167_3 HL168_3 HR167_3 HR168_3 hx167_0 hx167_1 hx167_2 hx167_3 hx167_4 hx167_5 hx167_6 hx168_0 hx168_1 hx168_2 hx168_3 hx168_4 hx168_5 hx168_6 hHeld ⊢
         refine pure_ (i := 0) (N := some 39) (v := ?_) (a' := ?_) #[true, false, false, false, false, false, false, false, false, false, false, false, false, false, false, false, false] rfl rfl (zbd HT_.out (by kernel_rfl)) (fun _ _ _ h => h) (Or.inl ⟨by rfl, ?_⟩) ?_ ?_
         rotate_left
         ·intro w'
          go_simp
          with_reducible rfl
         rotate_left
         ·simp only [Act.put, zaw, i64_w, i32_w]
          rfl
         refine pure_ (i := 1) (N := some 40) (v := ?_) (a' := ?_) #[true, true, false, false, false, false, false, false, false, false, false, false, false, false, false, false, false] rfl rfl (zbd HT_.out (by kernel_rfl)) (fun _ _ _ h => h) (Or.inl ⟨by rfl, ?_⟩) ?_ ?_
         rotate_left
         ·intro w'
          go_simp
          with_reducible rfl
         rotate_left
         ·simp only [Act.put, zaw, i64_w, i32_w]
          rfl
         refine pure_ (i := 2) (N := some 41) (v := ?_) (a' := ?_) #[true, true, true, false, false, false, false, false, false, false, false, false, false, false, false, false, false] rfl rfl (zbd HT_.out (by kernel_rfl)) (fun _ _ _ h => h) (Or.inl ⟨by rfl, ?_⟩) ?_ ?_
         rotate_left
         ·intro w'
          go_simp
          with_reducible rfl
         rotate_left
         ·simp only [Act.put, zaw, i64_w, i32_w]
          rfl
         refine pure_ (i := 3) (N := some 42) (v := ?_) (a' := ?_) #[true, true, true, true, false, false, false, false, false, false, false, false, false, false, false, false, false] rfl rfl (zbd HT_.out (by kernel_rfl)) (fun _ _ _ h => h) (Or.inl ⟨by rfl, ?_⟩) ?_ ?_
         rotate_left
         ·intro w'
          go_simp
          with_reducible rfl
         rotate_left
         ·simp only [Act.put, zaw, i64_w, i32_w]
          rfl
         refine pure_ (i := 4) (N := some 43) (v := ?_) (a' := ?_) #[true, true, true, true, true, false, false, false, false, false, false, false, false, false, false, false, false] rfl rfl (zbd HT_.out (by kernel_rfl)) (fun _ _ _ h => h) (Or.inl ⟨by rfl, ?_⟩) ?_ ?_
         rotate_left
         ·intro w'
          go_simp
          with_reducible rfl
         rotate_left
         ·simp only [Act.put, zaw, i64_w, i32_w]
          rfl
         refine pure_ (i := 6) (N := some 45) (v := ?_) (a' := ?_) #[true, true, true, true, true, false, true, false, false, false, false, false, false, false, false, false, false] rfl rfl (zbd HT_.out (by kernel_rfl)) (fun _ _ _ h => h) (Or.inl ⟨by rfl, ?_⟩) ?_ ?_
         rotate_left
         ·intro w'
          go_simp
          with_reducible rfl
         rotate_left
         ·simp only [Act.put, zaw, i64_w, i32_w]
          rfl
         refine pure_ (i := 7) (N := some 46) (v := ?_) (a' := ?_) #[true, true, true, true, true, false, true, true, false, false, false, false, false, false, false, false, false] rfl rfl (zbd HT_.out (by kernel_rfl)) (fun _ _ _ h => h) (Or.inl ⟨by rfl, ?_⟩) ?_ ?_
         rotate_left
         ·intro w'
          go_simp
          with_reducible rfl
         rotate_left
         ·simp only [Act.put, zaw, i64_w, i32_w]
          rfl
         refine pure_ (i := 8) (N := some 47) (v := ?_) (a' := ?_) #[true, true, true, true, true, false, true, true, true, false, false, false, false, false, false, false, false] rfl rfl (zbd HT_.out (by kernel_rfl)) (fun _ _ _ h => h) (Or.inl ⟨by rfl, ?_⟩) ?_ ?_
         rotate_left
         ·intro w'
          go_simp
          with_reducible rfl
         rotate_left
         ·simp only [Act.put, zaw, i64_w, i32_w]
          rfl
         refine pure_ (i := 9) (N := some 48) (v := ?_) (a' := ?_) #[true, true, true, true, true, false, true, true, true, true, false, false, false, false, false, false, false] rfl rfl (zbd HT_.out (by kernel_rfl)) (fun _ _ _ h => h) (Or.inl ⟨by rfl, ?_⟩) ?_ ?_
         rotate_left
         ·intro w'
          go_simp
          with_reducible rfl
         rotate_left
         ·simp only [Act.put, zaw, i64_w, i32_w]
          rfl
         refine pure_ (i := 10) (N := some 49) (v := ?_) (a' := ?_) #[true, true, true, true, true, false, true, true, true, true, true, false, false, false, false, false, false] rfl rfl (zbd HT_.out (by kernel_rfl)) (fun _ _ _ h => h) (Or.inl ⟨by rfl, ?_⟩) ?_ ?_
         rotate_left
         ·intro w'
          go_simp
          with_reducible rfl
         rotate_left
         ·simp only [Act.put, zaw, i64_w, i32_w]
          rfl
         refine pure_ (i := 11) (N := some 50) (v := ?_) (a' := ?_) #[true, true, true, true, true, false, true, true, true, true, true, true, false, false, false, false, false] rfl rfl (zbd HT_.out (by kernel_rfl)) (fun _ _ _ h => h) (Or.inl ⟨by rfl, ?_⟩) ?_ ?_
         rotate_left
         ·intro w'
          go_simp
          with_reducible rfl
         rotate_left
         ·simp only [Act.put, zaw, i64_w, i32_w]
          rfl
         refine take_ (i := 5) (N := some 44) (v := ?_) (a' := ?_) #[true, true, true, true, true, true, true, true, true, true, true, true, false, false, false, false, false] rfl rfl (zbU HT_.out HW_.out (by kernel_rfl)) (fun _ _ _ h => h) (Or.inl ⟨by rfl, ?_⟩) hHeld ?_ ?_
         rotate_left
         ·rintro w' ⟨s0, s1, s2, s3, s4, s5, s6, s7, s8, s9, s10, s11, s12, s13⟩
          go_simp
          with_reducible rfl
         rotate_left
         ·simp only [Act.put, zaw, i64_w, i32_w]
          rfl
         refine take_ (i := 12) (N := some 51) (v := ?_) (a' := ?_) #[true, true, true, true, true, true, true, true, true, true, true, true, true, false, false, false, false] rfl rfl (zbU HT_.out HW_.out (by kernel_rfl)) (fun _ _ _ h => h) (Or.inl ⟨by rfl, ?_⟩) hHeld ?_ ?_
         rotate_left
         ·rintro w' ⟨s0, s1, s2, s3, s4, s5, s6, s7, s8, s9, s10, s11, s12, s13⟩
          go_simp
          with_reducible rfl
         rotate_left
         ·simp only [Act.put, zaw, i64_w, i32_w]
          rfl
         refine pure_ (i := 13) (N := some 52) (v := ?_) (a' := ?_) #[true, true, true, true, true, true, true, true, true, true, true, true, true, true, false, false, false] rfl rfl (zbd HT_.out (by kernel_rfl)) (fun _ _ _ h => h) (Or.inl ⟨by rfl, ?_⟩) ?_ ?_
         rotate_left
         ·intro w'
          go_simp
          with_reducible rfl
         rotate_left
         ·simp only [Act.put, zaw, i64_w, i32_w]
          rfl
         refine last_ (i := 14) (N := some 53) #[true, true, true, true, true, true, true, true, true, true, true, true, true, true, true, false, false] rfl rfl (one_of HT_.out (by kernel_rfl)) (by decide) (fun K hK => ?_)
         refine value_ (w1 := ?_) (v := ?_) (by rfl) rfl ?_ ?_
         rotate_left 2
         ·go_simp
          constructor
          ·rfl
          ·rfl
         refine hK.out _ _ ?_
         clear hK K; refine norm_ (a' := ?_) ?_ ?_
         rotate_left
         ·show Act.put _ (some 53) _ = _
          simp only [Act.put, zaw, i64_w, i32_w]
          rfl
         refine last_ (i := 15) (N := some 54) #[true, true, true, true, true, true, true, true, true, true, true, true, true, true, true, true, false] rfl rfl (one_of HT_.out (by kernel_rfl)) (by decide) (fun K hK => ?_)
         refine Kd.R_append_step k44 (w0 := w) w.heap.size (by rfl) (.tmp 39) (.tmp 53) 37 44 (.agg #[(.int .i64 0), (.int .i64 0), (.int .u8 0), (.int .u8 0)]) 24 rfl Try.underlying37 info44 rfl (by decide) (by omega) u3 x3_1 (⟨(⟨(zaJ t153 x5_1).f1.f0, (zaJ t153 x5_1).f1.f1⟩ : S42), (zaJ t153 x5_1).f0.f0, (zaJ t153 x5_1).f0.f1⟩ : S44) [.int .i64 ((zaJ t153 x5_1).f1.f0), .int .i64 ((zaJ t153 x5_1).f1.f1), .int .u8 ((zaJ t153 x5_1).f0.f0), .int .u8 ((zaJ t153 x5_1).f0.f1)] (fun _ => True) (fun _ => False) rfl rfl ?aP (fun _ hk => hk.elim) ?aF ?aO ?aB ?aS ?aL ?_
         (case aP => exact k44_mkM _ _ _ (⟨(⟨(zaJ t153 x5_1).f1.f0, (zaJ t153 x5_1).f1.f1⟩ : S42), (zaJ t153 x5_1).f0.f0, (zaJ t153 x5_1).f0.f1⟩ : S44))
         (case aB => exact (by repeat (first | (with_reducible first | exact HB.out | apply zad | apply zac | apply zae | refine zaq ?_ GE152.out) | exact HB.out)))
         (case aF => exact (fun _ _ => trivial))
         (case aO => exact (by (with_reducible repeat (first | apply Kd.za3 | apply Kd.za2 | apply Kd.za8)); exact HO_3.out))
         (case aS => exact (zaB (by repeat (first | (with_reducible first | exact HB.out | apply zad | apply zac | apply zae | refine zaq ?_ GE152.out) | exact HB.out))))
         (case aL => have := LMc19.out; omega)
         intro v170 w22 ho hb hg hat
         rw [← Ny169.out] at ho; have n0_ := zaa.mk (Kd.zbQ (ok := (fun k_ => k_ ≠ gb152)) (by (with_reducible repeat (first | apply Kd.zbO | apply Kd.zbN | apply Kd.zbI)); exact Kd.zbX HO_4.out (fun _ hk => ⟨hk.2, hk.1⟩)) hg hat)
         have n1_ := zaa.mk (zcb (g := gb152) (o := .cells #[.int .u8 a0_0, .int .u8 a0_1, .int .i64 a0_2, .slice A0_3 l0_3.length c0_3] 25 (0, 0)) (by (with_reducible repeat (first | refine zar ?_ _ | refine zav ?_ | refine zas ?_ _)); exact BK152.out) hg (Kd.R_ne HO_3.out BK152.out (by decide)))
         have n2_ := zaa.mk (Kd.zbQ (ok := (fun k_ => k_ ≠ gb152)) (by (with_reducible repeat (first | apply Kd.zbO | apply Kd.zbN | apply Kd.zbI)); exact Kd.zbX HL156_3.out (fun _ hk => ⟨hk.2, hk.1⟩)) hg hat)
         have n3_ := zaa.mk (Kd.zbQ (ok := (fun k_ => k_ ≠ gb152)) (by (with_reducible repeat (first | apply Kd.zbO | apply Kd.zbN | apply Kd.zbI)); exact Kd.zbX HL167_3.out (fun _ hk => ⟨hk.2, hk.1⟩)) hg hat)
         have n4_ := zaa.mk (Kd.zbQ (ok := (fun k_ => k_ ≠ gb152)) (by (with_reducible repeat (first | apply Kd.zbO | apply Kd.zbN | apply Kd.zbI)); exact Kd.zbX HL168_3.out (fun _ hk => ⟨hk.2, hk.1⟩)) hg hat)
         have n5_ := zaa.mk (hb); have n6_ := zaa.mk (ho); clear HO_4; clear BK152; clear HL156_3; clear HL167_3; clear HL168_3; clear HB; clear HO_3; have HO_4 := n0_; have BK152 := n1_; have HL156_3 := n2_; have HL167_3 := n3_; have HL168_3 := n4_; have HB := n5_; have HO171 := n6_; clear n0_ n1_ n2_ n3_ n4_ n5_ n6_; clear ho hb hg hat; refine hK.out _ _ ?_
         clear hK K; refine norm_ (a' := ?_) ?_ ?_
         rotate_left
         ·show Act.put _ (some 54) _ = _
          simp only [Act.put, zaw, i64_w, i32_w]
          rfl
         refine pure_ (i := 16) (N := some 3) (v := ?_) (a' := ?_) #[true, true, true, true, true, true, true, true, true, true, true, true, true, true, true, true, true] rfl rfl (zbd HT_.out (by kernel_rfl)) (fun _ _ _ h => h) (Or.inl ⟨by rfl, ?_⟩) ?_ ?_
         rotate_left
         ·intro w'
          go_simp
          with_reducible rfl
         rotate_left
         ·simp only [Act.put, zaw, i64_w, i32_w]
          rfl
         refine done_ (done_of HT_.out (by kernel_rfl)) ?_
         try go_wp2
         go_roundg k1
         case measure => have := HK1.out; omega
         case rel => exact ⟨(y169), (wrap64 (x5_1 + 1)), (by first | rfl | (simp; done) | (simp [*]; done)), H', ⟨by have := HK1.out; omega⟩, ⟨by (with_reducible repeat (first | apply Kd.za3 | apply Kd.za2 | apply Kd.za8)); exact HO171.out⟩, ⟨by (with_reducible repeat (first | apply Kd.zbO | apply Kd.zbN | apply Kd.zbI)); exact Kd.zbX HO_4.out (fun _ hk => ⟨hk.2, hk.1⟩)⟩, ⟨by (with_reducible repeat (first | refine zar ?_ _ | refine zav ?_ | refine zas ?_ _)); exact BK152.out⟩, ⟨by repeat (first | (with_reducible first | exact HB.out | apply zad | apply zac | apply zae | refine zaq ?_ GE152.out) | exact HB.out)⟩⟩
        ·rw [if_neg c19] at H
         exact absurd H (by simp)
       ·rw [if_neg c18] at H
        have c18b0 : (((zaJ t153 x5_1).f0.f0) == 5) = false := beq_eq_false_iff_ne.mpr c18; have c18b1 : (((zaJ t153 x5_1).f0.f0) != 5) = true := bne_iff_ne.mpr c18; by_cases c23 : ((zaJ t153 x5_1).f0.f0) = 9
        ·rw [if_pos c23] at H
         have c23b0 : (((zaJ t153 x5_1).f0.f0) == 9) = true := beq_iff_eq.mpr c23; have c23b1 : (((zaJ t153 x5_1).f0.f0) != 9) = false := bne_eq_false_iff_eq.mpr c23; clear c23; by_cases c24 : x3_1.length < 5864062014805
         ·rw [if_pos c24] at H
          have LMc24 := zaa.mk c24; clear c24; obtain ⟨y174, hy174⟩ : ∃ y_ : List (S44), y_ = (x3_1 ++ [(⟨(⟨(zaJ t153 x5_1).f1.f0, (zaJ t153 x5_1).f1.f1⟩ : S42), (zaJ t153 x5_1).f0.f0, (zaJ t153 x5_1).f0.f1⟩ : S44)]) := ⟨_, rfl⟩; replace H : (zay.l0 k1 y174 t153 (wrap64 (x5_1 + 1))) = some r := by first | (rw [hy174]; with_reducible exact H) | (have H2_ := (Option.bind_some _ _).symm.trans H; rw [hy174]; with_reducible exact H2_) | (have H2_ := (Option.bind_some _ _).symm.trans H; with_reducible exact H2_) | with_reducible exact H | (rw [hy174]; exact H) | exact H
          have Ny174 := zaa.mk hy174; clear hy174; have H' := zaa.mk H; clear H; obtain ⟨Ao25, co25, eo25⟩ := Kd.V_slice HO_4.out; subst eo25; have p156 : 0 ≤ (x5_1 : Int) := of_decide_eq_true (by assumption)
          have q156 : x5_1 < (t153.length : Int) := of_decide_eq_true (by assumption)
          obtain ⟨ad156, A156_3, c156_3, e156, hx156_0, hx156_1, hx156_2, hx156_3, hx156_4, hx156_5, hx156_6, hl156_3, hi156_3⟩ := at_T58 (Kd.zbu HO_4.out).2.2 x5_1 p156 q156; cases e156; obtain ⟨ce156, hce156, hMe156, hcc156⟩ := Kd.V_get HO_4.out z58 x5_1 p156 (by first | exact q156 | exact of_decide_eq_true (by assumption) | (have e_ := (Kd.zbu HO_4.out).1; omega))
          obtain ⟨ua156_3, uc156_3, rfl, ul156_3, ge156_3⟩ := zbR hMe156; have hv156_3 := hcc156 3 _ rfl; rw [zbe _ _ 3 (by omega)] at hv156_3
          replace hv156_3 := Option.some.inj (hv156_3.symm.trans hx156_3); injection hv156_3 with hva_ hvn_ hvc_
          rw [hva_] at ge156_3; rw [hvc_] at ul156_3; have HL156_3 := zaa.mk (show Kd.V k25 25 _ w.heap.size _ _ ((zaJ t153 x5_1).f0.f3) from Kd.V_mk ul156_3 ge156_3)
          clear hva_ hvn_ hvc_ ge156_3 ul156_3; clear hcc156 hce156; have HR156_3 := zaa.mk hi156_3; have HC156_3 := zaa.mk hl156_3; clear hi156_3 hl156_3; replace p156 := eq_true p156; replace q156 := eq_true q156; try go_wp2
          have n0_ := zaa.mk (Kd.za8 HO_3.out); have n1_ := zaa.mk (Kd.zbI HO_4.out); have n2_ := zaa.mk (Kd.zbI HL156_3.out); have n3_ := zaa.mk (zav BK152.out); have n4_ := zaa.mk (Kd.zb5 HR156_3.out); have n5_ := zaa.mk (zae HB.out); clear HO_3; clear HO_4; clear HL156_3; clear BK152; clear HR156_3; clear HB; have HO_3 := n0_; have HO_4 := n1_; have HL156_3 := n2_; have BK152 := n3_; have HR156_3 := n4_; have HB := n5_; clear n0_ n1_ n2_ n3_ n4_ n5_; have p172 : 0 ≤ (x5_1 : Int) := of_decide_eq_true (by assumption)
          have q172 : x5_1 < (t153.length : Int) := of_decide_eq_true (by assumption)
          obtain ⟨ad172, A172_3, c172_3, e172, hx172_0, hx172_1, hx172_2, hx172_3, hx172_4, hx172_5, hx172_6, hl172_3, hi172_3⟩ := at_T58 (Kd.zbu HO_4.out).2.2 x5_1 p172 q172; obtain rfl : ad156 = ad172 := (by injection e172)
          obtain ⟨ce172, hce172, hMe172, hcc172⟩ := Kd.V_get HO_4.out z58 x5_1 p172 (by first | exact q172 | exact of_decide_eq_true (by assumption) | (have e_ := (Kd.zbu HO_4.out).1; omega))
          obtain ⟨ua172_3, uc172_3, rfl, ul172_3, ge172_3⟩ := zbR hMe172; have hv172_3 := hcc172 3 _ rfl; rw [zbe _ _ 3 (by omega)] at hv172_3
          replace hv172_3 := Option.some.inj (hv172_3.symm.trans hx172_3); injection hv172_3 with hva_ hvn_ hvc_
          rw [hva_] at ge172_3; rw [hvc_] at ul172_3; have HL172_3 := zaa.mk (show Kd.V k25 25 _ w.heap.size _ _ ((zaJ t153 x5_1).f0.f3) from Kd.V_mk ul172_3 ge172_3)
          clear hva_ hvn_ hvc_ ge172_3 ul172_3; clear hcc172 hce172; have HR172_3 := zaa.mk hi172_3; have HC172_3 := zaa.mk hl172_3; clear hi172_3 hl172_3; replace p172 := eq_true p172; replace q172 := eq_true q172; have p173 : 0 ≤ (x5_1 : Int) := of_decide_eq_true (by assumption)
          have q173 : x5_1 < (t153.length : Int) := of_decide_eq_true (by assumption)
          obtain ⟨ad173, A173_3, c173_3, e173, hx173_0, hx173_1, hx173_2, hx173_3, hx173_4, hx173_5, hx173_6, hl173_3, hi173_3⟩ := at_T58 (Kd.zbu HO_4.out).2.2 x5_1 p173 q173; obtain rfl : ad156 = ad173 := (by injection e173)
          obtain ⟨ce173, hce173, hMe173, hcc173⟩ := Kd.V_get HO_4.out z58 x5_1 p173 (by first | exact q173 | exact of_decide_eq_true (by assumption) | (have e_ := (Kd.zbu HO_4.out).1; omega))
          obtain ⟨ua173_3, uc173_3, rfl, ul173_3, ge173_3⟩ := zbR hMe173; have hv173_3 := hcc173 3 _ rfl; rw [zbe _ _ 3 (by omega)] at hv173_3
          replace hv173_3 := Option.some.inj (hv173_3.symm.trans hx173_3); injection hv173_3 with hva_ hvn_ hvc_
          rw [hva_] at ge173_3; rw [hvc_] at ul173_3; have HL173_3 := zaa.mk (show Kd.V k25 25 _ w.heap.size _ _ ((zaJ t153 x5_1).f0.f3) from Kd.V_mk ul173_3 ge173_3)
          clear hva_ hvn_ hvc_ ge173_3 ul173_3; clear hcc173 hce173; have HR173_3 := zaa.mk hi173_3; have HC173_3 := zaa.mk hl173_3; clear hi173_3 hl173_3; replace p173 := eq_true p173; replace q173 := eq_true q173; have ea_ := Option.some.inj (hx172_3.symm.trans hx173_3); injection ea_ with ea_ en_ ec_
          subst ea_; subst ec_; clear en_; refine start_ (n := 17) (S := fun w' => w'.cell? (ad156.add ((x5_1).toNat * 7)) = some (.int .u8 ((zaJ t153 x5_1).f0.f0)) ∧ w'.cell? ⟨(ad156.add ((x5_1).toNat * 7)).block, (ad156.add ((x5_1).toNat * 7)).off + 1, none⟩ = some (.int .u8 ((zaJ t153 x5_1).f0.f1)) ∧ w'.cell? ⟨(ad156.add ((x5_1).toNat * 7)).block, (ad156.add ((x5_1).toNat * 7)).off + 2, none⟩ = some (.int .i64 ((zaJ t153 x5_1).f0.f2)) ∧ w'.cell? ⟨(ad156.add ((x5_1).toNat * 7)).block, (ad156.add ((x5_1).toNat * 7)).off + 3, none⟩ = some (.slice A172_3 ((zaJ t153 x5_1).f0.f3).length c172_3) ∧ w'.cell? ⟨(ad156.add ((x5_1).toNat * 7)).block, (ad156.add ((x5_1).toNat * 7)).off + 4, none⟩ = some (.int .i64 ((zaJ t153 x5_1).f1.f0)) ∧ w'.cell? ⟨(ad156.add ((x5_1).toNat * 7)).block, (ad156.add ((x5_1).toNat * 7)).off + 5, none⟩ = some (.int .i64 ((zaJ t153 x5_1).f1.f1)) ∧ w'.cell? ⟨(ad156.add ((x5_1).toNat * 7)).block, (ad156.add ((x5_1).toNat * 7)).off + 6, none⟩ = some (.int .i64 ((zaJ t153 x5_1).f2)) ∧ w'.cell? (ad156.add ((x5_1).toNat * 7)) = some (.int .u8 ((zaJ t153 x5_1).f0.f0)) ∧ w'.cell? ⟨(ad156.add ((x5_1).toNat * 7)).block, (ad156.add ((x5_1).toNat * 7)).off + 1, none⟩ = some (.int .u8 ((zaJ t153 x5_1).f0.f1)) ∧ w'.cell? ⟨(ad156.add ((x5_1).toNat * 7)).block, (ad156.add ((x5_1).toNat * 7)).off + 2, none⟩ = some (.int .i64 ((zaJ t153 x5_1).f0.f2)) ∧ w'.cell? ⟨(ad156.add ((x5_1).toNat * 7)).block, (ad156.add ((x5_1).toNat * 7)).off + 3, none⟩ = some (.slice A172_3 ((zaJ t153 x5_1).f0.f3).length c172_3) ∧ w'.cell? ⟨(ad156.add ((x5_1).toNat * 7)).block, (ad156.add ((x5_1).toNat * 7)).off + 4, none⟩ = some (.int .i64 ((zaJ t153 x5_1).f1.f0)) ∧ w'.cell? ⟨(ad156.add ((x5_1).toNat * 7)).block, (ad156.add ((x5_1).toNat * 7)).off + 5, none⟩ = some (.int .i64 ((zaJ t153 x5_1).f1.f1)) ∧ w'.cell? ⟨(ad156.add ((x5_1).toNat * 7)).block, (ad156.add ((x5_1).toNat * 7)).off + 6, none⟩ = some (.int .i64 ((zaJ t153 x5_1).f2))) (ds := [14, 15]) #[false, false, false, false, false, false, false, false, false, false, false, false, false, false, false, false, false] (by kernel_rfl) rfl rfl ⟨hx172_0, hx172_1, hx172_2, hx172_3, hx172_4, hx172_5, hx172_6, hx173_0, hx173_1, hx173_2, hx173_3, hx173_4, hx173_5, hx173_6⟩ (fun hHeld => ?_); refine with_tabW zay.tab8 zay.bits8 (fun HT_ HW_ => ?_)
          generalize wr.drew = w26 at HO_3 HO_4 HL156_3 BK152 HR156_3 HB HL172_3 HL173_3 HR172_3 HR173_3 hx172_0 hx172_1 hx172_2 hx172_3 hx172_4 hx172_5 hx172_6 hx173_0 hx173_1 hx173_2 hx173_3 hx173_4 hx173_5 hx173_6 hHeld ⊢
          refine pure_ (i := 0) (N := some 39) (v := ?_) (a' := ?_) #[true, false, false, false, false, false, false, false, false, false, false, false, false, false, false, false, false] rfl rfl (zbd HT_.out (by kernel_rfl)) (fun _ _ _ h => h) (Or.inl ⟨by rfl, ?_⟩) ?_ ?_
          rotate_left
          ·intro w'
           go_simp
           with_reducible rfl
          rotate_left
          ·simp only [Act.put, zaw, i64_w, i32_w]
           rfl
          refine pure_ (i := 1) (N := some 40) (v := ?_) (a' := ?_) #[true, true, false, false, false, false, false, false, false, false, false, false, false, false, false, false, false] rfl rfl (zbd HT_.out (by kernel_rfl)) (fun _ _ _ h => h) (Or.inl ⟨by rfl, ?_⟩) ?_ ?_
          rotate_left
          ·intro w'
           go_simp
           with_reducible rfl
          rotate_left
          ·simp only [Act.put, zaw, i64_w, i32_w]
           rfl
          refine pure_ (i := 2) (N := some 41) (v := ?_) (a' := ?_) #[true, true, true, false, false, false, false, false, false, false, false, false, false, false, false, false, false] rfl rfl (zbd HT_.out (by kernel_rfl)) (fun _ _ _ h => h) (Or.inl ⟨by rfl, ?_⟩) ?_ ?_
          rotate_left
          ·intro w'
           go_simp
           with_reducible rfl
          rotate_left
          ·simp only [Act.put, zaw, i64_w, i32_w]
           rfl
          refine pure_ (i := 3) (N := some 42) (v := ?_) (a' := ?_) #[true, true, true, true, false, false, false, false, false, false, false, false, false, false, false, false, false] rfl rfl (zbd HT_.out (by kernel_rfl)) (fun _ _ _ h => h) (Or.inl ⟨by rfl, ?_⟩) ?_ ?_
          rotate_left
          ·intro w'
           go_simp
           with_reducible rfl
          rotate_left
          ·simp only [Act.put, zaw, i64_w, i32_w]
           rfl
          refine pure_ (i := 4) (N := some 43) (v := ?_) (a' := ?_) #[true, true, true, true, true, false, false, false, false, false, false, false, false, false, false, false, false] rfl rfl (zbd HT_.out (by kernel_rfl)) (fun _ _ _ h => h) (Or.inl ⟨by rfl, ?_⟩) ?_ ?_
          rotate_left
          ·intro w'
           go_simp
           with_reducible rfl
          rotate_left
          ·simp only [Act.put, zaw, i64_w, i32_w]
           rfl
          refine pure_ (i := 6) (N := some 45) (v := ?_) (a' := ?_) #[true, true, true, true, true, false, true, false, false, false, false, false, false, false, false, false, false] rfl rfl (zbd HT_.out (by kernel_rfl)) (fun _ _ _ h => h) (Or.inl ⟨by rfl, ?_⟩) ?_ ?_
          rotate_left
          ·intro w'
           go_simp
           with_reducible rfl
          rotate_left
          ·simp only [Act.put, zaw, i64_w, i32_w]
           rfl
          refine pure_ (i := 7) (N := some 46) (v := ?_) (a' := ?_) #[true, true, true, true, true, false, true, true, false, false, false, false, false, false, false, false, false] rfl rfl (zbd HT_.out (by kernel_rfl)) (fun _ _ _ h => h) (Or.inl ⟨by rfl, ?_⟩) ?_ ?_
          rotate_left
          ·intro w'
           go_simp
           with_reducible rfl
          rotate_left
          ·simp only [Act.put, zaw, i64_w, i32_w]
           rfl
          refine pure_ (i := 8) (N := some 47) (v := ?_) (a' := ?_) #[true, true, true, true, true, false, true, true, true, false, false, false, false, false, false, false, false] rfl rfl (zbd HT_.out (by kernel_rfl)) (fun _ _ _ h => h) (Or.inl ⟨by rfl, ?_⟩) ?_ ?_
          rotate_left
          ·intro w'
           go_simp
           with_reducible rfl
          rotate_left
          ·simp only [Act.put, zaw, i64_w, i32_w]
           rfl
          refine pure_ (i := 9) (N := some 48) (v := ?_) (a' := ?_) #[true, true, true, true, true, false, true, true, true, true, false, false, false, false, false, false, false] rfl rfl (zbd HT_.out (by kernel_rfl)) (fun _ _ _ h => h) (Or.inl ⟨by rfl, ?_⟩) ?_ ?_
          rotate_left
          ·intro w'
           go_simp
           with_reducible rfl
          rotate_left
          ·simp only [Act.put, zaw, i64_w, i32_w]
           rfl
          refine pure_ (i := 10) (N := some 49) (v := ?_) (a' := ?_) #[true, true, true, true, true, false, true, true, true, true, true, false, false, false, false, false, false] rfl rfl (zbd HT_.out (by kernel_rfl)) (fun _ _ _ h => h) (Or.inl ⟨by rfl, ?_⟩) ?_ ?_
          rotate_left
          ·intro w'
           go_simp
           with_reducible rfl
          rotate_left
          ·simp only [Act.put, zaw, i64_w, i32_w]
           rfl
          refine pure_ (i := 11) (N := some 50) (v := ?_) (a' := ?_) #[true, true, true, true, true, false, true, true, true, true, true, true, false, false, false, false, false] rfl rfl (zbd HT_.out (by kernel_rfl)) (fun _ _ _ h => h) (Or.inl ⟨by rfl, ?_⟩) ?_ ?_
          rotate_left
          ·intro w'
           go_simp
           with_reducible rfl
          rotate_left
          ·simp only [Act.put, zaw, i64_w, i32_w]
           rfl
          refine take_ (i := 5) (N := some 44) (v := ?_) (a' := ?_) #[true, true, true, true, true, true, true, true, true, true, true, true, false, false, false, false, false] rfl rfl (zbU HT_.out HW_.out (by kernel_rfl)) (fun _ _ _ h => h) (Or.inl ⟨by rfl, ?_⟩) hHeld ?_ ?_
          rotate_left
          ·rintro w' ⟨s0, s1, s2, s3, s4, s5, s6, s7, s8, s9, s10, s11, s12, s13⟩
           go_simp
           with_reducible rfl
          rotate_left
          ·simp only [Act.put, zaw, i64_w, i32_w]
           rfl
          refine take_ (i := 12) (N := some 51) (v := ?_) (a' := ?_) #[true, true, true, true, true, true, true, true, true, true, true, true, true, false, false, false, false] rfl rfl (zbU HT_.out HW_.out (by kernel_rfl)) (fun _ _ _ h => h) (Or.inl ⟨by rfl, ?_⟩) hHeld ?_ ?_
          rotate_left
          ·rintro w' ⟨s0, s1, s2, s3, s4, s5, s6, s7, s8, s9, s10, s11, s12, s13⟩
           go_simp
           with_reducible rfl
          rotate_left
          ·simp only [Act.put, zaw, i64_w, i32_w]
           rfl
          refine pure_ (i := 13) (N := some 52) (v := ?_) (a' := ?_) #[true, true, true, true, true, true, true, true, true, true, true, true, true, true, false, false, false] rfl rfl (zbd HT_.out (by kernel_rfl)) (fun _ _ _ h => h) (Or.inl ⟨by rfl, ?_⟩) ?_ ?_
          rotate_left
          ·intro w'
           go_simp
           with_reducible rfl
          rotate_left
          ·simp only [Act.put, zaw, i64_w, i32_w]
           rfl
          refine last_ (i := 14) (N := some 53) #[true, true, true, true, true, true, true, true, true, true, true, true, true, true, true, false, false] rfl rfl (one_of HT_.out (by kernel_rfl)) (by decide) (fun K hK => ?_)
          refine value_ (w1 := ?_) (v := ?_) (by rfl) rfl ?_ ?_
          rotate_left 2
          ·go_simp
           constructor
           ·rfl
           ·rfl
          refine hK.out _ _ ?_
          clear hK K; refine norm_ (a' := ?_) ?_ ?_
          rotate_left
          ·show Act.put _ (some 53) _ = _
           simp only [Act.put, zaw, i64_w, i32_w]
           rfl
          refine last_ (i := 15) (N := some 54) #[true, true, true, true, true, true, true, true, true, true, true, true, true, true, true, true, false] rfl rfl (one_of HT_.out (by kernel_rfl)) (by decide) (fun K hK => ?_)
          refine Kd.R_append_step k44 (w0 := w) w.heap.size (by rfl) (.tmp 39) (.tmp 53) 37 44 (.agg #[(.int .i64 0), (.int .i64 0), (.int .u8 0), (.int .u8 0)]) 24 rfl Try.underlying37 info44 rfl (by decide) (by omega) u3 x3_1 (⟨(⟨(zaJ t153 x5_1).f1.f0, (zaJ t153 x5_1).f1.f1⟩ : S42), (zaJ t153 x5_1).f0.f0, (zaJ t153 x5_1).f0.f1⟩ : S44) [.int .i64 ((zaJ t153 x5_1).f1.f0), .int .i64 ((zaJ t153 x5_1).f1.f1), .int .u8 ((zaJ t153 x5_1).f0.f0), .int .u8 ((zaJ t153 x5_1).f0.f1)] (fun _ => True) (fun _ => False) rfl rfl ?aP (fun _ hk => hk.elim) ?aF ?aO ?aB ?aS ?aL ?_
          (case aP => exact k44_mkM _ _ _ (⟨(⟨(zaJ t153 x5_1).f1.f0, (zaJ t153 x5_1).f1.f1⟩ : S42), (zaJ t153 x5_1).f0.f0, (zaJ t153 x5_1).f0.f1⟩ : S44))
          (case aB => exact (by repeat (first | (with_reducible first | exact HB.out | apply zad | apply zac | apply zae | refine zaq ?_ GE152.out) | exact HB.out)))
          (case aF => exact (fun _ _ => trivial))
          (case aO => exact (by (with_reducible repeat (first | apply Kd.za3 | apply Kd.za2 | apply Kd.za8)); exact HO_3.out))
          (case aS => exact (zaB (by repeat (first | (with_reducible first | exact HB.out | apply zad | apply zac | apply zae | refine zaq ?_ GE152.out) | exact HB.out))))
          (case aL => have := LMc24.out; omega)
          intro v175 w27 ho hb hg hat
          rw [← Ny174.out] at ho; have n0_ := zaa.mk (Kd.zbQ (ok := (fun k_ => k_ ≠ gb152)) (by (with_reducible repeat (first | apply Kd.zbO | apply Kd.zbN | apply Kd.zbI)); exact Kd.zbX HO_4.out (fun _ hk => ⟨hk.2, hk.1⟩)) hg hat)
          have n1_ := zaa.mk (zcb (g := gb152) (o := .cells #[.int .u8 a0_0, .int .u8 a0_1, .int .i64 a0_2, .slice A0_3 l0_3.length c0_3] 25 (0, 0)) (by (with_reducible repeat (first | refine zar ?_ _ | refine zav ?_ | refine zas ?_ _)); exact BK152.out) hg (Kd.R_ne HO_3.out BK152.out (by decide)))
          have n2_ := zaa.mk (Kd.zbQ (ok := (fun k_ => k_ ≠ gb152)) (by (with_reducible repeat (first | apply Kd.zbO | apply Kd.zbN | apply Kd.zbI)); exact Kd.zbX HL156_3.out (fun _ hk => ⟨hk.2, hk.1⟩)) hg hat)
          have n3_ := zaa.mk (Kd.zbQ (ok := (fun k_ => k_ ≠ gb152)) (by (with_reducible repeat (first | apply Kd.zbO | apply Kd.zbN | apply Kd.zbI)); exact Kd.zbX HL172_3.out (fun _ hk => ⟨hk.2, hk.1⟩)) hg hat)
          have n4_ := zaa.mk (Kd.zbQ (ok := (fun k_ => k_ ≠ gb152)) (by (with_reducible repeat (first | apply Kd.zbO | apply Kd.zbN | apply Kd.zbI)); exact Kd.zbX HL173_3.out (fun _ hk => ⟨hk.2, hk.1⟩)) hg hat)
          have n5_ := zaa.mk (hb); have n6_ := zaa.mk (ho); clear HO_4; clear BK152; clear HL156_3; clear HL172_3; clear HL173_3; clear HB; clear HO_3; have HO_4 := n0_; have BK152 := n1_; have HL156_3 := n2_; have HL172_3 := n3_; have HL173_3 := n4_; have HB := n5_; have HO176 := n6_; clear n0_ n1_ n2_ n3_ n4_ n5_ n6_; clear ho hb hg hat; refine hK.out _ _ ?_
          clear hK K; refine norm_ (a' := ?_) ?_ ?_
          rotate_left
          ·show Act.put _ (some 54) _ = _
           simp only [Act.put, zaw, i64_w, i32_w]
           rfl
          refine pure_ (i := 16) (N := some 3) (v := ?_) (a' := ?_) #[true, true, true, true, true, true, true, true, true, true, true, true, true, true, true, true, true] rfl rfl (zbd HT_.out (by kernel_rfl)) (fun _ _ _ h => h) (Or.inl ⟨by rfl, ?_⟩) ?_ ?_
          rotate_left
          ·intro w'
           go_simp
           with_reducible rfl
          rotate_left
          ·simp only [Act.put, zaw, i64_w, i32_w]
           rfl
          refine done_ (done_of HT_.out (by kernel_rfl)) ?_
          try go_wp2
          go_roundg k1
          case measure => have := HK1.out; omega
          case rel => exact ⟨(y174), (wrap64 (x5_1 + 1)), (by first | rfl | (simp; done) | (simp [*]; done)), H', ⟨by have := HK1.out; omega⟩, ⟨by (with_reducible repeat (first | apply Kd.za3 | apply Kd.za2 | apply Kd.za8)); exact HO176.out⟩, ⟨by (with_reducible repeat (first | apply Kd.zbO | apply Kd.zbN | apply Kd.zbI)); exact Kd.zbX HO_4.out (fun _ hk => ⟨hk.2, hk.1⟩)⟩, ⟨by (with_reducible repeat (first | refine zar ?_ _ | refine zav ?_ | refine zas ?_ _)); exact BK152.out⟩, ⟨by repeat (first | (with_reducible first | exact HB.out | apply zad | apply zac | apply zae | refine zaq ?_ GE152.out) | exact HB.out)⟩⟩
         ·rw [if_neg c24] at H
          exact absurd H (by simp)
        ·rw [if_neg c23] at H
         have c23b0 : (((zaJ t153 x5_1).f0.f0) == 9) = false := beq_eq_false_iff_ne.mpr c23; have c23b1 : (((zaJ t153 x5_1).f0.f0) != 9) = true := bne_iff_ne.mpr c23; by_cases c28 : ((zaJ t153 x5_1).f0.f0) = 4
         ·rw [if_pos c28] at H
          have c28b0 : (((zaJ t153 x5_1).f0.f0) == 4) = true := beq_iff_eq.mpr c28; have c28b1 : (((zaJ t153 x5_1).f0.f0) != 4) = false := bne_eq_false_iff_eq.mpr c28; clear c28; by_cases c29 : x3_1.length < 5864062014805
          ·rw [if_pos c29] at H
           have LMc29 := zaa.mk c29; clear c29; obtain ⟨y179, hy179⟩ : ∃ y_ : List (S44), y_ = (x3_1 ++ [(⟨(⟨(zaJ t153 x5_1).f1.f0, (zaJ t153 x5_1).f1.f1⟩ : S42), (zaJ t153 x5_1).f0.f0, (zaJ t153 x5_1).f0.f1⟩ : S44)]) := ⟨_, rfl⟩; replace H : (zay.l0 k1 y179 t153 (wrap64 (x5_1 + 1))) = some r := by first | (rw [hy179]; with_reducible exact H) | (have H2_ := (Option.bind_some _ _).symm.trans H; rw [hy179]; with_reducible exact H2_) | (have H2_ := (Option.bind_some _ _).symm.trans H; with_reducible exact H2_) | with_reducible exact H | (rw [hy179]; exact H) | exact H
           have Ny179 := zaa.mk hy179; clear hy179; have H' := zaa.mk H; clear H; obtain ⟨Ao30, co30, eo30⟩ := Kd.V_slice HO_4.out; subst eo30; have p156 : 0 ≤ (x5_1 : Int) := of_decide_eq_true (by assumption)
           have q156 : x5_1 < (t153.length : Int) := of_decide_eq_true (by assumption)
           obtain ⟨ad156, A156_3, c156_3, e156, hx156_0, hx156_1, hx156_2, hx156_3, hx156_4, hx156_5, hx156_6, hl156_3, hi156_3⟩ := at_T58 (Kd.zbu HO_4.out).2.2 x5_1 p156 q156; cases e156; obtain ⟨ce156, hce156, hMe156, hcc156⟩ := Kd.V_get HO_4.out z58 x5_1 p156 (by first | exact q156 | exact of_decide_eq_true (by assumption) | (have e_ := (Kd.zbu HO_4.out).1; omega))
           obtain ⟨ua156_3, uc156_3, rfl, ul156_3, ge156_3⟩ := zbR hMe156; have hv156_3 := hcc156 3 _ rfl; rw [zbe _ _ 3 (by omega)] at hv156_3
           replace hv156_3 := Option.some.inj (hv156_3.symm.trans hx156_3); injection hv156_3 with hva_ hvn_ hvc_
           rw [hva_] at ge156_3; rw [hvc_] at ul156_3; have HL156_3 := zaa.mk (show Kd.V k25 25 _ w.heap.size _ _ ((zaJ t153 x5_1).f0.f3) from Kd.V_mk ul156_3 ge156_3)
           clear hva_ hvn_ hvc_ ge156_3 ul156_3; clear hcc156 hce156; have HR156_3 := zaa.mk hi156_3; have HC156_3 := zaa.mk hl156_3; clear hi156_3 hl156_3; replace p156 := eq_true p156; replace q156 := eq_true q156; try go_wp2
           have n0_ := zaa.mk (Kd.za8 HO_3.out); have n1_ := zaa.mk (Kd.zbI HO_4.out); have n2_ := zaa.mk (Kd.zbI HL156_3.out); have n3_ := zaa.mk (zav BK152.out); have n4_ := zaa.mk (Kd.zb5 HR156_3.out); have n5_ := zaa.mk (zae HB.out); clear HO_3; clear HO_4; clear HL156_3; clear BK152; clear HR156_3; clear HB; have HO_3 := n0_; have HO_4 := n1_; have HL156_3 := n2_; have BK152 := n3_; have HR156_3 := n4_; have HB := n5_; clear n0_ n1_ n2_ n3_ n4_ n5_; have p177 : 0 ≤ (x5_1 : Int) := of_decide_eq_true (by assumption)
           have q177 : x5_1 < (t153.length : Int) := of_decide_eq_true (by assumption)
           obtain ⟨ad177, A177_3, c177_3, e177, hx177_0, hx177_1, hx177_2, hx177_3, hx177_4, hx177_5, hx177_6, hl177_3, hi177_3⟩ := at_T58 (Kd.zbu HO_4.out).2.2 x5_1 p177 q177; obtain rfl : ad156 = ad177 := (by injection e177)
           obtain ⟨ce177, hce177, hMe177, hcc177⟩ := Kd.V_get HO_4.out z58 x5_1 p177 (by first | exact q177 | exact of_decide_eq_true (by assumption) | (have e_ := (Kd.zbu HO_4.out).1; omega))
           obtain ⟨ua177_3, uc177_3, rfl, ul177_3, ge177_3⟩ := zbR hMe177; have hv177_3 := hcc177 3 _ rfl; rw [zbe _ _ 3 (by omega)] at hv177_3
           replace hv177_3 := Option.some.inj (hv177_3.symm.trans hx177_3); injection hv177_3 with hva_ hvn_ hvc_
           rw [hva_] at ge177_3; rw [hvc_] at ul177_3; have HL177_3 := zaa.mk (show Kd.V k25 25 _ w.heap.size _ _ ((zaJ t153 x5_1).f0.f3) from Kd.V_mk ul177_3 ge177_3)
           clear hva_ hvn_ hvc_ ge177_3 ul177_3; clear hcc177 hce177; have HR177_3 := zaa.mk hi177_3; have HC177_3 := zaa.mk hl177_3; clear hi177_3 hl177_3; replace p177 := eq_true p177; replace q177 := eq_true q177; have p178 : 0 ≤ (x5_1 : Int) := of_decide_eq_true (by assumption)
           have q178 : x5_1 < (t153.length : Int) := of_decide_eq_true (by assumption)
           obtain ⟨ad178, A178_3, c178_3, e178, hx178_0, hx178_1, hx178_2, hx178_3, hx178_4, hx178_5, hx178_6, hl178_3, hi178_3⟩ := at_T58 (Kd.zbu HO_4.out).2.2 x5_1 p178 q178; obtain rfl : ad156 = ad178 := (by injection e178)
           obtain ⟨ce178, hce178, hMe178, hcc178⟩ := Kd.V_get HO_4.out z58 x5_1 p178 (by first | exact q178 | exact of_decide_eq_true (by assumption) | (have e_ := (Kd.zbu HO_4.out).1; omega))
           obtain ⟨ua178_3, uc178_3, rfl, ul178_3, ge178_3⟩ := zbR hMe178; have hv178_3 := hcc178 3 _ rfl; rw [zbe _ _ 3 (by omega)] at hv178_3
           replace hv178_3 := Option.some.inj (hv178_3.symm.trans hx178_3); injection hv178_3 with hva_ hvn_ hvc_
           rw [hva_] at ge178_3; rw [hvc_] at ul178_3; have HL178_3 := zaa.mk (show Kd.V k25 25 _ w.heap.size _ _ ((zaJ t153 x5_1).f0.f3) from Kd.V_mk ul178_3 ge178_3)
           clear hva_ hvn_ hvc_ ge178_3 ul178_3; clear hcc178 hce178; have HR178_3 := zaa.mk hi178_3; have HC178_3 := zaa.mk hl178_3; clear hi178_3 hl178_3; replace p178 := eq_true p178; replace q178 := eq_true q178; have ea_ := Option.some.inj (hx177_3.symm.trans hx178_3); injection ea_ with ea_ en_ ec_
           subst ea_; subst ec_; clear en_; refine start_ (n := 17) (S := fun w' => w'.cell? (ad156.add ((x5_1).toNat * 7)) = some (.int .u8 ((zaJ t153 x5_1).f0.f0)) ∧ w'.cell? ⟨(ad156.add ((x5_1).toNat * 7)).block, (ad156.add ((x5_1).toNat * 7)).off + 1, none⟩ = some (.int .u8 ((zaJ t153 x5_1).f0.f1)) ∧ w'.cell? ⟨(ad156.add ((x5_1).toNat * 7)).block, (ad156.add ((x5_1).toNat * 7)).off + 2, none⟩ = some (.int .i64 ((zaJ t153 x5_1).f0.f2)) ∧ w'.cell? ⟨(ad156.add ((x5_1).toNat * 7)).block, (ad156.add ((x5_1).toNat * 7)).off + 3, none⟩ = some (.slice A177_3 ((zaJ t153 x5_1).f0.f3).length c177_3) ∧ w'.cell? ⟨(ad156.add ((x5_1).toNat * 7)).block, (ad156.add ((x5_1).toNat * 7)).off + 4, none⟩ = some (.int .i64 ((zaJ t153 x5_1).f1.f0)) ∧ w'.cell? ⟨(ad156.add ((x5_1).toNat * 7)).block, (ad156.add ((x5_1).toNat * 7)).off + 5, none⟩ = some (.int .i64 ((zaJ t153 x5_1).f1.f1)) ∧ w'.cell? ⟨(ad156.add ((x5_1).toNat * 7)).block, (ad156.add ((x5_1).toNat * 7)).off + 6, none⟩ = some (.int .i64 ((zaJ t153 x5_1).f2)) ∧ w'.cell? (ad156.add ((x5_1).toNat * 7)) = some (.int .u8 ((zaJ t153 x5_1).f0.f0)) ∧ w'.cell? ⟨(ad156.add ((x5_1).toNat * 7)).block, (ad156.add ((x5_1).toNat * 7)).off + 1, none⟩ = some (.int .u8 ((zaJ t153 x5_1).f0.f1)) ∧ w'.cell? ⟨(ad156.add ((x5_1).toNat * 7)).block, (ad156.add ((x5_1).toNat * 7)).off + 2, none⟩ = some (.int .i64 ((zaJ t153 x5_1).f0.f2)) ∧ w'.cell? ⟨(ad156.add ((x5_1).toNat * 7)).block, (ad156.add ((x5_1).toNat * 7)).off + 3, none⟩ = some (.slice A177_3 ((zaJ t153 x5_1).f0.f3).length c177_3) ∧ w'.cell? ⟨(ad156.add ((x5_1).toNat * 7)).block, (ad156.add ((x5_1).toNat * 7)).off + 4, none⟩ = some (.int .i64 ((zaJ t153 x5_1).f1.f0)) ∧ w'.cell? ⟨(ad156.add ((x5_1).toNat * 7)).block, (ad156.add ((x5_1).toNat * 7)).off + 5, none⟩ = some (.int .i64 ((zaJ t153 x5_1).f1.f1)) ∧ w'.cell? ⟨(ad156.add ((x5_1).toNat * 7)).block, (ad156.add ((x5_1).toNat * 7)).off + 6, none⟩ = some (.int .i64 ((zaJ t153 x5_1).f2))) (ds := [14, 15]) #[false, false, false, false, false, false, false, false, false, false, false, false, false, false, false, false, false] (by kernel_rfl) rfl rfl ⟨hx177_0, hx177_1, hx177_2, hx177_3, hx177_4, hx177_5, hx177_6, hx178_0, hx178_1, hx178_2, hx178_3, hx178_4, hx178_5, hx178_6⟩ (fun hHeld => ?_); refine with_tabW zay.tab8 zay.bits8 (fun HT_ HW_ => ?_)
           generalize wr.drew = w31 at HO_3 HO_4 HL156_3 BK152 HR156_3 HB HL177_3 HL178_3 HR177_3 HR178_3 hx177_0 hx177_1 hx177_2 hx177_3 hx177_4 hx177_5 hx177_6 hx178_0 hx178_1 hx178_2 hx178_3 hx178_4 hx178_5 hx178_6 hHeld ⊢
           refine pure_ (i := 0) (N := some 39) (v := ?_) (a' := ?_) #[true, false, false, false, false, false, false, false, false, false, false, false, false, false, false, false, false] rfl rfl (zbd HT_.out (by kernel_rfl)) (fun _ _ _ h => h) (Or.inl ⟨by rfl, ?_⟩) ?_ ?_
           rotate_left
           ·intro w'
            go_simp
            with_reducible rfl
           rotate_left
           ·simp only [Act.put, zaw, i64_w, i32_w]
            rfl
           refine pure_ (i := 1) (N := some 40) (v := ?_) (a' := ?_) #[true, true, false, false, false, false, false, false, false, false, false, false, false, false, false, false, false] rfl rfl (zbd HT_.out (by kernel_rfl)) (fun _ _ _ h => h) (Or.inl ⟨by rfl, ?_⟩) ?_ ?_
           rotate_left
           ·intro w'
            go_simp
            with_reducible rfl
           rotate_left
           ·simp only [Act.put, zaw, i64_w, i32_w]
            rfl
           refine pure_ (i := 2) (N := some 41) (v := ?_) (a' := ?_) #[true, true, true, false, false, false, false, false, false, false, false, false, false, false, false, false, false] rfl rfl (zbd HT_.out (by kernel_rfl)) (fun _ _ _ h => h) (Or.inl ⟨by rfl, ?_⟩) ?_ ?_
           rotate_left
           ·intro w'
            go_simp
            with_reducible rfl
           rotate_left
           ·simp only [Act.put, zaw, i64_w, i32_w]
            rfl
           refine pure_ (i := 3) (N := some 42) (v := ?_) (a' := ?_) #[true, true, true, true, false, false, false, false, false, false, false, false, false, false, false, false, false] rfl rfl (zbd HT_.out (by kernel_rfl)) (fun _ _ _ h => h) (Or.inl ⟨by rfl, ?_⟩) ?_ ?_
           rotate_left
           ·intro w'
            go_simp
            with_reducible rfl
           rotate_left
           ·simp only [Act.put, zaw, i64_w, i32_w]
            rfl
           refine pure_ (i := 4) (N := some 43) (v := ?_) (a' := ?_) #[true, true, true, true, true, false, false, false, false, false, false, false, false, false, false, false, false] rfl rfl (zbd HT_.out (by kernel_rfl)) (fun _ _ _ h => h) (Or.inl ⟨by rfl, ?_⟩) ?_ ?_
           rotate_left
           ·intro w'
            go_simp
            with_reducible rfl
           rotate_left
           ·simp only [Act.put, zaw, i64_w, i32_w]
            rfl
           refine pure_ (i := 6) (N := some 45) (v := ?_) (a' := ?_) #[true, true, true, true, true, false, true, false, false, false, false, false, false, false, false, false, false] rfl rfl (zbd HT_.out (by kernel_rfl)) (fun _ _ _ h => h) (Or.inl ⟨by rfl, ?_⟩) ?_ ?_
           rotate_left
           ·intro w'
            go_simp
            with_reducible rfl
           rotate_left
           ·simp only [Act.put, zaw, i64_w, i32_w]
            rfl
           refine pure_ (i := 7) (N := some 46) (v := ?_) (a' := ?_) #[true, true, true, true, true, false, true, true, false, false, false, false, false, false, false, false, false] rfl rfl (zbd HT_.out (by kernel_rfl)) (fun _ _ _ h => h) (Or.inl ⟨by rfl, ?_⟩) ?_ ?_
           rotate_left
           ·intro w'
            go_simp
            with_reducible rfl
           rotate_left
           ·simp only [Act.put, zaw, i64_w, i32_w]
            rfl
           refine pure_ (i := 8) (N := some 47) (v := ?_) (a' := ?_) #[true, true, true, true, true, false, true, true, true, false, false, false, false, false, false, false, false] rfl rfl (zbd HT_.out (by kernel_rfl)) (fun _ _ _ h => h) (Or.inl ⟨by rfl, ?_⟩) ?_ ?_
           rotate_left
           ·intro w'
            go_simp
            with_reducible rfl
           rotate_left
           ·simp only [Act.put, zaw, i64_w, i32_w]
            rfl
           refine pure_ (i := 9) (N := some 48) (v := ?_) (a' := ?_) #[true, true, true, true, true, false, true, true, true, true, false, false, false, false, false, false, false] rfl rfl (zbd HT_.out (by kernel_rfl)) (fun _ _ _ h => h) (Or.inl ⟨by rfl, ?_⟩) ?_ ?_
           rotate_left
           ·intro w'
            go_simp
            with_reducible rfl
           rotate_left
           ·simp only [Act.put, zaw, i64_w, i32_w]
            rfl
           refine pure_ (i := 10) (N := some 49) (v := ?_) (a' := ?_) #[true, true, true, true, true, false, true, true, true, true, true, false, false, false, false, false, false] rfl rfl (zbd HT_.out (by kernel_rfl)) (fun _ _ _ h => h) (Or.inl ⟨by rfl, ?_⟩) ?_ ?_
           rotate_left
           ·intro w'
            go_simp
            with_reducible rfl
           rotate_left
           ·simp only [Act.put, zaw, i64_w, i32_w]
            rfl
           refine pure_ (i := 11) (N := some 50) (v := ?_) (a' := ?_) #[true, true, true, true, true, false, true, true, true, true, true, true, false, false, false, false, false] rfl rfl (zbd HT_.out (by kernel_rfl)) (fun _ _ _ h => h) (Or.inl ⟨by rfl, ?_⟩) ?_ ?_
           rotate_left
           ·intro w'
            go_simp
            with_reducible rfl
           rotate_left
           ·simp only [Act.put, zaw, i64_w, i32_w]
            rfl
           refine take_ (i := 5) (N := some 44) (v := ?_) (a' := ?_) #[true, true, true, true, true, true, true, true, true, true, true, true, false, false, false, false, false] rfl rfl (zbU HT_.out HW_.out (by kernel_rfl)) (fun _ _ _ h => h) (Or.inl ⟨by rfl, ?_⟩) hHeld ?_ ?_
           rotate_left
           ·rintro w' ⟨s0, s1, s2, s3, s4, s5, s6, s7, s8, s9, s10, s11, s12, s13⟩
            go_simp
            with_reducible rfl
           rotate_left
           ·simp only [Act.put, zaw, i64_w, i32_w]
            rfl
           refine take_ (i := 12) (N := some 51) (v := ?_) (a' := ?_) #[true, true, true, true, true, true, true, true, true, true, true, true, true, false, false, false, false] rfl rfl (zbU HT_.out HW_.out (by kernel_rfl)) (fun _ _ _ h => h) (Or.inl ⟨by rfl, ?_⟩) hHeld ?_ ?_
           rotate_left
           ·rintro w' ⟨s0, s1, s2, s3, s4, s5, s6, s7, s8, s9, s10, s11, s12, s13⟩
            go_simp
            with_reducible rfl
           rotate_left
           ·simp only [Act.put, zaw, i64_w, i32_w]
            rfl
           refine pure_ (i := 13) (N := some 52) (v := ?_) (a' := ?_) #[true, true, true, true, true, true, true, true, true, true, true, true, true, true, false, false, false] rfl rfl (zbd HT_.out (by kernel_rfl)) (fun _ _ _ h => h) (Or.inl ⟨by rfl, ?_⟩) ?_ ?_
           rotate_left
           ·intro w'
            go_simp
            with_reducible rfl
           rotate_left
           ·simp only [Act.put, zaw, i64_w, i32_w]
            rfl
           refine last_ (i := 14) (N := some 53) #[true, true, true, true, true, true, true, true, true, true, true, true, true, true, true, false, false] rfl rfl (one_of HT_.out (by kernel_rfl)) (by decide) (fun K hK => ?_)
           refine value_ (w1 := ?_) (v := ?_) (by rfl) rfl ?_ ?_
           rotate_left 2
           ·go_simp
            constructor
            ·rfl
            ·rfl
           refine hK.out _ _ ?_
           clear hK K; refine norm_ (a' := ?_) ?_ ?_
           rotate_left
           ·show Act.put _ (some 53) _ = _
            simp only [Act.put, zaw, i64_w, i32_w]
            rfl
           refine last_ (i := 15) (N := some 54) #[true, true, true, true, true, true, true, true, true, true, true, true, true, true, true, true, false] rfl rfl (one_of HT_.out (by kernel_rfl)) (by decide) (fun K hK => ?_)
           refine Kd.R_append_step k44 (w0 := w) w.heap.size (by rfl) (.tmp 39) (.tmp 53) 37 44 (.agg #[(.int .i64 0), (.int .i64 0), (.int .u8 0), (.int .u8 0)]) 24 rfl Try.underlying37 info44 rfl (by decide) (by omega) u3 x3_1 (⟨(⟨(zaJ t153 x5_1).f1.f0, (zaJ t153 x5_1).f1.f1⟩ : S42), (zaJ t153 x5_1).f0.f0, (zaJ t153 x5_1).f0.f1⟩ : S44) [.int .i64 ((zaJ t153 x5_1).f1.f0), .int .i64 ((zaJ t153 x5_1).f1.f1), .int .u8 ((zaJ t153 x5_1).f0.f0), .int .u8 ((zaJ t153 x5_1).f0.f1)] (fun _ => True) (fun _ => False) rfl rfl ?aP (fun _ hk => hk.elim) ?aF ?aO ?aB ?aS ?aL ?_
           (case aP => exact k44_mkM _ _ _ (⟨(⟨(zaJ t153 x5_1).f1.f0, (zaJ t153 x5_1).f1.f1⟩ : S42), (zaJ t153 x5_1).f0.f0, (zaJ t153 x5_1).f0.f1⟩ : S44))
           (case aB => exact (by repeat (first | (with_reducible first | exact HB.out | apply zad | apply zac | apply zae | refine zaq ?_ GE152.out) | exact HB.out)))
           (case aF => exact (fun _ _ => trivial))
           (case aO => exact (by (with_reducible repeat (first | apply Kd.za3 | apply Kd.za2 | apply Kd.za8)); exact HO_3.out))
           (case aS => exact (zaB (by repeat (first | (with_reducible first | exact HB.out | apply zad | apply zac | apply zae | refine zaq ?_ GE152.out) | exact HB.out))))
           (case aL => have := LMc29.out; omega)
           intro v180 w32 ho hb hg hat
           rw [← Ny179.out] at ho; have n0_ := zaa.mk (Kd.zbQ (ok := (fun k_ => k_ ≠ gb152)) (by (with_reducible repeat (first | apply Kd.zbO | apply Kd.zbN | apply Kd.zbI)); exact Kd.zbX HO_4.out (fun _ hk => ⟨hk.2, hk.1⟩)) hg hat)
           have n1_ := zaa.mk (zcb (g := gb152) (o := .cells #[.int .u8 a0_0, .int .u8 a0_1, .int .i64 a0_2, .slice A0_3 l0_3.length c0_3] 25 (0, 0)) (by (with_reducible repeat (first | refine zar ?_ _ | refine zav ?_ | refine zas ?_ _)); exact BK152.out) hg (Kd.R_ne HO_3.out BK152.out (by decide)))
           have n2_ := zaa.mk (Kd.zbQ (ok := (fun k_ => k_ ≠ gb152)) (by (with_reducible repeat (first | apply Kd.zbO | apply Kd.zbN | apply Kd.zbI)); exact Kd.zbX HL156_3.out (fun _ hk => ⟨hk.2, hk.1⟩)) hg hat)
           have n3_ := zaa.mk (Kd.zbQ (ok := (fun k_ => k_ ≠ gb152)) (by (with_reducible repeat (first | apply Kd.zbO | apply Kd.zbN | apply Kd.zbI)); exact Kd.zbX HL177_3.out (fun _ hk => ⟨hk.2, hk.1⟩)) hg hat)
           have n4_ := zaa.mk (Kd.zbQ (ok := (fun k_ => k_ ≠ gb152)) (by (with_reducible repeat (first | apply Kd.zbO | apply Kd.zbN | apply Kd.zbI)); exact Kd.zbX HL178_3.out (fun _ hk => ⟨hk.2, hk.1⟩)) hg hat)
           have n5_ := zaa.mk (hb); have n6_ := zaa.mk (ho); clear HO_4; clear BK152; clear HL156_3; clear HL177_3; clear HL178_3; clear HB; clear HO_3; have HO_4 := n0_; have BK152 := n1_; have HL156_3 := n2_; have HL177_3 := n3_; have HL178_3 := n4_; have HB := n5_; have HO181 := n6_; clear n0_ n1_ n2_ n3_ n4_ n5_ n6_; clear ho hb hg hat; refine hK.out _ _ ?_
           clear hK K; refine norm_ (a' := ?_) ?_ ?_
           rotate_left
           ·show Act.put _ (some 54) _ = _
            simp only [Act.put, zaw, i64_w, i32_w]
            rfl
           refine pure_ (i := 16) (N := some 3) (v := ?_) (a' := ?_) #[true, true, true, true, true, true, true, true, true, true, true, true, true, true, true, true, true] rfl rfl (zbd HT_.out (by kernel_rfl)) (fun _ _ _ h => h) (Or.inl ⟨by rfl, ?_⟩) ?_ ?_
           rotate_left
           ·intro w'
            go_simp
            with_reducible rfl
           rotate_left
           ·simp only [Act.put, zaw, i64_w, i32_w]
            rfl
           refine done_ (done_of HT_.out (by kernel_rfl)) ?_
           try go_wp2
           go_roundg k1
           case measure => have := HK1.out; omega
           case rel => exact ⟨(y179), (wrap64 (x5_1 + 1)), (by first | rfl | (simp; done) | (simp [*]; done)), H', ⟨by have := HK1.out; omega⟩, ⟨by (with_reducible repeat (first | apply Kd.za3 | apply Kd.za2 | apply Kd.za8)); exact HO181.out⟩, ⟨by (with_reducible repeat (first | apply Kd.zbO | apply Kd.zbN | apply Kd.zbI)); exact Kd.zbX HO_4.out (fun _ hk => ⟨hk.2, hk.1⟩)⟩, ⟨by (with_reducible repeat (first | refine zar ?_ _ | refine zav ?_ | refine zas ?_ _)); exact BK152.out⟩, ⟨by repeat (first | (with_reducible first | exact HB.out | apply zad | apply zac | apply zae | refine zaq ?_ GE152.out) | exact HB.out)⟩⟩
          ·rw [if_neg c29] at H
           exact absurd H (by simp)
         ·rw [if_neg c28] at H
          have c28b0 : (((zaJ t153 x5_1).f0.f0) == 4) = false := beq_eq_false_iff_ne.mpr c28; have c28b1 : (((zaJ t153 x5_1).f0.f0) != 4) = true := bne_iff_ne.mpr c28; have H' := zaa.mk H; clear H; obtain ⟨Ao33, co33, eo33⟩ := Kd.V_slice HO_4.out; subst eo33; have p156 : 0 ≤ (x5_1 : Int) := of_decide_eq_true (by assumption)
          have q156 : x5_1 < (t153.length : Int) := of_decide_eq_true (by assumption)
          obtain ⟨ad156, A156_3, c156_3, e156, hx156_0, hx156_1, hx156_2, hx156_3, hx156_4, hx156_5, hx156_6, hl156_3, hi156_3⟩ := at_T58 (Kd.zbu HO_4.out).2.2 x5_1 p156 q156; cases e156; obtain ⟨ce156, hce156, hMe156, hcc156⟩ := Kd.V_get HO_4.out z58 x5_1 p156 (by first | exact q156 | exact of_decide_eq_true (by assumption) | (have e_ := (Kd.zbu HO_4.out).1; omega))
          obtain ⟨ua156_3, uc156_3, rfl, ul156_3, ge156_3⟩ := zbR hMe156; have hv156_3 := hcc156 3 _ rfl; rw [zbe _ _ 3 (by omega)] at hv156_3
          replace hv156_3 := Option.some.inj (hv156_3.symm.trans hx156_3); injection hv156_3 with hva_ hvn_ hvc_
          rw [hva_] at ge156_3; rw [hvc_] at ul156_3; have HL156_3 := zaa.mk (show Kd.V k25 25 _ w.heap.size _ _ ((zaJ t153 x5_1).f0.f3) from Kd.V_mk ul156_3 ge156_3)
          clear hva_ hvn_ hvc_ ge156_3 ul156_3; clear hcc156 hce156; have HR156_3 := zaa.mk hi156_3; have HC156_3 := zaa.mk hl156_3; clear hi156_3 hl156_3; replace p156 := eq_true p156; replace q156 := eq_true q156; go_wp2
          go_roundg k1
          case measure => have := HK1.out; omega
          case rel => exact ⟨(x3_1), (wrap64 (x5_1 + 1)), (by first | rfl | (simp; done) | (simp [*]; done)), H', ⟨by have := HK1.out; omega⟩, ⟨by (with_reducible repeat (first | apply Kd.za3 | apply Kd.za2 | apply Kd.za8)); exact HO_3.out⟩, ⟨by (with_reducible repeat (first | apply Kd.zbO | apply Kd.zbN | apply Kd.zbI)); exact HO_4.out⟩, ⟨by (with_reducible repeat (first | refine zar ?_ _ | refine zav ?_ | refine zas ?_ _)); exact BK152.out⟩, ⟨by repeat (first | (with_reducible first | exact HB.out | apply zad | apply zac | apply zae | refine zaq ?_ GE152.out) | exact HB.out)⟩⟩
    ·rw [if_neg c7] at H
     exact absurd H (by simp)
   ·rw [if_neg c6] at H
    have c6b0 : decide (x5_1 < (t153.length : Int)) = false := decide_eq_false c6; clear c6; obtain rfl := Option.some.inj H; obtain ⟨Ao34, co34, eo34⟩ := Kd.V_slice HO_4.out; subst eo34; go_wp2
    go_ret
    exact ⟨_, by first | rfl | (simp [*, zaF, zaE] <;> rfl), by (with_reducible repeat (first | apply Kd.za3 | apply Kd.za2 | apply Kd.za8)); exact HO_3.out, by repeat (first | (with_reducible first | exact HB.out | apply zad | apply zac | apply zae | refine zaq ?_ GE152.out) | exact HB.out)⟩
end
end Go.Proofs.Ytceddikbmbadlaa.H
