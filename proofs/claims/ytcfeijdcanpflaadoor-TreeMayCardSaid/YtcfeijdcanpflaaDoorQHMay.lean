/- TreeMay, walked: it answers true. -/
import Derived.Test.YtcfeijdcanpflaaDoorQHRefPrint
import Derived.Test.YtcfeijdcanpflaaDoorQHAwake
import Derived.Test.YtcfeijdcanpflaaDoorQHxglossatorlaw15Grow
import Derived.Test.YtcfeijdcanpflaaDoorQHxglossatorref15Twin
set_option linter.unusedVariables false
set_option linter.unusedSimpArgs false
namespace Go.Proofs.YtcfeijdcanpflaaDoor.H
open Go.RowKit Go.Shelf Go.Proofs.YtcfeijdcanpflaaDoorW.PrintWords Go.Proofs.YtcfeijdcanpflaaDoorW.PrintLast Go.Proofs.YtcfeijdcanpflaaDoorW.PrintMore
abbrev nbox (t : S25) (A : Option Addr) (c : Nat) : Obj := .cells #[.int .u8 t.f0, .int .u8 t.f1, .int .i64 t.f2, .slice A t.f3.length c] 25
structure NB (X : World) (b : Nat) (t : S25) (A : Option Addr) (c : Nat) : Prop where
  box : X.heap[b]? = some (nbox t A c)
  le : t.f3.length ≤ c
  rd : Kd.C k25 X A t.f3.length t.f3
theorem NB.below {X Y : World} {b : Nat} {t : S25} {A : Option Addr} {c : Nat} (h : NB X b t A c) (hb : Below X.heap.size X Y) : NB Y b t A c :=
  ⟨blk_below h.box hb, h.le, Kd.C_below h.rd hb⟩
theorem NB.new {X : World} {t : S25} {A : Option Addr} {c : Nat} (hl : t.f3.length ≤ c) (hr : Kd.C k25 X A t.f3.length t.f3) : NB (X.alloc (nbox t A c)) X.heap.size t A c :=
  ⟨heap_alloc_new _ _, hl, Kd.C_below hr (below_alloc (Below.refl _ _) _)⟩
theorem NB.print {X : World} {b : Nat} {t : S25} {A : Option Addr} {c : Nat} (h : NB X b t A c) (hb : byteT t) (hN : tsize t ≤ 2000000) (htab : Tab X) :
    Calls Tryd.prog 13 #[nodeV t A c] X fun e w' => e = .returned (.tuple #[.string (printT t).1, .int .i64 (printT t).2]) ∧ Below X.heap.size X w' := by
  obtain ⟨kids, hke, hTT⟩ := exists_AT X _ t (Nat.lt_succ_self _) A c h.le h.rd
  have he : (AT.node t.f0 t.f1 t.f2 A c kids).erase = t := by rw [AT.erase, hke]; exact eta25' t
  have hl : kids.length = t.f3.length := by rw [← hke, eraseL_length]
  have := print_in (AT.node t.f0 t.f1 t.f2 A c kids) X hTT (by rw [he]; exact hb) (by rw [he]; exact hN) htab
  rw [he] at this
  simp only [AT.k, AT.w, AT.wd, AT.A, AT.c, AT.kids, hl] at this
  exact this
theorem NB.refPrint {X : World} {b : Nat} {t : S25} {A : Option Addr} {c : Nat} (h : NB X b t A c) (hb : byteT t) (hN : tsize t ≤ 2000000) :
    Calls Tryd.prog 14 #[nodeV t A c] X fun e w' => e = .returned (.tuple #[.string (printT t).1, .int .i64 (printT t).2]) ∧ Below X.heap.size X w' := by
  obtain ⟨k, w, wd, l⟩ := t
  exact refPrint_calls (fun k => k < X.heap.size) k w wd l A c X (Kd.V_mk h.le (Kd.C_F heap25 h.rd)) hb hN
theorem NB.right {X : World} {b : Nat} {t : S25} {A : Option Addr} {c : Nat} (h : NB X b t A c) :
    Calls Tryd.prog 10 #[nodeV t A c] X fun e w' => e = .returned (.bool (okB t)) ∧ Below X.heap.size X w' :=
  tree_Right.calls t.f0 t.f1 t.f2 A c t.f3 (okB t) X h.rd h.le (by have := right_prog t.f0 t.f1 t.f2 t.f3; rw [eta25'] at this; exact this)
theorem NB.refRight {X : World} {b : Nat} {t : S25} {A : Option Addr} {c : Nat} (h : NB X b t A c) (hb : byteT t) :
    Calls Tryd.prog 15 #[nodeV t A c] X fun e w' => e = .returned (.bool (okB t)) ∧ Below X.heap.size X w' := by
  obtain ⟨K, hK⟩ := right_ref t.f0 t.f1 t.f2 t.f3 (by rw [eta25']; exact hb)
  have := hK K (Nat.le_refl _)
  rw [eta25'] at this
  exact glossatorref15_Right.calls K t.f0 t.f1 t.f2 A c t.f3 (okB t) X h.rd h.le this
theorem NB.same {X : World} {b b' : Nat} {t u : S25} {A A' : Option Addr} {c c' : Nat} (h : NB X b t A c) (h' : NB X b' u A' c') :
    Calls Tryd.prog 16 #[nodeV t A c, nodeV u A' c'] X fun e w' => e = .returned (.bool (sameB t u)) ∧ Below X.heap.size X w' :=
  same_calls _ t (Nat.lt_succ_self _) u A A' c c' X h.le h'.le h.rd h'.rd
theorem NB.refSame {X : World} {b b' : Nat} {t u : S25} {A A' : Option Addr} {c c' : Nat} (h : NB X b t A c) (h' : NB X b' u A' c') (hN : tsize t ≤ 2000000) :
    Calls Tryd.prog 17 #[nodeV t A c, nodeV u A' c'] X fun e w' => e = .returned (.bool (sameB t u)) ∧ Below X.heap.size X w' := by
  obtain ⟨K, hK⟩ := rsame_T t u hN
  exact glossatorref15_Same.calls K t.f0 t.f1 t.f2 A c t.f3 u.f0 u.f1 u.f2 A' c' u.f3 (sameB t u) X h.rd h.le h'.rd h'.le (hK K (Nat.le_refl _))
theorem NB.cells {X : World} {b : Nat} {t : S25} {A : Option Addr} {c : Nat} (h : NB X b t A c) : X.cell? ⟨b, 0, none⟩ = some (.int .u8 t.f0) ∧ X.cell? ⟨b, 1, none⟩ = some (.int .u8 t.f1) ∧ X.cell? ⟨b, 2, none⟩ = some (.int .i64 t.f2) ∧ X.cell? ⟨b, 3, none⟩ = some (.slice A t.f3.length c) := by
  have k0 := blk_cell h.box 0
  have k1 := blk_cell h.box 1
  have k2 := blk_cell h.box 2
  have k3 := blk_cell h.box 3
  simp at k0 k1 k2 k3
  exact ⟨k0, k1, k2, k3⟩
def Three (b1 b2 b3 : Nat) (t u : S25) (A1 A2 A3 : Option Addr) (c1 c2 c3 : Nat) (X : World) : Prop := NB X b1 t A1 c1 ∧ NB X b2 u A2 c2 ∧ NB X b3 t A3 c3
theorem Three.below {b1 b2 b3 : Nat} {t u : S25} {A1 A2 A3 : Option Addr} {c1 c2 c3 : Nat} {X Y : World} (h : Three b1 b2 b3 t u A1 A2 A3 c1 c2 c3 X) (hb : Below X.heap.size X Y) : Three b1 b2 b3 t u A1 A2 A3 c1 c2 c3 Y :=
  ⟨h.1.below hb, h.2.1.below hb, h.2.2.below hb⟩
set_option maxHeartbeats 8000000 in
set_option maxRecDepth 100000 in
theorem may_yes (A0 : Option Addr) (c0 : Nat) (l0 : List S85) (A1 : Option Addr) (c1 : Nat) (l1 : List S85) (kind : Int) (hk0 : 0 ≤ kind) (hk1 : kind < 256) (w : World) (hr0 : Kd.C k85 w A0 l0.length l0) (hc0 : l0.length ≤ c0) (hr1 : Kd.C k85 w A1 l1.length l1) (hc1 : l1.length ≤ c1)
    (K L : Nat) (t u : S25) (hbt : byteT t) (hst : tsize t ≤ 3000) (hbu : byteT u) (hsu : tsize u ≤ 3000) (hK : glossatorlaw15_Grow.f K l0 = some (t.f0, t.f1, t.f2, t.f3, true)) (hL : glossatorlaw15_Grow.f L l1 = some (u.f0, u.f1, u.f2, u.f3, true)) (htab : Tab w) :
    Calls Tryd.prog 5 #[.slice A0 l0.length c0, .slice A1 l1.length c1, .int .u8 kind] w fun e w' => e = .returned (.bool true) ∧ Below w.heap.size w w' := by
  have hu := Tryd.underlying25
  obtain ⟨M, hM⟩ := twin_ev t (by omega)
  have HM := Aside0.mk (hM M (Nat.le_refl _))
  have HR1 := Aside0.mk hr1
  have HC1 := Aside0.mk hc1
  have HG := Aside0.mk (glossatorlaw15_Grow.calls K A0 c0 l0 _ _ _ _ _ w hr0 hc0 hK)
  have HL := Aside0.mk hL
  have HTAB := Aside0.mk htab
  have HBT := Aside0.mk hbt
  have HST := Aside0.mk hst
  have HBU := Aside0.mk hbu
  have HSU := Aside0.mk hsu
  have HKD := Aside0.mk (And.intro hk0 hk1)
  clear hM hr0 hc0 hr1 hc1 hK hL htab hbt hst hbu hsu hk0 hk1
  go_enter Tryd.func5, Tryd.ntmps5
  go_upto_region 2 with (go_at_call 6; refine HG.out.mono ?_; rintro e w2 ⟨v, rfl, hv, hb2⟩; obtain ⟨A3, c3, e3⟩ := Kd.R_slice hv; subst e3; have HV2 := Aside0.mk hv; have HB2 := Aside0.mk hb2; clear hv hb2 HG)
  obtain ⟨W3, hW3⟩ : ∃ W3, W3 = w2.alloc (nbox t A3 c3) := ⟨_, rfl⟩
  have hlt := (Kd.R_reads' HV2.out).2.1
  have HN3 := Aside0.mk (show NB W3 w2.heap.size t A3 c3 by rw [hW3]; exact NB.new hlt (Kd.R_reads' HV2.out).2.2)
  have HB3 := Aside0.mk (show Below w.heap.size w W3 by rw [hW3]; exact below_step HB2.out (below_alloc (Below.refl _ _) _))
  have HS3 := Aside0.mk (show W3.heap.size = w2.heap.size + 1 by rw [hW3]; simp)
  change Code.wp Tryd.prog _ _ _ (w2.alloc (nbox t A3 c3))
  rw [← hW3]
  clear hW3 hlt HV2 HB2
  have HG2 := Aside0.mk (glossatorlaw15_Grow.calls L A1 c1 l1 _ _ _ _ _ W3 (Kd.C_below HR1.out HB3.out) HC1.out HL.out)
  go_upto_region 3 with (go_at_call 6; refine HG2.out.mono ?_; rintro e w4 ⟨v, rfl, hv, hb4⟩; obtain ⟨A4, c4, e4⟩ := Kd.R_slice hv; subst e4; have HV4 := Aside0.mk hv; have HB4 := Aside0.mk hb4; clear hv hb4 HG2)
  obtain ⟨W5, hW5⟩ : ∃ W5, W5 = w4.alloc (nbox u A4 c4) := ⟨_, rfl⟩
  have hlu := (Kd.R_reads' HV4.out).2.1
  have HU5 := Aside0.mk (show NB W5 w4.heap.size u A4 c4 by rw [hW5]; exact NB.new hlu (Kd.R_reads' HV4.out).2.2)
  have HB45 := Aside0.mk (show Below W3.heap.size W3 W5 by rw [hW5]; exact below_step HB4.out (below_alloc (Below.refl _ _) _))
  have HN5 := Aside0.mk (HN3.out.below HB45.out)
  have HB5 := Aside0.mk (below_step HB3.out HB45.out)
  have HS5 := Aside0.mk (show w2.heap.size < w4.heap.size ∧ W5.heap.size = w4.heap.size + 1 from ⟨by have := HS3.out; have := HB4.out.size; omega, by rw [hW5]; simp⟩)
  change Code.wp Tryd.prog _ _ _ (w4.alloc (nbox u A4 c4))
  rw [← hW5]
  clear hW5 hlu HV4 HB4 HB45 HN3 HB3 HS3 HR1 HC1 HL
  obtain ⟨k0, k1, k2, k3⟩ := HN5.out.cells
  have kl := blk_lt HN5.out.box
  go_upto_region 6 with (go_at_call 12; refine (glossatorref15_Twin.calls M _ _ _ _ _ _ _ _ _ _ _ HN5.out.rd HN5.out.le HM.out).mono ?_; rintro e w6 ⟨v, rfl, hv, hb6⟩; obtain ⟨A6, c6, e6⟩ := Kd.R_slice hv; subst e6; have HV6 := Aside0.mk hv; have HB6 := Aside0.mk hb6; clear hv hb6 k0 k1 k2 k3 kl)
  obtain ⟨W7, hW7⟩ : ∃ W7, W7 = w6.alloc (nbox t A6 c6) := ⟨_, rfl⟩
  have hlt := (Kd.R_reads' HV6.out).2.1
  have HT7 := Aside0.mk (show NB W7 w6.heap.size t A6 c6 by rw [hW7]; exact NB.new hlt (Kd.R_reads' HV6.out).2.2)
  have HB67 := Aside0.mk (show Below W5.heap.size W5 W7 by rw [hW7]; exact below_step HB6.out (below_alloc (Below.refl _ _) _))
  have H37 := Aside0.mk (show Three w2.heap.size w4.heap.size w6.heap.size t u A3 A4 A6 c3 c4 c6 W7 from ⟨HN5.out.below HB67.out, HU5.out.below HB67.out, HT7.out⟩)
  have HB7 := Aside0.mk (below_step HB5.out HB67.out)
  have HS7 := Aside0.mk (show w2.heap.size < w4.heap.size ∧ w4.heap.size < w6.heap.size from ⟨HS5.out.1, by have := HS5.out.2; have := HB6.out.size; omega⟩)
  change Code.wp Tryd.prog _ _ _ (w6.alloc (nbox t A6 c6))
  rw [← hW7]
  clear hW7 hlt HV6 HB6 HB67 HN5 HU5 HT7 HB5 HM HS5
  generalize w2.heap.size = b1 at *
  generalize w4.heap.size = b2 at *
  generalize w6.heap.size = b3 at *
  obtain ⟨PS, hPS⟩ : ∃ PS, PS = (printT t).1 := ⟨_, rfl⟩
  obtain ⟨PN, hPN⟩ : ∃ PN, PN = (printT t).2 := ⟨_, rfl⟩
  have HPR := Aside0.mk (H37.out.2.2.print HBT.out (by have := HST.out; omega) (HTAB.out.below HB7.out))
  rw [← hPS, ← hPN] at HPR
  have HPQ := Aside0.mk (fun (X : World) (h : NB X b1 t A3 c3) => (show Calls Tryd.prog 14 #[nodeV t A3 c3] X fun e w' => e = .returned (.tuple #[.string PS, .int .i64 PN]) ∧ Below X.heap.size X w' by rw [hPS, hPN]; exact h.refPrint HBT.out (by have := HST.out; omega)))
  clear hPS hPN
  obtain ⟨k0, k1, k2, k3⟩ := H37.out.2.2.cells
  have kl := blk_lt H37.out.2.2.box
  go_upto_region 7 with (go_at_call 13; refine HPR.out.mono ?_; rintro e w8 ⟨rfl, hb8⟩; have H38 := Aside0.mk (H37.out.below hb8); have HB8 := Aside0.mk (below_step HB7.out hb8); clear hb8 k0 k1 k2 k3 kl HPR)
  obtain ⟨k0, k1, k2, k3⟩ := H38.out.1.cells
  have kl := blk_lt H38.out.1.box
  go_wp2_with (go_at_call 14; refine (HPQ.out _ H38.out.1).mono ?_; rintro e w9 ⟨rfl, hb9⟩; have H39 := Aside0.mk (H38.out.below hb9); have HB9 := Aside0.mk (below_step HB8.out hb9); clear hb9 k0 k1 k2 k3 kl HPQ)
  obtain ⟨NM, hNM⟩ : ∃ NM, NM = nameB kind := ⟨_, rfl⟩
  have HNM := Aside0.mk (fun (X : World) => (show Calls Tryd.prog 18 #[.int .u8 kind] X fun e w' => e = .returned (.string NM) ∧ Below X.heap.size X w' by rw [hNM]; exact name_calls kind HKD.out.1 HKD.out.2 X))
  have HNR := Aside0.mk (fun (X : World) => (show Calls Tryd.prog 19 #[.int .u8 kind] X fun e w' => e = .returned (.string NM) ∧ Below X.heap.size X w' by rw [hNM]; exact glossatorref15_Name.calls _ _ X (refName_some kind HKD.out.1 HKD.out.2)))
  clear hNM H37 H38 HB7 HB8 HS7 hu
  have hu := Tryd.underlying25
  obtain ⟨X0, hX0⟩ : ∃ X0, X0 = w9.drew := ⟨_, rfl⟩
  have H0 := Aside0.mk (show Three b1 b2 b3 t u A3 A4 A6 c3 c4 c6 X0 by rw [hX0]; exact H39.out.below (Below.refl _ _).drew)
  have B0 := Aside0.mk (show Below w.heap.size w X0 by rw [hX0]; exact HB9.out.drew)
  refine wp_region_noPanic (plain_need [0, 1, 2, 3, 4, 5, 6, 7, 8, 9, 10, 11, 12, 13, 14, 15, 16, 17, 18, 19, 20, 21, 22, 23, 24, 25, 26, 27, 28, 29, 30, 31, 32, 33, 34, 35, 36, 37, 38, 39, 40, 41, 42, 43, 44, 45, 46, 47, 48] (Three b1 b2 b3 t u A3 A4 A6 c3 c4 c6) (by kernel_rfl) ?_)
  rw [← hX0]
  clear hX0 H39 HB9
  refine wpAnyN_take (i := 0) (v := ?_) rfl (by kernel_rfl) (by kernel_rfl) (by kernel_rfl) (by kernel_rfl) (fun _ _ _ h => h) (.inl ⟨by rfl, ?_⟩) H0.out ?_
  rotate_left
  · (intro W' hW'; obtain ⟨x0, x1, x2, x3⟩ := hW'.2.2.cells; go_simp; try rfl)
  simp only [Act.put, List.setIfInBounds_toArray, List.set_cons_zero, List.set_cons_succ]
  refine wpAnyN_take (i := 2) (v := ?_) rfl (by kernel_rfl) (by kernel_rfl) (by kernel_rfl) (by kernel_rfl) (fun _ _ _ h => h) (.inl ⟨by rfl, ?_⟩) H0.out ?_
  rotate_left
  · (intro W' hW'; obtain ⟨x0, x1, x2, x3⟩ := hW'.1.cells; go_simp; try rfl)
  simp only [Act.put, List.setIfInBounds_toArray, List.set_cons_zero, List.set_cons_succ]
  refine wpAnyN_one (i := 1) rfl (by kernel_rfl) (fun K hK => ?_)
  go_simp
  refine (H0.out.2.2.right).mono ?_
  rintro e X1 ⟨rfl, hb⟩
  have H1 := Aside0.mk (H0.out.below hb)
  have B1 := Aside0.mk (below_step B0.out hb)
  clear hb
  refine hK.out _ _ (fun _ => H1.out) (fun _ => ?_)
  clear hK K
  try simp only [Act.put, List.setIfInBounds_toArray, List.set_cons_zero, List.set_cons_succ]
  refine wpAnyN_one (i := 3) rfl (by kernel_rfl) (fun K hK => ?_)
  go_simp
  refine (H1.out.1.refRight HBT.out).mono ?_
  rintro e X2 ⟨rfl, hb⟩
  have H2 := Aside0.mk (H1.out.below hb)
  have B2 := Aside0.mk (below_step B1.out hb)
  clear hb
  refine hK.out _ _ (fun _ => H2.out) (fun _ => ?_)
  clear hK K
  try simp only [Act.put, List.setIfInBounds_toArray, List.set_cons_zero, List.set_cons_succ]
  refine wpAnyN_take (i := 4) (v := ?_) rfl (by kernel_rfl) (by kernel_rfl) (by kernel_rfl) (by kernel_rfl) (fun _ _ _ h => h) (.inl ⟨by rfl, ?_⟩) H2.out ?_
  rotate_left
  · (intro W' hW'; go_simp; try rfl)
  simp only [Act.put, List.setIfInBounds_toArray, List.set_cons_zero, List.set_cons_succ]
  refine wpAnyN_take (i := 5) (v := ?_) rfl (by kernel_rfl) (by kernel_rfl) (by kernel_rfl) (by kernel_rfl) (fun _ _ _ h => h) (.inl ⟨by rfl, ?_⟩) H2.out ?_
  rotate_left
  · (intro W' hW'; go_simp; try rfl)
  simp only [Act.put, List.setIfInBounds_toArray, List.set_cons_zero, List.set_cons_succ]
  refine wpAnyN_take (i := 6) (v := ?_) rfl (by kernel_rfl) (by kernel_rfl) (by kernel_rfl) (by kernel_rfl) (fun _ _ _ h => h) (.inl ⟨by rfl, ?_⟩) H2.out ?_
  rotate_left
  · (intro W' hW'; obtain ⟨x0, x1, x2, x3⟩ := hW'.2.1.cells; go_simp; try rfl)
  simp only [Act.put, List.setIfInBounds_toArray, List.set_cons_zero, List.set_cons_succ]
  refine wpAnyN_take (i := 8) (v := ?_) rfl (by kernel_rfl) (by kernel_rfl) (by kernel_rfl) (by kernel_rfl) (fun _ _ _ h => h) (.inl ⟨by rfl, ?_⟩) H2.out ?_
  rotate_left
  · (intro W' hW'; obtain ⟨x0, x1, x2, x3⟩ := hW'.2.1.cells; go_simp; try rfl)
  simp only [Act.put, List.setIfInBounds_toArray, List.set_cons_zero, List.set_cons_succ]
  refine wpAnyN_one (i := 7) rfl (by kernel_rfl) (fun K hK => ?_)
  go_simp
  refine (H2.out.2.1.right).mono ?_
  rintro e X3 ⟨rfl, hb⟩
  have H3 := Aside0.mk (H2.out.below hb)
  have B3 := Aside0.mk (below_step B2.out hb)
  clear hb
  refine hK.out _ _ (fun _ => H3.out) (fun _ => ?_)
  clear hK K
  try simp only [Act.put, List.setIfInBounds_toArray, List.set_cons_zero, List.set_cons_succ]
  refine wpAnyN_one (i := 9) rfl (by kernel_rfl) (fun K hK => ?_)
  go_simp
  refine (H3.out.2.1.refRight HBU.out).mono ?_
  rintro e X4 ⟨rfl, hb⟩
  have H4 := Aside0.mk (H3.out.below hb)
  have B4 := Aside0.mk (below_step B3.out hb)
  clear hb
  refine hK.out _ _ (fun _ => H4.out) (fun _ => ?_)
  clear hK K
  try simp only [Act.put, List.setIfInBounds_toArray, List.set_cons_zero, List.set_cons_succ]
  refine wpAnyN_take (i := 10) (v := ?_) rfl (by kernel_rfl) (by kernel_rfl) (by kernel_rfl) (by kernel_rfl) (fun _ _ _ h => h) (.inl ⟨by rfl, ?_⟩) H4.out ?_
  rotate_left
  · (intro W' hW'; go_simp; try rfl)
  simp only [Act.put, List.setIfInBounds_toArray, List.set_cons_zero, List.set_cons_succ]
  refine wpAnyN_take (i := 11) (v := ?_) rfl (by kernel_rfl) (by kernel_rfl) (by kernel_rfl) (by kernel_rfl) (fun _ _ _ h => h) (.inl ⟨by rfl, ?_⟩) H4.out ?_
  rotate_left
  · (intro W' hW'; go_simp; try rfl)
  simp only [Act.put, List.setIfInBounds_toArray, List.set_cons_zero, List.set_cons_succ]
  refine wpAnyN_take (i := 12) (v := ?_) rfl (by kernel_rfl) (by kernel_rfl) (by kernel_rfl) (by kernel_rfl) (fun _ _ _ h => h) (.inl ⟨by rfl, ?_⟩) H4.out ?_
  rotate_left
  · (intro W' hW'; go_simp; try rfl)
  simp only [Act.put, List.setIfInBounds_toArray, List.set_cons_zero, List.set_cons_succ]
  refine wpAnyN_take (i := 13) (v := ?_) rfl (by kernel_rfl) (by kernel_rfl) (by kernel_rfl) (by kernel_rfl) (fun _ _ _ h => h) (.inl ⟨by rfl, ?_⟩) H4.out ?_
  rotate_left
  · (intro W' hW'; obtain ⟨x0, x1, x2, x3⟩ := hW'.2.2.cells; go_simp; try rfl)
  simp only [Act.put, List.setIfInBounds_toArray, List.set_cons_zero, List.set_cons_succ]
  refine wpAnyN_take (i := 14) (v := ?_) rfl (by kernel_rfl) (by kernel_rfl) (by kernel_rfl) (by kernel_rfl) (fun _ _ _ h => h) (.inl ⟨by rfl, ?_⟩) H4.out ?_
  rotate_left
  · (intro W' hW'; obtain ⟨x0, x1, x2, x3⟩ := hW'.2.1.cells; go_simp; try rfl)
  simp only [Act.put, List.setIfInBounds_toArray, List.set_cons_zero, List.set_cons_succ]
  refine wpAnyN_take (i := 16) (v := ?_) rfl (by kernel_rfl) (by kernel_rfl) (by kernel_rfl) (by kernel_rfl) (fun _ _ _ h => h) (.inl ⟨by rfl, ?_⟩) H4.out ?_
  rotate_left
  · (intro W' hW'; obtain ⟨x0, x1, x2, x3⟩ := hW'.1.cells; go_simp; try rfl)
  simp only [Act.put, List.setIfInBounds_toArray, List.set_cons_zero, List.set_cons_succ]
  refine wpAnyN_take (i := 17) (v := ?_) rfl (by kernel_rfl) (by kernel_rfl) (by kernel_rfl) (by kernel_rfl) (fun _ _ _ h => h) (.inl ⟨by rfl, ?_⟩) H4.out ?_
  rotate_left
  · (intro W' hW'; obtain ⟨x0, x1, x2, x3⟩ := hW'.2.1.cells; go_simp; try rfl)
  simp only [Act.put, List.setIfInBounds_toArray, List.set_cons_zero, List.set_cons_succ]
  refine wpAnyN_one (i := 15) rfl (by kernel_rfl) (fun K hK => ?_)
  go_simp
  refine (H4.out.2.2.same H4.out.2.1).mono ?_
  rintro e X5 ⟨rfl, hb⟩
  have H5 := Aside0.mk (H4.out.below hb)
  have B5 := Aside0.mk (below_step B4.out hb)
  clear hb
  refine hK.out _ _ (fun _ => H5.out) (fun _ => ?_)
  clear hK K
  try simp only [Act.put, List.setIfInBounds_toArray, List.set_cons_zero, List.set_cons_succ]
  refine wpAnyN_one (i := 18) rfl (by kernel_rfl) (fun K hK => ?_)
  go_simp
  refine (H5.out.1.refSame H5.out.2.1 (by have := HST.out; omega)).mono ?_
  rintro e X6 ⟨rfl, hb⟩
  have H6 := Aside0.mk (H5.out.below hb)
  have B6 := Aside0.mk (below_step B5.out hb)
  clear hb
  refine hK.out _ _ (fun _ => H6.out) (fun _ => ?_)
  clear hK K
  try simp only [Act.put, List.setIfInBounds_toArray, List.set_cons_zero, List.set_cons_succ]
  refine wpAnyN_take (i := 19) (v := ?_) rfl (by kernel_rfl) (by kernel_rfl) (by kernel_rfl) (by kernel_rfl) (fun _ _ _ h => h) (.inl ⟨by rfl, ?_⟩) H6.out ?_
  rotate_left
  · (intro W' hW'; go_simp; try rfl)
  simp only [Act.put, List.setIfInBounds_toArray, List.set_cons_zero, List.set_cons_succ]
  refine wpAnyN_take (i := 20) (v := ?_) rfl (by kernel_rfl) (by kernel_rfl) (by kernel_rfl) (by kernel_rfl) (fun _ _ _ h => h) (.inl ⟨by rfl, ?_⟩) H6.out ?_
  rotate_left
  · (intro W' hW'; go_simp; try rfl)
  simp only [Act.put, List.setIfInBounds_toArray, List.set_cons_zero, List.set_cons_succ]
  refine wpAnyN_take (i := 21) (v := ?_) rfl (by kernel_rfl) (by kernel_rfl) (by kernel_rfl) (by kernel_rfl) (fun _ _ _ h => h) (.inl ⟨by rfl, ?_⟩) H6.out ?_
  rotate_left
  · (intro W' hW'; go_simp; try rfl)
  simp only [Act.put, List.setIfInBounds_toArray, List.set_cons_zero, List.set_cons_succ]
  refine wpAnyN_take (i := 22) (v := ?_) rfl (by kernel_rfl) (by kernel_rfl) (by kernel_rfl) (by kernel_rfl) (fun _ _ _ h => h) (.inl ⟨by rfl, ?_⟩) H6.out ?_
  rotate_left
  · (intro W' hW'; obtain ⟨x0, x1, x2, x3⟩ := hW'.2.2.cells; go_simp; try rfl)
  simp only [Act.put, List.setIfInBounds_toArray, List.set_cons_zero, List.set_cons_succ]
  refine wpAnyN_take (i := 23) (v := ?_) rfl (by kernel_rfl) (by kernel_rfl) (by kernel_rfl) (by kernel_rfl) (fun _ _ _ h => h) (.inl ⟨by rfl, ?_⟩) H6.out ?_
  rotate_left
  · (intro W' hW'; obtain ⟨x0, x1, x2, x3⟩ := hW'.1.cells; go_simp; try rfl)
  simp only [Act.put, List.setIfInBounds_toArray, List.set_cons_zero, List.set_cons_succ]
  refine wpAnyN_one (i := 24) rfl (by kernel_rfl) (fun K hK => ?_)
  go_simp
  refine (H6.out.2.2.same H6.out.1).mono ?_
  rintro e X7 ⟨rfl, hb⟩
  have H7 := Aside0.mk (H6.out.below hb)
  have B7 := Aside0.mk (below_step B6.out hb)
  clear hb
  rw [sameB_refl]
  refine hK.out _ _ (fun _ => H7.out) (fun _ => ?_)
  clear hK K
  try simp only [Act.put, List.setIfInBounds_toArray, List.set_cons_zero, List.set_cons_succ]
  refine wpAnyN_take (i := 25) (v := ?_) rfl (by kernel_rfl) (by kernel_rfl) (by kernel_rfl) (by kernel_rfl) (fun _ _ _ h => h) (.inl ⟨by rfl, ?_⟩) H7.out ?_
  rotate_left
  · (intro W' hW'; go_simp; try rfl)
  simp only [Act.put, List.setIfInBounds_toArray, List.set_cons_zero, List.set_cons_succ]
  refine wpAnyN_take (i := 26) (v := ?_) rfl (by kernel_rfl) (by kernel_rfl) (by kernel_rfl) (by kernel_rfl) (fun _ _ _ h => h) (.inl ⟨by rfl, ?_⟩) H7.out ?_
  rotate_left
  · (intro W' hW'; go_simp; try rfl)
  simp only [Act.put, List.setIfInBounds_toArray, List.set_cons_zero, List.set_cons_succ]
  refine wpAnyN_take (i := 27) (v := ?_) rfl (by kernel_rfl) (by kernel_rfl) (by kernel_rfl) (by kernel_rfl) (fun _ _ _ h => h) (.inl ⟨by rfl, ?_⟩) H7.out ?_
  rotate_left
  · (intro W' hW'; go_simp; try rfl)
  simp only [Act.put, List.setIfInBounds_toArray, List.set_cons_zero, List.set_cons_succ]
  refine wpAnyN_take (i := 28) (v := ?_) rfl (by kernel_rfl) (by kernel_rfl) (by kernel_rfl) (by kernel_rfl) (fun _ _ _ h => h) (.inl ⟨by rfl, ?_⟩) H7.out ?_
  rotate_left
  · (intro W' hW'; go_simp; try rfl)
  simp only [Act.put, List.setIfInBounds_toArray, List.set_cons_zero, List.set_cons_succ]
  refine wpAnyN_take (i := 29) (v := ?_) rfl (by kernel_rfl) (by kernel_rfl) (by kernel_rfl) (by kernel_rfl) (fun _ _ _ h => h) (.inl ⟨by rfl, ?_⟩) H7.out ?_
  rotate_left
  · (intro W' hW'; go_simp; try rfl)
  simp only [Act.put, List.setIfInBounds_toArray, List.set_cons_zero, List.set_cons_succ]
  refine wpAnyN_take (i := 30) (v := ?_) rfl (by kernel_rfl) (by kernel_rfl) (by kernel_rfl) (by kernel_rfl) (fun _ _ _ h => h) (.inl ⟨by rfl, ?_⟩) H7.out ?_
  rotate_left
  · (intro W' hW'; go_simp; try rfl)
  simp only [Act.put, List.setIfInBounds_toArray, List.set_cons_zero, List.set_cons_succ]
  refine wpAnyN_take (i := 31) (v := ?_) rfl (by kernel_rfl) (by kernel_rfl) (by kernel_rfl) (by kernel_rfl) (fun _ _ _ h => h) (.inl ⟨by rfl, ?_⟩) H7.out ?_
  rotate_left
  · (intro W' hW'; go_simp; try rfl)
  simp only [Act.put, List.setIfInBounds_toArray, List.set_cons_zero, List.set_cons_succ]
  refine wpAnyN_take (i := 32) (v := ?_) rfl (by kernel_rfl) (by kernel_rfl) (by kernel_rfl) (by kernel_rfl) (fun _ _ _ h => h) (.inl ⟨by rfl, ?_⟩) H7.out ?_
  rotate_left
  · (intro W' hW'; go_simp; try rfl)
  simp only [Act.put, List.setIfInBounds_toArray, List.set_cons_zero, List.set_cons_succ]
  refine wpAnyN_take (i := 33) (v := ?_) rfl (by kernel_rfl) (by kernel_rfl) (by kernel_rfl) (by kernel_rfl) (fun _ _ _ h => h) (.inl ⟨by rfl, ?_⟩) H7.out ?_
  rotate_left
  · (intro W' hW'; go_simp; try rfl)
  simp only [Act.put, List.setIfInBounds_toArray, List.set_cons_zero, List.set_cons_succ]
  refine wpAnyN_take (i := 34) (v := ?_) rfl (by kernel_rfl) (by kernel_rfl) (by kernel_rfl) (by kernel_rfl) (fun _ _ _ h => h) (.inl ⟨by rfl, ?_⟩) H7.out ?_
  rotate_left
  · (intro W' hW'; go_simp; try rfl)
  simp only [Act.put, List.setIfInBounds_toArray, List.set_cons_zero, List.set_cons_succ]
  refine wpAnyN_take (i := 35) (v := ?_) rfl (by kernel_rfl) (by kernel_rfl) (by kernel_rfl) (by kernel_rfl) (fun _ _ _ h => h) (.inl ⟨by rfl, ?_⟩) H7.out ?_
  rotate_left
  · (intro W' hW'; go_simp; try rfl)
  simp only [Act.put, List.setIfInBounds_toArray, List.set_cons_zero, List.set_cons_succ]
  refine wpAnyN_take (i := 36) (v := ?_) rfl (by kernel_rfl) (by kernel_rfl) (by kernel_rfl) (by kernel_rfl) (fun _ _ _ h => h) (.inl ⟨by rfl, ?_⟩) H7.out ?_
  rotate_left
  · (intro W' hW'; go_simp; try rfl)
  simp only [Act.put, List.setIfInBounds_toArray, List.set_cons_zero, List.set_cons_succ]
  refine wpAnyN_take (i := 37) (v := ?_) rfl (by kernel_rfl) (by kernel_rfl) (by kernel_rfl) (by kernel_rfl) (fun _ _ _ h => h) (.inl ⟨by rfl, ?_⟩) H7.out ?_
  rotate_left
  · (intro W' hW'; go_simp; try rfl)
  simp only [Act.put, List.setIfInBounds_toArray, List.set_cons_zero, List.set_cons_succ]
  refine wpAnyN_take (i := 39) (v := ?_) rfl (by kernel_rfl) (by kernel_rfl) (by kernel_rfl) (by kernel_rfl) (fun _ _ _ h => h) (.inl ⟨by rfl, ?_⟩) H7.out ?_
  rotate_left
  · (intro W' hW'; go_simp; try rfl)
  simp only [Act.put, List.setIfInBounds_toArray, List.set_cons_zero, List.set_cons_succ]
  refine wpAnyN_one (i := 38) rfl (by kernel_rfl) (fun K hK => ?_)
  go_simp
  refine (HNM.out X7).mono ?_
  rintro e X8 ⟨rfl, hb⟩
  have H8 := Aside0.mk (H7.out.below hb)
  have B8 := Aside0.mk (below_step B7.out hb)
  clear hb
  refine hK.out _ _ (fun _ => H8.out) (fun _ => ?_)
  clear hK K
  try simp only [Act.put, List.setIfInBounds_toArray, List.set_cons_zero, List.set_cons_succ]
  refine wpAnyN_one (i := 40) rfl (by kernel_rfl) (fun K hK => ?_)
  go_simp
  refine (HNR.out X8).mono ?_
  rintro e X9 ⟨rfl, hb⟩
  have H9 := Aside0.mk (H8.out.below hb)
  have B9 := Aside0.mk (below_step B8.out hb)
  clear hb
  refine hK.out _ _ (fun _ => H9.out) (fun _ => ?_)
  clear hK K
  try simp only [Act.put, List.setIfInBounds_toArray, List.set_cons_zero, List.set_cons_succ]
  refine wpAnyN_take (i := 41) (v := ?_) rfl (by kernel_rfl) (by kernel_rfl) (by kernel_rfl) (by kernel_rfl) (fun _ _ _ h => h) (.inl ⟨by rfl, ?_⟩) H9.out ?_
  rotate_left
  · (intro W' hW'; go_simp; try rfl)
  simp only [Act.put, List.setIfInBounds_toArray, List.set_cons_zero, List.set_cons_succ]
  refine wpAnyN_take (i := 42) (v := ?_) rfl (by kernel_rfl) (by kernel_rfl) (by kernel_rfl) (by kernel_rfl) (fun _ _ _ h => h) (.inl ⟨by rfl, ?_⟩) H9.out ?_
  rotate_left
  · (intro W' hW'; go_simp; try rfl)
  simp only [Act.put, List.setIfInBounds_toArray, List.set_cons_zero, List.set_cons_succ]
  refine wpAnyN_take (i := 43) (v := ?_) rfl (by kernel_rfl) (by kernel_rfl) (by kernel_rfl) (by kernel_rfl) (fun _ _ _ h => h) (.inl ⟨by rfl, ?_⟩) H9.out ?_
  rotate_left
  · (intro W' hW'; go_simp; try rfl)
  simp only [Act.put, List.setIfInBounds_toArray, List.set_cons_zero, List.set_cons_succ]
  refine wpAnyN_take (i := 44) (v := ?_) rfl (by kernel_rfl) (by kernel_rfl) (by kernel_rfl) (by kernel_rfl) (fun _ _ _ h => h) (.inl ⟨by rfl, ?_⟩) H9.out ?_
  rotate_left
  · (intro W' hW'; obtain ⟨x0, x1, x2, x3⟩ := hW'.2.2.cells; go_simp; try rfl)
  simp only [Act.put, List.setIfInBounds_toArray, List.set_cons_zero, List.set_cons_succ]
  refine wpAnyN_take (i := 45) (v := ?_) rfl (by kernel_rfl) (by kernel_rfl) (by kernel_rfl) (by kernel_rfl) (fun _ _ _ h => h) (.inl ⟨by rfl, ?_⟩) H9.out ?_
  rotate_left
  · (intro W' hW'; obtain ⟨x0, x1, x2, x3⟩ := hW'.1.cells; go_simp; try rfl)
  simp only [Act.put, List.setIfInBounds_toArray, List.set_cons_zero, List.set_cons_succ]
  refine wpAnyN_one (i := 46) rfl (by kernel_rfl) (fun K hK => ?_)
  go_simp
  refine (H9.out.2.2.refSame H9.out.1 (by have := HST.out; omega)).mono ?_
  rintro e X10 ⟨rfl, hb⟩
  have H10 := Aside0.mk (H9.out.below hb)
  have B10 := Aside0.mk (below_step B9.out hb)
  clear hb
  rw [sameB_refl]
  refine hK.out _ _ (fun _ => H10.out) (fun _ => ?_)
  clear hK K
  try simp only [Act.put, List.setIfInBounds_toArray, List.set_cons_zero, List.set_cons_succ]
  refine wpAnyN_take (i := 47) (v := ?_) rfl (by kernel_rfl) (by kernel_rfl) (by kernel_rfl) (by kernel_rfl) (fun _ _ _ h => h) (.inl ⟨by rfl, ?_⟩) H10.out ?_
  rotate_left
  · (intro W' hW'; go_simp; try rfl)
  simp only [Act.put, List.setIfInBounds_toArray, List.set_cons_zero, List.set_cons_succ]
  refine wpAnyN_take (i := 48) (v := ?_) rfl (by kernel_rfl) (by kernel_rfl) (by kernel_rfl) (by kernel_rfl) (fun _ _ _ h => h) (.inl ⟨by rfl, ?_⟩) H10.out ?_
  rotate_left
  · (intro W' hW'; go_simp; try rfl)
  simp only [Act.put, List.setIfInBounds_toArray, List.set_cons_zero, List.set_cons_succ]
  refine wpAnyN_done (by kernel_rfl) (NoPanic.normal ?_) _
  go_wp2
  go_ret
  exact ⟨rfl, B10.out⟩
set_option maxHeartbeats 8000000 in
set_option maxRecDepth 100000 in
theorem may_no (A0 : Option Addr) (c0 : Nat) (l0 : List S85) (A1 : Option Addr) (c1 : Nat) (l1 : List S85) (kind : Int) (w : World) (hr0 : Kd.C k85 w A0 l0.length l0) (hc0 : l0.length ≤ c0) (hr1 : Kd.C k85 w A1 l1.length l1) (hc1 : l1.length ≤ c1)
    (K L : Nat) (r1 r2 r3 s1 s2 s3 : Int) (r4 s4 : List S25) (p q : Bool) (hpq : (p && q) = false) (hK : glossatorlaw15_Grow.f K l0 = some (r1, r2, r3, r4, p)) (hL : glossatorlaw15_Grow.f L l1 = some (s1, s2, s3, s4, q)) :
    Calls Tryd.prog 5 #[.slice A0 l0.length c0, .slice A1 l1.length c1, .int .u8 kind] w fun e w' => e = .returned (.bool true) ∧ Below w.heap.size w w' := by
  have hu := Tryd.underlying25
  have HR1 := Aside0.mk hr1
  have HC1 := Aside0.mk hc1
  have HG := Aside0.mk (glossatorlaw15_Grow.calls K A0 c0 l0 _ _ _ _ _ w hr0 hc0 hK)
  have HL := Aside0.mk hL
  have HPQ := Aside0.mk hpq
  clear hr0 hc0 hr1 hc1 hK hL hpq
  go_enter Tryd.func5, Tryd.ntmps5
  go_upto_region 2 with (go_at_call 6; refine HG.out.mono ?_; rintro e w2 ⟨v, rfl, hv, hb2⟩; obtain ⟨A3, c3, e3⟩ := Kd.R_slice hv; subst e3; have HB2 := Aside0.mk hb2; clear hv hb2 HG)
  obtain ⟨W3, hW3⟩ : ∃ W3, W3 = w2.alloc (.cells #[.int .u8 r1, .int .u8 r2, .int .i64 r3, .slice A3 r4.length c3] 25) := ⟨_, rfl⟩
  have HB3 := Aside0.mk (show Below w.heap.size w W3 by rw [hW3]; exact below_step HB2.out (below_alloc (Below.refl _ _) _))
  rw [← hW3]
  clear hW3 HB2
  have HG2 := Aside0.mk (glossatorlaw15_Grow.calls L A1 c1 l1 _ _ _ _ _ W3 (Kd.C_below HR1.out HB3.out) HC1.out HL.out)
  go_upto_region 3 with (go_at_call 6; refine HG2.out.mono ?_; rintro e w4 ⟨v, rfl, hv, hb4⟩; obtain ⟨A4, c4, e4⟩ := Kd.R_slice hv; subst e4; have HB4 := Aside0.mk hb4; clear hv hb4 HG2)
  obtain ⟨W5, hW5⟩ : ∃ W5, W5 = w4.alloc (.cells #[.int .u8 s1, .int .u8 s2, .int .i64 s3, .slice A4 s4.length c4] 25) := ⟨_, rfl⟩
  have HB5 := Aside0.mk (show Below w.heap.size w W5 by rw [hW5]; exact below_step HB3.out (below_step HB4.out (below_alloc (Below.refl _ _) _)))
  rw [← hW5]
  clear hW5 HB4 HB3
  cases p with
  | false =>
    go_wp2
    go_ret
    exact ⟨rfl, HB5.out⟩
  | true =>
    have hq : q = false := HPQ.out
    subst hq
    go_wp2
    go_ret
    exact ⟨rfl, HB5.out⟩
theorem may_law (A0 : Option Addr) (c0 : Nat) (l0 : List S85) (A1 : Option Addr) (c1 : Nat) (l1 : List S85) (kind : Int) (hk0 : 0 ≤ kind) (hk1 : kind < 256) (w : World) (hr0 : Kd.C k85 w A0 l0.length l0) (hc0 : l0.length ≤ c0) (hr1 : Kd.C k85 w A1 l1.length l1) (hc1 : l1.length ≤ c1)
    (hp : ∀ r ∈ l0, rowOk r) (hq : ∀ r ∈ l1, rowOk r) (htab : Tab w) :
    Calls Tryd.prog 5 #[.slice A0 l0.length c0, .slice A1 l1.length c1, .int .u8 kind] w fun e w' => e = .returned (.bool true) ∧ Below w.heap.size w w' := by
  rcases Grow_ev l0 hp with ⟨K, hK⟩ | ⟨t, ⟨K, hK⟩, hb, ht⟩
  · rcases Grow_ev l1 hq with ⟨L, hL⟩ | ⟨u, ⟨L, hL⟩, hbu, hu⟩
    · exact may_no A0 c0 l0 A1 c1 l1 kind w hr0 hc0 hr1 hc1 K L _ _ _ _ _ _ _ _ _ _ rfl (hK K (Nat.le_refl _)) (hL L (Nat.le_refl _))
    · exact may_no A0 c0 l0 A1 c1 l1 kind w hr0 hc0 hr1 hc1 K L _ _ _ _ _ _ _ _ _ _ rfl (hK K (Nat.le_refl _)) (hL L (Nat.le_refl _))
  · rcases Grow_ev l1 hq with ⟨L, hL⟩ | ⟨u, ⟨L, hL⟩, hbu, hu⟩
    · exact may_no A0 c0 l0 A1 c1 l1 kind w hr0 hc0 hr1 hc1 K L _ _ _ _ _ _ _ _ _ _ rfl (hK K (Nat.le_refl _)) (hL L (Nat.le_refl _))
    · exact may_yes A0 c0 l0 A1 c1 l1 kind hk0 hk1 w hr0 hc0 hr1 hc1 K L t u hb ht hbu hu (hK K (Nat.le_refl _)) (hL L (Nat.le_refl _)) htab
end Go.Proofs.YtcfeijdcanpflaaDoor.H
