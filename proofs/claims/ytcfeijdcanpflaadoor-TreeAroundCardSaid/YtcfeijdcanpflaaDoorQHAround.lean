/- TreeAround, walked: it answers true. -/
import Derived.Test.YtcfeijdcanpflaaDoorQHAwake
import Derived.Test.YtcfeijdcanpflaaDoorQPureAround
import Derived.Test.YtcfeijdcanpflaaDoorQHxglossatorlaw15Grow
import Derived.Test.YtcfeijdcanpflaaDoorQHRound
set_option linter.unusedVariables false
set_option linter.unusedSimpArgs false
namespace Go.Proofs.YtcfeijdcanpflaaDoor.H
open Go.RowKit Go.Proofs.YtcfeijdcanpflaaDoorW.PrintWords Go.Proofs.YtcfeijdcanpflaaDoorW.PrintLast Go.Proofs.YtcfeijdcanpflaaDoorW.PrintMore
set_option maxHeartbeats 8000000 in
set_option maxRecDepth 100000 in
theorem around_no (A0 : Option Addr) (c0 : Nat) (l0 : List S85) (pl : Int) (w : World) (hr0 : Kd.C k85 w A0 l0.length l0) (hc0 : l0.length ≤ c0) (K : Nat) (hK : glossatorlaw15_Grow.f K l0 = some (0, 0, 0, [], false)) (htab : Tab w) :
    Calls Tryd.prog 4 #[.slice A0 l0.length c0, .int .i64 pl] w fun e w' => e = .returned (.bool true) ∧ Below w.heap.size w w' := by
  have hu := Tryd.underlying25
  have HG := Aside0.mk (glossatorlaw15_Grow.calls K A0 c0 l0 0 0 0 [] false w hr0 hc0 hK)
  have HTAB := Aside0.mk htab
  clear hr0 hc0 hK htab
  go_enter Tryd.func4, Tryd.ntmps4
  go_wp2_with (go_at_call 6; refine HG.out.mono ?_; rintro e w1 ⟨v, rfl, hv, hb1⟩; obtain ⟨A, c, e⟩ := Kd.R_slice hv; subst e)
  have hb2 := below_step hb1 (below_alloc (o := .cells #[.int .u8 0, .int .u8 0, .int .i64 0, .slice A 0 c] 25) (Below.refl _ _))
  refine (awake_calls _ (HTAB.out.below hb2)).mono ?_
  rintro e w3 ⟨rfl, hb3⟩
  have HB3 := Aside0.mk (below_step hb2 hb3)
  clear hb1 hb2 hb3 hv
  go_wp2
  go_ret
  exact ⟨rfl, HB3.out⟩
set_option maxHeartbeats 8000000 in
set_option maxRecDepth 100000 in
theorem around_yes (A0 : Option Addr) (c0 : Nat) (l0 : List S85) (pl : Int) (hpl : inr pl) (w : World) (hr0 : Kd.C k85 w A0 l0.length l0) (hc0 : l0.length ≤ c0) (K : Nat) (t : S25) (hbt : byteT t) (hst : tsize t ≤ 3000) (hK : glossatorlaw15_Grow.f K l0 = some (t.f0, t.f1, t.f2, t.f3, true)) (htab : Tab w) :
    Calls Tryd.prog 4 #[.slice A0 l0.length c0, .int .i64 pl] w fun e w' => e = .returned (.bool true) ∧ Below w.heap.size w w' := by
  have hu := Tryd.underlying25
  have hus := Tryd.underlying34
  have HG := Aside0.mk (glossatorlaw15_Grow.calls K A0 c0 l0 t.f0 t.f1 t.f2 t.f3 true w hr0 hc0 hK)
  have HTAB := Aside0.mk htab
  obtain ⟨path, hpath⟩ : ∃ path, path = atF t pl := ⟨_, rfl⟩
  obtain ⟨K1, hK1⟩ := at_ev t pl hbt (by omega)
  have HAT := Aside0.mk (hK1 K1 (Nat.le_refl _))
  rw [← hpath] at HAT
  have HPATH := Aside0.mk hpath
  clear hr0 hc0 hK htab hpath hK1
  go_enter Tryd.func4, Tryd.ntmps4
  go_wp2_with (go_at_call 6; refine HG.out.mono ?_; rintro e w1 ⟨v, rfl, hv, hb1⟩; obtain ⟨A, c, e⟩ := Kd.R_slice hv; subst e)
  obtain ⟨W2, hW2⟩ : ∃ W2, W2 = w1.alloc (.cells #[.int .u8 t.f0, .int .u8 t.f1, .int .i64 t.f2, .slice A t.f3.length c] 25) := ⟨_, rfl⟩
  rw [← hW2]
  have hb2 : Below w1.heap.size w1 W2 := by rw [hW2]; exact below_alloc (Below.refl _ _) _
  have hbx : W2.heap[w1.heap.size]? = some (.cells #[.int .u8 t.f0, .int .u8 t.f1, .int .i64 t.f2, .slice A t.f3.length c] 25 (0, 0)) := by rw [hW2]; exact heap_alloc_new _ _
  obtain ⟨_, hlc, hC1⟩ := Kd.R_reads' hv
  have HLC := Aside0.mk hlc
  have hC2 := Kd.C_below hC1 hb2
  refine (tree_At.calls K1 t.f0 t.f1 t.f2 (fun k => k < W2.heap.size) A c t.f3 pl path W2 (Kd.V_mk hlc (Kd.C_F heap25 hC2)) HAT.out).mono ?_
  rintro e w3 ⟨v, rfl, hvp, hb3⟩
  obtain ⟨Ap, cp, e⟩ := Kd.R_slice hvp
  subst e
  obtain ⟨_, hlp, hCp⟩ := Kd.R_reads' hvp
  have HLP := Aside0.mk hlp
  have HCP := Aside0.mk hCp
  have HB3 := Aside0.mk (below_step (below_step hb1 hb2) hb3)
  have HBX := Aside0.mk (blk_below hbx hb3)
  have HC3 := Aside0.mk (Kd.C_below hC2 hb3)
  clear hb1 hb2 hb3 hbx hv hvp hC1 hC2 hlc hlp hCp hW2 HG HAT
  obtain ⟨bx, hbx⟩ : ∃ bx, bx = w1.heap.size := ⟨_, rfl⟩
  rw [← hbx] at HBX ⊢
  clear hbx
  by_cases hp : path = []
  · subst hp
    have k0 := blk_cell HBX.out 0
    have k1 := blk_cell HBX.out 1
    have k2 := blk_cell HBX.out 2
    have k3 := blk_cell HBX.out 3
    simp at k0 k1 k2 k3
    have HR := Aside0.mk (tree_Right.calls t.f0 t.f1 t.f2 A c t.f3 (okB t) w3 HC3.out HLC.out (by rw [right_prog, eta25]))
    have HA : ∀ W, Below w.heap.size w W → Calls Tryd.prog 7 #[] W fun e w' => e = .returned (.bool true) ∧ Below W.heap.size W w' := fun W hb => awake_calls W (HTAB.out.below hb)
    have HAW := Aside0.mk HA
    have hl0 := blk_lt HBX.out
    clear HA
    have fin : okB t = false ∨ (okB t = true ∧ pl < 0) ∨ (okB t = true ∧ ¬ pl < 0 ∧ t.f2 ≤ pl) ∨ (okB t = true ∧ ¬ pl < 0 ∧ ¬ t.f2 ≤ pl ∧ t.f3.length = 0) := by
      cases ho : okB t with
      | false => exact .inl rfl
      | true =>
        by_cases p0 : pl < 0
        · exact .inr (.inl ⟨rfl, p0⟩)
        · by_cases p1 : t.f2 ≤ pl
          · exact .inr (.inr (.inl ⟨rfl, p0, p1⟩))
          · refine .inr (.inr (.inr ⟨rfl, p0, p1, ?_⟩))
            have h := HPATH.out
            unfold atF at h
            rw [if_pos ⟨ho, by omega, by omega⟩] at h
            rw [at_nil hbt ho pl (by omega) (by omega) h.symm]
            rfl
    have FIN := Aside0.mk fin
    clear fin
    rcases FIN.out with h | ⟨h, p0⟩ | ⟨h, p0, p1⟩ | ⟨h, p0, p1, p2⟩
    case' inl => skip
    case' inr.inl => have d0 : decide (pl < 0) = true := decide_eq_true p0
    case' inr.inr.inl =>
      have d0 : decide (pl < 0) = false := decide_eq_false p0
      have d1 : decide (pl ≥ t.f2) = true := decide_eq_true p1
      have d2 : decide (t.f2 ≤ pl) = true := decide_eq_true p1
    case' inr.inr.inr =>
      have d0 : decide (pl < 0) = false := decide_eq_false p0
      have d1 : decide (pl ≥ t.f2) = false := decide_eq_false p1
      have d2 : decide (t.f2 ≤ pl) = false := decide_eq_false p1
      have d3 : ((t.f3.length : Int) == 0) = true := by rw [p2]; rfl
      clear p2
    all_goals
      rw [h] at HR
      clear h FIN
      go_wp2_with first | (go_at_call 10; refine HR.out.mono ?_; rintro e w4 ⟨rfl, hb4⟩; have k0 := blk_cell (blk_below HBX.out hb4) 0; have k1 := blk_cell (blk_below HBX.out hb4) 1; have k2 := blk_cell (blk_below HBX.out hb4) 2; have k3 := blk_cell (blk_below HBX.out hb4) 3; simp at k0 k1 k2 k3) | (go_at_call 7; refine (HAW.out _ (below_step HB3.out hb4)).mono ?_; rintro e w5 ⟨rfl, hb5⟩)
      go_ret
      exact ⟨rfl, below_step (below_step HB3.out hb4) hb5⟩
  · have ho : okB t = true ∧ 0 ≤ pl ∧ pl < t.f2 := by
      have h := HPATH.out
      unfold atF at h
      by_cases hc : okB t = true ∧ 0 ≤ pl ∧ pl < t.f2
      · exact hc
      · rw [if_neg hc] at h; exact absurd h hp
    have hpa : path = atT t pl := by rw [HPATH.out, atF, if_pos ho]
    have HGET := Aside0.mk (fun (i : Nat) (hi : i ≤ path.length) => by rw [hpa] at hi ⊢; exact around_at hbt ho.1 pl ho.2.1 ho.2.2 i hi : ∀ i : Nat, i ≤ path.length →
      ∃ k w wd l f, getF t (path.take i) = (k, w, wd, l, f, wrap64 (f + wd), true) ∧ f ≤ pl ∧ pl < f + wd ∧ f + wd ≤ 1099511627776 ∧ 0 ≤ f ∧ (i = path.length → k < 50 ∧ l = []))
    have HPL := Aside0.mk (show path.length ≤ 3000 by rw [HPATH.out]; exact Nat.le_trans (atF_length' t pl) hst)
    have hn0 : ((path.length : Int) == 0) = false := by
      have : path.length ≠ 0 := fun h => hp (List.eq_nil_of_length_eq_zero h)
      simp [this]
    obtain ⟨m, hm⟩ : ∃ m, m = path.length := ⟨_, rfl⟩
    rw [← hm] at HGET HPL hn0 HLP
    have HCP2 := HCP
    rw [← hm] at HCP2
    have HM := Aside0.mk hm
    have HO := Aside0.mk ho
    rw [← hm]
    clear hpa hp hm ho HCP
    go_wp2
    go_loopg [8] (m + 1) (fun kq v8 wr => ∃ i : Nat, v8 = .int .i64 i ∧ i ≤ m + 1 ∧ Aside0 (kq = m + 1 - i) ∧ Aside0 (Below w3.heap.size w3 wr))
    case atStart => exact ⟨0, rfl, Nat.zero_le _, ⟨rfl⟩, ⟨Below.refl _ _⟩⟩
    case round =>
      obtain ⟨i, rfl, hi, HK, HB⟩ := hrel
      by_cases hlt : i ≤ m
      case' neg =>
        obtain rfl : i = m + 1 := by omega
        have d1 : decide (((m + 1 : Nat) : Int) ≤ (m : Int)) = false := decide_eq_false (by omega)
        go_wp2_with (go_at_call 7; refine (awake_calls _ (HTAB.out.below (below_step HB3.out HB.out))).mono ?_; rintro e w5 ⟨rfl, hb5⟩)
        go_ret
        exact ⟨rfl, below_step (below_step HB3.out HB.out) hb5⟩
      have d1 : decide ((i : Int) ≤ (m : Int)) = true := decide_eq_true (by omega)
      obtain ⟨k, nw, wd, kl, f, hget, g1, g2, g3, g4, g5⟩ := HGET.out i (by omega)
      have hbx := blk_below HBX.out HB.out
      have HS0 := Aside0.mk (show (wr.drew.cell? ⟨bx, 0, none⟩ = some (.int .u8 t.f0) ∧ wr.drew.cell? ⟨bx, 1, none⟩ = some (.int .u8 t.f1) ∧ wr.drew.cell? ⟨bx, 2, none⟩ = some (.int .i64 t.f2) ∧ wr.drew.cell? ⟨bx, 3, none⟩ = some (.slice A t.f3.length c)) from ⟨blk_cell hbx 0, blk_cell hbx 1, blk_cell hbx 2, blk_cell hbx 3⟩)
      obtain ⟨tt, htt⟩ : ∃ tt, tt = wrap64 (f + wd) := ⟨_, rfl⟩
      have htf : tt = f + wd := by rw [htt]; exact wrap_id (by omega) (by omega)
      rw [← htt] at hget
      have dA : decide (f > pl) = false := decide_eq_false (by omega)
      have dB : decide (pl < f) = false := decide_eq_false (by omega)
      have dC : decide (tt ≤ pl) = false := decide_eq_false (by omega)
      clear htt htf
      have HG5 := Aside0.mk (And.intro g1 (And.intro g2 (And.intro g3 (And.intro g4 g5))))
      have HGT := Aside0.mk hget
      have hicp : i ≤ cp := Nat.le_trans hlt HLP.out
      clear g1 g2 g3 g4 g5 hget
      go_wp2
      refine wp_region_noPanic (plain_need [0, 1, 2, 3, 4, 5, 6, 7, 8, 9, 10, 11, 12, 13] (fun W' => W'.cell? ⟨bx, 0, none⟩ = some (.int .u8 t.f0) ∧ W'.cell? ⟨bx, 1, none⟩ = some (.int .u8 t.f1) ∧ W'.cell? ⟨bx, 2, none⟩ = some (.int .i64 t.f2) ∧ W'.cell? ⟨bx, 3, none⟩ = some (.slice A t.f3.length c)) (by kernel_rfl) ?_)
      refine wpAnyN_take (i := 0) (v := ?_) rfl (by kernel_rfl) (by kernel_rfl) (by kernel_rfl) (by kernel_rfl) (fun _ _ _ h => h) (.inl ⟨by rfl, ?_⟩) HS0.out ?_
      rotate_left
      · (intro W' hW'; obtain ⟨s0, s1, s2, s3⟩ := hW'; go_simp; try rfl)
      simp only [Act.put, List.setIfInBounds_toArray, List.set_cons_zero, List.set_cons_succ]
      refine wpAnyN_take (i := 1) (v := ?_) rfl (by kernel_rfl) (by kernel_rfl) (by kernel_rfl) (by kernel_rfl) (fun _ _ _ h => h) (.inl ⟨by rfl, ?_⟩) HS0.out ?_
      rotate_left
      · (intro W' hW'; obtain ⟨s0, s1, s2, s3⟩ := hW'; go_simp; try rfl)
      simp only [Act.put, List.setIfInBounds_toArray, List.set_cons_zero, List.set_cons_succ]
      refine wpAnyN_take (i := 2) (v := ?_) rfl (by kernel_rfl) (by kernel_rfl) (by kernel_rfl) (by kernel_rfl) (fun _ _ _ h => h) (.inl ⟨by rfl, ?_⟩) HS0.out ?_
      rotate_left
      · (intro W' hW'; obtain ⟨s0, s1, s2, s3⟩ := hW'; go_simp; try rfl)
      simp only [Act.put, List.setIfInBounds_toArray, List.set_cons_zero, List.set_cons_succ]
      refine wpAnyN_take (i := 3) (v := ?_) rfl (by kernel_rfl) (by kernel_rfl) (by kernel_rfl) (by kernel_rfl) (fun _ _ _ h => h) (.inl ⟨by rfl, ?_⟩) HS0.out ?_
      rotate_left
      · (intro W' hW'; obtain ⟨s0, s1, s2, s3⟩ := hW'; go_simp; try rfl)
      simp only [Act.put, List.setIfInBounds_toArray, List.set_cons_zero, List.set_cons_succ]
      obtain ⟨X0, hX0⟩ : ∃ X0, X0 = wr.drew := ⟨_, rfl⟩
      rw [← hX0] at HS0 ⊢
      have HX0 := Aside0.mk (show Below wr.heap.size wr X0 by rw [hX0]; exact (Below.refl _ _).drew)
      have HBXR := Aside0.mk hbx
      have HGC := Aside0.mk (show ∀ X : World, Below wr.heap.size wr X → Calls Tryd.prog 11 #[.agg #[.int .u8 t.f0, .int .u8 t.f1, .int .i64 t.f2, .slice A t.f3.length c], .slice Ap i cp] X fun e w' => ∃ Av cv, e = .returned (.tuple #[.agg #[.int .u8 k, .int .u8 nw, .int .i64 wd, .slice Av kl.length cv], .agg #[.int .i64 f, .int .i64 tt], .bool true]) ∧ Below X.heap.size X w' from fun X hX => by
        obtain ⟨K2, hK2⟩ := get_ev t (path.take i) (by rw [List.length_take, ← HM.out]; have := HPL.out; omega) (by omega)
        have h1 := hK2 K2 (Nat.le_refl _)
        rw [HGT.out] at h1
        have hb := below_step HB.out hX
        have hC := Kd.C_below HC3.out hb
        have hP0 := Kd.C_below HCP2.out hb
        rw [HM.out] at hP0
        have hP := Kd.C_take hP0 (m := i) (by rw [← HM.out]; exact hlt)
        have hl : (path.take i).length = i := by rw [List.length_take, ← HM.out]; omega
        rw [hl] at hP
        have hgc := tree_Get.calls K2 t.f0 t.f1 t.f2 (fun k => k < X.heap.size) A c t.f3 Ap cp (path.take i) k nw wd kl f tt true X (Kd.V_mk HLC.out (Kd.C_F heap25 hC)) (by rw [hl]; exact hP) (by rw [hl]; exact hicp) h1
        rw [hl] at hgc
        refine hgc.mono ?_
        rintro e w' ⟨v, rfl, hv, hb⟩
        obtain ⟨Av, cv, rfl⟩ := Kd.V_slice hv
        exact ⟨Av, cv, rfl, hb⟩)
      clear hX0 hbx hicp
      refine wpAnyN_three (i := 4) (j := 9) (k := 10) rfl rfl rfl (by kernel_rfl) (fun K hK => ?_) (fun K hK => ?_) (fun K hK => ?_)
      · go_simp
        refine (HGC.out X0 HX0.out).mono ?_
        rintro e X1 ⟨Av, cv, rfl, hb⟩
        have HX1 := Aside0.mk (below_step HX0.out hb)
        clear hb
        have hbx_ := blk_below HBXR.out HX1.out
        have HS0 := Aside0.mk (show (X1.cell? ⟨bx, 0, none⟩ = some (.int .u8 t.f0) ∧ X1.cell? ⟨bx, 1, none⟩ = some (.int .u8 t.f1) ∧ X1.cell? ⟨bx, 2, none⟩ = some (.int .i64 t.f2) ∧ X1.cell? ⟨bx, 3, none⟩ = some (.slice A t.f3.length c)) from ⟨blk_cell hbx_ 0, blk_cell hbx_ 1, blk_cell hbx_ 2, blk_cell hbx_ 3⟩)
        clear hbx_
        refine hK.out _ _ (fun _ => HS0.out) (fun _ => ?_)
        clear hK K
        try simp only [Act.put, List.setIfInBounds_toArray, List.set_cons_zero, List.set_cons_succ]
        refine wpAnyN_take (i := 5) (v := ?_) rfl (by kernel_rfl) (by kernel_rfl) (by kernel_rfl) (by kernel_rfl) (fun _ _ _ h => h) (.inl ⟨by rfl, ?_⟩) HS0.out ?_
        rotate_left
        · (intro W' hW'; obtain ⟨s0, s1, s2, s3⟩ := hW'; go_simp; try rfl)
        simp only [Act.put, List.setIfInBounds_toArray, List.set_cons_zero, List.set_cons_succ]
        refine wpAnyN_take (i := 6) (v := ?_) rfl (by kernel_rfl) (by kernel_rfl) (by kernel_rfl) (by kernel_rfl) (fun _ _ _ h => h) (.inl ⟨by rfl, ?_⟩) HS0.out ?_
        rotate_left
        · (intro W' hW'; obtain ⟨s0, s1, s2, s3⟩ := hW'; go_simp; try rfl)
        simp only [Act.put, List.setIfInBounds_toArray, List.set_cons_zero, List.set_cons_succ]
        refine wpAnyN_take (i := 7) (v := ?_) rfl (by kernel_rfl) (by kernel_rfl) (by kernel_rfl) (by kernel_rfl) (fun _ _ _ h => h) (.inl ⟨by rfl, ?_⟩) HS0.out ?_
        rotate_left
        · (intro W' hW'; obtain ⟨s0, s1, s2, s3⟩ := hW'; go_simp; try rfl)
        simp only [Act.put, List.setIfInBounds_toArray, List.set_cons_zero, List.set_cons_succ]
        refine wpAnyN_take (i := 8) (v := ?_) rfl (by kernel_rfl) (by kernel_rfl) (by kernel_rfl) (by kernel_rfl) (fun _ _ _ h => h) (.inl ⟨by rfl, ?_⟩) HS0.out ?_
        rotate_left
        · (intro W' hW'; obtain ⟨s0, s1, s2, s3⟩ := hW'; go_simp; try rfl)
        simp only [Act.put, List.setIfInBounds_toArray, List.set_cons_zero, List.set_cons_succ]
        refine wpAnyN_two (i := 9) (j := 10) rfl rfl (by kernel_rfl) (fun K hK => ?_) (fun K hK => ?_)
        · go_simp
          obtain ⟨X2, hY⟩ : ∃ Y, Y = X1.alloc (.cells #[.int .u8 0, .int .u8 0, .int .i64 0, .slice none 0 0] 25) := ⟨_, rfl⟩
          rw [← hY]
          have hb : Below X1.heap.size X1 X2 := by rw [hY]; exact below_alloc (Below.refl _ _) _
          have hz9 : X2.heap[X1.heap.size]? = some (.cells #[.int .u8 0, .int .u8 0, .int .i64 0, .slice none 0 0] 25 (0, 0)) := by rw [hY]; exact heap_alloc_new _ _
          obtain ⟨p9, hp9⟩ : ∃ p, p = X1.heap.size := ⟨_, rfl⟩
          rw [← hp9] at hz9 ⊢
          have HX2 := Aside0.mk (below_step HX1.out hb)
          have P9 := Aside0.mk (show wr.heap.size ≤ p9 by rw [hp9]; exact HX1.out.size)
          clear hY hp9
          have HZ9 := Aside0.mk hz9
          clear hb hz9
          have hbx_ := blk_below HBXR.out HX2.out
          have HS0 := Aside0.mk (show (X2.cell? ⟨bx, 0, none⟩ = some (.int .u8 t.f0) ∧ X2.cell? ⟨bx, 1, none⟩ = some (.int .u8 t.f1) ∧ X2.cell? ⟨bx, 2, none⟩ = some (.int .i64 t.f2) ∧ X2.cell? ⟨bx, 3, none⟩ = some (.slice A t.f3.length c)) from ⟨blk_cell hbx_ 0, blk_cell hbx_ 1, blk_cell hbx_ 2, blk_cell hbx_ 3⟩)
          clear hbx_
          refine hK.out _ _ (fun _ => HS0.out) (fun _ => ?_)
          clear hK K
          try simp only [Act.put, List.setIfInBounds_toArray, List.set_cons_zero, List.set_cons_succ]
          refine wpAnyN_one (i := 10) rfl (by kernel_rfl) (fun K hK => ?_)
          go_simp
          obtain ⟨X3, hY⟩ : ∃ Y, Y = X2.alloc (.cells #[.int .i64 0, .int .i64 0] 34) := ⟨_, rfl⟩
          rw [← hY]
          have hb : Below X2.heap.size X2 X3 := by rw [hY]; exact below_alloc (Below.refl _ _) _
          have hz10 : X3.heap[X2.heap.size]? = some (.cells #[.int .i64 0, .int .i64 0] 34 (0, 0)) := by rw [hY]; exact heap_alloc_new _ _
          obtain ⟨p10, hp10⟩ : ∃ p, p = X2.heap.size := ⟨_, rfl⟩
          rw [← hp10] at hz10 ⊢
          have HX3 := Aside0.mk (below_step HX2.out hb)
          have P10 := Aside0.mk (show wr.heap.size ≤ p10 by rw [hp10]; exact HX2.out.size)
          clear hY hp10
          have hz9 := blk_below HZ9.out hb
          have HZ9 := Aside0.mk hz9
          have HZ10 := Aside0.mk hz10
          clear hb hz9 hz10
          have hbx_ := blk_below HBXR.out HX3.out
          have HS0 := Aside0.mk (show (X3.cell? ⟨bx, 0, none⟩ = some (.int .u8 t.f0) ∧ X3.cell? ⟨bx, 1, none⟩ = some (.int .u8 t.f1) ∧ X3.cell? ⟨bx, 2, none⟩ = some (.int .i64 t.f2) ∧ X3.cell? ⟨bx, 3, none⟩ = some (.slice A t.f3.length c)) from ⟨blk_cell hbx_ 0, blk_cell hbx_ 1, blk_cell hbx_ 2, blk_cell hbx_ 3⟩)
          clear hbx_
          refine hK.out _ _ (fun _ => HS0.out) (fun _ => ?_)
          clear hK K
          try simp only [Act.put, List.setIfInBounds_toArray, List.set_cons_zero, List.set_cons_succ]
          -- order [4, 9, 10]
          have z0 := blk_cell HZ9.out 0
          have z1 := blk_cell HZ9.out 1
          have z2 := blk_cell HZ9.out 2
          have z3 := blk_cell HZ9.out 3
          have zf := fun j => blk_frozen HZ9.out j
          have zl := blk_lt HZ9.out
          simp at z0 z1 z2 z3
          refine wpAnyN_one (i := 11) rfl (by kernel_rfl) (fun K hK => ?_)
          go_simp
          obtain ⟨Y4, hY4⟩ : ∃ Y, Y = ((((X3.setCell ⟨p9, 0, none⟩ (.int .u8 k)).setCell ⟨p9, 1, none⟩ (.int .u8 nw)).setCell ⟨p9, 2, none⟩ (.int .i64 wd)).setCell ⟨p9, 3, none⟩ (.slice Av kl.length cv)) := ⟨_, rfl⟩
          rw [← hY4]
          have hne : p10 ≠ p9 := by intro e; have h := HZ10.out; rw [e, HZ9.out] at h; cases h
          have HNE := Aside0.mk hne
          have HN9 := Aside0.mk (show Y4.heap[p9]? = some (.cells #[.int .u8 k, .int .u8 nw, .int .i64 wd, .slice Av kl.length cv] 25 (0, 0)) by rw [hY4]; exact blk_set (blk_set (blk_set (blk_set HZ9.out 0 _) 1 _) 2 _) 3 _)
          have HN10 := Aside0.mk (show Y4.heap[p10]? = some (.cells #[.int .i64 0, .int .i64 0] 34 (0, 0)) by rw [hY4]; exact blk_far (blk_far (blk_far (blk_far HZ10.out hne _) hne _) hne _) hne _)
          have HY4 := Aside0.mk (show Below wr.heap.size wr Y4 by rw [hY4]; exact (((HX3.out.setCell P9.out _).setCell P9.out _).setCell P9.out _).setCell P9.out _)
          clear hY4 hne z0 z1 z2 z3 zf zl
          have hbx_ := blk_below HBXR.out HY4.out
          refine hK.out _ _ (fun _ => ⟨blk_cell hbx_ 0, blk_cell hbx_ 1, blk_cell hbx_ 2, blk_cell hbx_ 3⟩) (fun _ => ?_)
          clear hK K hbx_
          try simp only [Act.put, List.setIfInBounds_toArray, List.set_cons_zero, List.set_cons_succ]
          have z0 := blk_cell HN10.out 0
          have z1 := blk_cell HN10.out 1
          have zf := fun j => blk_frozen HN10.out j
          have zl := blk_lt HN10.out
          simp at z0 z1
          refine wpAnyN_one (i := 12) rfl (by kernel_rfl) (fun K hK => ?_)
          go_simp
          obtain ⟨Y5, hY5⟩ : ∃ Y, Y = ((Y4.setCell ⟨p10, 0, none⟩ (.int .i64 f)).setCell ⟨p10, 1, none⟩ (.int .i64 tt)) := ⟨_, rfl⟩
          rw [← hY5]
          have HM9 := Aside0.mk (show Y5.heap[p9]? = some (.cells #[.int .u8 k, .int .u8 nw, .int .i64 wd, .slice Av kl.length cv] 25 (0, 0)) by rw [hY5]; exact blk_far (blk_far HN9.out HNE.out.symm _) HNE.out.symm _)
          have HM10 := Aside0.mk (show Y5.heap[p10]? = some (.cells #[.int .i64 f, .int .i64 tt] 34 (0, 0)) by rw [hY5]; exact blk_set (blk_set HN10.out 0 _) 1 _)
          have HY5 := Aside0.mk (show Below wr.heap.size wr Y5 by rw [hY5]; exact (HY4.out.setCell P10.out _).setCell P10.out _)
          clear hY5 z0 z1 zf zl
          have hbx_ := blk_below HBXR.out HY5.out
          have HSF := Aside0.mk (show (Y5.cell? ⟨bx, 0, none⟩ = some (.int .u8 t.f0) ∧ Y5.cell? ⟨bx, 1, none⟩ = some (.int .u8 t.f1) ∧ Y5.cell? ⟨bx, 2, none⟩ = some (.int .i64 t.f2) ∧ Y5.cell? ⟨bx, 3, none⟩ = some (.slice A t.f3.length c)) from ⟨blk_cell hbx_ 0, blk_cell hbx_ 1, blk_cell hbx_ 2, blk_cell hbx_ 3⟩)
          clear hbx_
          refine hK.out _ _ (fun _ => HSF.out) (fun _ => ?_)
          clear hK K
          try simp only [Act.put, List.setIfInBounds_toArray, List.set_cons_zero, List.set_cons_succ]
          refine wpAnyN_one (i := 13) rfl (by kernel_rfl) (fun K hK => ?_)
          go_simp
          refine hK.out _ _ (fun _ => HSF.out) (fun _ => ?_)
          clear hK K
          try simp only [Act.put, List.setIfInBounds_toArray, List.set_cons_zero, List.set_cons_succ]
          refine wpAnyN_done (by kernel_rfl) ?_ _
          refine NoPanic.normal ?_
          have n0 := blk_cell HM9.out 0
          have n3 := blk_cell HM9.out 3
          have s0 := blk_cell HM10.out 0
          have s1 := blk_cell HM10.out 1
          simp at n0 n3 s0 s1
          rcases Nat.lt_or_ge i m with hc | hc
          · have e1 : ((i : Int) == (m : Int)) = false := by simp; omega
            clear hc
            go_wp2
            go_roundg (m - i)
            case measure => have := HK.out; omega
            case rel => exact ⟨i + 1, by rw [show wrap64 ((i : Int) + 1) = ((i + 1 : Nat) : Int) by unfold wrap64; have := HPL.out; omega], by omega, ⟨by omega⟩, ⟨below_step HB.out HY5.out⟩⟩
          · have hE := Aside0.mk (show i = m by omega)
            have hkk := HG5.out.2.2.2.2 hE.out
            have e1 : ((i : Int) == (m : Int)) = true := by simp; omega
            have e2 : decide (k ≥ 50) = false := decide_eq_false (by omega)
            have e3 : decide (50 ≤ k) = false := decide_eq_false (by omega)
            have e4 := hkk.2
            rw [e4] at n3
            simp only [List.length_nil] at n3
            clear hkk e4 hc
            go_wp2
            go_roundg (m - i)
            case measure => have := HK.out; omega
            case rel => exact ⟨i + 1, by rw [show wrap64 ((i : Int) + 1) = ((i + 1 : Nat) : Int) by unfold wrap64; have := HPL.out; omega], by omega, ⟨by omega⟩, ⟨below_step HB.out HY5.out⟩⟩
          
        · go_simp
          obtain ⟨X2, hY⟩ : ∃ Y, Y = X1.alloc (.cells #[.int .i64 0, .int .i64 0] 34) := ⟨_, rfl⟩
          rw [← hY]
          have hb : Below X1.heap.size X1 X2 := by rw [hY]; exact below_alloc (Below.refl _ _) _
          have hz10 : X2.heap[X1.heap.size]? = some (.cells #[.int .i64 0, .int .i64 0] 34 (0, 0)) := by rw [hY]; exact heap_alloc_new _ _
          obtain ⟨p10, hp10⟩ : ∃ p, p = X1.heap.size := ⟨_, rfl⟩
          rw [← hp10] at hz10 ⊢
          have HX2 := Aside0.mk (below_step HX1.out hb)
          have P10 := Aside0.mk (show wr.heap.size ≤ p10 by rw [hp10]; exact HX1.out.size)
          clear hY hp10
          have HZ10 := Aside0.mk hz10
          clear hb hz10
          have hbx_ := blk_below HBXR.out HX2.out
          have HS0 := Aside0.mk (show (X2.cell? ⟨bx, 0, none⟩ = some (.int .u8 t.f0) ∧ X2.cell? ⟨bx, 1, none⟩ = some (.int .u8 t.f1) ∧ X2.cell? ⟨bx, 2, none⟩ = some (.int .i64 t.f2) ∧ X2.cell? ⟨bx, 3, none⟩ = some (.slice A t.f3.length c)) from ⟨blk_cell hbx_ 0, blk_cell hbx_ 1, blk_cell hbx_ 2, blk_cell hbx_ 3⟩)
          clear hbx_
          refine hK.out _ _ (fun _ => HS0.out) (fun _ => ?_)
          clear hK K
          try simp only [Act.put, List.setIfInBounds_toArray, List.set_cons_zero, List.set_cons_succ]
          refine wpAnyN_one (i := 9) rfl (by kernel_rfl) (fun K hK => ?_)
          go_simp
          obtain ⟨X3, hY⟩ : ∃ Y, Y = X2.alloc (.cells #[.int .u8 0, .int .u8 0, .int .i64 0, .slice none 0 0] 25) := ⟨_, rfl⟩
          rw [← hY]
          have hb : Below X2.heap.size X2 X3 := by rw [hY]; exact below_alloc (Below.refl _ _) _
          have hz9 : X3.heap[X2.heap.size]? = some (.cells #[.int .u8 0, .int .u8 0, .int .i64 0, .slice none 0 0] 25 (0, 0)) := by rw [hY]; exact heap_alloc_new _ _
          obtain ⟨p9, hp9⟩ : ∃ p, p = X2.heap.size := ⟨_, rfl⟩
          rw [← hp9] at hz9 ⊢
          have HX3 := Aside0.mk (below_step HX2.out hb)
          have P9 := Aside0.mk (show wr.heap.size ≤ p9 by rw [hp9]; exact HX2.out.size)
          clear hY hp9
          have hz10 := blk_below HZ10.out hb
          have HZ9 := Aside0.mk hz9
          have HZ10 := Aside0.mk hz10
          clear hb hz9 hz10
          have hbx_ := blk_below HBXR.out HX3.out
          have HS0 := Aside0.mk (show (X3.cell? ⟨bx, 0, none⟩ = some (.int .u8 t.f0) ∧ X3.cell? ⟨bx, 1, none⟩ = some (.int .u8 t.f1) ∧ X3.cell? ⟨bx, 2, none⟩ = some (.int .i64 t.f2) ∧ X3.cell? ⟨bx, 3, none⟩ = some (.slice A t.f3.length c)) from ⟨blk_cell hbx_ 0, blk_cell hbx_ 1, blk_cell hbx_ 2, blk_cell hbx_ 3⟩)
          clear hbx_
          refine hK.out _ _ (fun _ => HS0.out) (fun _ => ?_)
          clear hK K
          try simp only [Act.put, List.setIfInBounds_toArray, List.set_cons_zero, List.set_cons_succ]
          -- order [4, 10, 9]
          have z0 := blk_cell HZ9.out 0
          have z1 := blk_cell HZ9.out 1
          have z2 := blk_cell HZ9.out 2
          have z3 := blk_cell HZ9.out 3
          have zf := fun j => blk_frozen HZ9.out j
          have zl := blk_lt HZ9.out
          simp at z0 z1 z2 z3
          refine wpAnyN_one (i := 11) rfl (by kernel_rfl) (fun K hK => ?_)
          go_simp
          obtain ⟨Y4, hY4⟩ : ∃ Y, Y = ((((X3.setCell ⟨p9, 0, none⟩ (.int .u8 k)).setCell ⟨p9, 1, none⟩ (.int .u8 nw)).setCell ⟨p9, 2, none⟩ (.int .i64 wd)).setCell ⟨p9, 3, none⟩ (.slice Av kl.length cv)) := ⟨_, rfl⟩
          rw [← hY4]
          have hne : p10 ≠ p9 := by intro e; have h := HZ10.out; rw [e, HZ9.out] at h; cases h
          have HNE := Aside0.mk hne
          have HN9 := Aside0.mk (show Y4.heap[p9]? = some (.cells #[.int .u8 k, .int .u8 nw, .int .i64 wd, .slice Av kl.length cv] 25 (0, 0)) by rw [hY4]; exact blk_set (blk_set (blk_set (blk_set HZ9.out 0 _) 1 _) 2 _) 3 _)
          have HN10 := Aside0.mk (show Y4.heap[p10]? = some (.cells #[.int .i64 0, .int .i64 0] 34 (0, 0)) by rw [hY4]; exact blk_far (blk_far (blk_far (blk_far HZ10.out hne _) hne _) hne _) hne _)
          have HY4 := Aside0.mk (show Below wr.heap.size wr Y4 by rw [hY4]; exact (((HX3.out.setCell P9.out _).setCell P9.out _).setCell P9.out _).setCell P9.out _)
          clear hY4 hne z0 z1 z2 z3 zf zl
          have hbx_ := blk_below HBXR.out HY4.out
          refine hK.out _ _ (fun _ => ⟨blk_cell hbx_ 0, blk_cell hbx_ 1, blk_cell hbx_ 2, blk_cell hbx_ 3⟩) (fun _ => ?_)
          clear hK K hbx_
          try simp only [Act.put, List.setIfInBounds_toArray, List.set_cons_zero, List.set_cons_succ]
          have z0 := blk_cell HN10.out 0
          have z1 := blk_cell HN10.out 1
          have zf := fun j => blk_frozen HN10.out j
          have zl := blk_lt HN10.out
          simp at z0 z1
          refine wpAnyN_one (i := 12) rfl (by kernel_rfl) (fun K hK => ?_)
          go_simp
          obtain ⟨Y5, hY5⟩ : ∃ Y, Y = ((Y4.setCell ⟨p10, 0, none⟩ (.int .i64 f)).setCell ⟨p10, 1, none⟩ (.int .i64 tt)) := ⟨_, rfl⟩
          rw [← hY5]
          have HM9 := Aside0.mk (show Y5.heap[p9]? = some (.cells #[.int .u8 k, .int .u8 nw, .int .i64 wd, .slice Av kl.length cv] 25 (0, 0)) by rw [hY5]; exact blk_far (blk_far HN9.out HNE.out.symm _) HNE.out.symm _)
          have HM10 := Aside0.mk (show Y5.heap[p10]? = some (.cells #[.int .i64 f, .int .i64 tt] 34 (0, 0)) by rw [hY5]; exact blk_set (blk_set HN10.out 0 _) 1 _)
          have HY5 := Aside0.mk (show Below wr.heap.size wr Y5 by rw [hY5]; exact (HY4.out.setCell P10.out _).setCell P10.out _)
          clear hY5 z0 z1 zf zl
          have hbx_ := blk_below HBXR.out HY5.out
          have HSF := Aside0.mk (show (Y5.cell? ⟨bx, 0, none⟩ = some (.int .u8 t.f0) ∧ Y5.cell? ⟨bx, 1, none⟩ = some (.int .u8 t.f1) ∧ Y5.cell? ⟨bx, 2, none⟩ = some (.int .i64 t.f2) ∧ Y5.cell? ⟨bx, 3, none⟩ = some (.slice A t.f3.length c)) from ⟨blk_cell hbx_ 0, blk_cell hbx_ 1, blk_cell hbx_ 2, blk_cell hbx_ 3⟩)
          clear hbx_
          refine hK.out _ _ (fun _ => HSF.out) (fun _ => ?_)
          clear hK K
          try simp only [Act.put, List.setIfInBounds_toArray, List.set_cons_zero, List.set_cons_succ]
          refine wpAnyN_one (i := 13) rfl (by kernel_rfl) (fun K hK => ?_)
          go_simp
          refine hK.out _ _ (fun _ => HSF.out) (fun _ => ?_)
          clear hK K
          try simp only [Act.put, List.setIfInBounds_toArray, List.set_cons_zero, List.set_cons_succ]
          refine wpAnyN_done (by kernel_rfl) ?_ _
          refine NoPanic.normal ?_
          have n0 := blk_cell HM9.out 0
          have n3 := blk_cell HM9.out 3
          have s0 := blk_cell HM10.out 0
          have s1 := blk_cell HM10.out 1
          simp at n0 n3 s0 s1
          rcases Nat.lt_or_ge i m with hc | hc
          · have e1 : ((i : Int) == (m : Int)) = false := by simp; omega
            clear hc
            go_wp2
            go_roundg (m - i)
            case measure => have := HK.out; omega
            case rel => exact ⟨i + 1, by rw [show wrap64 ((i : Int) + 1) = ((i + 1 : Nat) : Int) by unfold wrap64; have := HPL.out; omega], by omega, ⟨by omega⟩, ⟨below_step HB.out HY5.out⟩⟩
          · have hE := Aside0.mk (show i = m by omega)
            have hkk := HG5.out.2.2.2.2 hE.out
            have e1 : ((i : Int) == (m : Int)) = true := by simp; omega
            have e2 : decide (k ≥ 50) = false := decide_eq_false (by omega)
            have e3 : decide (50 ≤ k) = false := decide_eq_false (by omega)
            have e4 := hkk.2
            rw [e4] at n3
            simp only [List.length_nil] at n3
            clear hkk e4 hc
            go_wp2
            go_roundg (m - i)
            case measure => have := HK.out; omega
            case rel => exact ⟨i + 1, by rw [show wrap64 ((i : Int) + 1) = ((i + 1 : Nat) : Int) by unfold wrap64; have := HPL.out; omega], by omega, ⟨by omega⟩, ⟨below_step HB.out HY5.out⟩⟩
          
      · go_simp
        obtain ⟨X1, hY⟩ : ∃ Y, Y = X0.alloc (.cells #[.int .u8 0, .int .u8 0, .int .i64 0, .slice none 0 0] 25) := ⟨_, rfl⟩
        rw [← hY]
        have hb : Below X0.heap.size X0 X1 := by rw [hY]; exact below_alloc (Below.refl _ _) _
        have hz9 : X1.heap[X0.heap.size]? = some (.cells #[.int .u8 0, .int .u8 0, .int .i64 0, .slice none 0 0] 25 (0, 0)) := by rw [hY]; exact heap_alloc_new _ _
        obtain ⟨p9, hp9⟩ : ∃ p, p = X0.heap.size := ⟨_, rfl⟩
        rw [← hp9] at hz9 ⊢
        have HX1 := Aside0.mk (below_step HX0.out hb)
        have P9 := Aside0.mk (show wr.heap.size ≤ p9 by rw [hp9]; exact HX0.out.size)
        clear hY hp9
        have HZ9 := Aside0.mk hz9
        clear hb hz9
        have hbx_ := blk_below HBXR.out HX1.out
        have HS0 := Aside0.mk (show (X1.cell? ⟨bx, 0, none⟩ = some (.int .u8 t.f0) ∧ X1.cell? ⟨bx, 1, none⟩ = some (.int .u8 t.f1) ∧ X1.cell? ⟨bx, 2, none⟩ = some (.int .i64 t.f2) ∧ X1.cell? ⟨bx, 3, none⟩ = some (.slice A t.f3.length c)) from ⟨blk_cell hbx_ 0, blk_cell hbx_ 1, blk_cell hbx_ 2, blk_cell hbx_ 3⟩)
        clear hbx_
        refine hK.out _ _ (fun _ => HS0.out) (fun _ => ?_)
        clear hK K
        try simp only [Act.put, List.setIfInBounds_toArray, List.set_cons_zero, List.set_cons_succ]
        refine wpAnyN_two (i := 4) (j := 10) rfl rfl (by kernel_rfl) (fun K hK => ?_) (fun K hK => ?_)
        · go_simp
          refine (HGC.out X1 HX1.out).mono ?_
          rintro e X2 ⟨Av, cv, rfl, hb⟩
          have HX2 := Aside0.mk (below_step HX1.out hb)
          have hz9 := blk_below HZ9.out hb
          have HZ9 := Aside0.mk hz9
          clear hb hz9
          have hbx_ := blk_below HBXR.out HX2.out
          have HS0 := Aside0.mk (show (X2.cell? ⟨bx, 0, none⟩ = some (.int .u8 t.f0) ∧ X2.cell? ⟨bx, 1, none⟩ = some (.int .u8 t.f1) ∧ X2.cell? ⟨bx, 2, none⟩ = some (.int .i64 t.f2) ∧ X2.cell? ⟨bx, 3, none⟩ = some (.slice A t.f3.length c)) from ⟨blk_cell hbx_ 0, blk_cell hbx_ 1, blk_cell hbx_ 2, blk_cell hbx_ 3⟩)
          clear hbx_
          refine hK.out _ _ (fun _ => HS0.out) (fun _ => ?_)
          clear hK K
          try simp only [Act.put, List.setIfInBounds_toArray, List.set_cons_zero, List.set_cons_succ]
          refine wpAnyN_take (i := 5) (v := ?_) rfl (by kernel_rfl) (by kernel_rfl) (by kernel_rfl) (by kernel_rfl) (fun _ _ _ h => h) (.inl ⟨by rfl, ?_⟩) HS0.out ?_
          rotate_left
          · (intro W' hW'; obtain ⟨s0, s1, s2, s3⟩ := hW'; go_simp; try rfl)
          simp only [Act.put, List.setIfInBounds_toArray, List.set_cons_zero, List.set_cons_succ]
          refine wpAnyN_take (i := 6) (v := ?_) rfl (by kernel_rfl) (by kernel_rfl) (by kernel_rfl) (by kernel_rfl) (fun _ _ _ h => h) (.inl ⟨by rfl, ?_⟩) HS0.out ?_
          rotate_left
          · (intro W' hW'; obtain ⟨s0, s1, s2, s3⟩ := hW'; go_simp; try rfl)
          simp only [Act.put, List.setIfInBounds_toArray, List.set_cons_zero, List.set_cons_succ]
          refine wpAnyN_take (i := 7) (v := ?_) rfl (by kernel_rfl) (by kernel_rfl) (by kernel_rfl) (by kernel_rfl) (fun _ _ _ h => h) (.inl ⟨by rfl, ?_⟩) HS0.out ?_
          rotate_left
          · (intro W' hW'; obtain ⟨s0, s1, s2, s3⟩ := hW'; go_simp; try rfl)
          simp only [Act.put, List.setIfInBounds_toArray, List.set_cons_zero, List.set_cons_succ]
          refine wpAnyN_take (i := 8) (v := ?_) rfl (by kernel_rfl) (by kernel_rfl) (by kernel_rfl) (by kernel_rfl) (fun _ _ _ h => h) (.inl ⟨by rfl, ?_⟩) HS0.out ?_
          rotate_left
          · (intro W' hW'; obtain ⟨s0, s1, s2, s3⟩ := hW'; go_simp; try rfl)
          simp only [Act.put, List.setIfInBounds_toArray, List.set_cons_zero, List.set_cons_succ]
          refine wpAnyN_one (i := 10) rfl (by kernel_rfl) (fun K hK => ?_)
          go_simp
          obtain ⟨X3, hY⟩ : ∃ Y, Y = X2.alloc (.cells #[.int .i64 0, .int .i64 0] 34) := ⟨_, rfl⟩
          rw [← hY]
          have hb : Below X2.heap.size X2 X3 := by rw [hY]; exact below_alloc (Below.refl _ _) _
          have hz10 : X3.heap[X2.heap.size]? = some (.cells #[.int .i64 0, .int .i64 0] 34 (0, 0)) := by rw [hY]; exact heap_alloc_new _ _
          obtain ⟨p10, hp10⟩ : ∃ p, p = X2.heap.size := ⟨_, rfl⟩
          rw [← hp10] at hz10 ⊢
          have HX3 := Aside0.mk (below_step HX2.out hb)
          have P10 := Aside0.mk (show wr.heap.size ≤ p10 by rw [hp10]; exact HX2.out.size)
          clear hY hp10
          have hz9 := blk_below HZ9.out hb
          have HZ9 := Aside0.mk hz9
          have HZ10 := Aside0.mk hz10
          clear hb hz9 hz10
          have hbx_ := blk_below HBXR.out HX3.out
          have HS0 := Aside0.mk (show (X3.cell? ⟨bx, 0, none⟩ = some (.int .u8 t.f0) ∧ X3.cell? ⟨bx, 1, none⟩ = some (.int .u8 t.f1) ∧ X3.cell? ⟨bx, 2, none⟩ = some (.int .i64 t.f2) ∧ X3.cell? ⟨bx, 3, none⟩ = some (.slice A t.f3.length c)) from ⟨blk_cell hbx_ 0, blk_cell hbx_ 1, blk_cell hbx_ 2, blk_cell hbx_ 3⟩)
          clear hbx_
          refine hK.out _ _ (fun _ => HS0.out) (fun _ => ?_)
          clear hK K
          try simp only [Act.put, List.setIfInBounds_toArray, List.set_cons_zero, List.set_cons_succ]
          -- order [9, 4, 10]
          have z0 := blk_cell HZ9.out 0
          have z1 := blk_cell HZ9.out 1
          have z2 := blk_cell HZ9.out 2
          have z3 := blk_cell HZ9.out 3
          have zf := fun j => blk_frozen HZ9.out j
          have zl := blk_lt HZ9.out
          simp at z0 z1 z2 z3
          refine wpAnyN_one (i := 11) rfl (by kernel_rfl) (fun K hK => ?_)
          go_simp
          obtain ⟨Y4, hY4⟩ : ∃ Y, Y = ((((X3.setCell ⟨p9, 0, none⟩ (.int .u8 k)).setCell ⟨p9, 1, none⟩ (.int .u8 nw)).setCell ⟨p9, 2, none⟩ (.int .i64 wd)).setCell ⟨p9, 3, none⟩ (.slice Av kl.length cv)) := ⟨_, rfl⟩
          rw [← hY4]
          have hne : p10 ≠ p9 := by intro e; have h := HZ10.out; rw [e, HZ9.out] at h; cases h
          have HNE := Aside0.mk hne
          have HN9 := Aside0.mk (show Y4.heap[p9]? = some (.cells #[.int .u8 k, .int .u8 nw, .int .i64 wd, .slice Av kl.length cv] 25 (0, 0)) by rw [hY4]; exact blk_set (blk_set (blk_set (blk_set HZ9.out 0 _) 1 _) 2 _) 3 _)
          have HN10 := Aside0.mk (show Y4.heap[p10]? = some (.cells #[.int .i64 0, .int .i64 0] 34 (0, 0)) by rw [hY4]; exact blk_far (blk_far (blk_far (blk_far HZ10.out hne _) hne _) hne _) hne _)
          have HY4 := Aside0.mk (show Below wr.heap.size wr Y4 by rw [hY4]; exact (((HX3.out.setCell P9.out _).setCell P9.out _).setCell P9.out _).setCell P9.out _)
          clear hY4 hne z0 z1 z2 z3 zf zl
          have hbx_ := blk_below HBXR.out HY4.out
          refine hK.out _ _ (fun _ => ⟨blk_cell hbx_ 0, blk_cell hbx_ 1, blk_cell hbx_ 2, blk_cell hbx_ 3⟩) (fun _ => ?_)
          clear hK K hbx_
          try simp only [Act.put, List.setIfInBounds_toArray, List.set_cons_zero, List.set_cons_succ]
          have z0 := blk_cell HN10.out 0
          have z1 := blk_cell HN10.out 1
          have zf := fun j => blk_frozen HN10.out j
          have zl := blk_lt HN10.out
          simp at z0 z1
          refine wpAnyN_one (i := 12) rfl (by kernel_rfl) (fun K hK => ?_)
          go_simp
          obtain ⟨Y5, hY5⟩ : ∃ Y, Y = ((Y4.setCell ⟨p10, 0, none⟩ (.int .i64 f)).setCell ⟨p10, 1, none⟩ (.int .i64 tt)) := ⟨_, rfl⟩
          rw [← hY5]
          have HM9 := Aside0.mk (show Y5.heap[p9]? = some (.cells #[.int .u8 k, .int .u8 nw, .int .i64 wd, .slice Av kl.length cv] 25 (0, 0)) by rw [hY5]; exact blk_far (blk_far HN9.out HNE.out.symm _) HNE.out.symm _)
          have HM10 := Aside0.mk (show Y5.heap[p10]? = some (.cells #[.int .i64 f, .int .i64 tt] 34 (0, 0)) by rw [hY5]; exact blk_set (blk_set HN10.out 0 _) 1 _)
          have HY5 := Aside0.mk (show Below wr.heap.size wr Y5 by rw [hY5]; exact (HY4.out.setCell P10.out _).setCell P10.out _)
          clear hY5 z0 z1 zf zl
          have hbx_ := blk_below HBXR.out HY5.out
          have HSF := Aside0.mk (show (Y5.cell? ⟨bx, 0, none⟩ = some (.int .u8 t.f0) ∧ Y5.cell? ⟨bx, 1, none⟩ = some (.int .u8 t.f1) ∧ Y5.cell? ⟨bx, 2, none⟩ = some (.int .i64 t.f2) ∧ Y5.cell? ⟨bx, 3, none⟩ = some (.slice A t.f3.length c)) from ⟨blk_cell hbx_ 0, blk_cell hbx_ 1, blk_cell hbx_ 2, blk_cell hbx_ 3⟩)
          clear hbx_
          refine hK.out _ _ (fun _ => HSF.out) (fun _ => ?_)
          clear hK K
          try simp only [Act.put, List.setIfInBounds_toArray, List.set_cons_zero, List.set_cons_succ]
          refine wpAnyN_one (i := 13) rfl (by kernel_rfl) (fun K hK => ?_)
          go_simp
          refine hK.out _ _ (fun _ => HSF.out) (fun _ => ?_)
          clear hK K
          try simp only [Act.put, List.setIfInBounds_toArray, List.set_cons_zero, List.set_cons_succ]
          refine wpAnyN_done (by kernel_rfl) ?_ _
          refine NoPanic.normal ?_
          have n0 := blk_cell HM9.out 0
          have n3 := blk_cell HM9.out 3
          have s0 := blk_cell HM10.out 0
          have s1 := blk_cell HM10.out 1
          simp at n0 n3 s0 s1
          rcases Nat.lt_or_ge i m with hc | hc
          · have e1 : ((i : Int) == (m : Int)) = false := by simp; omega
            clear hc
            go_wp2
            go_roundg (m - i)
            case measure => have := HK.out; omega
            case rel => exact ⟨i + 1, by rw [show wrap64 ((i : Int) + 1) = ((i + 1 : Nat) : Int) by unfold wrap64; have := HPL.out; omega], by omega, ⟨by omega⟩, ⟨below_step HB.out HY5.out⟩⟩
          · have hE := Aside0.mk (show i = m by omega)
            have hkk := HG5.out.2.2.2.2 hE.out
            have e1 : ((i : Int) == (m : Int)) = true := by simp; omega
            have e2 : decide (k ≥ 50) = false := decide_eq_false (by omega)
            have e3 : decide (50 ≤ k) = false := decide_eq_false (by omega)
            have e4 := hkk.2
            rw [e4] at n3
            simp only [List.length_nil] at n3
            clear hkk e4 hc
            go_wp2
            go_roundg (m - i)
            case measure => have := HK.out; omega
            case rel => exact ⟨i + 1, by rw [show wrap64 ((i : Int) + 1) = ((i + 1 : Nat) : Int) by unfold wrap64; have := HPL.out; omega], by omega, ⟨by omega⟩, ⟨below_step HB.out HY5.out⟩⟩
          
        · go_simp
          obtain ⟨X2, hY⟩ : ∃ Y, Y = X1.alloc (.cells #[.int .i64 0, .int .i64 0] 34) := ⟨_, rfl⟩
          rw [← hY]
          have hb : Below X1.heap.size X1 X2 := by rw [hY]; exact below_alloc (Below.refl _ _) _
          have hz10 : X2.heap[X1.heap.size]? = some (.cells #[.int .i64 0, .int .i64 0] 34 (0, 0)) := by rw [hY]; exact heap_alloc_new _ _
          obtain ⟨p10, hp10⟩ : ∃ p, p = X1.heap.size := ⟨_, rfl⟩
          rw [← hp10] at hz10 ⊢
          have HX2 := Aside0.mk (below_step HX1.out hb)
          have P10 := Aside0.mk (show wr.heap.size ≤ p10 by rw [hp10]; exact HX1.out.size)
          clear hY hp10
          have hz9 := blk_below HZ9.out hb
          have HZ9 := Aside0.mk hz9
          have HZ10 := Aside0.mk hz10
          clear hb hz9 hz10
          have hbx_ := blk_below HBXR.out HX2.out
          have HS0 := Aside0.mk (show (X2.cell? ⟨bx, 0, none⟩ = some (.int .u8 t.f0) ∧ X2.cell? ⟨bx, 1, none⟩ = some (.int .u8 t.f1) ∧ X2.cell? ⟨bx, 2, none⟩ = some (.int .i64 t.f2) ∧ X2.cell? ⟨bx, 3, none⟩ = some (.slice A t.f3.length c)) from ⟨blk_cell hbx_ 0, blk_cell hbx_ 1, blk_cell hbx_ 2, blk_cell hbx_ 3⟩)
          clear hbx_
          refine hK.out _ _ (fun _ => HS0.out) (fun _ => ?_)
          clear hK K
          try simp only [Act.put, List.setIfInBounds_toArray, List.set_cons_zero, List.set_cons_succ]
          refine wpAnyN_one (i := 4) rfl (by kernel_rfl) (fun K hK => ?_)
          go_simp
          refine (HGC.out X2 HX2.out).mono ?_
          rintro e X3 ⟨Av, cv, rfl, hb⟩
          have HX3 := Aside0.mk (below_step HX2.out hb)
          have hz9 := blk_below HZ9.out hb
          have hz10 := blk_below HZ10.out hb
          have HZ9 := Aside0.mk hz9
          have HZ10 := Aside0.mk hz10
          clear hb hz9 hz10
          have hbx_ := blk_below HBXR.out HX3.out
          have HS0 := Aside0.mk (show (X3.cell? ⟨bx, 0, none⟩ = some (.int .u8 t.f0) ∧ X3.cell? ⟨bx, 1, none⟩ = some (.int .u8 t.f1) ∧ X3.cell? ⟨bx, 2, none⟩ = some (.int .i64 t.f2) ∧ X3.cell? ⟨bx, 3, none⟩ = some (.slice A t.f3.length c)) from ⟨blk_cell hbx_ 0, blk_cell hbx_ 1, blk_cell hbx_ 2, blk_cell hbx_ 3⟩)
          clear hbx_
          refine hK.out _ _ (fun _ => HS0.out) (fun _ => ?_)
          clear hK K
          try simp only [Act.put, List.setIfInBounds_toArray, List.set_cons_zero, List.set_cons_succ]
          refine wpAnyN_take (i := 5) (v := ?_) rfl (by kernel_rfl) (by kernel_rfl) (by kernel_rfl) (by kernel_rfl) (fun _ _ _ h => h) (.inl ⟨by rfl, ?_⟩) HS0.out ?_
          rotate_left
          · (intro W' hW'; obtain ⟨s0, s1, s2, s3⟩ := hW'; go_simp; try rfl)
          simp only [Act.put, List.setIfInBounds_toArray, List.set_cons_zero, List.set_cons_succ]
          refine wpAnyN_take (i := 6) (v := ?_) rfl (by kernel_rfl) (by kernel_rfl) (by kernel_rfl) (by kernel_rfl) (fun _ _ _ h => h) (.inl ⟨by rfl, ?_⟩) HS0.out ?_
          rotate_left
          · (intro W' hW'; obtain ⟨s0, s1, s2, s3⟩ := hW'; go_simp; try rfl)
          simp only [Act.put, List.setIfInBounds_toArray, List.set_cons_zero, List.set_cons_succ]
          refine wpAnyN_take (i := 7) (v := ?_) rfl (by kernel_rfl) (by kernel_rfl) (by kernel_rfl) (by kernel_rfl) (fun _ _ _ h => h) (.inl ⟨by rfl, ?_⟩) HS0.out ?_
          rotate_left
          · (intro W' hW'; obtain ⟨s0, s1, s2, s3⟩ := hW'; go_simp; try rfl)
          simp only [Act.put, List.setIfInBounds_toArray, List.set_cons_zero, List.set_cons_succ]
          refine wpAnyN_take (i := 8) (v := ?_) rfl (by kernel_rfl) (by kernel_rfl) (by kernel_rfl) (by kernel_rfl) (fun _ _ _ h => h) (.inl ⟨by rfl, ?_⟩) HS0.out ?_
          rotate_left
          · (intro W' hW'; obtain ⟨s0, s1, s2, s3⟩ := hW'; go_simp; try rfl)
          simp only [Act.put, List.setIfInBounds_toArray, List.set_cons_zero, List.set_cons_succ]
          -- order [9, 10, 4]
          have z0 := blk_cell HZ9.out 0
          have z1 := blk_cell HZ9.out 1
          have z2 := blk_cell HZ9.out 2
          have z3 := blk_cell HZ9.out 3
          have zf := fun j => blk_frozen HZ9.out j
          have zl := blk_lt HZ9.out
          simp at z0 z1 z2 z3
          refine wpAnyN_one (i := 11) rfl (by kernel_rfl) (fun K hK => ?_)
          go_simp
          obtain ⟨Y4, hY4⟩ : ∃ Y, Y = ((((X3.setCell ⟨p9, 0, none⟩ (.int .u8 k)).setCell ⟨p9, 1, none⟩ (.int .u8 nw)).setCell ⟨p9, 2, none⟩ (.int .i64 wd)).setCell ⟨p9, 3, none⟩ (.slice Av kl.length cv)) := ⟨_, rfl⟩
          rw [← hY4]
          have hne : p10 ≠ p9 := by intro e; have h := HZ10.out; rw [e, HZ9.out] at h; cases h
          have HNE := Aside0.mk hne
          have HN9 := Aside0.mk (show Y4.heap[p9]? = some (.cells #[.int .u8 k, .int .u8 nw, .int .i64 wd, .slice Av kl.length cv] 25 (0, 0)) by rw [hY4]; exact blk_set (blk_set (blk_set (blk_set HZ9.out 0 _) 1 _) 2 _) 3 _)
          have HN10 := Aside0.mk (show Y4.heap[p10]? = some (.cells #[.int .i64 0, .int .i64 0] 34 (0, 0)) by rw [hY4]; exact blk_far (blk_far (blk_far (blk_far HZ10.out hne _) hne _) hne _) hne _)
          have HY4 := Aside0.mk (show Below wr.heap.size wr Y4 by rw [hY4]; exact (((HX3.out.setCell P9.out _).setCell P9.out _).setCell P9.out _).setCell P9.out _)
          clear hY4 hne z0 z1 z2 z3 zf zl
          have hbx_ := blk_below HBXR.out HY4.out
          refine hK.out _ _ (fun _ => ⟨blk_cell hbx_ 0, blk_cell hbx_ 1, blk_cell hbx_ 2, blk_cell hbx_ 3⟩) (fun _ => ?_)
          clear hK K hbx_
          try simp only [Act.put, List.setIfInBounds_toArray, List.set_cons_zero, List.set_cons_succ]
          have z0 := blk_cell HN10.out 0
          have z1 := blk_cell HN10.out 1
          have zf := fun j => blk_frozen HN10.out j
          have zl := blk_lt HN10.out
          simp at z0 z1
          refine wpAnyN_one (i := 12) rfl (by kernel_rfl) (fun K hK => ?_)
          go_simp
          obtain ⟨Y5, hY5⟩ : ∃ Y, Y = ((Y4.setCell ⟨p10, 0, none⟩ (.int .i64 f)).setCell ⟨p10, 1, none⟩ (.int .i64 tt)) := ⟨_, rfl⟩
          rw [← hY5]
          have HM9 := Aside0.mk (show Y5.heap[p9]? = some (.cells #[.int .u8 k, .int .u8 nw, .int .i64 wd, .slice Av kl.length cv] 25 (0, 0)) by rw [hY5]; exact blk_far (blk_far HN9.out HNE.out.symm _) HNE.out.symm _)
          have HM10 := Aside0.mk (show Y5.heap[p10]? = some (.cells #[.int .i64 f, .int .i64 tt] 34 (0, 0)) by rw [hY5]; exact blk_set (blk_set HN10.out 0 _) 1 _)
          have HY5 := Aside0.mk (show Below wr.heap.size wr Y5 by rw [hY5]; exact (HY4.out.setCell P10.out _).setCell P10.out _)
          clear hY5 z0 z1 zf zl
          have hbx_ := blk_below HBXR.out HY5.out
          have HSF := Aside0.mk (show (Y5.cell? ⟨bx, 0, none⟩ = some (.int .u8 t.f0) ∧ Y5.cell? ⟨bx, 1, none⟩ = some (.int .u8 t.f1) ∧ Y5.cell? ⟨bx, 2, none⟩ = some (.int .i64 t.f2) ∧ Y5.cell? ⟨bx, 3, none⟩ = some (.slice A t.f3.length c)) from ⟨blk_cell hbx_ 0, blk_cell hbx_ 1, blk_cell hbx_ 2, blk_cell hbx_ 3⟩)
          clear hbx_
          refine hK.out _ _ (fun _ => HSF.out) (fun _ => ?_)
          clear hK K
          try simp only [Act.put, List.setIfInBounds_toArray, List.set_cons_zero, List.set_cons_succ]
          refine wpAnyN_one (i := 13) rfl (by kernel_rfl) (fun K hK => ?_)
          go_simp
          refine hK.out _ _ (fun _ => HSF.out) (fun _ => ?_)
          clear hK K
          try simp only [Act.put, List.setIfInBounds_toArray, List.set_cons_zero, List.set_cons_succ]
          refine wpAnyN_done (by kernel_rfl) ?_ _
          refine NoPanic.normal ?_
          have n0 := blk_cell HM9.out 0
          have n3 := blk_cell HM9.out 3
          have s0 := blk_cell HM10.out 0
          have s1 := blk_cell HM10.out 1
          simp at n0 n3 s0 s1
          rcases Nat.lt_or_ge i m with hc | hc
          · have e1 : ((i : Int) == (m : Int)) = false := by simp; omega
            clear hc
            go_wp2
            go_roundg (m - i)
            case measure => have := HK.out; omega
            case rel => exact ⟨i + 1, by rw [show wrap64 ((i : Int) + 1) = ((i + 1 : Nat) : Int) by unfold wrap64; have := HPL.out; omega], by omega, ⟨by omega⟩, ⟨below_step HB.out HY5.out⟩⟩
          · have hE := Aside0.mk (show i = m by omega)
            have hkk := HG5.out.2.2.2.2 hE.out
            have e1 : ((i : Int) == (m : Int)) = true := by simp; omega
            have e2 : decide (k ≥ 50) = false := decide_eq_false (by omega)
            have e3 : decide (50 ≤ k) = false := decide_eq_false (by omega)
            have e4 := hkk.2
            rw [e4] at n3
            simp only [List.length_nil] at n3
            clear hkk e4 hc
            go_wp2
            go_roundg (m - i)
            case measure => have := HK.out; omega
            case rel => exact ⟨i + 1, by rw [show wrap64 ((i : Int) + 1) = ((i + 1 : Nat) : Int) by unfold wrap64; have := HPL.out; omega], by omega, ⟨by omega⟩, ⟨below_step HB.out HY5.out⟩⟩
          
      · go_simp
        obtain ⟨X1, hY⟩ : ∃ Y, Y = X0.alloc (.cells #[.int .i64 0, .int .i64 0] 34) := ⟨_, rfl⟩
        rw [← hY]
        have hb : Below X0.heap.size X0 X1 := by rw [hY]; exact below_alloc (Below.refl _ _) _
        have hz10 : X1.heap[X0.heap.size]? = some (.cells #[.int .i64 0, .int .i64 0] 34 (0, 0)) := by rw [hY]; exact heap_alloc_new _ _
        obtain ⟨p10, hp10⟩ : ∃ p, p = X0.heap.size := ⟨_, rfl⟩
        rw [← hp10] at hz10 ⊢
        have HX1 := Aside0.mk (below_step HX0.out hb)
        have P10 := Aside0.mk (show wr.heap.size ≤ p10 by rw [hp10]; exact HX0.out.size)
        clear hY hp10
        have HZ10 := Aside0.mk hz10
        clear hb hz10
        have hbx_ := blk_below HBXR.out HX1.out
        have HS0 := Aside0.mk (show (X1.cell? ⟨bx, 0, none⟩ = some (.int .u8 t.f0) ∧ X1.cell? ⟨bx, 1, none⟩ = some (.int .u8 t.f1) ∧ X1.cell? ⟨bx, 2, none⟩ = some (.int .i64 t.f2) ∧ X1.cell? ⟨bx, 3, none⟩ = some (.slice A t.f3.length c)) from ⟨blk_cell hbx_ 0, blk_cell hbx_ 1, blk_cell hbx_ 2, blk_cell hbx_ 3⟩)
        clear hbx_
        refine hK.out _ _ (fun _ => HS0.out) (fun _ => ?_)
        clear hK K
        try simp only [Act.put, List.setIfInBounds_toArray, List.set_cons_zero, List.set_cons_succ]
        refine wpAnyN_two (i := 4) (j := 9) rfl rfl (by kernel_rfl) (fun K hK => ?_) (fun K hK => ?_)
        · go_simp
          refine (HGC.out X1 HX1.out).mono ?_
          rintro e X2 ⟨Av, cv, rfl, hb⟩
          have HX2 := Aside0.mk (below_step HX1.out hb)
          have hz10 := blk_below HZ10.out hb
          have HZ10 := Aside0.mk hz10
          clear hb hz10
          have hbx_ := blk_below HBXR.out HX2.out
          have HS0 := Aside0.mk (show (X2.cell? ⟨bx, 0, none⟩ = some (.int .u8 t.f0) ∧ X2.cell? ⟨bx, 1, none⟩ = some (.int .u8 t.f1) ∧ X2.cell? ⟨bx, 2, none⟩ = some (.int .i64 t.f2) ∧ X2.cell? ⟨bx, 3, none⟩ = some (.slice A t.f3.length c)) from ⟨blk_cell hbx_ 0, blk_cell hbx_ 1, blk_cell hbx_ 2, blk_cell hbx_ 3⟩)
          clear hbx_
          refine hK.out _ _ (fun _ => HS0.out) (fun _ => ?_)
          clear hK K
          try simp only [Act.put, List.setIfInBounds_toArray, List.set_cons_zero, List.set_cons_succ]
          refine wpAnyN_take (i := 5) (v := ?_) rfl (by kernel_rfl) (by kernel_rfl) (by kernel_rfl) (by kernel_rfl) (fun _ _ _ h => h) (.inl ⟨by rfl, ?_⟩) HS0.out ?_
          rotate_left
          · (intro W' hW'; obtain ⟨s0, s1, s2, s3⟩ := hW'; go_simp; try rfl)
          simp only [Act.put, List.setIfInBounds_toArray, List.set_cons_zero, List.set_cons_succ]
          refine wpAnyN_take (i := 6) (v := ?_) rfl (by kernel_rfl) (by kernel_rfl) (by kernel_rfl) (by kernel_rfl) (fun _ _ _ h => h) (.inl ⟨by rfl, ?_⟩) HS0.out ?_
          rotate_left
          · (intro W' hW'; obtain ⟨s0, s1, s2, s3⟩ := hW'; go_simp; try rfl)
          simp only [Act.put, List.setIfInBounds_toArray, List.set_cons_zero, List.set_cons_succ]
          refine wpAnyN_take (i := 7) (v := ?_) rfl (by kernel_rfl) (by kernel_rfl) (by kernel_rfl) (by kernel_rfl) (fun _ _ _ h => h) (.inl ⟨by rfl, ?_⟩) HS0.out ?_
          rotate_left
          · (intro W' hW'; obtain ⟨s0, s1, s2, s3⟩ := hW'; go_simp; try rfl)
          simp only [Act.put, List.setIfInBounds_toArray, List.set_cons_zero, List.set_cons_succ]
          refine wpAnyN_take (i := 8) (v := ?_) rfl (by kernel_rfl) (by kernel_rfl) (by kernel_rfl) (by kernel_rfl) (fun _ _ _ h => h) (.inl ⟨by rfl, ?_⟩) HS0.out ?_
          rotate_left
          · (intro W' hW'; obtain ⟨s0, s1, s2, s3⟩ := hW'; go_simp; try rfl)
          simp only [Act.put, List.setIfInBounds_toArray, List.set_cons_zero, List.set_cons_succ]
          refine wpAnyN_one (i := 9) rfl (by kernel_rfl) (fun K hK => ?_)
          go_simp
          obtain ⟨X3, hY⟩ : ∃ Y, Y = X2.alloc (.cells #[.int .u8 0, .int .u8 0, .int .i64 0, .slice none 0 0] 25) := ⟨_, rfl⟩
          rw [← hY]
          have hb : Below X2.heap.size X2 X3 := by rw [hY]; exact below_alloc (Below.refl _ _) _
          have hz9 : X3.heap[X2.heap.size]? = some (.cells #[.int .u8 0, .int .u8 0, .int .i64 0, .slice none 0 0] 25 (0, 0)) := by rw [hY]; exact heap_alloc_new _ _
          obtain ⟨p9, hp9⟩ : ∃ p, p = X2.heap.size := ⟨_, rfl⟩
          rw [← hp9] at hz9 ⊢
          have HX3 := Aside0.mk (below_step HX2.out hb)
          have P9 := Aside0.mk (show wr.heap.size ≤ p9 by rw [hp9]; exact HX2.out.size)
          clear hY hp9
          have hz10 := blk_below HZ10.out hb
          have HZ9 := Aside0.mk hz9
          have HZ10 := Aside0.mk hz10
          clear hb hz9 hz10
          have hbx_ := blk_below HBXR.out HX3.out
          have HS0 := Aside0.mk (show (X3.cell? ⟨bx, 0, none⟩ = some (.int .u8 t.f0) ∧ X3.cell? ⟨bx, 1, none⟩ = some (.int .u8 t.f1) ∧ X3.cell? ⟨bx, 2, none⟩ = some (.int .i64 t.f2) ∧ X3.cell? ⟨bx, 3, none⟩ = some (.slice A t.f3.length c)) from ⟨blk_cell hbx_ 0, blk_cell hbx_ 1, blk_cell hbx_ 2, blk_cell hbx_ 3⟩)
          clear hbx_
          refine hK.out _ _ (fun _ => HS0.out) (fun _ => ?_)
          clear hK K
          try simp only [Act.put, List.setIfInBounds_toArray, List.set_cons_zero, List.set_cons_succ]
          -- order [10, 4, 9]
          have z0 := blk_cell HZ9.out 0
          have z1 := blk_cell HZ9.out 1
          have z2 := blk_cell HZ9.out 2
          have z3 := blk_cell HZ9.out 3
          have zf := fun j => blk_frozen HZ9.out j
          have zl := blk_lt HZ9.out
          simp at z0 z1 z2 z3
          refine wpAnyN_one (i := 11) rfl (by kernel_rfl) (fun K hK => ?_)
          go_simp
          obtain ⟨Y4, hY4⟩ : ∃ Y, Y = ((((X3.setCell ⟨p9, 0, none⟩ (.int .u8 k)).setCell ⟨p9, 1, none⟩ (.int .u8 nw)).setCell ⟨p9, 2, none⟩ (.int .i64 wd)).setCell ⟨p9, 3, none⟩ (.slice Av kl.length cv)) := ⟨_, rfl⟩
          rw [← hY4]
          have hne : p10 ≠ p9 := by intro e; have h := HZ10.out; rw [e, HZ9.out] at h; cases h
          have HNE := Aside0.mk hne
          have HN9 := Aside0.mk (show Y4.heap[p9]? = some (.cells #[.int .u8 k, .int .u8 nw, .int .i64 wd, .slice Av kl.length cv] 25 (0, 0)) by rw [hY4]; exact blk_set (blk_set (blk_set (blk_set HZ9.out 0 _) 1 _) 2 _) 3 _)
          have HN10 := Aside0.mk (show Y4.heap[p10]? = some (.cells #[.int .i64 0, .int .i64 0] 34 (0, 0)) by rw [hY4]; exact blk_far (blk_far (blk_far (blk_far HZ10.out hne _) hne _) hne _) hne _)
          have HY4 := Aside0.mk (show Below wr.heap.size wr Y4 by rw [hY4]; exact (((HX3.out.setCell P9.out _).setCell P9.out _).setCell P9.out _).setCell P9.out _)
          clear hY4 hne z0 z1 z2 z3 zf zl
          have hbx_ := blk_below HBXR.out HY4.out
          refine hK.out _ _ (fun _ => ⟨blk_cell hbx_ 0, blk_cell hbx_ 1, blk_cell hbx_ 2, blk_cell hbx_ 3⟩) (fun _ => ?_)
          clear hK K hbx_
          try simp only [Act.put, List.setIfInBounds_toArray, List.set_cons_zero, List.set_cons_succ]
          have z0 := blk_cell HN10.out 0
          have z1 := blk_cell HN10.out 1
          have zf := fun j => blk_frozen HN10.out j
          have zl := blk_lt HN10.out
          simp at z0 z1
          refine wpAnyN_one (i := 12) rfl (by kernel_rfl) (fun K hK => ?_)
          go_simp
          obtain ⟨Y5, hY5⟩ : ∃ Y, Y = ((Y4.setCell ⟨p10, 0, none⟩ (.int .i64 f)).setCell ⟨p10, 1, none⟩ (.int .i64 tt)) := ⟨_, rfl⟩
          rw [← hY5]
          have HM9 := Aside0.mk (show Y5.heap[p9]? = some (.cells #[.int .u8 k, .int .u8 nw, .int .i64 wd, .slice Av kl.length cv] 25 (0, 0)) by rw [hY5]; exact blk_far (blk_far HN9.out HNE.out.symm _) HNE.out.symm _)
          have HM10 := Aside0.mk (show Y5.heap[p10]? = some (.cells #[.int .i64 f, .int .i64 tt] 34 (0, 0)) by rw [hY5]; exact blk_set (blk_set HN10.out 0 _) 1 _)
          have HY5 := Aside0.mk (show Below wr.heap.size wr Y5 by rw [hY5]; exact (HY4.out.setCell P10.out _).setCell P10.out _)
          clear hY5 z0 z1 zf zl
          have hbx_ := blk_below HBXR.out HY5.out
          have HSF := Aside0.mk (show (Y5.cell? ⟨bx, 0, none⟩ = some (.int .u8 t.f0) ∧ Y5.cell? ⟨bx, 1, none⟩ = some (.int .u8 t.f1) ∧ Y5.cell? ⟨bx, 2, none⟩ = some (.int .i64 t.f2) ∧ Y5.cell? ⟨bx, 3, none⟩ = some (.slice A t.f3.length c)) from ⟨blk_cell hbx_ 0, blk_cell hbx_ 1, blk_cell hbx_ 2, blk_cell hbx_ 3⟩)
          clear hbx_
          refine hK.out _ _ (fun _ => HSF.out) (fun _ => ?_)
          clear hK K
          try simp only [Act.put, List.setIfInBounds_toArray, List.set_cons_zero, List.set_cons_succ]
          refine wpAnyN_one (i := 13) rfl (by kernel_rfl) (fun K hK => ?_)
          go_simp
          refine hK.out _ _ (fun _ => HSF.out) (fun _ => ?_)
          clear hK K
          try simp only [Act.put, List.setIfInBounds_toArray, List.set_cons_zero, List.set_cons_succ]
          refine wpAnyN_done (by kernel_rfl) ?_ _
          refine NoPanic.normal ?_
          have n0 := blk_cell HM9.out 0
          have n3 := blk_cell HM9.out 3
          have s0 := blk_cell HM10.out 0
          have s1 := blk_cell HM10.out 1
          simp at n0 n3 s0 s1
          rcases Nat.lt_or_ge i m with hc | hc
          · have e1 : ((i : Int) == (m : Int)) = false := by simp; omega
            clear hc
            go_wp2
            go_roundg (m - i)
            case measure => have := HK.out; omega
            case rel => exact ⟨i + 1, by rw [show wrap64 ((i : Int) + 1) = ((i + 1 : Nat) : Int) by unfold wrap64; have := HPL.out; omega], by omega, ⟨by omega⟩, ⟨below_step HB.out HY5.out⟩⟩
          · have hE := Aside0.mk (show i = m by omega)
            have hkk := HG5.out.2.2.2.2 hE.out
            have e1 : ((i : Int) == (m : Int)) = true := by simp; omega
            have e2 : decide (k ≥ 50) = false := decide_eq_false (by omega)
            have e3 : decide (50 ≤ k) = false := decide_eq_false (by omega)
            have e4 := hkk.2
            rw [e4] at n3
            simp only [List.length_nil] at n3
            clear hkk e4 hc
            go_wp2
            go_roundg (m - i)
            case measure => have := HK.out; omega
            case rel => exact ⟨i + 1, by rw [show wrap64 ((i : Int) + 1) = ((i + 1 : Nat) : Int) by unfold wrap64; have := HPL.out; omega], by omega, ⟨by omega⟩, ⟨below_step HB.out HY5.out⟩⟩
          
        · go_simp
          obtain ⟨X2, hY⟩ : ∃ Y, Y = X1.alloc (.cells #[.int .u8 0, .int .u8 0, .int .i64 0, .slice none 0 0] 25) := ⟨_, rfl⟩
          rw [← hY]
          have hb : Below X1.heap.size X1 X2 := by rw [hY]; exact below_alloc (Below.refl _ _) _
          have hz9 : X2.heap[X1.heap.size]? = some (.cells #[.int .u8 0, .int .u8 0, .int .i64 0, .slice none 0 0] 25 (0, 0)) := by rw [hY]; exact heap_alloc_new _ _
          obtain ⟨p9, hp9⟩ : ∃ p, p = X1.heap.size := ⟨_, rfl⟩
          rw [← hp9] at hz9 ⊢
          have HX2 := Aside0.mk (below_step HX1.out hb)
          have P9 := Aside0.mk (show wr.heap.size ≤ p9 by rw [hp9]; exact HX1.out.size)
          clear hY hp9
          have hz10 := blk_below HZ10.out hb
          have HZ9 := Aside0.mk hz9
          have HZ10 := Aside0.mk hz10
          clear hb hz9 hz10
          have hbx_ := blk_below HBXR.out HX2.out
          have HS0 := Aside0.mk (show (X2.cell? ⟨bx, 0, none⟩ = some (.int .u8 t.f0) ∧ X2.cell? ⟨bx, 1, none⟩ = some (.int .u8 t.f1) ∧ X2.cell? ⟨bx, 2, none⟩ = some (.int .i64 t.f2) ∧ X2.cell? ⟨bx, 3, none⟩ = some (.slice A t.f3.length c)) from ⟨blk_cell hbx_ 0, blk_cell hbx_ 1, blk_cell hbx_ 2, blk_cell hbx_ 3⟩)
          clear hbx_
          refine hK.out _ _ (fun _ => HS0.out) (fun _ => ?_)
          clear hK K
          try simp only [Act.put, List.setIfInBounds_toArray, List.set_cons_zero, List.set_cons_succ]
          refine wpAnyN_one (i := 4) rfl (by kernel_rfl) (fun K hK => ?_)
          go_simp
          refine (HGC.out X2 HX2.out).mono ?_
          rintro e X3 ⟨Av, cv, rfl, hb⟩
          have HX3 := Aside0.mk (below_step HX2.out hb)
          have hz9 := blk_below HZ9.out hb
          have hz10 := blk_below HZ10.out hb
          have HZ9 := Aside0.mk hz9
          have HZ10 := Aside0.mk hz10
          clear hb hz9 hz10
          have hbx_ := blk_below HBXR.out HX3.out
          have HS0 := Aside0.mk (show (X3.cell? ⟨bx, 0, none⟩ = some (.int .u8 t.f0) ∧ X3.cell? ⟨bx, 1, none⟩ = some (.int .u8 t.f1) ∧ X3.cell? ⟨bx, 2, none⟩ = some (.int .i64 t.f2) ∧ X3.cell? ⟨bx, 3, none⟩ = some (.slice A t.f3.length c)) from ⟨blk_cell hbx_ 0, blk_cell hbx_ 1, blk_cell hbx_ 2, blk_cell hbx_ 3⟩)
          clear hbx_
          refine hK.out _ _ (fun _ => HS0.out) (fun _ => ?_)
          clear hK K
          try simp only [Act.put, List.setIfInBounds_toArray, List.set_cons_zero, List.set_cons_succ]
          refine wpAnyN_take (i := 5) (v := ?_) rfl (by kernel_rfl) (by kernel_rfl) (by kernel_rfl) (by kernel_rfl) (fun _ _ _ h => h) (.inl ⟨by rfl, ?_⟩) HS0.out ?_
          rotate_left
          · (intro W' hW'; obtain ⟨s0, s1, s2, s3⟩ := hW'; go_simp; try rfl)
          simp only [Act.put, List.setIfInBounds_toArray, List.set_cons_zero, List.set_cons_succ]
          refine wpAnyN_take (i := 6) (v := ?_) rfl (by kernel_rfl) (by kernel_rfl) (by kernel_rfl) (by kernel_rfl) (fun _ _ _ h => h) (.inl ⟨by rfl, ?_⟩) HS0.out ?_
          rotate_left
          · (intro W' hW'; obtain ⟨s0, s1, s2, s3⟩ := hW'; go_simp; try rfl)
          simp only [Act.put, List.setIfInBounds_toArray, List.set_cons_zero, List.set_cons_succ]
          refine wpAnyN_take (i := 7) (v := ?_) rfl (by kernel_rfl) (by kernel_rfl) (by kernel_rfl) (by kernel_rfl) (fun _ _ _ h => h) (.inl ⟨by rfl, ?_⟩) HS0.out ?_
          rotate_left
          · (intro W' hW'; obtain ⟨s0, s1, s2, s3⟩ := hW'; go_simp; try rfl)
          simp only [Act.put, List.setIfInBounds_toArray, List.set_cons_zero, List.set_cons_succ]
          refine wpAnyN_take (i := 8) (v := ?_) rfl (by kernel_rfl) (by kernel_rfl) (by kernel_rfl) (by kernel_rfl) (fun _ _ _ h => h) (.inl ⟨by rfl, ?_⟩) HS0.out ?_
          rotate_left
          · (intro W' hW'; obtain ⟨s0, s1, s2, s3⟩ := hW'; go_simp; try rfl)
          simp only [Act.put, List.setIfInBounds_toArray, List.set_cons_zero, List.set_cons_succ]
          -- order [10, 9, 4]
          have z0 := blk_cell HZ9.out 0
          have z1 := blk_cell HZ9.out 1
          have z2 := blk_cell HZ9.out 2
          have z3 := blk_cell HZ9.out 3
          have zf := fun j => blk_frozen HZ9.out j
          have zl := blk_lt HZ9.out
          simp at z0 z1 z2 z3
          refine wpAnyN_one (i := 11) rfl (by kernel_rfl) (fun K hK => ?_)
          go_simp
          obtain ⟨Y4, hY4⟩ : ∃ Y, Y = ((((X3.setCell ⟨p9, 0, none⟩ (.int .u8 k)).setCell ⟨p9, 1, none⟩ (.int .u8 nw)).setCell ⟨p9, 2, none⟩ (.int .i64 wd)).setCell ⟨p9, 3, none⟩ (.slice Av kl.length cv)) := ⟨_, rfl⟩
          rw [← hY4]
          have hne : p10 ≠ p9 := by intro e; have h := HZ10.out; rw [e, HZ9.out] at h; cases h
          have HNE := Aside0.mk hne
          have HN9 := Aside0.mk (show Y4.heap[p9]? = some (.cells #[.int .u8 k, .int .u8 nw, .int .i64 wd, .slice Av kl.length cv] 25 (0, 0)) by rw [hY4]; exact blk_set (blk_set (blk_set (blk_set HZ9.out 0 _) 1 _) 2 _) 3 _)
          have HN10 := Aside0.mk (show Y4.heap[p10]? = some (.cells #[.int .i64 0, .int .i64 0] 34 (0, 0)) by rw [hY4]; exact blk_far (blk_far (blk_far (blk_far HZ10.out hne _) hne _) hne _) hne _)
          have HY4 := Aside0.mk (show Below wr.heap.size wr Y4 by rw [hY4]; exact (((HX3.out.setCell P9.out _).setCell P9.out _).setCell P9.out _).setCell P9.out _)
          clear hY4 hne z0 z1 z2 z3 zf zl
          have hbx_ := blk_below HBXR.out HY4.out
          refine hK.out _ _ (fun _ => ⟨blk_cell hbx_ 0, blk_cell hbx_ 1, blk_cell hbx_ 2, blk_cell hbx_ 3⟩) (fun _ => ?_)
          clear hK K hbx_
          try simp only [Act.put, List.setIfInBounds_toArray, List.set_cons_zero, List.set_cons_succ]
          have z0 := blk_cell HN10.out 0
          have z1 := blk_cell HN10.out 1
          have zf := fun j => blk_frozen HN10.out j
          have zl := blk_lt HN10.out
          simp at z0 z1
          refine wpAnyN_one (i := 12) rfl (by kernel_rfl) (fun K hK => ?_)
          go_simp
          obtain ⟨Y5, hY5⟩ : ∃ Y, Y = ((Y4.setCell ⟨p10, 0, none⟩ (.int .i64 f)).setCell ⟨p10, 1, none⟩ (.int .i64 tt)) := ⟨_, rfl⟩
          rw [← hY5]
          have HM9 := Aside0.mk (show Y5.heap[p9]? = some (.cells #[.int .u8 k, .int .u8 nw, .int .i64 wd, .slice Av kl.length cv] 25 (0, 0)) by rw [hY5]; exact blk_far (blk_far HN9.out HNE.out.symm _) HNE.out.symm _)
          have HM10 := Aside0.mk (show Y5.heap[p10]? = some (.cells #[.int .i64 f, .int .i64 tt] 34 (0, 0)) by rw [hY5]; exact blk_set (blk_set HN10.out 0 _) 1 _)
          have HY5 := Aside0.mk (show Below wr.heap.size wr Y5 by rw [hY5]; exact (HY4.out.setCell P10.out _).setCell P10.out _)
          clear hY5 z0 z1 zf zl
          have hbx_ := blk_below HBXR.out HY5.out
          have HSF := Aside0.mk (show (Y5.cell? ⟨bx, 0, none⟩ = some (.int .u8 t.f0) ∧ Y5.cell? ⟨bx, 1, none⟩ = some (.int .u8 t.f1) ∧ Y5.cell? ⟨bx, 2, none⟩ = some (.int .i64 t.f2) ∧ Y5.cell? ⟨bx, 3, none⟩ = some (.slice A t.f3.length c)) from ⟨blk_cell hbx_ 0, blk_cell hbx_ 1, blk_cell hbx_ 2, blk_cell hbx_ 3⟩)
          clear hbx_
          refine hK.out _ _ (fun _ => HSF.out) (fun _ => ?_)
          clear hK K
          try simp only [Act.put, List.setIfInBounds_toArray, List.set_cons_zero, List.set_cons_succ]
          refine wpAnyN_one (i := 13) rfl (by kernel_rfl) (fun K hK => ?_)
          go_simp
          refine hK.out _ _ (fun _ => HSF.out) (fun _ => ?_)
          clear hK K
          try simp only [Act.put, List.setIfInBounds_toArray, List.set_cons_zero, List.set_cons_succ]
          refine wpAnyN_done (by kernel_rfl) ?_ _
          refine NoPanic.normal ?_
          have n0 := blk_cell HM9.out 0
          have n3 := blk_cell HM9.out 3
          have s0 := blk_cell HM10.out 0
          have s1 := blk_cell HM10.out 1
          simp at n0 n3 s0 s1
          rcases Nat.lt_or_ge i m with hc | hc
          · have e1 : ((i : Int) == (m : Int)) = false := by simp; omega
            clear hc
            go_wp2
            go_roundg (m - i)
            case measure => have := HK.out; omega
            case rel => exact ⟨i + 1, by rw [show wrap64 ((i : Int) + 1) = ((i + 1 : Nat) : Int) by unfold wrap64; have := HPL.out; omega], by omega, ⟨by omega⟩, ⟨below_step HB.out HY5.out⟩⟩
          · have hE := Aside0.mk (show i = m by omega)
            have hkk := HG5.out.2.2.2.2 hE.out
            have e1 : ((i : Int) == (m : Int)) = true := by simp; omega
            have e2 : decide (k ≥ 50) = false := decide_eq_false (by omega)
            have e3 : decide (50 ≤ k) = false := decide_eq_false (by omega)
            have e4 := hkk.2
            rw [e4] at n3
            simp only [List.length_nil] at n3
            clear hkk e4 hc
            go_wp2
            go_roundg (m - i)
            case measure => have := HK.out; omega
            case rel => exact ⟨i + 1, by rw [show wrap64 ((i : Int) + 1) = ((i + 1 : Nat) : Int) by unfold wrap64; have := HPL.out; omega], by omega, ⟨by omega⟩, ⟨below_step HB.out HY5.out⟩⟩
          
theorem around_law (A0 : Option Addr) (c0 : Nat) (l0 : List S85) (pl : Int) (hpl : inr pl) (w : World) (hr0 : Kd.C k85 w A0 l0.length l0) (hc0 : l0.length ≤ c0) (hr : ∀ r ∈ l0, rowOk r) (htab : Tab w) :
    Calls Tryd.prog 4 #[.slice A0 l0.length c0, .int .i64 pl] w fun e w' => e = .returned (.bool true) ∧ Below w.heap.size w w' := by
  rcases Grow_ev l0 hr with ⟨K, hK⟩ | ⟨t, ⟨K, hK⟩, hb, ht⟩
  · exact around_no A0 c0 l0 pl w hr0 hc0 K (hK K (Nat.le_refl _)) htab
  · exact around_yes A0 c0 l0 pl hpl w hr0 hc0 K t hb ht (hK K (Nat.le_refl _)) htab
end Go.Proofs.YtcfeijdcanpflaaDoor.H
