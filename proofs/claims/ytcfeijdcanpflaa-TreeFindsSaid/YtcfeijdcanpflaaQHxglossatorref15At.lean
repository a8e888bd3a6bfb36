-- printed by wip/printx.py, a call of the kit's printer over this seat (with contracts of our own for the functions that it does not take)
import Derived.Test.YtcfeijdcanpflaaQHx0
import Derived.Test.YtcfeijdcanpflaaQHxglossatorref15Right
namespace Go.Proofs.Ytcfeijdcanpflaa.H
open Go.RowKit Go.Proofs.YtcfeijdcanpflaaW.PrintWords Go.Proofs.YtcfeijdcanpflaaW.PrintLast Go.Proofs.YtcfeijdcanpflaaW.PrintMore
attribute [local go_sem] max2_int min2_int max_two min_two max_three min_three max_four min_four   -- for this text's walks alone
set_option linter.unusedVariables false
set_option linter.unusedSimpArgs false
mutual
def glossatorref15_At.j0 : Nat → Int → Bool → Int → Int → Int → List (S26) → Option (List Int)
  | 0, _, _, _, _, _, _ => none
  | k + 1, x1, x22, x193000, x193001, x193002, x193003 => if x22 = true then (some ([] : List Int)) else (glossatorref15_At.l0 k x1 ([] : List Int) 0 x193000 x193001 x193002 x193003)
def glossatorref15_At.l0 : Nat → Int → List Int → Int → Int → Int → Int → List (S26) → Option (List Int)
  | 0, _, _, _, _, _, _, _ => none
  | k + 1, x1, x5, x6, x193000, x193001, x193002, x193003 => glossatorref15_At.l1 k x1 x5 (-1) x6 0 x193000 x193001 x193002 x193003
def glossatorref15_At.l1 : Nat → Int → List Int → Int → Int → Int → Int → Int → Int → List (S26) → Option (List Int)
  | 0, _, _, _, _, _, _, _, _, _ => none
  | k + 1, x1, x5, x7, x8, x9, x193000, x193001, x193002, x193003 => if x9 < (x193003.length : Int) then (if x8 ≤ x1 then (if 0 ≤ x9 then (if (wrap64 (x8 + ((rd_T26 x193003 x9).f2))) > x1 then (if x9 < 0 then (some x5) else (if x5.length < 17592186044416 then (glossatorref15_At.l0 k x1 (x5 ++ [x9]) x8 ((rd_T26 x193003 x9).f0) ((rd_T26 x193003 x9).f1) ((rd_T26 x193003 x9).f2) ((rd_T26 x193003 x9).f3)) else (none))) else (glossatorref15_At.l1 k x1 x5 x7 (wrap64 (x8 + ((rd_T26 x193003 x9).f2))) (wrap64 (x9 + 1)) x193000 x193001 x193002 x193003)) else (none)) else (if 0 ≤ x9 then (glossatorref15_At.l1 k x1 x5 x7 (wrap64 (x8 + ((rd_T26 x193003 x9).f2))) (wrap64 (x9 + 1)) x193000 x193001 x193002 x193003) else (none))) else (if x7 < 0 then (some x5) else (if x5.length < 17592186044416 then (if 0 ≤ x7 then (if x7 < (x193003.length : Int) then (glossatorref15_At.l0 k x1 (x5 ++ [x7]) x8 ((rd_T26 x193003 x7).f0) ((rd_T26 x193003 x7).f1) ((rd_T26 x193003 x7).f2) ((rd_T26 x193003 x7).f3)) else (none)) else (none)) else (none)))
end
def glossatorref15_At.f (k : Nat) (a0_0 : Int) (a0_1 : Int) (a0_2 : Int) (l0_3 : List (S26)) (a1 : Int) : Option (List Int) := (glossatorref15_Right.f k a0_0 a0_1 a0_2 l0_3).bind fun t193 => (if t193 = true then (if a1 < 0 then (glossatorref15_At.j0 k a1 true a0_0 a0_1 a0_2 l0_3) else (glossatorref15_At.j0 k a1 (decide (a1 ≥ a0_2)) a0_0 a0_1 a0_2 l0_3)) else (glossatorref15_At.j0 k a1 true a0_0 a0_1 a0_2 l0_3))
theorem glossatorref15_At.mono_l : ∀ k, (∀ y0 y1 y2 y3 y4 y5, LeO (glossatorref15_At.j0 k y0 y1 y2 y3 y4 y5) (glossatorref15_At.j0 (k + 1) y0 y1 y2 y3 y4 y5)) ∧ (∀ y0 y1 y2 y3 y4 y5 y6, LeO (glossatorref15_At.l0 k y0 y1 y2 y3 y4 y5 y6) (glossatorref15_At.l0 (k + 1) y0 y1 y2 y3 y4 y5 y6)) ∧ (∀ y0 y1 y2 y3 y4 y5 y6 y7 y8, LeO (glossatorref15_At.l1 k y0 y1 y2 y3 y4 y5 y6 y7 y8) (glossatorref15_At.l1 (k + 1) y0 y1 y2 y3 y4 y5 y6 y7 y8))
  | 0 => ⟨fun _ _ _ _ _ _ r h => by simp [glossatorref15_At.j0] at h, fun _ _ _ _ _ _ _ r h => by simp [glossatorref15_At.l0] at h, fun _ _ _ _ _ _ _ _ _ r h => by simp [glossatorref15_At.l1] at h⟩
  | k + 1 => by
    obtain ⟨ih0, ih1, ih2⟩ := glossatorref15_At.mono_l k
    refine ⟨?_, ?_, ?_⟩
    · intro y0 y1 y2 y3 y4 y5
      unfold glossatorref15_At.j0
      repeat' first
      | (with_reducible exact ih0 _ _ _ _ _ _)
      | (with_reducible exact ih1 _ _ _ _ _ _ _)
      | (with_reducible exact ih2 _ _ _ _ _ _ _ _ _)
      | (with_reducible exact glossatorref15_Right.mono _ _ _ _ _)
      | (with_reducible exact LeO.refl _)
      | (with_reducible exact LeO.none _)
      | (with_reducible refine LeO.ite ?_ ?_)
      | (with_reducible refine LeO.bind ?_ (fun _ => ?_))
      | exact ih0 _ _ _ _ _ _
      | exact ih1 _ _ _ _ _ _ _
      | exact ih2 _ _ _ _ _ _ _ _ _
      | exact glossatorref15_Right.mono _ _ _ _ _
      | exact LeO.none _
      | refine LeO.ite ?_ ?_
      | refine LeO.bind ?_ (fun _ => ?_)
    · intro y0 y1 y2 y3 y4 y5 y6
      unfold glossatorref15_At.l0
      repeat' first
      | (with_reducible exact ih0 _ _ _ _ _ _)
      | (with_reducible exact ih1 _ _ _ _ _ _ _)
      | (with_reducible exact ih2 _ _ _ _ _ _ _ _ _)
      | (with_reducible exact glossatorref15_Right.mono _ _ _ _ _)
      | (with_reducible exact LeO.refl _)
      | (with_reducible exact LeO.none _)
      | (with_reducible refine LeO.ite ?_ ?_)
      | (with_reducible refine LeO.bind ?_ (fun _ => ?_))
      | exact ih0 _ _ _ _ _ _
      | exact ih1 _ _ _ _ _ _ _
      | exact ih2 _ _ _ _ _ _ _ _ _
      | exact glossatorref15_Right.mono _ _ _ _ _
      | exact LeO.none _
      | refine LeO.ite ?_ ?_
      | refine LeO.bind ?_ (fun _ => ?_)
    · intro y0 y1 y2 y3 y4 y5 y6 y7 y8
      unfold glossatorref15_At.l1
      repeat' first
      | (with_reducible exact ih0 _ _ _ _ _ _)
      | (with_reducible exact ih1 _ _ _ _ _ _ _)
      | (with_reducible exact ih2 _ _ _ _ _ _ _ _ _)
      | (with_reducible exact glossatorref15_Right.mono _ _ _ _ _)
      | (with_reducible exact LeO.refl _)
      | (with_reducible exact LeO.none _)
      | (with_reducible refine LeO.ite ?_ ?_)
      | (with_reducible refine LeO.bind ?_ (fun _ => ?_))
      | exact ih0 _ _ _ _ _ _
      | exact ih1 _ _ _ _ _ _ _
      | exact ih2 _ _ _ _ _ _ _ _ _
      | exact glossatorref15_Right.mono _ _ _ _ _
      | exact LeO.none _
      | refine LeO.ite ?_ ?_
      | refine LeO.bind ?_ (fun _ => ?_)
theorem glossatorref15_At.mono : ∀ a0 a1 a2 a3 a4 k, LeO (glossatorref15_At.f k a0 a1 a2 a3 a4) (glossatorref15_At.f (k + 1) a0 a1 a2 a3 a4) := by
  intro a0 a1 a2 a3 a4 k
  obtain ⟨ih0, ih1, ih2⟩ := glossatorref15_At.mono_l k
  unfold glossatorref15_At.f
  repeat' first
      | (with_reducible exact ih0 _ _ _ _ _ _)
      | (with_reducible exact ih1 _ _ _ _ _ _ _)
      | (with_reducible exact ih2 _ _ _ _ _ _ _ _ _)
      | (with_reducible exact glossatorref15_Right.mono _ _ _ _ _)
      | (with_reducible exact LeO.refl _)
      | (with_reducible exact LeO.none _)
      | (with_reducible refine LeO.ite ?_ ?_)
      | (with_reducible refine LeO.bind ?_ (fun _ => ?_))
      | exact ih0 _ _ _ _ _ _
      | exact ih1 _ _ _ _ _ _ _
      | exact ih2 _ _ _ _ _ _ _ _ _
      | exact glossatorref15_Right.mono _ _ _ _ _
      | exact LeO.none _
      | refine LeO.ite ?_ ?_
      | refine LeO.bind ?_ (fun _ => ?_)
set_option maxHeartbeats 8000000 in
set_option maxRecDepth 100000 in
theorem glossatorref15_At.calls (k : Nat) (a0_0 : Int) (a0_1 : Int) (a0_2 : Int) (P0_3_ : Nat → Prop) (A0_3 : Option Addr) (c0_3 : Nat) (l0_3 : List (S26)) (a1 : Int) (r : List Int) (w : World) (hs0_3 : Kd.V k26 26 w w.heap.size (fun k_ => P0_3_ k_) (.slice A0_3 l0_3.length c0_3) l0_3) (h : glossatorref15_At.f k a0_0 a0_1 a0_2 l0_3 a1 = some r) :
    Calls Try.prog 12 #[.agg #[.int .u8 a0_0, .int .u8 a0_1, .int .i64 a0_2, .slice A0_3 l0_3.length c0_3], .int .i64 a1] w fun e w' => ∃ v0_ : Value, e = .returned (v0_) ∧ Kd.R (Kd.int .i64) 3 w' w.heap.size (fun k_ => (w.heap.size ≤ k_)) v0_ r ∧ Below w.heap.size w w' := by
  have hu26 := Try.underlying26
  have HO0_3 := Aside0.mk (show Kd.V k26 26 w w.heap.size (fun k_ => (P0_3_ k_ ∨ w.heap.size ≤ k_)) (.slice A0_3 l0_3.length c0_3) l0_3 from Kd.V_mono hs0_3 (fun k_ hk => .inl hk))
  have HB := Aside0.mk (Below.refl w.heap.size w)
  have H : ((glossatorref15_Right.f k a0_0 a0_1 a0_2 l0_3).bind fun t193 => (if t193 = true then (if a1 < 0 then (glossatorref15_At.j0 k a1 true a0_0 a0_1 a0_2 l0_3) else (glossatorref15_At.j0 k a1 (decide (a1 ≥ a0_2)) a0_0 a0_1 a0_2 l0_3)) else (glossatorref15_At.j0 k a1 true a0_0 a0_1 a0_2 l0_3))) = some r := h
  clear h
  have HC3 := Aside0.mk H
  clear H
  go_enter Try.func12, Try.ntmps12
  go_upto_region 1 with (first | ((with_reducible refine gate_dst (N := 2) rfl ?_); refine box_event ?hg (N := 2) ?hd (cs := #[.int .u8 a0_0, .int .u8 a0_1, .int .i64 a0_2, .slice A0_3 l0_3.length c0_3]) (t := 26) ?hr ?_; (case hd => rfl); (case hg => rfl); (case hr => first | (go_simp; done) | (go_simp; rfl)); intro gb192 hg w4 hbox hb; have n0_ := Aside0.mk (Kd.V_below (Kd.V_elderB (by (with_reducible repeat (first | apply Kd.V_alloc | apply Kd.V_drewN | apply Kd.V_drew)); exact HO0_3.out) gb192 (Nat.le_of_eq hg.symm)) hb); have n1_ := Aside0.mk (below_step (by repeat (first | (with_reducible first | exact HB.out | apply below_alloc | apply pw_below_drewN | apply below_drew1) | exact HB.out)) hb); have n2_ := Aside0.mk (hbox); have n3_ := Aside0.mk ((by rw [hg]; exact (below_size (by repeat (first | (with_reducible first | exact HB.out | apply below_alloc | apply pw_below_drewN | apply below_drew1) | exact HB.out))) : w.heap.size ≤ gb192)); have n4_ := Aside0.mk ((by rw [hg]; exact (below_size (by repeat (first | (with_reducible first | exact HB.out | apply below_alloc | apply pw_below_drewN | apply below_drew1) | exact HB.out))) : w.heap.size ≤ gb192)); clear HO0_3; clear HB; have HO0_3 := n0_; have HB := n1_; have BK192 := n2_; have GW192 := n3_; have GE192 := n4_; clear n0_ n1_ n2_ n3_ n4_; clear hb hbox hg))
  (try simp only [Act.put, List.setIfInBounds_toArray, List.set_cons_zero, List.set_cons_succ])
  go_cut [22] (fun v22 wc => ∃ (kq : Nat) (x22_2 : Bool), v22 = .bool x22_2 ∧ Aside0 (glossatorref15_At.j0 kq a1 x22_2 a0_0 a0_1 a0_2 l0_3 = some r) ∧ Aside0 (kq ≤ k) ∧ Aside0 (Kd.V k26 26 wc w.heap.size (fun k_ => (P0_3_ k_ ∨ w.heap.size ≤ k_) ∧ k_ ≠ gb192) (.slice A0_3 l0_3.length c0_3) l0_3) ∧ Aside0 (wc.heap[gb192]? = some (.cells #[.int .u8 a0_0, .int .u8 a0_1, .int .i64 a0_2, (.slice A0_3 l0_3.length c0_3)] 26 (0, 0))) ∧ Aside0 (Below w.heap.size w wc))
  case first =>
    have H := HC3.out
    clear HC3
    replace H := Option.bind_eq_some_iff.mp H
    obtain ⟨t193, A50, H⟩ := H
    replace H : (if t193 = true then (if a1 < 0 then (glossatorref15_At.j0 k a1 true a0_0 a0_1 a0_2 l0_3) else (glossatorref15_At.j0 k a1 (decide (a1 ≥ a0_2)) a0_0 a0_1 a0_2 l0_3)) else (glossatorref15_At.j0 k a1 true a0_0 a0_1 a0_2 l0_3)) = some r := H
    have A5 := Aside0.mk A50
    clear A50
    by_cases c6 : t193 = true
    · subst c6
      have H1 : (if a1 < 0 then (glossatorref15_At.j0 k a1 true a0_0 a0_1 a0_2 l0_3) else (glossatorref15_At.j0 k a1 (decide (a1 ≥ a0_2)) a0_0 a0_1 a0_2 l0_3)) = some r := by rw [if_pos rfl] at H; exact H
      clear H
      have H := H1
      clear H1
      by_cases c7 : a1 < 0
      · rw [if_pos c7] at H
        have c7b0 : decide (a1 < 0) = true := decide_eq_true c7
        clear c7
        (first | rw [c7b0] | (simp only [i64_w, i32_w]; rw [c7b0]) | skip)
        have H' := Aside0.mk H
        clear H
        have hcz8_0 : w4.cell? ⟨gb192, 0, none⟩ = some (.int .u8 a0_0) := (blk_cell BK192.out 0).trans rfl
        have hcz8_1 : w4.cell? ⟨gb192, 1, none⟩ = some (.int .u8 a0_1) := (blk_cell BK192.out 1).trans rfl
        have hcz8_2 : w4.cell? ⟨gb192, 2, none⟩ = some (.int .i64 a0_2) := (blk_cell BK192.out 2).trans rfl
        have hcz8_3 : w4.cell? ⟨gb192, 3, none⟩ = some (.slice A0_3 l0_3.length c0_3) := (blk_cell BK192.out 3).trans rfl
        have hfz8_0 := blk_frozen BK192.out 0
        have hfz8_1 := blk_frozen BK192.out 1
        have hfz8_2 := blk_frozen BK192.out 2
        have hfz8_3 := blk_frozen BK192.out 3
        go_wp2_with (first | ((with_reducible refine gate_callee (f := 21) rfl ?_); refine goesL_ (some 11) rfl rfl Try.func21 (by kernel_rfl) rfl #[.agg #[.int .u8 a0_0, .int .u8 a0_1, .int .i64 a0_2, .slice A0_3 l0_3.length c0_3]] rfl (by (try simp only [List.map_toArray, List.map_cons, List.map_nil]); first | done | rfl | (simp only [List.length_drop, List.length_take]; rfl)) ?_; (with_reducible refine (glossatorref15_Right.calls k a0_0 a0_1 a0_2 _ _ l0_3 true _ ?side1 ?side2 A5.out).mono ?_); (case side1 => repeat (first | exact (Kd.V_reads' HO0_3.out).2.2 | (with_reducible refine Kd.C_alloc ?_ _) | (with_reducible refine Kd.C_drewN ?_ _) | (with_reducible refine Kd.C_drew ?_))); (case side2 => exact (Kd.V_reads' HO0_3.out).2.1); rintro e w9 ⟨rfl, hb⟩; refine ⟨_, rfl, ?_⟩; have n0_ := Aside0.mk (Kd.V_below (by (with_reducible repeat (first | apply Kd.V_alloc | apply Kd.V_drewN | apply Kd.V_drew)); exact HO0_3.out) hb); have n1_ := Aside0.mk (blk_below (g := gb192) (o := .cells #[.int .u8 a0_0, .int .u8 a0_1, .int .i64 a0_2, .slice A0_3 l0_3.length c0_3] 26 (0, 0)) (by (with_reducible repeat (first | refine blk_drewN ?_ _ | refine blk_drew ?_ | refine blk_alloc ?_ _)); exact BK192.out) hb); have n2_ := Aside0.mk (below_step (by repeat (first | (with_reducible first | exact HB.out | apply below_alloc | apply pw_below_drewN | apply below_drew1 | refine below_set ?_ GE192.out) | exact HB.out)) hb); clear HO0_3; clear BK192; clear HB; have HO0_3 := n0_; have BK192 := n1_; have HB := n2_; clear n0_ n1_ n2_; (try clear hb); (try clear hb2); (try clear hk); (try clear hi)))
        go_meet
        case rel => exact ⟨_, (true), (by first | rfl | (simp; done) | (simp [*]; done)), H', ⟨by first | omega | exact Nat.le_refl _⟩, ⟨by (with_reducible repeat (first | apply Kd.V_alloc | apply Kd.V_drewN | apply Kd.V_drew)); exact HO0_3.out⟩, ⟨by (with_reducible repeat (first | refine blk_drewN ?_ _ | refine blk_drew ?_ | refine blk_alloc ?_ _)); exact BK192.out⟩, ⟨by repeat (first | (with_reducible first | exact HB.out | apply below_alloc | apply pw_below_drewN | apply below_drew1 | refine below_set ?_ GE192.out) | exact HB.out)⟩⟩
      · rw [if_neg c7] at H
        have c7b0 : decide (a1 < 0) = false := decide_eq_false c7
        clear c7
        (first | rw [c7b0] | (simp only [i64_w, i32_w]; rw [c7b0]) | skip)
        have H' := Aside0.mk H
        clear H
        have hcz10_0 : w4.cell? ⟨gb192, 0, none⟩ = some (.int .u8 a0_0) := (blk_cell BK192.out 0).trans rfl
        have hcz10_1 : w4.cell? ⟨gb192, 1, none⟩ = some (.int .u8 a0_1) := (blk_cell BK192.out 1).trans rfl
        have hcz10_2 : w4.cell? ⟨gb192, 2, none⟩ = some (.int .i64 a0_2) := (blk_cell BK192.out 2).trans rfl
        have hcz10_3 : w4.cell? ⟨gb192, 3, none⟩ = some (.slice A0_3 l0_3.length c0_3) := (blk_cell BK192.out 3).trans rfl
        have hfz10_0 := blk_frozen BK192.out 0
        have hfz10_1 := blk_frozen BK192.out 1
        have hfz10_2 := blk_frozen BK192.out 2
        have hfz10_3 := blk_frozen BK192.out 3
        go_wp2_with (first | ((with_reducible refine gate_callee (f := 21) rfl ?_); refine goesL_ (some 11) rfl rfl Try.func21 (by kernel_rfl) rfl #[.agg #[.int .u8 a0_0, .int .u8 a0_1, .int .i64 a0_2, .slice A0_3 l0_3.length c0_3]] rfl (by (try simp only [List.map_toArray, List.map_cons, List.map_nil]); first | done | rfl | (simp only [List.length_drop, List.length_take]; rfl)) ?_; (with_reducible refine (glossatorref15_Right.calls k a0_0 a0_1 a0_2 _ _ l0_3 true _ ?side1 ?side2 A5.out).mono ?_); (case side1 => repeat (first | exact (Kd.V_reads' HO0_3.out).2.2 | (with_reducible refine Kd.C_alloc ?_ _) | (with_reducible refine Kd.C_drewN ?_ _) | (with_reducible refine Kd.C_drew ?_))); (case side2 => exact (Kd.V_reads' HO0_3.out).2.1); rintro e w11 ⟨rfl, hb⟩; refine ⟨_, rfl, ?_⟩; have n0_ := Aside0.mk (Kd.V_below (by (with_reducible repeat (first | apply Kd.V_alloc | apply Kd.V_drewN | apply Kd.V_drew)); exact HO0_3.out) hb); have n1_ := Aside0.mk (blk_below (g := gb192) (o := .cells #[.int .u8 a0_0, .int .u8 a0_1, .int .i64 a0_2, .slice A0_3 l0_3.length c0_3] 26 (0, 0)) (by (with_reducible repeat (first | refine blk_drewN ?_ _ | refine blk_drew ?_ | refine blk_alloc ?_ _)); exact BK192.out) hb); have n2_ := Aside0.mk (below_step (by repeat (first | (with_reducible first | exact HB.out | apply below_alloc | apply pw_below_drewN | apply below_drew1 | refine below_set ?_ GE192.out) | exact HB.out)) hb); clear HO0_3; clear BK192; clear HB; have HO0_3 := n0_; have BK192 := n1_; have HB := n2_; clear n0_ n1_ n2_; (try clear hb); (try clear hb2); (try clear hk); (try clear hi); have hcz12_0 : w11.cell? ⟨gb192, 0, none⟩ = some (.int .u8 a0_0) := (blk_cell BK192.out 0).trans rfl; have hcz12_1 : w11.cell? ⟨gb192, 1, none⟩ = some (.int .u8 a0_1) := (blk_cell BK192.out 1).trans rfl; have hcz12_2 : w11.cell? ⟨gb192, 2, none⟩ = some (.int .i64 a0_2) := (blk_cell BK192.out 2).trans rfl; have hcz12_3 : w11.cell? ⟨gb192, 3, none⟩ = some (.slice A0_3 l0_3.length c0_3) := (blk_cell BK192.out 3).trans rfl; have hfz12_0 := blk_frozen BK192.out 0; have hfz12_1 := blk_frozen BK192.out 1; have hfz12_2 := blk_frozen BK192.out 2; have hfz12_3 := blk_frozen BK192.out 3))
        go_meet
        case rel => exact ⟨_, (decide (a1 ≥ a0_2)), (by first | rfl | (simp; done) | (simp [*]; done)), H', ⟨by first | omega | exact Nat.le_refl _⟩, ⟨by (with_reducible repeat (first | apply Kd.V_alloc | apply Kd.V_drewN | apply Kd.V_drew)); exact HO0_3.out⟩, ⟨by (with_reducible repeat (first | refine blk_drewN ?_ _ | refine blk_drew ?_ | refine blk_alloc ?_ _)); exact BK192.out⟩, ⟨by repeat (first | (with_reducible first | exact HB.out | apply below_alloc | apply pw_below_drewN | apply below_drew1 | refine below_set ?_ GE192.out) | exact HB.out)⟩⟩
    · replace c6 := Bool.eq_false_iff.mpr c6
      subst c6
      have H1 : (glossatorref15_At.j0 k a1 true a0_0 a0_1 a0_2 l0_3) = some r := by rw [if_neg (show ¬ (false = true) by decide)] at H; exact H
      clear H
      have H := H1
      clear H1
      have H' := Aside0.mk H
      clear H
      have hcz13_0 : w4.cell? ⟨gb192, 0, none⟩ = some (.int .u8 a0_0) := (blk_cell BK192.out 0).trans rfl
      have hcz13_1 : w4.cell? ⟨gb192, 1, none⟩ = some (.int .u8 a0_1) := (blk_cell BK192.out 1).trans rfl
      have hcz13_2 : w4.cell? ⟨gb192, 2, none⟩ = some (.int .i64 a0_2) := (blk_cell BK192.out 2).trans rfl
      have hcz13_3 : w4.cell? ⟨gb192, 3, none⟩ = some (.slice A0_3 l0_3.length c0_3) := (blk_cell BK192.out 3).trans rfl
      have hfz13_0 := blk_frozen BK192.out 0
      have hfz13_1 := blk_frozen BK192.out 1
      have hfz13_2 := blk_frozen BK192.out 2
      have hfz13_3 := blk_frozen BK192.out 3
      go_wp2_with (first | ((with_reducible refine gate_callee (f := 21) rfl ?_); refine goesL_ (some 11) rfl rfl Try.func21 (by kernel_rfl) rfl #[.agg #[.int .u8 a0_0, .int .u8 a0_1, .int .i64 a0_2, .slice A0_3 l0_3.length c0_3]] rfl (by (try simp only [List.map_toArray, List.map_cons, List.map_nil]); first | done | rfl | (simp only [List.length_drop, List.length_take]; rfl)) ?_; (with_reducible refine (glossatorref15_Right.calls k a0_0 a0_1 a0_2 _ _ l0_3 false _ ?side1 ?side2 A5.out).mono ?_); (case side1 => repeat (first | exact (Kd.V_reads' HO0_3.out).2.2 | (with_reducible refine Kd.C_alloc ?_ _) | (with_reducible refine Kd.C_drewN ?_ _) | (with_reducible refine Kd.C_drew ?_))); (case side2 => exact (Kd.V_reads' HO0_3.out).2.1); rintro e w14 ⟨rfl, hb⟩; refine ⟨_, rfl, ?_⟩; have n0_ := Aside0.mk (Kd.V_below (by (with_reducible repeat (first | apply Kd.V_alloc | apply Kd.V_drewN | apply Kd.V_drew)); exact HO0_3.out) hb); have n1_ := Aside0.mk (blk_below (g := gb192) (o := .cells #[.int .u8 a0_0, .int .u8 a0_1, .int .i64 a0_2, .slice A0_3 l0_3.length c0_3] 26 (0, 0)) (by (with_reducible repeat (first | refine blk_drewN ?_ _ | refine blk_drew ?_ | refine blk_alloc ?_ _)); exact BK192.out) hb); have n2_ := Aside0.mk (below_step (by repeat (first | (with_reducible first | exact HB.out | apply below_alloc | apply pw_below_drewN | apply below_drew1 | refine below_set ?_ GE192.out) | exact HB.out)) hb); clear HO0_3; clear BK192; clear HB; have HO0_3 := n0_; have BK192 := n1_; have HB := n2_; clear n0_ n1_ n2_; (try clear hb); (try clear hb2); (try clear hk); (try clear hi)))
      go_meet
      case rel => exact ⟨_, (true), (by first | rfl | (simp; done) | (simp [*]; done)), H', ⟨by first | omega | exact Nat.le_refl _⟩, ⟨by (with_reducible repeat (first | apply Kd.V_alloc | apply Kd.V_drewN | apply Kd.V_drew)); exact HO0_3.out⟩, ⟨by (with_reducible repeat (first | refine blk_drewN ?_ _ | refine blk_drew ?_ | refine blk_alloc ?_ _)); exact BK192.out⟩, ⟨by repeat (first | (with_reducible first | exact HB.out | apply below_alloc | apply pw_below_drewN | apply below_drew1 | refine below_set ?_ GE192.out) | exact HB.out)⟩⟩
  case rest =>
    clear HC3
    try clear c1
    try clear c2
    try clear p2
    try clear c6
    try clear c7
    try clear c7b0
    try clear c12
    try clear hcz10_0
    try clear hcz10_1
    try clear hcz10_2
    try clear hcz10_3
    try clear hcz12_0
    try clear hcz12_1
    try clear hcz12_2
    try clear hcz12_3
    try clear hcz13_0
    try clear hcz13_1
    try clear hcz13_2
    try clear hcz13_3
    try clear hcz8_0
    try clear hcz8_1
    try clear hcz8_2
    try clear hcz8_3
    try clear hfz10_0
    try clear hfz10_1
    try clear hfz10_2
    try clear hfz10_3
    try clear hfz12_0
    try clear hfz12_1
    try clear hfz12_2
    try clear hfz12_3
    try clear hfz13_0
    try clear hfz13_1
    try clear hfz13_2
    try clear hfz13_3
    try clear hfz8_0
    try clear hfz8_1
    try clear hfz8_2
    try clear hfz8_3
    obtain ⟨kq, x22_2, rfl, HA, HJ2, HO_193003, BK192, HB⟩ := hcut
    cases kq with
    | zero => exact absurd HA.out (by simp [glossatorref15_At.j0])
    | succ kj2 =>
      have H := HA.out
      clear HA
      simp only [glossatorref15_At.j0] at H
      by_cases c15 : x22_2 = true
      · subst c15
        have H1 : (some ([] : List Int)) = some r := by rw [if_pos rfl] at H; exact H
        clear H
        have H := H1
        clear H1
        obtain rfl := Option.some.inj H
        go_wp2
        go_ret
        exact ⟨_, by first | rfl | (simp [errW_none, errW_some] <;> rfl) | (simp [*, errW_none, errW_some] <;> rfl), by first | exact Kd.R_nil _ _ _ _ _ | exact Kd.N_nil _ _ _ _ _ | exact Kd.V_nil _ _ _ _ _ | exact Kd.Q_nil _ _ _ _ _ | exact Kd.S_nil _ _ _ _ _, by repeat (first | (with_reducible first | exact HB.out | apply below_alloc | apply pw_below_drewN | apply below_drew1 | refine below_set ?_ GE192.out) | exact HB.out)⟩
      · replace c15 := Bool.eq_false_iff.mpr c15
        subst c15
        have H1 : (glossatorref15_At.l0 kj2 a1 ([] : List Int) 0 a0_0 a0_1 a0_2 l0_3) = some r := by rw [if_neg (show ¬ (false = true) by decide)] at H; exact H
        clear H
        have H := H1
        clear H1
        have H' := Aside0.mk H
        clear H
        go_wp2
        go_loopg [5, 6] kj2 (fun kq v5 v6 w' => ∃ (x5_2 : List Int) (x6_2 : Int) (x193000_2 : Int) (x193001_2 : Int) (x193002_2 : Int) (x193003_2 : List (S26)) (u193003 : Value), v6 = .int .i64 x6_2 ∧ Aside0 (glossatorref15_At.l0 kq a1 x5_2 x6_2 x193000_2 x193001_2 x193002_2 x193003_2 = some r) ∧ Aside0 (kq ≤ kj2) ∧ Aside0 (Kd.R (Kd.int .i64) 3 w' w.heap.size (fun k_ => (w.heap.size ≤ k_)) v5 x5_2) ∧ Aside0 (Kd.V k26 26 w' w.heap.size (fun k_ => (P0_3_ k_ ∨ w.heap.size ≤ k_) ∧ some k_ ≠ (v5 : Value).ownBlock ∧ k_ ≠ gb192) u193003 x193003_2) ∧ Aside0 (w'.heap[gb192]? = some (.cells #[.int .u8 x193000_2, .int .u8 x193001_2, .int .i64 x193002_2, u193003] 26 (0, 0))) ∧ Aside0 (Below w.heap.size w w'))
        case atStart => exact ⟨(([] : List Int)), (0), (a0_0), (a0_1), (a0_2), (l0_3), (.slice A0_3 l0_3.length c0_3), (by first | rfl | (simp; done) | (simp [*]; done)), H', ⟨Nat.le_refl _⟩, ⟨by first | exact Kd.R_nil _ _ _ _ _ | exact Kd.N_nil _ _ _ _ _ | exact Kd.V_nil _ _ _ _ _ | exact Kd.Q_nil _ _ _ _ _ | exact Kd.S_nil _ _ _ _ _⟩, ⟨by (with_reducible repeat (first | apply Kd.V_alloc | apply Kd.V_drewN | apply Kd.V_drew)); exact Kd.V_mono HO_193003.out (fun _ hk => ⟨hk.1, ⟨(by simp [Value.ownBlock]), hk.2⟩⟩)⟩, ⟨by (with_reducible repeat (first | refine blk_drewN ?_ _ | refine blk_drew ?_ | refine blk_alloc ?_ _)); exact BK192.out⟩, ⟨by repeat (first | (with_reducible first | exact HB.out | apply below_alloc | apply pw_below_drewN | apply below_drew1 | refine below_set ?_ GE192.out) | exact HB.out)⟩⟩
        case round =>
          clear H'
          try clear c1
          try clear c2
          try clear p2
          try clear c6
          try clear c7
          try clear c7b0
          try clear c12
          try clear c15
          try clear hcz10_0
          try clear hcz10_1
          try clear hcz10_2
          try clear hcz10_3
          try clear hcz12_0
          try clear hcz12_1
          try clear hcz12_2
          try clear hcz12_3
          try clear hcz13_0
          try clear hcz13_1
          try clear hcz13_2
          try clear hcz13_3
          try clear hcz8_0
          try clear hcz8_1
          try clear hcz8_2
          try clear hcz8_3
          try clear hfz10_0
          try clear hfz10_1
          try clear hfz10_2
          try clear hfz10_3
          try clear hfz12_0
          try clear hfz12_1
          try clear hfz12_2
          try clear hfz12_3
          try clear hfz13_0
          try clear hfz13_1
          try clear hfz13_2
          try clear hfz13_3
          try clear hfz8_0
          try clear hfz8_1
          try clear hfz8_2
          try clear hfz8_3
          try clear p2
          obtain ⟨x5_2, x6_2, x193000_2, x193001_2, x193002_2, x193003_2, u193003, rfl, HA, HK2, HO_5, HO_193003, BK192, HB⟩ := hrel
          cases gk with
          | zero => exact absurd HA.out (by simp [glossatorref15_At.l0])
          | succ k2 =>
            have H := HA.out
            clear HA
            simp only [glossatorref15_At.l0] at H
            have H' := Aside0.mk H
            clear H
            go_wp2
            go_loopg [7, 8, 9] k2 (fun kq v7 v8 v9 w' => ∃ (x7_3 : Int) (x8_3 : Int) (x9_3 : Int), v7 = .int .i64 x7_3 ∧ v8 = .int .i64 x8_3 ∧ v9 = .int .i64 x9_3 ∧ Aside0 (glossatorref15_At.l1 kq a1 x5_2 x7_3 x8_3 x9_3 x193000_2 x193001_2 x193002_2 x193003_2 = some r) ∧ Aside0 (kq ≤ k2) ∧ Aside0 (Kd.R (Kd.int .i64) 3 w' w.heap.size (fun k_ => (w.heap.size ≤ k_)) u5 x5_2) ∧ Aside0 (Kd.V k26 26 w' w.heap.size (fun k_ => (P0_3_ k_ ∨ w.heap.size ≤ k_) ∧ some k_ ≠ (u5 : Value).ownBlock ∧ k_ ≠ gb192) u193003 x193003_2) ∧ Aside0 (w'.heap[gb192]? = some (.cells #[.int .u8 x193000_2, .int .u8 x193001_2, .int .i64 x193002_2, u193003] 26 (0, 0))) ∧ Aside0 (Below w.heap.size w w'))
            case atStart => exact ⟨((-1)), (x6_2), (0), (by first | rfl | (simp; done) | (simp [*]; done)), (by first | rfl | (simp; done) | (simp [*]; done)), (by first | rfl | (simp; done) | (simp [*]; done)), H', ⟨Nat.le_refl _⟩, ⟨by (with_reducible repeat (first | apply Kd.R_alloc | apply Kd.R_drewN | apply Kd.R_drew)); exact HO_5.out⟩, ⟨by (with_reducible repeat (first | apply Kd.V_alloc | apply Kd.V_drewN | apply Kd.V_drew)); exact HO_193003.out⟩, ⟨by (with_reducible repeat (first | refine blk_drewN ?_ _ | refine blk_drew ?_ | refine blk_alloc ?_ _)); exact BK192.out⟩, ⟨by repeat (first | (with_reducible first | exact HB.out | apply below_alloc | apply pw_below_drewN | apply below_drew1 | refine below_set ?_ GE192.out) | exact HB.out)⟩⟩
            case round =>
              clear H'
              try clear c1
              try clear c2
              try clear p2
              try clear c6
              try clear c7
              try clear c7b0
              try clear c12
              try clear c15
              try clear hcz10_0
              try clear hcz10_1
              try clear hcz10_2
              try clear hcz10_3
              try clear hcz12_0
              try clear hcz12_1
              try clear hcz12_2
              try clear hcz12_3
              try clear hcz13_0
              try clear hcz13_1
              try clear hcz13_2
              try clear hcz13_3
              try clear hcz8_0
              try clear hcz8_1
              try clear hcz8_2
              try clear hcz8_3
              try clear hfz10_0
              try clear hfz10_1
              try clear hfz10_2
              try clear hfz10_3
              try clear hfz12_0
              try clear hfz12_1
              try clear hfz12_2
              try clear hfz12_3
              try clear hfz13_0
              try clear hfz13_1
              try clear hfz13_2
              try clear hfz13_3
              try clear hfz8_0
              try clear hfz8_1
              try clear hfz8_2
              try clear hfz8_3
              try clear p2
              obtain ⟨x7_3, x8_3, x9_3, rfl, rfl, rfl, HA, HK3, HO_5, HO_193003, BK192, HB⟩ := hrel
              cases gk with
              | zero => exact absurd HA.out (by simp [glossatorref15_At.l1])
              | succ k3 =>
                have H := HA.out
                clear HA
                simp only [glossatorref15_At.l1] at H
                by_cases c16 : x9_3 < (x193003_2.length : Int)
                · rw [if_pos c16] at H
                  have c16b0 : decide (x9_3 < (x193003_2.length : Int)) = true := decide_eq_true c16
                  clear c16
                  by_cases c17 : x8_3 ≤ a1
                  · rw [if_pos c17] at H
                    have c17b0 : decide (x8_3 ≤ a1) = true := decide_eq_true c17
                    clear c17
                    by_cases c18 : 0 ≤ x9_3
                    · rw [if_pos c18] at H
                      have c18b0 : decide (0 ≤ x9_3) = true := decide_eq_true c18
                      clear c18
                      by_cases c19 : (wrap64 (x8_3 + ((rd_T26 x193003_2 x9_3).f2))) > a1
                      · rw [if_pos c19] at H
                        have c19b0 : decide (a1 < (wrap64 (x8_3 + ((rd_T26 x193003_2 x9_3).f2)))) = true := decide_eq_true c19
                        clear c19
                        by_cases c20 : x9_3 < 0
                        · rw [if_pos c20] at H
                          have c20b0 : decide (x9_3 < 0) = true := decide_eq_true c20
                          clear c20
                          obtain rfl := Option.some.inj H
                          have hcz21_0 : wr.cell? ⟨gb192, 0, none⟩ = some (.int .u8 x193000_2) := (blk_cell BK192.out 0).trans rfl
                          have hcz21_1 : wr.cell? ⟨gb192, 1, none⟩ = some (.int .u8 x193001_2) := (blk_cell BK192.out 1).trans rfl
                          have hcz21_2 : wr.cell? ⟨gb192, 2, none⟩ = some (.int .i64 x193002_2) := (blk_cell BK192.out 2).trans rfl
                          have hcz21_3 : wr.cell? ⟨gb192, 3, none⟩ = some (u193003) := (blk_cell BK192.out 3).trans rfl
                          have hfz21_0 := blk_frozen BK192.out 0
                          have hfz21_1 := blk_frozen BK192.out 1
                          have hfz21_2 := blk_frozen BK192.out 2
                          have hfz21_3 := blk_frozen BK192.out 3
                          obtain ⟨Ao22, co22, eo22⟩ := Kd.V_slice HO_193003.out
                          subst eo22
                          have p194 : 0 ≤ (x9_3 : Int) := of_decide_eq_true (by first | (with_reducible assumption) | assumption)
                          have q194 : x9_3 < (x193003_2.length : Int) := of_decide_eq_true (by first | (with_reducible assumption) | assumption)
                          obtain ⟨ad194, A194_3, c194_3, e194, hx194_0, hx194_1, hx194_2, hx194_3, hl194_3, hi194_3⟩ := at_T26 (Kd.V_reads' HO_193003.out).2.2 x9_3 p194 q194
                          cases e194
                          obtain ⟨ce194, hce194, hMe194, hcc194⟩ := Kd.V_get HO_193003.out z26 x9_3 p194 (by first | exact q194 | exact of_decide_eq_true (by first | (with_reducible assumption) | assumption) | (have e_ := (Kd.V_reads' HO_193003.out).1; omega))
                          obtain ⟨ua194_3, uc194_3, rfl, ul194_3, ge194_3⟩ := k26_openF hMe194
                          have hv194_3 := hcc194 3 _ rfl
                          rw [add_field _ _ 3 (by omega)] at hv194_3
                          replace hv194_3 := Option.some.inj (hv194_3.symm.trans hx194_3)
                          injection hv194_3 with hva_ hvn_ hvc_
                          rw [hva_] at ge194_3
                          rw [hvc_] at ul194_3
                          have HL194_3 := Aside0.mk (show Kd.V k26 26 _ w.heap.size _ _ ((rd_T26 x193003_2 x9_3).f3) from Kd.V_mk ul194_3 ge194_3)
                          clear hva_ hvn_ hvc_ ge194_3 ul194_3
                          clear hcc194 hce194
                          have HR194_3 := Aside0.mk hi194_3
                          have HC194_3 := Aside0.mk hl194_3
                          clear hi194_3 hl194_3
                          replace p194 := eq_true p194
                          replace q194 := eq_true q194
                          go_wp2
                          go_ret
                          exact ⟨_, by first | rfl | (simp [errW_none, errW_some] <;> rfl) | (simp [*, errW_none, errW_some] <;> rfl), by (with_reducible repeat (first | apply Kd.R_alloc | apply Kd.R_drewN | apply Kd.R_drew)); exact HO_5.out, by repeat (first | (with_reducible first | exact HB.out | apply below_alloc | apply pw_below_drewN | apply below_drew1 | refine below_set ?_ GE192.out) | exact HB.out)⟩
                        · rw [if_neg c20] at H
                          have c20b0 : decide (x9_3 < 0) = false := decide_eq_false c20
                          clear c20
                          by_cases c23 : x5_2.length < 17592186044416
                          · rw [if_pos c23] at H
                            have LMc23 := Aside0.mk c23
                            clear c23
                            obtain ⟨y195, hy195⟩ : ∃ y_ : List Int, y_ = (x5_2 ++ [x9_3]) := ⟨_, rfl⟩
                            replace H : (glossatorref15_At.l0 k3 a1 y195 x8_3 ((rd_T26 x193003_2 x9_3).f0) ((rd_T26 x193003_2 x9_3).f1) ((rd_T26 x193003_2 x9_3).f2) ((rd_T26 x193003_2 x9_3).f3)) = some r := by first | (rw [hy195]; with_reducible exact H) | (have H2_ := (Option.bind_some _ _).symm.trans H; rw [hy195]; with_reducible exact H2_) | (have H2_ := (Option.bind_some _ _).symm.trans H; with_reducible exact H2_) | with_reducible exact H | (rw [hy195]; exact H) | exact H
                            have Ny195 := Aside0.mk hy195
                            clear hy195
                            have H' := Aside0.mk H
                            clear H
                            have hcz24_0 : wr.cell? ⟨gb192, 0, none⟩ = some (.int .u8 x193000_2) := (blk_cell BK192.out 0).trans rfl
                            have hcz24_1 : wr.cell? ⟨gb192, 1, none⟩ = some (.int .u8 x193001_2) := (blk_cell BK192.out 1).trans rfl
                            have hcz24_2 : wr.cell? ⟨gb192, 2, none⟩ = some (.int .i64 x193002_2) := (blk_cell BK192.out 2).trans rfl
                            have hcz24_3 : wr.cell? ⟨gb192, 3, none⟩ = some (u193003) := (blk_cell BK192.out 3).trans rfl
                            have hfz24_0 := blk_frozen BK192.out 0
                            have hfz24_1 := blk_frozen BK192.out 1
                            have hfz24_2 := blk_frozen BK192.out 2
                            have hfz24_3 := blk_frozen BK192.out 3
                            obtain ⟨Ao25, co25, eo25⟩ := Kd.V_slice HO_193003.out
                            subst eo25
                            have p194 : 0 ≤ (x9_3 : Int) := of_decide_eq_true (by first | (with_reducible assumption) | assumption)
                            have q194 : x9_3 < (x193003_2.length : Int) := of_decide_eq_true (by first | (with_reducible assumption) | assumption)
                            obtain ⟨ad194, A194_3, c194_3, e194, hx194_0, hx194_1, hx194_2, hx194_3, hl194_3, hi194_3⟩ := at_T26 (Kd.V_reads' HO_193003.out).2.2 x9_3 p194 q194
                            cases e194
                            obtain ⟨ce194, hce194, hMe194, hcc194⟩ := Kd.V_get HO_193003.out z26 x9_3 p194 (by first | exact q194 | exact of_decide_eq_true (by first | (with_reducible assumption) | assumption) | (have e_ := (Kd.V_reads' HO_193003.out).1; omega))
                            obtain ⟨ua194_3, uc194_3, rfl, ul194_3, ge194_3⟩ := k26_openF hMe194
                            have hv194_3 := hcc194 3 _ rfl
                            rw [add_field _ _ 3 (by omega)] at hv194_3
                            replace hv194_3 := Option.some.inj (hv194_3.symm.trans hx194_3)
                            injection hv194_3 with hva_ hvn_ hvc_
                            rw [hva_] at ge194_3
                            rw [hvc_] at ul194_3
                            have HL194_3 := Aside0.mk (show Kd.V k26 26 _ w.heap.size _ _ ((rd_T26 x193003_2 x9_3).f3) from Kd.V_mk ul194_3 ge194_3)
                            clear hva_ hvn_ hvc_ ge194_3 ul194_3
                            clear hcc194 hce194
                            have HR194_3 := Aside0.mk hi194_3
                            have HC194_3 := Aside0.mk hl194_3
                            clear hi194_3 hl194_3
                            replace p194 := eq_true p194
                            replace q194 := eq_true q194
                            go_wp2_with (first | ((with_reducible refine gate_builtin (b := .append) (xs := #[.tmp 58, .tmp 60]) rfl ?_); at_builtin; refine Kd.R_append (Kd.int .i64) (w0 := w) w.heap.size rfl (.tmp 58) (.tmp 60) 23 3 (.int .i64 0) 8 rfl Try.underlying23 info3 rfl (by decide) (by omega) u5 x5_2 x9_3 [.int .i64 x9_3] (fun k_ => (w.heap.size ≤ k_)) (fun _ => False) rfl rfl ?aP (fun _ hk => hk.elim) ?aF ?aO ?aB ?aS ?aL ?_; (case aP => exact rfl); (case aB => exact (by repeat (first | (with_reducible first | exact HB.out | apply below_alloc | apply pw_below_drewN | apply below_drew1 | refine below_set ?_ GE192.out) | exact HB.out))); (case aF => exact (fun k_ hk => (Nat.le_trans (below_size (by repeat (first | (with_reducible first | exact HB.out | apply below_alloc | apply pw_below_drewN | apply below_drew1 | refine below_set ?_ GE192.out) | exact HB.out))) hk))); (case aO => exact (by (with_reducible repeat (first | apply Kd.R_alloc | apply Kd.R_drewN | apply Kd.R_drew)); exact HO_5.out)); (case aS => exact (below_size (by repeat (first | (with_reducible first | exact HB.out | apply below_alloc | apply pw_below_drewN | apply below_drew1 | refine below_set ?_ GE192.out) | exact HB.out)))); (case aL => have := LMc23.out; omega); intro v196 w26 ho hb hg hat; rw [← Ny195.out] at ho; have n0_ := Aside0.mk (Kd.V_afterv (ok := (fun k_ => (P0_3_ k_ ∨ w.heap.size ≤ k_) ∧ k_ ≠ gb192)) (by (with_reducible repeat (first | apply Kd.V_alloc | apply Kd.V_drewN | apply Kd.V_drew)); exact Kd.V_mono HO_193003.out (fun _ hk => ⟨⟨hk.1, hk.2.2⟩, hk.2.1⟩)) hg hat); have n1_ := Aside0.mk (blk_grown (g := gb192) (o := .cells #[.int .u8 x193000_2, .int .u8 x193001_2, .int .i64 x193002_2, .slice (some ad194) x193003_2.length co25] 26 (0, 0)) (by (with_reducible repeat (first | refine blk_drewN ?_ _ | refine blk_drew ?_ | refine blk_alloc ?_ _)); exact BK192.out) hg (Kd.R_ne HO_5.out BK192.out (by decide))); have n2_ := Aside0.mk (Kd.V_afterv (ok := (fun k_ => (P0_3_ k_ ∨ w.heap.size ≤ k_) ∧ k_ ≠ gb192)) (by (with_reducible repeat (first | apply Kd.V_alloc | apply Kd.V_drewN | apply Kd.V_drew)); exact Kd.V_mono HL194_3.out (fun _ hk => ⟨⟨hk.1, hk.2.2⟩, hk.2.1⟩)) hg hat); have n3_ := Aside0.mk (hb); have n4_ := Aside0.mk (ho); clear HO_193003; clear BK192; clear HL194_3; clear HB; clear HO_5; have HO_193003 := n0_; have BK192 := n1_; have HL194_3 := n2_; have HB := n3_; have HO197 := n4_; clear n0_ n1_ n2_ n3_ n4_; clear ho hb hg hat; have hcz27_0 : w26.cell? ⟨gb192, 0, none⟩ = some (.int .u8 x193000_2) := (blk_cell BK192.out 0).trans rfl; have hcz27_1 : w26.cell? ⟨gb192, 1, none⟩ = some (.int .u8 x193001_2) := (blk_cell BK192.out 1).trans rfl; have hcz27_2 : w26.cell? ⟨gb192, 2, none⟩ = some (.int .i64 x193002_2) := (blk_cell BK192.out 2).trans rfl; have hcz27_3 : w26.cell? ⟨gb192, 3, none⟩ = some (.slice (some ad194) x193003_2.length co25) := (blk_cell BK192.out 3).trans rfl; have hfz27_0 := blk_frozen BK192.out 0; have hfz27_1 := blk_frozen BK192.out 1; have hfz27_2 := blk_frozen BK192.out 2; have hfz27_3 := blk_frozen BK192.out 3; have p198 : 0 ≤ (x9_3 : Int) := of_decide_eq_true (by first | (with_reducible assumption) | assumption); have q198 : x9_3 < (x193003_2.length : Int) := of_decide_eq_true (by first | (with_reducible assumption) | assumption); obtain ⟨ad198, A198_3, c198_3, e198, hx198_0, hx198_1, hx198_2, hx198_3, hl198_3, hi198_3⟩ := at_T26 (Kd.V_reads' HO_193003.out).2.2 x9_3 p198 q198; obtain rfl : ad194 = ad198 := (by injection e198); obtain ⟨ce198, hce198, hMe198, hcc198⟩ := Kd.V_get HO_193003.out z26 x9_3 p198 (by first | exact q198 | exact of_decide_eq_true (by first | (with_reducible assumption) | assumption) | (have e_ := (Kd.V_reads' HO_193003.out).1; omega)); obtain ⟨ua198_3, uc198_3, rfl, ul198_3, ge198_3⟩ := k26_openF hMe198; have hv198_3 := hcc198 3 _ rfl; rw [add_field _ _ 3 (by omega)] at hv198_3; replace hv198_3 := Option.some.inj (hv198_3.symm.trans hx198_3); injection hv198_3 with hva_ hvn_ hvc_; rw [hva_] at ge198_3; rw [hvc_] at ul198_3; have HL198_3 := Aside0.mk (show Kd.V k26 26 _ w.heap.size _ _ ((rd_T26 x193003_2 x9_3).f3) from Kd.V_mk ul198_3 ge198_3); clear hva_ hvn_ hvc_ ge198_3 ul198_3; clear hcc198 hce198; have HR198_3 := Aside0.mk hi198_3; have HC198_3 := Aside0.mk hl198_3; clear hi198_3 hl198_3; replace p198 := eq_true p198; replace q198 := eq_true q198))
                            go_roundg k3
                            case measure => have := HJ2.out; have := HK2.out; have := HK3.out; omega
                            case rel => exact ⟨(y195), (x8_3), ((rd_T26 x193003_2 x9_3).f0), ((rd_T26 x193003_2 x9_3).f1), ((rd_T26 x193003_2 x9_3).f2), ((rd_T26 x193003_2 x9_3).f3), (.slice A198_3 ((rd_T26 x193003_2 x9_3).f3).length c198_3), (by first | rfl | (simp; done) | (simp [*]; done)), H', ⟨by have := HJ2.out; have := HK2.out; have := HK3.out; omega⟩, ⟨by (with_reducible repeat (first | apply Kd.R_alloc | apply Kd.R_drewN | apply Kd.R_drew)); exact Kd.R_mono (Kd.R_far (p := ⟨gb192, 3, none⟩) (Kd.R_far (p := ⟨gb192, 2, none⟩) (Kd.R_far (p := ⟨gb192, 1, none⟩) (Kd.R_far (p := ⟨gb192, 0, none⟩) (Kd.R_types HO197.out BK192.out (by decide)) (fun _ hk => hk.2) (.int .u8 ((rd_T26 x193003_2 x9_3).f0))) (fun _ hk => hk.2) (.int .u8 ((rd_T26 x193003_2 x9_3).f1))) (fun _ hk => hk.2) (.int .i64 ((rd_T26 x193003_2 x9_3).f2))) (fun _ hk => hk.2) (.slice A198_3 ((rd_T26 x193003_2 x9_3).f3).length c198_3)) (fun _ hk => hk.1)⟩, ⟨by (with_reducible repeat (first | apply Kd.V_alloc | apply Kd.V_drewN | apply Kd.V_drew)); exact Kd.V_mono (Kd.V_far (p := ⟨gb192, 3, none⟩) (Kd.V_far (p := ⟨gb192, 2, none⟩) (Kd.V_far (p := ⟨gb192, 1, none⟩) (Kd.V_far (p := ⟨gb192, 0, none⟩) (Kd.V_mono HL198_3.out (fun k_ hk => (⟨hk, hk.1.2⟩ : _ ∧ k_ ≠ gb192))) (fun _ hk => hk.2) (.int .u8 ((rd_T26 x193003_2 x9_3).f0))) (fun _ hk => hk.2) (.int .u8 ((rd_T26 x193003_2 x9_3).f1))) (fun _ hk => hk.2) (.int .i64 ((rd_T26 x193003_2 x9_3).f2))) (fun _ hk => hk.2) (.slice A198_3 ((rd_T26 x193003_2 x9_3).f3).length c198_3)) (fun _ hk => ⟨hk.1.1.1, ⟨hk.1.2, hk.1.1.2⟩⟩)⟩, ⟨by (with_reducible repeat (first | refine blk_drewN ?_ _ | refine blk_drew ?_ | refine blk_alloc ?_ _)); refine blk_put (cs := #[.int .u8 ((rd_T26 x193003_2 x9_3).f0), .int .u8 ((rd_T26 x193003_2 x9_3).f1), .int .i64 ((rd_T26 x193003_2 x9_3).f2), .slice (some ad194) x193003_2.length co25]) ?_ 3 _ rfl; (with_reducible repeat (first | refine blk_drewN ?_ _ | refine blk_drew ?_ | refine blk_alloc ?_ _)); refine blk_put (cs := #[.int .u8 ((rd_T26 x193003_2 x9_3).f0), .int .u8 ((rd_T26 x193003_2 x9_3).f1), .int .i64 x193002_2, .slice (some ad194) x193003_2.length co25]) ?_ 2 _ rfl; (with_reducible repeat (first | refine blk_drewN ?_ _ | refine blk_drew ?_ | refine blk_alloc ?_ _)); refine blk_put (cs := #[.int .u8 ((rd_T26 x193003_2 x9_3).f0), .int .u8 x193001_2, .int .i64 x193002_2, .slice (some ad194) x193003_2.length co25]) ?_ 1 _ rfl; (with_reducible repeat (first | refine blk_drewN ?_ _ | refine blk_drew ?_ | refine blk_alloc ?_ _)); refine blk_put (cs := #[.int .u8 x193000_2, .int .u8 x193001_2, .int .i64 x193002_2, .slice (some ad194) x193003_2.length co25]) ?_ 0 _ rfl; (with_reducible repeat (first | refine blk_drewN ?_ _ | refine blk_drew ?_ | refine blk_alloc ?_ _)); exact BK192.out⟩, ⟨by repeat (first | (with_reducible first | exact HB.out | apply below_alloc | apply pw_below_drewN | apply below_drew1 | refine below_set ?_ GE192.out) | exact HB.out)⟩⟩
                          · rw [if_neg c23] at H
                            exact absurd H (by simp)
                      · rw [if_neg c19] at H
                        have c19b0 : decide (a1 < (wrap64 (x8_3 + ((rd_T26 x193003_2 x9_3).f2)))) = false := decide_eq_false c19
                        clear c19
                        have H' := Aside0.mk H
                        clear H
                        have hcz28_0 : wr.cell? ⟨gb192, 0, none⟩ = some (.int .u8 x193000_2) := (blk_cell BK192.out 0).trans rfl
                        have hcz28_1 : wr.cell? ⟨gb192, 1, none⟩ = some (.int .u8 x193001_2) := (blk_cell BK192.out 1).trans rfl
                        have hcz28_2 : wr.cell? ⟨gb192, 2, none⟩ = some (.int .i64 x193002_2) := (blk_cell BK192.out 2).trans rfl
                        have hcz28_3 : wr.cell? ⟨gb192, 3, none⟩ = some (u193003) := (blk_cell BK192.out 3).trans rfl
                        have hfz28_0 := blk_frozen BK192.out 0
                        have hfz28_1 := blk_frozen BK192.out 1
                        have hfz28_2 := blk_frozen BK192.out 2
                        have hfz28_3 := blk_frozen BK192.out 3
                        obtain ⟨Ao29, co29, eo29⟩ := Kd.V_slice HO_193003.out
                        subst eo29
                        have p194 : 0 ≤ (x9_3 : Int) := of_decide_eq_true (by first | (with_reducible assumption) | assumption)
                        have q194 : x9_3 < (x193003_2.length : Int) := of_decide_eq_true (by first | (with_reducible assumption) | assumption)
                        obtain ⟨ad194, A194_3, c194_3, e194, hx194_0, hx194_1, hx194_2, hx194_3, hl194_3, hi194_3⟩ := at_T26 (Kd.V_reads' HO_193003.out).2.2 x9_3 p194 q194
                        cases e194
                        obtain ⟨ce194, hce194, hMe194, hcc194⟩ := Kd.V_get HO_193003.out z26 x9_3 p194 (by first | exact q194 | exact of_decide_eq_true (by first | (with_reducible assumption) | assumption) | (have e_ := (Kd.V_reads' HO_193003.out).1; omega))
                        obtain ⟨ua194_3, uc194_3, rfl, ul194_3, ge194_3⟩ := k26_openF hMe194
                        have hv194_3 := hcc194 3 _ rfl
                        rw [add_field _ _ 3 (by omega)] at hv194_3
                        replace hv194_3 := Option.some.inj (hv194_3.symm.trans hx194_3)
                        injection hv194_3 with hva_ hvn_ hvc_
                        rw [hva_] at ge194_3
                        rw [hvc_] at ul194_3
                        have HL194_3 := Aside0.mk (show Kd.V k26 26 _ w.heap.size _ _ ((rd_T26 x193003_2 x9_3).f3) from Kd.V_mk ul194_3 ge194_3)
                        clear hva_ hvn_ hvc_ ge194_3 ul194_3
                        clear hcc194 hce194
                        have HR194_3 := Aside0.mk hi194_3
                        have HC194_3 := Aside0.mk hl194_3
                        clear hi194_3 hl194_3
                        replace p194 := eq_true p194
                        replace q194 := eq_true q194
                        have p199 : 0 ≤ (x9_3 : Int) := of_decide_eq_true (by first | (with_reducible assumption) | assumption)
                        have q199 : x9_3 < (x193003_2.length : Int) := of_decide_eq_true (by first | (with_reducible assumption) | assumption)
                        obtain ⟨ad199, A199_3, c199_3, e199, hx199_0, hx199_1, hx199_2, hx199_3, hl199_3, hi199_3⟩ := at_T26 (Kd.V_reads' HO_193003.out).2.2 x9_3 p199 q199
                        obtain rfl : ad194 = ad199 := (by injection e199)
                        obtain ⟨ce199, hce199, hMe199, hcc199⟩ := Kd.V_get HO_193003.out z26 x9_3 p199 (by first | exact q199 | exact of_decide_eq_true (by first | (with_reducible assumption) | assumption) | (have e_ := (Kd.V_reads' HO_193003.out).1; omega))
                        obtain ⟨ua199_3, uc199_3, rfl, ul199_3, ge199_3⟩ := k26_openF hMe199
                        have hv199_3 := hcc199 3 _ rfl
                        rw [add_field _ _ 3 (by omega)] at hv199_3
                        replace hv199_3 := Option.some.inj (hv199_3.symm.trans hx199_3)
                        injection hv199_3 with hva_ hvn_ hvc_
                        rw [hva_] at ge199_3
                        rw [hvc_] at ul199_3
                        have HL199_3 := Aside0.mk (show Kd.V k26 26 _ w.heap.size _ _ ((rd_T26 x193003_2 x9_3).f3) from Kd.V_mk ul199_3 ge199_3)
                        clear hva_ hvn_ hvc_ ge199_3 ul199_3
                        clear hcc199 hce199
                        have HR199_3 := Aside0.mk hi199_3
                        have HC199_3 := Aside0.mk hl199_3
                        clear hi199_3 hl199_3
                        replace p199 := eq_true p199
                        replace q199 := eq_true q199
                        have ea_ := Option.some.inj (hx194_3.symm.trans hx199_3)
                        injection ea_ with ea_ en_ ec_
                        subst ea_
                        subst ec_
                        clear en_
                        go_wp2
                        go_roundg k3
                        case measure => have := HJ2.out; have := HK2.out; have := HK3.out; omega
                        case rel => exact ⟨(x7_3), (wrap64 (x8_3 + ((rd_T26 x193003_2 x9_3).f2))), (wrap64 (x9_3 + 1)), (by first | rfl | (simp; done) | (simp [*]; done)), (by first | rfl | (simp; done) | (simp [*]; done)), (by first | rfl | (simp; done) | (simp [*]; done)), H', ⟨by have := HJ2.out; have := HK2.out; have := HK3.out; omega⟩, ⟨by (with_reducible repeat (first | apply Kd.R_alloc | apply Kd.R_drewN | apply Kd.R_drew)); exact HO_5.out⟩, ⟨by (with_reducible repeat (first | apply Kd.V_alloc | apply Kd.V_drewN | apply Kd.V_drew)); exact HO_193003.out⟩, ⟨by (with_reducible repeat (first | refine blk_drewN ?_ _ | refine blk_drew ?_ | refine blk_alloc ?_ _)); exact BK192.out⟩, ⟨by repeat (first | (with_reducible first | exact HB.out | apply below_alloc | apply pw_below_drewN | apply below_drew1 | refine below_set ?_ GE192.out) | exact HB.out)⟩⟩
                    · rw [if_neg c18] at H
                      exact absurd H (by simp)
                  · rw [if_neg c17] at H
                    have c17b0 : decide (x8_3 ≤ a1) = false := decide_eq_false c17
                    clear c17
                    by_cases c30 : 0 ≤ x9_3
                    · rw [if_pos c30] at H
                      have c30b0 : decide (0 ≤ x9_3) = true := decide_eq_true c30
                      clear c30
                      have H' := Aside0.mk H
                      clear H
                      have hcz31_0 : wr.cell? ⟨gb192, 0, none⟩ = some (.int .u8 x193000_2) := (blk_cell BK192.out 0).trans rfl
                      have hcz31_1 : wr.cell? ⟨gb192, 1, none⟩ = some (.int .u8 x193001_2) := (blk_cell BK192.out 1).trans rfl
                      have hcz31_2 : wr.cell? ⟨gb192, 2, none⟩ = some (.int .i64 x193002_2) := (blk_cell BK192.out 2).trans rfl
                      have hcz31_3 : wr.cell? ⟨gb192, 3, none⟩ = some (u193003) := (blk_cell BK192.out 3).trans rfl
                      have hfz31_0 := blk_frozen BK192.out 0
                      have hfz31_1 := blk_frozen BK192.out 1
                      have hfz31_2 := blk_frozen BK192.out 2
                      have hfz31_3 := blk_frozen BK192.out 3
                      obtain ⟨Ao32, co32, eo32⟩ := Kd.V_slice HO_193003.out
                      subst eo32
                      have p200 : 0 ≤ (x9_3 : Int) := of_decide_eq_true (by first | (with_reducible assumption) | assumption)
                      have q200 : x9_3 < (x193003_2.length : Int) := of_decide_eq_true (by first | (with_reducible assumption) | assumption)
                      obtain ⟨ad200, A200_3, c200_3, e200, hx200_0, hx200_1, hx200_2, hx200_3, hl200_3, hi200_3⟩ := at_T26 (Kd.V_reads' HO_193003.out).2.2 x9_3 p200 q200
                      cases e200
                      obtain ⟨ce200, hce200, hMe200, hcc200⟩ := Kd.V_get HO_193003.out z26 x9_3 p200 (by first | exact q200 | exact of_decide_eq_true (by first | (with_reducible assumption) | assumption) | (have e_ := (Kd.V_reads' HO_193003.out).1; omega))
                      obtain ⟨ua200_3, uc200_3, rfl, ul200_3, ge200_3⟩ := k26_openF hMe200
                      have hv200_3 := hcc200 3 _ rfl
                      rw [add_field _ _ 3 (by omega)] at hv200_3
                      replace hv200_3 := Option.some.inj (hv200_3.symm.trans hx200_3)
                      injection hv200_3 with hva_ hvn_ hvc_
                      rw [hva_] at ge200_3
                      rw [hvc_] at ul200_3
                      have HL200_3 := Aside0.mk (show Kd.V k26 26 _ w.heap.size _ _ ((rd_T26 x193003_2 x9_3).f3) from Kd.V_mk ul200_3 ge200_3)
                      clear hva_ hvn_ hvc_ ge200_3 ul200_3
                      clear hcc200 hce200
                      have HR200_3 := Aside0.mk hi200_3
                      have HC200_3 := Aside0.mk hl200_3
                      clear hi200_3 hl200_3
                      replace p200 := eq_true p200
                      replace q200 := eq_true q200
                      go_wp2
                      go_roundg k3
                      case measure => have := HJ2.out; have := HK2.out; have := HK3.out; omega
                      case rel => exact ⟨(x7_3), (wrap64 (x8_3 + ((rd_T26 x193003_2 x9_3).f2))), (wrap64 (x9_3 + 1)), (by first | rfl | (simp; done) | (simp [*]; done)), (by first | rfl | (simp; done) | (simp [*]; done)), (by first | rfl | (simp; done) | (simp [*]; done)), H', ⟨by have := HJ2.out; have := HK2.out; have := HK3.out; omega⟩, ⟨by (with_reducible repeat (first | apply Kd.R_alloc | apply Kd.R_drewN | apply Kd.R_drew)); exact HO_5.out⟩, ⟨by (with_reducible repeat (first | apply Kd.V_alloc | apply Kd.V_drewN | apply Kd.V_drew)); exact HO_193003.out⟩, ⟨by (with_reducible repeat (first | refine blk_drewN ?_ _ | refine blk_drew ?_ | refine blk_alloc ?_ _)); exact BK192.out⟩, ⟨by repeat (first | (with_reducible first | exact HB.out | apply below_alloc | apply pw_below_drewN | apply below_drew1 | refine below_set ?_ GE192.out) | exact HB.out)⟩⟩
                    · rw [if_neg c30] at H
                      exact absurd H (by simp)
                · rw [if_neg c16] at H
                  have c16b0 : decide (x9_3 < (x193003_2.length : Int)) = false := decide_eq_false c16
                  clear c16
                  by_cases c33 : x7_3 < 0
                  · rw [if_pos c33] at H
                    have c33b0 : decide (x7_3 < 0) = true := decide_eq_true c33
                    clear c33
                    obtain rfl := Option.some.inj H
                    have hcz34_0 : wr.cell? ⟨gb192, 0, none⟩ = some (.int .u8 x193000_2) := (blk_cell BK192.out 0).trans rfl
                    have hcz34_1 : wr.cell? ⟨gb192, 1, none⟩ = some (.int .u8 x193001_2) := (blk_cell BK192.out 1).trans rfl
                    have hcz34_2 : wr.cell? ⟨gb192, 2, none⟩ = some (.int .i64 x193002_2) := (blk_cell BK192.out 2).trans rfl
                    have hcz34_3 : wr.cell? ⟨gb192, 3, none⟩ = some (u193003) := (blk_cell BK192.out 3).trans rfl
                    have hfz34_0 := blk_frozen BK192.out 0
                    have hfz34_1 := blk_frozen BK192.out 1
                    have hfz34_2 := blk_frozen BK192.out 2
                    have hfz34_3 := blk_frozen BK192.out 3
                    obtain ⟨Ao35, co35, eo35⟩ := Kd.V_slice HO_193003.out
                    subst eo35
                    go_wp2
                    go_ret
                    exact ⟨_, by first | rfl | (simp [errW_none, errW_some] <;> rfl) | (simp [*, errW_none, errW_some] <;> rfl), by (with_reducible repeat (first | apply Kd.R_alloc | apply Kd.R_drewN | apply Kd.R_drew)); exact HO_5.out, by repeat (first | (with_reducible first | exact HB.out | apply below_alloc | apply pw_below_drewN | apply below_drew1 | refine below_set ?_ GE192.out) | exact HB.out)⟩
                  · rw [if_neg c33] at H
                    have c33b0 : decide (x7_3 < 0) = false := decide_eq_false c33
                    clear c33
                    by_cases c36 : x5_2.length < 17592186044416
                    · rw [if_pos c36] at H
                      have LMc36 := Aside0.mk c36
                      clear c36
                      obtain ⟨y201, hy201⟩ : ∃ y_ : List Int, y_ = (x5_2 ++ [x7_3]) := ⟨_, rfl⟩
                      replace H : (if 0 ≤ x7_3 then (if x7_3 < (x193003_2.length : Int) then (glossatorref15_At.l0 k3 a1 y201 x8_3 ((rd_T26 x193003_2 x7_3).f0) ((rd_T26 x193003_2 x7_3).f1) ((rd_T26 x193003_2 x7_3).f2) ((rd_T26 x193003_2 x7_3).f3)) else (none)) else (none)) = some r := by first | (rw [hy201]; with_reducible exact H) | (have H2_ := (Option.bind_some _ _).symm.trans H; rw [hy201]; with_reducible exact H2_) | (have H2_ := (Option.bind_some _ _).symm.trans H; with_reducible exact H2_) | with_reducible exact H | (rw [hy201]; exact H) | exact H
                      have Ny201 := Aside0.mk hy201
                      clear hy201
                      by_cases c37 : 0 ≤ x7_3
                      · rw [if_pos c37] at H
                        have c37b0 : decide (0 ≤ x7_3) = true := decide_eq_true c37
                        clear c37
                        by_cases c38 : x7_3 < (x193003_2.length : Int)
                        · rw [if_pos c38] at H
                          have c38b0 : decide (x7_3 < (x193003_2.length : Int)) = true := decide_eq_true c38
                          clear c38
                          have H' := Aside0.mk H
                          clear H
                          have hcz39_0 : wr.cell? ⟨gb192, 0, none⟩ = some (.int .u8 x193000_2) := (blk_cell BK192.out 0).trans rfl
                          have hcz39_1 : wr.cell? ⟨gb192, 1, none⟩ = some (.int .u8 x193001_2) := (blk_cell BK192.out 1).trans rfl
                          have hcz39_2 : wr.cell? ⟨gb192, 2, none⟩ = some (.int .i64 x193002_2) := (blk_cell BK192.out 2).trans rfl
                          have hcz39_3 : wr.cell? ⟨gb192, 3, none⟩ = some (u193003) := (blk_cell BK192.out 3).trans rfl
                          have hfz39_0 := blk_frozen BK192.out 0
                          have hfz39_1 := blk_frozen BK192.out 1
                          have hfz39_2 := blk_frozen BK192.out 2
                          have hfz39_3 := blk_frozen BK192.out 3
                          obtain ⟨Ao40, co40, eo40⟩ := Kd.V_slice HO_193003.out
                          subst eo40
                          go_wp2_with (first | ((with_reducible refine gate_builtin (b := .append) (xs := #[.tmp 58, .tmp 60]) rfl ?_); at_builtin; refine Kd.R_append (Kd.int .i64) (w0 := w) w.heap.size rfl (.tmp 58) (.tmp 60) 23 3 (.int .i64 0) 8 rfl Try.underlying23 info3 rfl (by decide) (by omega) u5 x5_2 x7_3 [.int .i64 x7_3] (fun k_ => (w.heap.size ≤ k_)) (fun _ => False) rfl rfl ?aP (fun _ hk => hk.elim) ?aF ?aO ?aB ?aS ?aL ?_; (case aP => exact rfl); (case aB => exact (by repeat (first | (with_reducible first | exact HB.out | apply below_alloc | apply pw_below_drewN | apply below_drew1 | refine below_set ?_ GE192.out) | exact HB.out))); (case aF => exact (fun k_ hk => (Nat.le_trans (below_size (by repeat (first | (with_reducible first | exact HB.out | apply below_alloc | apply pw_below_drewN | apply below_drew1 | refine below_set ?_ GE192.out) | exact HB.out))) hk))); (case aO => exact (by (with_reducible repeat (first | apply Kd.R_alloc | apply Kd.R_drewN | apply Kd.R_drew)); exact HO_5.out)); (case aS => exact (below_size (by repeat (first | (with_reducible first | exact HB.out | apply below_alloc | apply pw_below_drewN | apply below_drew1 | refine below_set ?_ GE192.out) | exact HB.out)))); (case aL => have := LMc36.out; omega); intro v202 w41 ho hb hg hat; rw [← Ny201.out] at ho; have n0_ := Aside0.mk (Kd.V_afterv (ok := (fun k_ => (P0_3_ k_ ∨ w.heap.size ≤ k_) ∧ k_ ≠ gb192)) (by (with_reducible repeat (first | apply Kd.V_alloc | apply Kd.V_drewN | apply Kd.V_drew)); exact Kd.V_mono HO_193003.out (fun _ hk => ⟨⟨hk.1, hk.2.2⟩, hk.2.1⟩)) hg hat); have n1_ := Aside0.mk (blk_grown (g := gb192) (o := .cells #[.int .u8 x193000_2, .int .u8 x193001_2, .int .i64 x193002_2, .slice Ao40 x193003_2.length co40] 26 (0, 0)) (by (with_reducible repeat (first | refine blk_drewN ?_ _ | refine blk_drew ?_ | refine blk_alloc ?_ _)); exact BK192.out) hg (Kd.R_ne HO_5.out BK192.out (by decide))); have n2_ := Aside0.mk (hb); have n3_ := Aside0.mk (ho); clear HO_193003; clear BK192; clear HB; clear HO_5; have HO_193003 := n0_; have BK192 := n1_; have HB := n2_; have HO203 := n3_; clear n0_ n1_ n2_ n3_; clear ho hb hg hat; have hcz42_0 : w41.cell? ⟨gb192, 0, none⟩ = some (.int .u8 x193000_2) := (blk_cell BK192.out 0).trans rfl; have hcz42_1 : w41.cell? ⟨gb192, 1, none⟩ = some (.int .u8 x193001_2) := (blk_cell BK192.out 1).trans rfl; have hcz42_2 : w41.cell? ⟨gb192, 2, none⟩ = some (.int .i64 x193002_2) := (blk_cell BK192.out 2).trans rfl; have hcz42_3 : w41.cell? ⟨gb192, 3, none⟩ = some (.slice Ao40 x193003_2.length co40) := (blk_cell BK192.out 3).trans rfl; have hfz42_0 := blk_frozen BK192.out 0; have hfz42_1 := blk_frozen BK192.out 1; have hfz42_2 := blk_frozen BK192.out 2; have hfz42_3 := blk_frozen BK192.out 3; have p204 : 0 ≤ (x7_3 : Int) := of_decide_eq_true (by first | (with_reducible assumption) | assumption); have q204 : x7_3 < (x193003_2.length : Int) := of_decide_eq_true (by first | (with_reducible assumption) | assumption); obtain ⟨ad204, A204_3, c204_3, e204, hx204_0, hx204_1, hx204_2, hx204_3, hl204_3, hi204_3⟩ := at_T26 (Kd.V_reads' HO_193003.out).2.2 x7_3 p204 q204; cases e204; obtain ⟨ce204, hce204, hMe204, hcc204⟩ := Kd.V_get HO_193003.out z26 x7_3 p204 (by first | exact q204 | exact of_decide_eq_true (by first | (with_reducible assumption) | assumption) | (have e_ := (Kd.V_reads' HO_193003.out).1; omega)); obtain ⟨ua204_3, uc204_3, rfl, ul204_3, ge204_3⟩ := k26_openF hMe204; have hv204_3 := hcc204 3 _ rfl; rw [add_field _ _ 3 (by omega)] at hv204_3; replace hv204_3 := Option.some.inj (hv204_3.symm.trans hx204_3); injection hv204_3 with hva_ hvn_ hvc_; rw [hva_] at ge204_3; rw [hvc_] at ul204_3; have HL204_3 := Aside0.mk (show Kd.V k26 26 _ w.heap.size _ _ ((rd_T26 x193003_2 x7_3).f3) from Kd.V_mk ul204_3 ge204_3); clear hva_ hvn_ hvc_ ge204_3 ul204_3; clear hcc204 hce204; have HR204_3 := Aside0.mk hi204_3; have HC204_3 := Aside0.mk hl204_3; clear hi204_3 hl204_3; replace p204 := eq_true p204; replace q204 := eq_true q204))
                          go_roundg k3
                          case measure => have := HJ2.out; have := HK2.out; have := HK3.out; omega
                          case rel => exact ⟨(y201), (x8_3), ((rd_T26 x193003_2 x7_3).f0), ((rd_T26 x193003_2 x7_3).f1), ((rd_T26 x193003_2 x7_3).f2), ((rd_T26 x193003_2 x7_3).f3), (.slice A204_3 ((rd_T26 x193003_2 x7_3).f3).length c204_3), (by first | rfl | (simp; done) | (simp [*]; done)), H', ⟨by have := HJ2.out; have := HK2.out; have := HK3.out; omega⟩, ⟨by (with_reducible repeat (first | apply Kd.R_alloc | apply Kd.R_drewN | apply Kd.R_drew)); exact Kd.R_mono (Kd.R_far (p := ⟨gb192, 3, none⟩) (Kd.R_far (p := ⟨gb192, 2, none⟩) (Kd.R_far (p := ⟨gb192, 1, none⟩) (Kd.R_far (p := ⟨gb192, 0, none⟩) (Kd.R_types HO203.out BK192.out (by decide)) (fun _ hk => hk.2) (.int .u8 ((rd_T26 x193003_2 x7_3).f0))) (fun _ hk => hk.2) (.int .u8 ((rd_T26 x193003_2 x7_3).f1))) (fun _ hk => hk.2) (.int .i64 ((rd_T26 x193003_2 x7_3).f2))) (fun _ hk => hk.2) (.slice A204_3 ((rd_T26 x193003_2 x7_3).f3).length c204_3)) (fun _ hk => hk.1)⟩, ⟨by (with_reducible repeat (first | apply Kd.V_alloc | apply Kd.V_drewN | apply Kd.V_drew)); exact Kd.V_mono (Kd.V_far (p := ⟨gb192, 3, none⟩) (Kd.V_far (p := ⟨gb192, 2, none⟩) (Kd.V_far (p := ⟨gb192, 1, none⟩) (Kd.V_far (p := ⟨gb192, 0, none⟩) (Kd.V_mono HL204_3.out (fun k_ hk => (⟨hk, hk.1.2⟩ : _ ∧ k_ ≠ gb192))) (fun _ hk => hk.2) (.int .u8 ((rd_T26 x193003_2 x7_3).f0))) (fun _ hk => hk.2) (.int .u8 ((rd_T26 x193003_2 x7_3).f1))) (fun _ hk => hk.2) (.int .i64 ((rd_T26 x193003_2 x7_3).f2))) (fun _ hk => hk.2) (.slice A204_3 ((rd_T26 x193003_2 x7_3).f3).length c204_3)) (fun _ hk => ⟨hk.1.1.1, ⟨hk.1.2, hk.1.1.2⟩⟩)⟩, ⟨by (with_reducible repeat (first | refine blk_drewN ?_ _ | refine blk_drew ?_ | refine blk_alloc ?_ _)); refine blk_put (cs := #[.int .u8 ((rd_T26 x193003_2 x7_3).f0), .int .u8 ((rd_T26 x193003_2 x7_3).f1), .int .i64 ((rd_T26 x193003_2 x7_3).f2), .slice (some ad204) x193003_2.length co40]) ?_ 3 _ rfl; (with_reducible repeat (first | refine blk_drewN ?_ _ | refine blk_drew ?_ | refine blk_alloc ?_ _)); refine blk_put (cs := #[.int .u8 ((rd_T26 x193003_2 x7_3).f0), .int .u8 ((rd_T26 x193003_2 x7_3).f1), .int .i64 x193002_2, .slice (some ad204) x193003_2.length co40]) ?_ 2 _ rfl; (with_reducible repeat (first | refine blk_drewN ?_ _ | refine blk_drew ?_ | refine blk_alloc ?_ _)); refine blk_put (cs := #[.int .u8 ((rd_T26 x193003_2 x7_3).f0), .int .u8 x193001_2, .int .i64 x193002_2, .slice (some ad204) x193003_2.length co40]) ?_ 1 _ rfl; (with_reducible repeat (first | refine blk_drewN ?_ _ | refine blk_drew ?_ | refine blk_alloc ?_ _)); refine blk_put (cs := #[.int .u8 x193000_2, .int .u8 x193001_2, .int .i64 x193002_2, .slice (some ad204) x193003_2.length co40]) ?_ 0 _ rfl; (with_reducible repeat (first | refine blk_drewN ?_ _ | refine blk_drew ?_ | refine blk_alloc ?_ _)); exact BK192.out⟩, ⟨by repeat (first | (with_reducible first | exact HB.out | apply below_alloc | apply pw_below_drewN | apply below_drew1 | refine below_set ?_ GE192.out) | exact HB.out)⟩⟩
                        · rw [if_neg c38] at H
                          exact absurd H (by simp)
                      · rw [if_neg c37] at H
                        exact absurd H (by simp)
                    · rw [if_neg c36] at H
                      exact absurd H (by simp)
end Go.Proofs.Ytcfeijdcanpflaa.H
