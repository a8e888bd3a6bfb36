-- printed by wip/printx.py, a call of the kit's printer over this seat (with contracts of our own for the functions that it does not take)
import Derived.Test.YtobgkpnigjfhmaaDoorQHx0
import Derived.Test.YtobgkpnigjfhmaaDoorQHxglossatorref15Right
import Derived.Test.YtobgkpnigjfhmaaDoorQHxglossatorref22kind
import Derived.Test.YtobgkpnigjfhmaaDoorQHxglossatorref22name
import Derived.Test.YtobgkpnigjfhmaaDoorQHTreeAll
namespace Go.Proofs.YtobgkpnigjfhmaaDoor.H
open Go.RowKit Go.Proofs.YtobgkpnigjfhmaaDoorW.PrintWords Go.Proofs.YtobgkpnigjfhmaaDoorW.PrintLast Go.Proofs.YtobgkpnigjfhmaaDoorW.PrintMore
attribute [local go_sem] max2_int min2_int max_two min_two max_three min_three max_four min_four   -- for this text's walks alone
set_option linter.unusedVariables false
set_option linter.unusedSimpArgs false
mutual
def glossatorref22_Of.j0 : Nat → Bool → Int → Int → Int → List (S29) → List (S72) → List (S43) → Option ((List (S57)) × Int)
  | 0, _, _, _, _, _, _, _ => none
  | k + 1, x27, x165000, x165001, x165002, x165003, x166000, x166001 => if x27 = true then (some (([] : List (S57)), 150)) else ((glossatorref15_All.f k x165000 x165001 x165002 x165003).bind fun t167 => (glossatorref22_Of.l0 k t167 ([] : List (S57)) 0 x166000 x166001))
def glossatorref22_Of.l0 : Nat → List (S85) → List (S57) → Int → List (S72) → List (S43) → Option ((List (S57)) × Int)
  | 0, _, _, _, _, _ => none
  | k + 1, x8, x9, x10, x166000, x166001 => if x10 < (x8.length : Int) then (if 0 ≤ x10 then (if (((rd_T85 x8 x10).f0.f3).length : Int) > 0 then (glossatorref22_Of.l0 k x8 x9 (wrap64 (x10 + 1)) x166000 x166001) else ((glossatorref22_kind.f k ((rd_T85 x8 x10).f0.f0)).bind fun t172 => (if ((rd_T85 x8 x10).f0.f0) = 6 then ((glossatorref22_name.f k x166000 x166001 ((rd_T85 x8 x10).f1.f0) ((rd_T85 x8 x10).f1.f1)).bind fun bt175 => (if bt175.1 ≥ 0 then (if x9.length < 4398046511104 then (glossatorref22_Of.l0 k x8 (x9 ++ [(⟨(⟨(rd_T85 x8 x10).f1.f0, (rd_T85 x8 x10).f1.f1⟩ : S41), bt175.1, bt175.2⟩ : S57)]) (wrap64 (x10 + 1)) x166000 x166001) else (none)) else (glossatorref22_Of.l0 k x8 x9 (wrap64 (x10 + 1)) x166000 x166001))) else (if t172 ≥ 0 then (if x9.length < 4398046511104 then (glossatorref22_Of.l0 k x8 (x9 ++ [(⟨(⟨(rd_T85 x8 x10).f1.f0, (rd_T85 x8 x10).f1.f1⟩ : S41), t172, 0⟩ : S57)]) (wrap64 (x10 + 1)) x166000 x166001) else (none)) else (glossatorref22_Of.l0 k x8 x9 (wrap64 (x10 + 1)) x166000 x166001))))) else (none)) else (some (x9, 0))
end
def glossatorref22_Of.f (k : Nat) (a0 : ByteArray) (a1_0 : Int) (a1_1 : Int) (a1_2 : Int) (l1_3 : List (S29)) (l2_0 : List (S72)) (l2_1 : List (S43)) : Option ((List (S57)) × Int) := (glossatorref15_Right.f k a1_0 a1_1 a1_2 l1_3).bind fun t166 => (if t166 = true then (if a1_0 = 51 then (glossatorref22_Of.j0 k (a1_2 != (a0.size : Int)) a1_0 a1_1 a1_2 l1_3 l2_0 l2_1) else (glossatorref22_Of.j0 k true a1_0 a1_1 a1_2 l1_3 l2_0 l2_1)) else (glossatorref22_Of.j0 k true a1_0 a1_1 a1_2 l1_3 l2_0 l2_1))
theorem glossatorref22_Of.mono_l : ∀ k, (∀ y0 y1 y2 y3 y4 y5 y6, LeO (glossatorref22_Of.j0 k y0 y1 y2 y3 y4 y5 y6) (glossatorref22_Of.j0 (k + 1) y0 y1 y2 y3 y4 y5 y6)) ∧ (∀ y0 y1 y2 y3 y4, LeO (glossatorref22_Of.l0 k y0 y1 y2 y3 y4) (glossatorref22_Of.l0 (k + 1) y0 y1 y2 y3 y4))
  | 0 => ⟨fun _ _ _ _ _ _ _ r h => by simp [glossatorref22_Of.j0] at h, fun _ _ _ _ _ r h => by simp [glossatorref22_Of.l0] at h⟩
  | k + 1 => by
    obtain ⟨ih0, ih1⟩ := glossatorref22_Of.mono_l k
    refine ⟨?_, ?_⟩
    · intro y0 y1 y2 y3 y4 y5 y6
      unfold glossatorref22_Of.j0
      repeat' first
      | (with_reducible exact ih0 _ _ _ _ _ _ _)
      | (with_reducible exact ih1 _ _ _ _ _)
      | (with_reducible exact glossatorref15_All.mono _ _ _ _ _)
      | (with_reducible exact glossatorref15_Right.mono _ _ _ _ _)
      | (with_reducible exact glossatorref22_kind.mono _ _)
      | (with_reducible exact glossatorref22_name.mono _ _ _ _ _)
      | (with_reducible exact LeO.refl _)
      | (with_reducible exact LeO.none _)
      | (with_reducible refine LeO.ite ?_ ?_)
      | (with_reducible refine LeO.bind ?_ (fun _ => ?_))
      | exact ih0 _ _ _ _ _ _ _
      | exact ih1 _ _ _ _ _
      | exact glossatorref15_All.mono _ _ _ _ _
      | exact glossatorref15_Right.mono _ _ _ _ _
      | exact glossatorref22_kind.mono _ _
      | exact glossatorref22_name.mono _ _ _ _ _
      | exact LeO.none _
      | refine LeO.ite ?_ ?_
      | refine LeO.bind ?_ (fun _ => ?_)
    · intro y0 y1 y2 y3 y4
      unfold glossatorref22_Of.l0
      repeat' first
      | (with_reducible exact ih0 _ _ _ _ _ _ _)
      | (with_reducible exact ih1 _ _ _ _ _)
      | (with_reducible exact glossatorref15_All.mono _ _ _ _ _)
      | (with_reducible exact glossatorref15_Right.mono _ _ _ _ _)
      | (with_reducible exact glossatorref22_kind.mono _ _)
      | (with_reducible exact glossatorref22_name.mono _ _ _ _ _)
      | (with_reducible exact LeO.refl _)
      | (with_reducible exact LeO.none _)
      | (with_reducible refine LeO.ite ?_ ?_)
      | (with_reducible refine LeO.bind ?_ (fun _ => ?_))
      | exact ih0 _ _ _ _ _ _ _
      | exact ih1 _ _ _ _ _
      | exact glossatorref15_All.mono _ _ _ _ _
      | exact glossatorref15_Right.mono _ _ _ _ _
      | exact glossatorref22_kind.mono _ _
      | exact glossatorref22_name.mono _ _ _ _ _
      | exact LeO.none _
      | refine LeO.ite ?_ ?_
      | refine LeO.bind ?_ (fun _ => ?_)
theorem glossatorref22_Of.mono : ∀ a0 a1 a2 a3 a4 a5 a6 k, LeO (glossatorref22_Of.f k a0 a1 a2 a3 a4 a5 a6) (glossatorref22_Of.f (k + 1) a0 a1 a2 a3 a4 a5 a6) := by
  intro a0 a1 a2 a3 a4 a5 a6 k
  obtain ⟨ih0, ih1⟩ := glossatorref22_Of.mono_l k
  unfold glossatorref22_Of.f
  repeat' first
      | (with_reducible exact ih0 _ _ _ _ _ _ _)
      | (with_reducible exact ih1 _ _ _ _ _)
      | (with_reducible exact glossatorref15_All.mono _ _ _ _ _)
      | (with_reducible exact glossatorref15_Right.mono _ _ _ _ _)
      | (with_reducible exact glossatorref22_kind.mono _ _)
      | (with_reducible exact glossatorref22_name.mono _ _ _ _ _)
      | (with_reducible exact LeO.refl _)
      | (with_reducible exact LeO.none _)
      | (with_reducible refine LeO.ite ?_ ?_)
      | (with_reducible refine LeO.bind ?_ (fun _ => ?_))
      | exact ih0 _ _ _ _ _ _ _
      | exact ih1 _ _ _ _ _
      | exact glossatorref15_All.mono _ _ _ _ _
      | exact glossatorref15_Right.mono _ _ _ _ _
      | exact glossatorref22_kind.mono _ _
      | exact glossatorref22_name.mono _ _ _ _ _
      | exact LeO.none _
      | refine LeO.ite ?_ ?_
      | refine LeO.bind ?_ (fun _ => ?_)
def glossatorref22_Of.T11 : Bool × List (List Nat × List Nat) := (true, [([], []), ([], []), ([], []), ([1, 2], [1, 2]), ([3], [3]), ([4], [4]), ([0, 5], [0, 5]), ([6], [6]), ([7], [7]), ([7], [7]), ([8, 6, 0, 1, 2, 3, 4, 5, 6, 7, 8], [8]), ([9, 10, 0, 1, 2, 3, 4, 5, 6, 7, 8, 9, 10], [9])])
def glossatorref22_Of.B11 : List Nat := [0, 0, 0, 6, 14, 30, 63, 127, 255, 255, 511, 2047]
theorem glossatorref22_Of.tab11 : rtab .any (opsOf Tryd.f12 11) = glossatorref22_Of.T11 := by kernel_rfl
theorem glossatorref22_Of.bits11 : waitsOk glossatorref22_Of.T11.2 glossatorref22_Of.B11 = true := by kernel_rfl
set_option maxHeartbeats 8000000 in
set_option maxRecDepth 100000 in
theorem glossatorref22_Of.calls (k : Nat) (a0 : ByteArray) (a1_0 : Int) (a1_1 : Int) (a1_2 : Int) (A1_3 : Option Addr) (c1_3 : Nat) (l1_3 : List (S29)) (A2_0 : Option Addr) (c2_0 : Nat) (l2_0 : List (S72)) (A2_1 : Option Addr) (c2_1 : Nat) (l2_1 : List (S43)) (r1 : List (S57)) (r2 : Int) (w : World) (hr1_3 : Kd.C k29 w A1_3 l1_3.length l1_3) (hc1_3 : l1_3.length ≤ c1_3) (hr2_0 : Kd.C k72 w A2_0 l2_0.length l2_0) (hc2_0 : l2_0.length ≤ c2_0) (hr2_1 : Kd.C k43 w A2_1 l2_1.length l2_1) (hc2_1 : l2_1.length ≤ c2_1) (h : glossatorref22_Of.f k a0 a1_0 a1_1 a1_2 l1_3 l2_0 l2_1 = some (r1, r2)) :
    Calls Tryd.prog 12 #[.string a0, .agg #[.int .u8 a1_0, .int .u8 a1_1, .int .i64 a1_2, .slice A1_3 l1_3.length c1_3], .agg #[.slice A2_0 l2_0.length c2_0, .slice A2_1 l2_1.length c2_1]] w fun e w' => ∃ v0_ : Value, e = .returned (.tuple #[v0_, .int .i64 r2]) ∧ Kd.R k57 57 w' w.heap.size (fun _ => True) v0_ r1 ∧ Below w.heap.size w w' := by
  have hu29 := Tryd.underlying29
  have hu26 := Tryd.underlying26
  have hu41 := Tryd.underlying41
  have hu57 := Tryd.underlying57
  have HR1_3 := Aside0.mk hr1_3
  have HC1_3 := Aside0.mk hc1_3
  clear hr1_3 hc1_3
  have HR2_0 := Aside0.mk hr2_0
  have HC2_0 := Aside0.mk hc2_0
  clear hr2_0 hc2_0
  have HR2_1 := Aside0.mk hr2_1
  have HC2_1 := Aside0.mk hc2_1
  clear hr2_1 hc2_1
  have HB := Aside0.mk (Below.refl w.heap.size w)
  have H : ((glossatorref15_Right.f k a1_0 a1_1 a1_2 l1_3).bind fun t166 => (if t166 = true then (if a1_0 = 51 then (glossatorref22_Of.j0 k (a1_2 != (a0.size : Int)) a1_0 a1_1 a1_2 l1_3 l2_0 l2_1) else (glossatorref22_Of.j0 k true a1_0 a1_1 a1_2 l1_3 l2_0 l2_1)) else (glossatorref22_Of.j0 k true a1_0 a1_1 a1_2 l1_3 l2_0 l2_1))) = some (r1, r2) := h
  clear h
  have HC4 := Aside0.mk H
  clear H
  go_enter Tryd.func12, Tryd.ntmps12
  go_upto_region 1 with (first | ((with_reducible refine gate_dst (N := 4) rfl ?_); (try (refine gate_guard (by rfl) ?_; dsimp only)); refine box_event ?hg (N := 4) ?hd (cs := #[.int .u8 a1_0, .int .u8 a1_1, .int .i64 a1_2, .slice A1_3 l1_3.length c1_3]) (t := 29) ?hr ?_; (case hd => rfl); (case hg => rfl); (case hr => first | (go_simp; done) | (go_simp; rfl)); intro gb164 hg w5 hbox hb; have n0_ := Aside0.mk (below_step (by repeat (first | (with_reducible first | exact HB.out | apply below_alloc | apply pw_below_drewN | apply below_drew1) | exact HB.out)) hb); have n1_ := Aside0.mk (hbox); have n2_ := Aside0.mk ((by rw [hg]; exact (below_size (by repeat (first | (with_reducible first | exact HB.out | apply below_alloc | apply pw_below_drewN | apply below_drew1) | exact HB.out))) : w.heap.size ≤ gb164)); have n3_ := Aside0.mk ((by rw [hg]; exact (below_size (by repeat (first | (with_reducible first | exact HB.out | apply below_alloc | apply pw_below_drewN | apply below_drew1) | exact HB.out))) : w.heap.size ≤ gb164)); clear HB; have HB := n0_; have BK164 := n1_; have GW164 := n2_; have GE164 := n3_; clear n0_ n1_ n2_ n3_; clear hb hbox hg) | ((with_reducible refine gate_dst (N := 5) rfl ?_); (try (refine gate_guard (by rfl) ?_; dsimp only)); refine box_event ?hg (N := 5) ?hd (cs := #[.slice A2_0 l2_0.length c2_0, .slice A2_1 l2_1.length c2_1]) (t := 26) ?hr ?_; (case hd => rfl); (case hg => rfl); (case hr => first | (go_simp; done) | (go_simp; rfl)); intro gb165 hg w6 hbox hb; have n0_ := Aside0.mk (blk_below (g := gb164) (o := .cells #[.int .u8 a1_0, .int .u8 a1_1, .int .i64 a1_2, .slice A1_3 l1_3.length c1_3] 29 (0, 0)) (by (with_reducible repeat (first | refine blk_drewN ?_ _ | refine blk_drew ?_ | refine blk_alloc ?_ _)); exact BK164.out) hb); have n1_ := Aside0.mk (below_step (by repeat (first | (with_reducible first | exact HB.out | apply below_alloc | apply pw_below_drewN | apply below_drew1 | refine below_set ?_ GE164.out) | exact HB.out)) hb); have n2_ := Aside0.mk (hbox); have n3_ := Aside0.mk ((by rw [hg]; exact (below_size (by repeat (first | (with_reducible first | exact HB.out | apply below_alloc | apply pw_below_drewN | apply below_drew1 | refine below_set ?_ GE164.out) | exact HB.out))) : w.heap.size ≤ gb165)); have n4_ := Aside0.mk ((by rw [hg]; exact (below_size (by repeat (first | (with_reducible first | exact HB.out | apply below_alloc | apply pw_below_drewN | apply below_drew1 | refine below_set ?_ GE164.out) | exact HB.out))) : w.heap.size ≤ gb165)); have n5_ := Aside0.mk ((by rw [hg]; exact Nat.ne_of_lt (blk_lt (g := gb164) (o := .cells #[.int .u8 a1_0, .int .u8 a1_1, .int .i64 a1_2, .slice A1_3 l1_3.length c1_3] 29 (0, 0)) (by (with_reducible repeat (first | refine blk_drewN ?_ _ | refine blk_drew ?_ | refine blk_alloc ?_ _)); exact BK164.out)) : gb164 ≠ gb165)); have n6_ := Aside0.mk ((by rw [hg]; exact Nat.ne_of_gt (blk_lt (g := gb164) (o := .cells #[.int .u8 a1_0, .int .u8 a1_1, .int .i64 a1_2, .slice A1_3 l1_3.length c1_3] 29 (0, 0)) (by (with_reducible repeat (first | refine blk_drewN ?_ _ | refine blk_drew ?_ | refine blk_alloc ?_ _)); exact BK164.out)) : gb165 ≠ gb164)); clear BK164; clear HB; have BK164 := n0_; have HB := n1_; have BK165 := n2_; have GW165 := n3_; have GE165 := n4_; have NB164_165 := n5_; have NB165_164 := n6_; clear n0_ n1_ n2_ n3_ n4_ n5_ n6_; clear hb hbox hg))
  (try simp only [Act.put, List.setIfInBounds_toArray, List.set_cons_zero, List.set_cons_succ])
  go_cut [27] (fun v27 wc => ∃ (kq : Nat) (x27_3 : Bool), v27 = .bool x27_3 ∧ Aside0 (glossatorref22_Of.j0 kq x27_3 a1_0 a1_1 a1_2 l1_3 l2_0 l2_1 = some (r1, r2)) ∧ Aside0 (kq ≤ k) ∧ Aside0 (wc.heap[gb164]? = some (.cells #[.int .u8 a1_0, .int .u8 a1_1, .int .i64 a1_2, (.slice A1_3 l1_3.length c1_3)] 29 (0, 0))) ∧ Aside0 (wc.heap[gb165]? = some (.cells #[(.slice A2_0 l2_0.length c2_0), (.slice A2_1 l2_1.length c2_1)] 26 (0, 0))) ∧ Aside0 (Below w.heap.size w wc))
  case first =>
    have H := HC4.out
    clear HC4
    replace H := Option.bind_eq_some_iff.mp H
    obtain ⟨t166, A70, H⟩ := H
    replace H : (if t166 = true then (if a1_0 = 51 then (glossatorref22_Of.j0 k (a1_2 != (a0.size : Int)) a1_0 a1_1 a1_2 l1_3 l2_0 l2_1) else (glossatorref22_Of.j0 k true a1_0 a1_1 a1_2 l1_3 l2_0 l2_1)) else (glossatorref22_Of.j0 k true a1_0 a1_1 a1_2 l1_3 l2_0 l2_1)) = some (r1, r2) := H
    have A7 := Aside0.mk A70
    clear A70
    by_cases c8 : t166 = true
    · subst c8
      have H1 : (if a1_0 = 51 then (glossatorref22_Of.j0 k (a1_2 != (a0.size : Int)) a1_0 a1_1 a1_2 l1_3 l2_0 l2_1) else (glossatorref22_Of.j0 k true a1_0 a1_1 a1_2 l1_3 l2_0 l2_1)) = some (r1, r2) := by rw [if_pos rfl] at H; exact H
      clear H
      have H := H1
      clear H1
      by_cases c9 : a1_0 = 51
      · rw [if_pos c9] at H
        have c9b0 : (a1_0 == 51) = true := beq_iff_eq.mpr c9
        have c9b1 : (a1_0 != 51) = false := bne_eq_false_iff_eq.mpr c9
        clear c9
        (first | rw [c9b0] | (simp only [i64_w, i32_w]; rw [c9b0]) | skip)
        have H' := Aside0.mk H
        clear H
        have hnb10 := NB164_165.out
        have hnc10 := NB165_164.out
        have hcz11_0 : w6.cell? ⟨gb164, 0, none⟩ = some (.int .u8 a1_0) := (blk_cell BK164.out 0).trans rfl
        have hcz11_1 : w6.cell? ⟨gb164, 1, none⟩ = some (.int .u8 a1_1) := (blk_cell BK164.out 1).trans rfl
        have hcz11_2 : w6.cell? ⟨gb164, 2, none⟩ = some (.int .i64 a1_2) := (blk_cell BK164.out 2).trans rfl
        have hcz11_3 : w6.cell? ⟨gb164, 3, none⟩ = some (.slice A1_3 l1_3.length c1_3) := (blk_cell BK164.out 3).trans rfl
        have hfz11_0 := blk_frozen BK164.out 0
        have hfz11_1 := blk_frozen BK164.out 1
        have hfz11_2 := blk_frozen BK164.out 2
        have hfz11_3 := blk_frozen BK164.out 3
        go_wp2_with (first | ((with_reducible refine gate_callee (f := 23) rfl ?_); refine goesL_ (some 14) rfl rfl Tryd.func23 (by kernel_rfl) rfl #[.agg #[.int .u8 a1_0, .int .u8 a1_1, .int .i64 a1_2, .slice A1_3 l1_3.length c1_3]] rfl (by (try simp only [List.map_toArray, List.map_cons, List.map_nil]); first | done | rfl | (simp only [List.length_drop, List.length_take]; rfl)) ?_; (with_reducible refine (glossatorref15_Right.calls k a1_0 a1_1 a1_2 _ _ l1_3 true _ ?side1 ?side2 A7.out).mono ?_); (case side1 => repeat (first | exact (Kd.C_below HR1_3.out HB.out) | (with_reducible refine Kd.C_alloc ?_ _) | (with_reducible refine Kd.C_drewN ?_ _) | (with_reducible refine Kd.C_drew ?_))); (case side2 => exact HC1_3.out); rintro e w12 ⟨rfl, hb⟩; refine ⟨_, rfl, ?_⟩; have n0_ := Aside0.mk (blk_below (g := gb164) (o := .cells #[.int .u8 a1_0, .int .u8 a1_1, .int .i64 a1_2, .slice A1_3 l1_3.length c1_3] 29 (0, 0)) (by (with_reducible repeat (first | refine blk_drewN ?_ _ | refine blk_drew ?_ | refine blk_alloc ?_ _)); exact BK164.out) hb); have n1_ := Aside0.mk (blk_below (g := gb165) (o := .cells #[.slice A2_0 l2_0.length c2_0, .slice A2_1 l2_1.length c2_1] 26 (0, 0)) (by (with_reducible repeat (first | refine blk_drewN ?_ _ | refine blk_drew ?_ | refine blk_alloc ?_ _)); exact BK165.out) hb); have n2_ := Aside0.mk (below_step (by repeat (first | (with_reducible first | exact HB.out | apply below_alloc | apply pw_below_drewN | apply below_drew1 | refine below_set ?_ GE164.out | refine below_set ?_ GE165.out) | exact HB.out)) hb); clear BK164; clear BK165; clear HB; have BK164 := n0_; have BK165 := n1_; have HB := n2_; clear n0_ n1_ n2_; (try clear hb); (try clear hb2); (try clear hk); (try clear hi); have hcz13_0 : w12.cell? ⟨gb164, 0, none⟩ = some (.int .u8 a1_0) := (blk_cell BK164.out 0).trans rfl; have hcz13_1 : w12.cell? ⟨gb164, 1, none⟩ = some (.int .u8 a1_1) := (blk_cell BK164.out 1).trans rfl; have hcz13_2 : w12.cell? ⟨gb164, 2, none⟩ = some (.int .i64 a1_2) := (blk_cell BK164.out 2).trans rfl; have hcz13_3 : w12.cell? ⟨gb164, 3, none⟩ = some (.slice A1_3 l1_3.length c1_3) := (blk_cell BK164.out 3).trans rfl; have hfz13_0 := blk_frozen BK164.out 0; have hfz13_1 := blk_frozen BK164.out 1; have hfz13_2 := blk_frozen BK164.out 2; have hfz13_3 := blk_frozen BK164.out 3))
        go_meet
        case rel => exact ⟨_, ((a1_2 != (a0.size : Int))), (by first | rfl | (simp; done) | (simp [*]; done)), H', ⟨by first | omega | exact Nat.le_refl _⟩, ⟨by (with_reducible repeat (first | refine blk_drewN ?_ _ | refine blk_drew ?_ | refine blk_alloc ?_ _)); exact BK164.out⟩, ⟨by (with_reducible repeat (first | refine blk_drewN ?_ _ | refine blk_drew ?_ | refine blk_alloc ?_ _)); exact BK165.out⟩, ⟨by repeat (first | (with_reducible first | exact HB.out | apply below_alloc | apply pw_below_drewN | apply below_drew1 | refine below_set ?_ GE164.out | refine below_set ?_ GE165.out) | exact HB.out)⟩⟩
      · rw [if_neg c9] at H
        have c9b0 : (a1_0 == 51) = false := beq_eq_false_iff_ne.mpr c9
        have c9b1 : (a1_0 != 51) = true := bne_iff_ne.mpr c9
        (first | rw [c9b0] | (simp only [i64_w, i32_w]; rw [c9b0]) | skip)
        have H' := Aside0.mk H
        clear H
        have hnb14 := NB164_165.out
        have hnc14 := NB165_164.out
        have hcz15_0 : w6.cell? ⟨gb164, 0, none⟩ = some (.int .u8 a1_0) := (blk_cell BK164.out 0).trans rfl
        have hcz15_1 : w6.cell? ⟨gb164, 1, none⟩ = some (.int .u8 a1_1) := (blk_cell BK164.out 1).trans rfl
        have hcz15_2 : w6.cell? ⟨gb164, 2, none⟩ = some (.int .i64 a1_2) := (blk_cell BK164.out 2).trans rfl
        have hcz15_3 : w6.cell? ⟨gb164, 3, none⟩ = some (.slice A1_3 l1_3.length c1_3) := (blk_cell BK164.out 3).trans rfl
        have hfz15_0 := blk_frozen BK164.out 0
        have hfz15_1 := blk_frozen BK164.out 1
        have hfz15_2 := blk_frozen BK164.out 2
        have hfz15_3 := blk_frozen BK164.out 3
        go_wp2_with (first | ((with_reducible refine gate_callee (f := 23) rfl ?_); refine goesL_ (some 14) rfl rfl Tryd.func23 (by kernel_rfl) rfl #[.agg #[.int .u8 a1_0, .int .u8 a1_1, .int .i64 a1_2, .slice A1_3 l1_3.length c1_3]] rfl (by (try simp only [List.map_toArray, List.map_cons, List.map_nil]); first | done | rfl | (simp only [List.length_drop, List.length_take]; rfl)) ?_; (with_reducible refine (glossatorref15_Right.calls k a1_0 a1_1 a1_2 _ _ l1_3 true _ ?side1 ?side2 A7.out).mono ?_); (case side1 => repeat (first | exact (Kd.C_below HR1_3.out HB.out) | (with_reducible refine Kd.C_alloc ?_ _) | (with_reducible refine Kd.C_drewN ?_ _) | (with_reducible refine Kd.C_drew ?_))); (case side2 => exact HC1_3.out); rintro e w16 ⟨rfl, hb⟩; refine ⟨_, rfl, ?_⟩; have n0_ := Aside0.mk (blk_below (g := gb164) (o := .cells #[.int .u8 a1_0, .int .u8 a1_1, .int .i64 a1_2, .slice A1_3 l1_3.length c1_3] 29 (0, 0)) (by (with_reducible repeat (first | refine blk_drewN ?_ _ | refine blk_drew ?_ | refine blk_alloc ?_ _)); exact BK164.out) hb); have n1_ := Aside0.mk (blk_below (g := gb165) (o := .cells #[.slice A2_0 l2_0.length c2_0, .slice A2_1 l2_1.length c2_1] 26 (0, 0)) (by (with_reducible repeat (first | refine blk_drewN ?_ _ | refine blk_drew ?_ | refine blk_alloc ?_ _)); exact BK165.out) hb); have n2_ := Aside0.mk (below_step (by repeat (first | (with_reducible first | exact HB.out | apply below_alloc | apply pw_below_drewN | apply below_drew1 | refine below_set ?_ GE164.out | refine below_set ?_ GE165.out) | exact HB.out)) hb); clear BK164; clear BK165; clear HB; have BK164 := n0_; have BK165 := n1_; have HB := n2_; clear n0_ n1_ n2_; (try clear hb); (try clear hb2); (try clear hk); (try clear hi); have hcz17_0 : w16.cell? ⟨gb164, 0, none⟩ = some (.int .u8 a1_0) := (blk_cell BK164.out 0).trans rfl; have hcz17_1 : w16.cell? ⟨gb164, 1, none⟩ = some (.int .u8 a1_1) := (blk_cell BK164.out 1).trans rfl; have hcz17_2 : w16.cell? ⟨gb164, 2, none⟩ = some (.int .i64 a1_2) := (blk_cell BK164.out 2).trans rfl; have hcz17_3 : w16.cell? ⟨gb164, 3, none⟩ = some (.slice A1_3 l1_3.length c1_3) := (blk_cell BK164.out 3).trans rfl; have hfz17_0 := blk_frozen BK164.out 0; have hfz17_1 := blk_frozen BK164.out 1; have hfz17_2 := blk_frozen BK164.out 2; have hfz17_3 := blk_frozen BK164.out 3))
        go_meet
        case rel => exact ⟨_, (true), (by first | rfl | (simp; done) | (simp [*]; done)), H', ⟨by first | omega | exact Nat.le_refl _⟩, ⟨by (with_reducible repeat (first | refine blk_drewN ?_ _ | refine blk_drew ?_ | refine blk_alloc ?_ _)); exact BK164.out⟩, ⟨by (with_reducible repeat (first | refine blk_drewN ?_ _ | refine blk_drew ?_ | refine blk_alloc ?_ _)); exact BK165.out⟩, ⟨by repeat (first | (with_reducible first | exact HB.out | apply below_alloc | apply pw_below_drewN | apply below_drew1 | refine below_set ?_ GE164.out | refine below_set ?_ GE165.out) | exact HB.out)⟩⟩
    · replace c8 := Bool.eq_false_iff.mpr c8
      subst c8
      have H1 : (glossatorref22_Of.j0 k true a1_0 a1_1 a1_2 l1_3 l2_0 l2_1) = some (r1, r2) := by rw [if_neg (show ¬ (false = true) by decide)] at H; exact H
      clear H
      have H := H1
      clear H1
      have H' := Aside0.mk H
      clear H
      have hnb18 := NB164_165.out
      have hnc18 := NB165_164.out
      have hcz19_0 : w6.cell? ⟨gb164, 0, none⟩ = some (.int .u8 a1_0) := (blk_cell BK164.out 0).trans rfl
      have hcz19_1 : w6.cell? ⟨gb164, 1, none⟩ = some (.int .u8 a1_1) := (blk_cell BK164.out 1).trans rfl
      have hcz19_2 : w6.cell? ⟨gb164, 2, none⟩ = some (.int .i64 a1_2) := (blk_cell BK164.out 2).trans rfl
      have hcz19_3 : w6.cell? ⟨gb164, 3, none⟩ = some (.slice A1_3 l1_3.length c1_3) := (blk_cell BK164.out 3).trans rfl
      have hfz19_0 := blk_frozen BK164.out 0
      have hfz19_1 := blk_frozen BK164.out 1
      have hfz19_2 := blk_frozen BK164.out 2
      have hfz19_3 := blk_frozen BK164.out 3
      go_wp2_with (first | ((with_reducible refine gate_callee (f := 23) rfl ?_); refine goesL_ (some 14) rfl rfl Tryd.func23 (by kernel_rfl) rfl #[.agg #[.int .u8 a1_0, .int .u8 a1_1, .int .i64 a1_2, .slice A1_3 l1_3.length c1_3]] rfl (by (try simp only [List.map_toArray, List.map_cons, List.map_nil]); first | done | rfl | (simp only [List.length_drop, List.length_take]; rfl)) ?_; (with_reducible refine (glossatorref15_Right.calls k a1_0 a1_1 a1_2 _ _ l1_3 false _ ?side1 ?side2 A7.out).mono ?_); (case side1 => repeat (first | exact (Kd.C_below HR1_3.out HB.out) | (with_reducible refine Kd.C_alloc ?_ _) | (with_reducible refine Kd.C_drewN ?_ _) | (with_reducible refine Kd.C_drew ?_))); (case side2 => exact HC1_3.out); rintro e w20 ⟨rfl, hb⟩; refine ⟨_, rfl, ?_⟩; have n0_ := Aside0.mk (blk_below (g := gb164) (o := .cells #[.int .u8 a1_0, .int .u8 a1_1, .int .i64 a1_2, .slice A1_3 l1_3.length c1_3] 29 (0, 0)) (by (with_reducible repeat (first | refine blk_drewN ?_ _ | refine blk_drew ?_ | refine blk_alloc ?_ _)); exact BK164.out) hb); have n1_ := Aside0.mk (blk_below (g := gb165) (o := .cells #[.slice A2_0 l2_0.length c2_0, .slice A2_1 l2_1.length c2_1] 26 (0, 0)) (by (with_reducible repeat (first | refine blk_drewN ?_ _ | refine blk_drew ?_ | refine blk_alloc ?_ _)); exact BK165.out) hb); have n2_ := Aside0.mk (below_step (by repeat (first | (with_reducible first | exact HB.out | apply below_alloc | apply pw_below_drewN | apply below_drew1 | refine below_set ?_ GE164.out | refine below_set ?_ GE165.out) | exact HB.out)) hb); clear BK164; clear BK165; clear HB; have BK164 := n0_; have BK165 := n1_; have HB := n2_; clear n0_ n1_ n2_; (try clear hb); (try clear hb2); (try clear hk); (try clear hi)))
      go_meet
      case rel => exact ⟨_, (true), (by first | rfl | (simp; done) | (simp [*]; done)), H', ⟨by first | omega | exact Nat.le_refl _⟩, ⟨by (with_reducible repeat (first | refine blk_drewN ?_ _ | refine blk_drew ?_ | refine blk_alloc ?_ _)); exact BK164.out⟩, ⟨by (with_reducible repeat (first | refine blk_drewN ?_ _ | refine blk_drew ?_ | refine blk_alloc ?_ _)); exact BK165.out⟩, ⟨by repeat (first | (with_reducible first | exact HB.out | apply below_alloc | apply pw_below_drewN | apply below_drew1 | refine below_set ?_ GE164.out | refine below_set ?_ GE165.out) | exact HB.out)⟩⟩
  case rest =>
    clear HC4
    try clear c1
    try clear c2
    try clear p2
    try clear c8
    try clear c9
    try clear c9b0
    try clear c9b1
    try clear c10
    try clear c12
    try clear c14
    try clear c18
    try clear hcz11_0
    try clear hcz11_1
    try clear hcz11_2
    try clear hcz11_3
    try clear hcz13_0
    try clear hcz13_1
    try clear hcz13_2
    try clear hcz13_3
    try clear hcz15_0
    try clear hcz15_1
    try clear hcz15_2
    try clear hcz15_3
    try clear hcz17_0
    try clear hcz17_1
    try clear hcz17_2
    try clear hcz17_3
    try clear hcz19_0
    try clear hcz19_1
    try clear hcz19_2
    try clear hcz19_3
    try clear hfz11_0
    try clear hfz11_1
    try clear hfz11_2
    try clear hfz11_3
    try clear hfz13_0
    try clear hfz13_1
    try clear hfz13_2
    try clear hfz13_3
    try clear hfz15_0
    try clear hfz15_1
    try clear hfz15_2
    try clear hfz15_3
    try clear hfz17_0
    try clear hfz17_1
    try clear hfz17_2
    try clear hfz17_3
    try clear hfz19_0
    try clear hfz19_1
    try clear hfz19_2
    try clear hfz19_3
    obtain ⟨kq, x27_3, rfl, HA, HJ3, BK164, BK165, HB⟩ := hcut
    cases kq with
    | zero => exact absurd HA.out (by simp [glossatorref22_Of.j0])
    | succ kj3 =>
      have H := HA.out
      clear HA
      simp only [glossatorref22_Of.j0] at H
      by_cases c21 : x27_3 = true
      · subst c21
        have H1 : (some (([] : List (S57)), 150)) = some (r1, r2) := by rw [if_pos rfl] at H; exact H
        clear H
        have H := H1
        clear H1
        simp only [Option.some.injEq, Prod.mk.injEq] at H
        obtain ⟨rfl, rfl⟩ := H
        go_wp2
        go_ret2
        exact ⟨_, by first | rfl | (simp [errW_none, errW_some] <;> rfl) | (simp [*, errW_none, errW_some] <;> rfl), by first | exact Kd.R_nil _ _ _ _ _ | exact Kd.N_nil _ _ _ _ _ | exact Kd.V_nil _ _ _ _ _ | exact Kd.Q_nil _ _ _ _ _ | exact Kd.S_nil _ _ _ _ _, by repeat (first | (with_reducible first | exact HB.out | apply below_alloc | apply pw_below_drewN | apply below_drew1 | refine below_set ?_ GE164.out | refine below_set ?_ GE165.out) | exact HB.out)⟩
      · replace c21 := Bool.eq_false_iff.mpr c21
        subst c21
        have H1 : ((glossatorref15_All.f kj3 a1_0 a1_1 a1_2 l1_3).bind fun t167 => (glossatorref22_Of.l0 kj3 t167 ([] : List (S57)) 0 l2_0 l2_1)) = some (r1, r2) := by rw [if_neg (show ¬ (false = true) by decide)] at H; exact H
        clear H
        have H := H1
        clear H1
        replace H := Option.bind_eq_some_iff.mp H
        obtain ⟨t167, A220, H⟩ := H
        replace H : (glossatorref22_Of.l0 kj3 t167 ([] : List (S57)) 0 l2_0 l2_1) = some (r1, r2) := H
        have A22 := Aside0.mk A220
        clear A220
        have H' := Aside0.mk H
        clear H
        have hnb23 := NB164_165.out
        have hnc23 := NB165_164.out
        have hcz24_0 : wc.cell? ⟨gb164, 0, none⟩ = some (.int .u8 a1_0) := (blk_cell BK164.out 0).trans rfl
        have hcz24_1 : wc.cell? ⟨gb164, 1, none⟩ = some (.int .u8 a1_1) := (blk_cell BK164.out 1).trans rfl
        have hcz24_2 : wc.cell? ⟨gb164, 2, none⟩ = some (.int .i64 a1_2) := (blk_cell BK164.out 2).trans rfl
        have hcz24_3 : wc.cell? ⟨gb164, 3, none⟩ = some (.slice A1_3 l1_3.length c1_3) := (blk_cell BK164.out 3).trans rfl
        have hfz24_0 := blk_frozen BK164.out 0
        have hfz24_1 := blk_frozen BK164.out 1
        have hfz24_2 := blk_frozen BK164.out 2
        have hfz24_3 := blk_frozen BK164.out 3
        go_wp2_with (first | ((with_reducible refine gate_callee (f := 24) rfl ?_); refine goesL_ (some 29) rfl rfl Tryd.func24 (by kernel_rfl) rfl #[.agg #[.int .u8 a1_0, .int .u8 a1_1, .int .i64 a1_2, .slice A1_3 l1_3.length c1_3]] rfl (by (try simp only [List.map_toArray, List.map_cons, List.map_nil]); first | done | rfl | (simp only [List.length_drop, List.length_take]; rfl)) ?_; (with_reducible refine (glossatorref15_All.calls kj3 a1_0 a1_1 a1_2 (fun k_ => k_ < w.heap.size) _ _ l1_3 t167 _ ?side1 A22.out).mono ?_); (case side1 => exact Kd.V_mk HC1_3.out (Kd.F_below (Kd.C_F k29_heap HR1_3.out) (by repeat (first | (with_reducible first | exact HB.out | apply below_alloc | apply pw_below_drewN | apply below_drew1 | refine below_set ?_ GE164.out | refine below_set ?_ GE165.out) | exact HB.out)))); rintro e w25 ⟨v168, rfl, ho0, hb⟩; refine ⟨_, rfl, ?_⟩; have n0_ := Aside0.mk (Kd.V_lower (Kd.V_mono (ok' := fun k_ => k_ ≠ gb164 ∧ k_ ≠ gb165) ho0 (fun k_ hk_ => ⟨Or.elim hk_ (fun hs_ => fun e_ => Nat.not_le.2 hs_ (by rw [e_]; exact GW164.out)) (fun hn_ => (Kd.freshB (g := gb164) (o := .cells #[.int .u8 a1_0, .int .u8 a1_1, .int .i64 a1_2, .slice A1_3 l1_3.length c1_3] 29 (0, 0)) (by (with_reducible repeat (first | refine blk_drewN ?_ _ | refine blk_drew ?_ | refine blk_alloc ?_ _)); exact BK164.out) k_ hn_)), Or.elim hk_ (fun hs_ => fun e_ => Nat.not_le.2 hs_ (by rw [e_]; exact GW165.out)) (fun hn_ => (Kd.freshB (g := gb165) (o := .cells #[.slice A2_0 l2_0.length c2_0, .slice A2_1 l2_1.length c2_1] 26 (0, 0)) (by (with_reducible repeat (first | refine blk_drewN ?_ _ | refine blk_drew ?_ | refine blk_alloc ?_ _)); exact BK165.out) k_ hn_))⟩)) (below_size (by repeat (first | (with_reducible first | exact HB.out | apply below_alloc | apply pw_below_drewN | apply below_drew1 | refine below_set ?_ GE164.out | refine below_set ?_ GE165.out) | exact HB.out)))); have n1_ := Aside0.mk (blk_below (g := gb164) (o := .cells #[.int .u8 a1_0, .int .u8 a1_1, .int .i64 a1_2, .slice A1_3 l1_3.length c1_3] 29 (0, 0)) (by (with_reducible repeat (first | refine blk_drewN ?_ _ | refine blk_drew ?_ | refine blk_alloc ?_ _)); exact BK164.out) hb); have n2_ := Aside0.mk (blk_below (g := gb165) (o := .cells #[.slice A2_0 l2_0.length c2_0, .slice A2_1 l2_1.length c2_1] 26 (0, 0)) (by (with_reducible repeat (first | refine blk_drewN ?_ _ | refine blk_drew ?_ | refine blk_alloc ?_ _)); exact BK165.out) hb); have n3_ := Aside0.mk (below_step (by repeat (first | (with_reducible first | exact HB.out | apply below_alloc | apply pw_below_drewN | apply below_drew1 | refine below_set ?_ GE164.out | refine below_set ?_ GE165.out) | exact HB.out)) hb); clear BK164; clear BK165; clear HB; have HO169 := n0_; have BK164 := n1_; have BK165 := n2_; have HB := n3_; clear n0_ n1_ n2_ n3_; (try clear hb); (try clear hb2); (try clear hk); (try clear hi); (try clear ho0)))
        go_loopg [9, 10] kj3 (fun kq v9 v10 w' => ∃ (x9_2 : List (S57)) (x10_2 : Int), v10 = .int .i64 x10_2 ∧ Aside0 (glossatorref22_Of.l0 kq t167 x9_2 x10_2 l2_0 l2_1 = some (r1, r2)) ∧ Aside0 (kq ≤ kj3) ∧ Aside0 (Kd.V k85 85 w' w.heap.size (fun k_ => some k_ ≠ (v9 : Value).ownBlock ∧ k_ ≠ gb164 ∧ k_ ≠ gb165) v168 t167) ∧ Aside0 (Kd.R k57 57 w' w.heap.size (fun _ => True) v9 x9_2) ∧ Aside0 (w'.heap[gb164]? = some (.cells #[.int .u8 a1_0, .int .u8 a1_1, .int .i64 a1_2, (.slice A1_3 l1_3.length c1_3)] 29 (0, 0))) ∧ Aside0 (w'.heap[gb165]? = some (.cells #[(.slice A2_0 l2_0.length c2_0), (.slice A2_1 l2_1.length c2_1)] 26 (0, 0))) ∧ Aside0 (Below w.heap.size w w'))
        case atStart => exact ⟨(([] : List (S57))), (0), (by first | rfl | (simp; done) | (simp [*]; done)), H', ⟨Nat.le_refl _⟩, ⟨by (with_reducible repeat (first | apply Kd.V_alloc | apply Kd.V_drewN | apply Kd.V_drew)); exact Kd.V_mono HO169.out (fun _ hk => ⟨(by simp [Value.ownBlock]), ⟨hk.1, hk.2⟩⟩)⟩, ⟨by first | exact Kd.R_nil _ _ _ _ _ | exact Kd.N_nil _ _ _ _ _ | exact Kd.V_nil _ _ _ _ _ | exact Kd.Q_nil _ _ _ _ _ | exact Kd.S_nil _ _ _ _ _⟩, ⟨by (with_reducible repeat (first | refine blk_drewN ?_ _ | refine blk_drew ?_ | refine blk_alloc ?_ _)); exact BK164.out⟩, ⟨by (with_reducible repeat (first | refine blk_drewN ?_ _ | refine blk_drew ?_ | refine blk_alloc ?_ _)); exact BK165.out⟩, ⟨by repeat (first | (with_reducible first | exact HB.out | apply below_alloc | apply pw_below_drewN | apply below_drew1 | refine below_set ?_ GE164.out | refine below_set ?_ GE165.out) | exact HB.out)⟩⟩
        case round =>
          clear H'
          try clear c1
          try clear c2
          try clear p2
          try clear c8
          try clear c9
          try clear c9b0
          try clear c9b1
          try clear c10
          try clear c12
          try clear c14
          try clear c18
          try clear c21
          try clear c23
          try clear c24
          try clear hcz11_0
          try clear hcz11_1
          try clear hcz11_2
          try clear hcz11_3
          try clear hcz13_0
          try clear hcz13_1
          try clear hcz13_2
          try clear hcz13_3
          try clear hcz15_0
          try clear hcz15_1
          try clear hcz15_2
          try clear hcz15_3
          try clear hcz17_0
          try clear hcz17_1
          try clear hcz17_2
          try clear hcz17_3
          try clear hcz19_0
          try clear hcz19_1
          try clear hcz19_2
          try clear hcz19_3
          try clear hcz24_0
          try clear hcz24_1
          try clear hcz24_2
          try clear hcz24_3
          try clear hfz11_0
          try clear hfz11_1
          try clear hfz11_2
          try clear hfz11_3
          try clear hfz13_0
          try clear hfz13_1
          try clear hfz13_2
          try clear hfz13_3
          try clear hfz15_0
          try clear hfz15_1
          try clear hfz15_2
          try clear hfz15_3
          try clear hfz17_0
          try clear hfz17_1
          try clear hfz17_2
          try clear hfz17_3
          try clear hfz19_0
          try clear hfz19_1
          try clear hfz19_2
          try clear hfz19_3
          try clear hfz24_0
          try clear hfz24_1
          try clear hfz24_2
          try clear hfz24_3
          try clear p2
          obtain ⟨x9_2, x10_2, rfl, HA, HK2, HO_8, HO_9, BK164, BK165, HB⟩ := hrel
          cases gk with
          | zero => exact absurd HA.out (by simp [glossatorref22_Of.l0])
          | succ k2 =>
            have H := HA.out
            clear HA
            simp only [glossatorref22_Of.l0] at H
            by_cases c26 : x10_2 < (t167.length : Int)
            · rw [if_pos c26] at H
              have c26b0 : decide (x10_2 < (t167.length : Int)) = true := decide_eq_true c26
              clear c26
              by_cases c27 : 0 ≤ x10_2
              · rw [if_pos c27] at H
                have c27b0 : decide (0 ≤ x10_2) = true := decide_eq_true c27
                clear c27
                by_cases c28 : (((rd_T85 t167 x10_2).f0.f3).length : Int) > 0
                · rw [if_pos c28] at H
                  have c28b0 : decide (0 < (((rd_T85 t167 x10_2).f0.f3).length : Int)) = true := decide_eq_true c28
                  have c28b1 : decide (0 < ((rd_T85 t167 x10_2).f0.f3).length) = true := decide_eq_true (by omega)
                  clear c28
                  have H' := Aside0.mk H
                  clear H
                  obtain ⟨Ao29, co29, eo29⟩ := Kd.V_slice HO_8.out
                  subst eo29
                  have p170 : 0 ≤ (x10_2 : Int) := of_decide_eq_true (by first | (with_reducible assumption) | assumption)
                  have q170 : x10_2 < (t167.length : Int) := of_decide_eq_true (by first | (with_reducible assumption) | assumption)
                  obtain ⟨ad170, A170_3, c170_3, e170, hx170_0, hx170_1, hx170_2, hx170_3, hx170_4, hx170_5, hx170_6, hl170_3, hi170_3⟩ := at_T85 (Kd.V_reads' HO_8.out).2.2 x10_2 p170 q170
                  cases e170
                  obtain ⟨ce170, hce170, hMe170, hcc170⟩ := Kd.V_get HO_8.out z85 x10_2 p170 (by first | exact q170 | exact of_decide_eq_true (by first | (with_reducible assumption) | assumption) | (have e_ := (Kd.V_reads' HO_8.out).1; omega))
                  obtain ⟨ua170_3, uc170_3, rfl, ul170_3, ge170_3⟩ := k85_openF hMe170
                  have hv170_3 := hcc170 3 _ rfl
                  rw [add_field _ _ 3 (by omega)] at hv170_3
                  replace hv170_3 := Option.some.inj (hv170_3.symm.trans hx170_3)
                  injection hv170_3 with hva_ hvn_ hvc_
                  rw [hva_] at ge170_3
                  rw [hvc_] at ul170_3
                  have HL170_3 := Aside0.mk (show Kd.V k29 29 _ w.heap.size _ _ ((rd_T85 t167 x10_2).f0.f3) from Kd.V_mk ul170_3 ge170_3)
                  clear hva_ hvn_ hvc_ ge170_3 ul170_3
                  clear hcc170 hce170
                  have HR170_3 := Aside0.mk hi170_3
                  have HC170_3 := Aside0.mk hl170_3
                  clear hi170_3 hl170_3
                  replace p170 := eq_true p170
                  replace q170 := eq_true q170
                  go_wp2
                  go_roundg k2
                  case measure => have := HJ3.out; have := HK2.out; omega
                  case rel => exact ⟨(x9_2), (wrap64 (x10_2 + 1)), (by first | rfl | (simp; done) | (simp [*]; done)), H', ⟨by have := HJ3.out; have := HK2.out; omega⟩, ⟨by (with_reducible repeat (first | apply Kd.V_alloc | apply Kd.V_drewN | apply Kd.V_drew)); exact HO_8.out⟩, ⟨by (with_reducible repeat (first | apply Kd.R_alloc | apply Kd.R_drewN | apply Kd.R_drew)); exact HO_9.out⟩, ⟨by (with_reducible repeat (first | refine blk_drewN ?_ _ | refine blk_drew ?_ | refine blk_alloc ?_ _)); exact BK164.out⟩, ⟨by (with_reducible repeat (first | refine blk_drewN ?_ _ | refine blk_drew ?_ | refine blk_alloc ?_ _)); exact BK165.out⟩, ⟨by repeat (first | (with_reducible first | exact HB.out | apply below_alloc | apply pw_below_drewN | apply below_drew1 | refine below_set ?_ GE164.out | refine below_set ?_ GE165.out) | exact HB.out)⟩⟩
                · rw [if_neg c28] at H
                  have c28b0 : decide (0 < (((rd_T85 t167 x10_2).f0.f3).length : Int)) = false := decide_eq_false c28
                  have c28b1 : decide (0 < ((rd_T85 t167 x10_2).f0.f3).length) = false := decide_eq_false (by omega)
                  clear c28
                  replace H := Option.bind_eq_some_iff.mp H
                  obtain ⟨t172, A300, H⟩ := H
                  replace H : (if ((rd_T85 t167 x10_2).f0.f0) = 6 then ((glossatorref22_name.f k2 l2_0 l2_1 ((rd_T85 t167 x10_2).f1.f0) ((rd_T85 t167 x10_2).f1.f1)).bind fun bt175 => (if bt175.1 ≥ 0 then (if x9_2.length < 4398046511104 then (glossatorref22_Of.l0 k2 t167 (x9_2 ++ [(⟨(⟨(rd_T85 t167 x10_2).f1.f0, (rd_T85 t167 x10_2).f1.f1⟩ : S41), bt175.1, bt175.2⟩ : S57)]) (wrap64 (x10_2 + 1)) l2_0 l2_1) else (none)) else (glossatorref22_Of.l0 k2 t167 x9_2 (wrap64 (x10_2 + 1)) l2_0 l2_1))) else (if t172 ≥ 0 then (if x9_2.length < 4398046511104 then (glossatorref22_Of.l0 k2 t167 (x9_2 ++ [(⟨(⟨(rd_T85 t167 x10_2).f1.f0, (rd_T85 t167 x10_2).f1.f1⟩ : S41), t172, 0⟩ : S57)]) (wrap64 (x10_2 + 1)) l2_0 l2_1) else (none)) else (glossatorref22_Of.l0 k2 t167 x9_2 (wrap64 (x10_2 + 1)) l2_0 l2_1))) = some (r1, r2) := H
                  have A30 := Aside0.mk A300
                  clear A300
                  by_cases c31 : ((rd_T85 t167 x10_2).f0.f0) = 6
                  · rw [if_pos c31] at H
                    have c31b0 : (((rd_T85 t167 x10_2).f0.f0) == 6) = true := beq_iff_eq.mpr c31
                    have c31b1 : (((rd_T85 t167 x10_2).f0.f0) != 6) = false := bne_eq_false_iff_eq.mpr c31
                    clear c31
                    replace H := Option.bind_eq_some_iff.mp H
                    obtain ⟨⟨t175, t176⟩, A320, H⟩ := H
                    replace H : (if t175 ≥ 0 then (if x9_2.length < 4398046511104 then (glossatorref22_Of.l0 k2 t167 (x9_2 ++ [(⟨(⟨(rd_T85 t167 x10_2).f1.f0, (rd_T85 t167 x10_2).f1.f1⟩ : S41), t175, t176⟩ : S57)]) (wrap64 (x10_2 + 1)) l2_0 l2_1) else (none)) else (glossatorref22_Of.l0 k2 t167 x9_2 (wrap64 (x10_2 + 1)) l2_0 l2_1)) = some (r1, r2) := H
                    have A32 := Aside0.mk A320
                    clear A320
                    by_cases c33 : t175 ≥ 0
                    · rw [if_pos c33] at H
                      have c33b0 : decide (0 ≤ t175) = true := decide_eq_true c33
                      clear c33
                      by_cases c34 : x9_2.length < 4398046511104
                      · rw [if_pos c34] at H
                        have LMc34 := Aside0.mk c34
                        clear c34
                        obtain ⟨y178, hy178⟩ : ∃ y_ : List (S57), y_ = (x9_2 ++ [(⟨(⟨(rd_T85 t167 x10_2).f1.f0, (rd_T85 t167 x10_2).f1.f1⟩ : S41), t175, t176⟩ : S57)]) := ⟨_, rfl⟩
                        replace H : (glossatorref22_Of.l0 k2 t167 y178 (wrap64 (x10_2 + 1)) l2_0 l2_1) = some (r1, r2) := by first | (rw [hy178]; with_reducible exact H) | (have H2_ := (Option.bind_some _ _).symm.trans H; rw [hy178]; with_reducible exact H2_) | (have H2_ := (Option.bind_some _ _).symm.trans H; with_reducible exact H2_) | with_reducible exact H | (rw [hy178]; exact H) | exact H
                        have Ny178 := Aside0.mk hy178
                        clear hy178
                        have H' := Aside0.mk H
                        clear H
                        obtain ⟨Ao35, co35, eo35⟩ := Kd.V_slice HO_8.out
                        subst eo35
                        have p170 : 0 ≤ (x10_2 : Int) := of_decide_eq_true (by first | (with_reducible assumption) | assumption)
                        have q170 : x10_2 < (t167.length : Int) := of_decide_eq_true (by first | (with_reducible assumption) | assumption)
                        obtain ⟨ad170, A170_3, c170_3, e170, hx170_0, hx170_1, hx170_2, hx170_3, hx170_4, hx170_5, hx170_6, hl170_3, hi170_3⟩ := at_T85 (Kd.V_reads' HO_8.out).2.2 x10_2 p170 q170
                        cases e170
                        obtain ⟨ce170, hce170, hMe170, hcc170⟩ := Kd.V_get HO_8.out z85 x10_2 p170 (by first | exact q170 | exact of_decide_eq_true (by first | (with_reducible assumption) | assumption) | (have e_ := (Kd.V_reads' HO_8.out).1; omega))
                        obtain ⟨ua170_3, uc170_3, rfl, ul170_3, ge170_3⟩ := k85_openF hMe170
                        have hv170_3 := hcc170 3 _ rfl
                        rw [add_field _ _ 3 (by omega)] at hv170_3
                        replace hv170_3 := Option.some.inj (hv170_3.symm.trans hx170_3)
                        injection hv170_3 with hva_ hvn_ hvc_
                        rw [hva_] at ge170_3
                        rw [hvc_] at ul170_3
                        have HL170_3 := Aside0.mk (show Kd.V k29 29 _ w.heap.size _ _ ((rd_T85 t167 x10_2).f0.f3) from Kd.V_mk ul170_3 ge170_3)
                        clear hva_ hvn_ hvc_ ge170_3 ul170_3
                        clear hcc170 hce170
                        have HR170_3 := Aside0.mk hi170_3
                        have HC170_3 := Aside0.mk hl170_3
                        clear hi170_3 hl170_3
                        replace p170 := eq_true p170
                        replace q170 := eq_true q170
                        have p171 : 0 ≤ (x10_2 : Int) := of_decide_eq_true (by first | (with_reducible assumption) | assumption)
                        have q171 : x10_2 < (t167.length : Int) := of_decide_eq_true (by first | (with_reducible assumption) | assumption)
                        obtain ⟨ad171, A171_3, c171_3, e171, hx171_0, hx171_1, hx171_2, hx171_3, hx171_4, hx171_5, hx171_6, hl171_3, hi171_3⟩ := at_T85 (Kd.V_reads' HO_8.out).2.2 x10_2 p171 q171
                        obtain rfl : ad170 = ad171 := (by injection e171)
                        obtain ⟨ce171, hce171, hMe171, hcc171⟩ := Kd.V_get HO_8.out z85 x10_2 p171 (by first | exact q171 | exact of_decide_eq_true (by first | (with_reducible assumption) | assumption) | (have e_ := (Kd.V_reads' HO_8.out).1; omega))
                        obtain ⟨ua171_3, uc171_3, rfl, ul171_3, ge171_3⟩ := k85_openF hMe171
                        have hv171_3 := hcc171 3 _ rfl
                        rw [add_field _ _ 3 (by omega)] at hv171_3
                        replace hv171_3 := Option.some.inj (hv171_3.symm.trans hx171_3)
                        injection hv171_3 with hva_ hvn_ hvc_
                        rw [hva_] at ge171_3
                        rw [hvc_] at ul171_3
                        have HL171_3 := Aside0.mk (show Kd.V k29 29 _ w.heap.size _ _ ((rd_T85 t167 x10_2).f0.f3) from Kd.V_mk ul171_3 ge171_3)
                        clear hva_ hvn_ hvc_ ge171_3 ul171_3
                        clear hcc171 hce171
                        have HR171_3 := Aside0.mk hi171_3
                        have HC171_3 := Aside0.mk hl171_3
                        clear hi171_3 hl171_3
                        replace p171 := eq_true p171
                        replace q171 := eq_true q171
                        have ea_ := Option.some.inj (hx170_3.symm.trans hx171_3)
                        injection ea_ with ea_ en_ ec_
                        subst ea_
                        subst ec_
                        clear en_
                        try go_wp2_with (first | ((with_reducible refine gate_callee (f := 25) rfl ?_); refine goesL_ (some 50) rfl rfl Tryd.func25 (by kernel_rfl) rfl #[.int .u8 ((rd_T85 t167 x10_2).f0.f0)] rfl (by (try simp only [List.map_toArray, List.map_cons, List.map_nil]); first | done | rfl | (simp only [List.length_drop, List.length_take]; rfl)) ?_; (with_reducible refine (glossatorref22_kind.calls k2 ((rd_T85 t167 x10_2).f0.f0) t172 _ A30.out).mono ?_); rintro e w' ⟨rfl, ⟨nd, rfl⟩⟩; refine ⟨_, rfl, ?_⟩; have p173 : 0 ≤ (x10_2 : Int) := of_decide_eq_true (by first | (with_reducible assumption) | assumption); have q173 : x10_2 < (t167.length : Int) := of_decide_eq_true (by first | (with_reducible assumption) | assumption); obtain ⟨ad173, A173_3, c173_3, e173, hx173_0, hx173_1, hx173_2, hx173_3, hx173_4, hx173_5, hx173_6, hl173_3, hi173_3⟩ := at_T85 (Kd.V_reads' HO_8.out).2.2 x10_2 p173 q173; obtain rfl : ad170 = ad173 := (by injection e173); obtain ⟨ce173, hce173, hMe173, hcc173⟩ := Kd.V_get HO_8.out z85 x10_2 p173 (by first | exact q173 | exact of_decide_eq_true (by first | (with_reducible assumption) | assumption) | (have e_ := (Kd.V_reads' HO_8.out).1; omega)); obtain ⟨ua173_3, uc173_3, rfl, ul173_3, ge173_3⟩ := k85_openF hMe173; have hv173_3 := hcc173 3 _ rfl; rw [add_field _ _ 3 (by omega)] at hv173_3; replace hv173_3 := Option.some.inj (hv173_3.symm.trans hx173_3); injection hv173_3 with hva_ hvn_ hvc_; rw [hva_] at ge173_3; rw [hvc_] at ul173_3; have HL173_3 := Aside0.mk (show Kd.V k29 29 _ w.heap.size _ _ ((rd_T85 t167 x10_2).f0.f3) from Kd.V_mk ul173_3 ge173_3); clear hva_ hvn_ hvc_ ge173_3 ul173_3; clear hcc173 hce173; have HR173_3 := Aside0.mk hi173_3; have HC173_3 := Aside0.mk hl173_3; clear hi173_3 hl173_3; replace p173 := eq_true p173; replace q173 := eq_true q173; have ea_ := Option.some.inj (hx170_3.symm.trans hx173_3); injection ea_ with ea_ en_ ec_; subst ea_; subst ec_; clear en_))
                        (try (rw [drewN_self wr]; generalize hq_ : World.drewN wr _ = wr; have n0_ : Aside0 (Kd.V k29 29 wr w.heap.size (fun k_ => some k_ ≠ (u9 : Value).ownBlock ∧ k_ ≠ gb164 ∧ k_ ≠ gb165) (.slice A170_3 ((rd_T85 t167 x10_2).f0.f3).length c170_3) ((rd_T85 t167 x10_2).f0.f3)) := ⟨by rw [← hq_]; exact (by (with_reducible repeat (first | apply Kd.V_alloc | apply Kd.V_drewN | apply Kd.V_drew)); exact HL170_3.out)⟩; have n1_ : Aside0 (Kd.V k29 29 wr w.heap.size (fun k_ => some k_ ≠ (u9 : Value).ownBlock ∧ k_ ≠ gb164 ∧ k_ ≠ gb165) (.slice A170_3 ((rd_T85 t167 x10_2).f0.f3).length c170_3) ((rd_T85 t167 x10_2).f0.f3)) := ⟨by rw [← hq_]; exact (by (with_reducible repeat (first | apply Kd.V_alloc | apply Kd.V_drewN | apply Kd.V_drew)); exact HL171_3.out)⟩; have n2_ : Aside0 (Kd.V k29 29 wr w.heap.size (fun k_ => some k_ ≠ (u9 : Value).ownBlock ∧ k_ ≠ gb164 ∧ k_ ≠ gb165) (.slice A170_3 ((rd_T85 t167 x10_2).f0.f3).length c170_3) ((rd_T85 t167 x10_2).f0.f3)) := ⟨by rw [← hq_]; exact (by (with_reducible repeat (first | apply Kd.V_alloc | apply Kd.V_drewN | apply Kd.V_drew)); exact HL173_3.out)⟩; have n3_ : Aside0 (Kd.V k85 85 wr w.heap.size (fun k_ => some k_ ≠ (u9 : Value).ownBlock ∧ k_ ≠ gb164 ∧ k_ ≠ gb165) (.slice (some ad170) t167.length co35) t167) := ⟨by rw [← hq_]; exact (by (with_reducible repeat (first | apply Kd.V_alloc | apply Kd.V_drewN | apply Kd.V_drew)); exact HO_8.out)⟩; have n4_ : Aside0 (Kd.R k57 57 wr w.heap.size (fun _ => True) u9 x9_2) := ⟨by rw [← hq_]; exact (by (with_reducible repeat (first | apply Kd.R_alloc | apply Kd.R_drewN | apply Kd.R_drew)); exact HO_9.out)⟩; have n5_ : Aside0 (wr.heap[gb164]? = some (.cells #[.int .u8 a1_0, .int .u8 a1_1, .int .i64 a1_2, .slice A1_3 l1_3.length c1_3] 29 (0, 0))) := ⟨by rw [← hq_]; exact (by (with_reducible repeat (first | refine blk_drewN ?_ _ | refine blk_drew ?_ | refine blk_alloc ?_ _)); exact BK164.out)⟩; have n6_ : Aside0 (wr.heap[gb165]? = some (.cells #[.slice A2_0 l2_0.length c2_0, .slice A2_1 l2_1.length c2_1] 26 (0, 0))) := ⟨by rw [← hq_]; exact (by (with_reducible repeat (first | refine blk_drewN ?_ _ | refine blk_drew ?_ | refine blk_alloc ?_ _)); exact BK165.out)⟩; have n7_ : Aside0 (Below w.heap.size w wr) := ⟨by rw [← hq_]; exact (by repeat (first | (with_reducible first | exact HB.out | apply below_alloc | apply pw_below_drewN | apply below_drew1 | refine below_set ?_ GE164.out | refine below_set ?_ GE165.out) | exact HB.out))⟩; have n8_ : Aside0 (Kd.C k29 wr A170_3 ((rd_T85 t167 x10_2).f0.f3).length ((rd_T85 t167 x10_2).f0.f3)) := ⟨by rw [← hq_]; exact (by repeat (first | (with_reducible exact HR170_3.out) | (with_reducible refine Kd.C_alloc ?_ _) | (with_reducible refine Kd.C_drewN ?_ _) | (with_reducible refine Kd.C_drew ?_) | exact HR170_3.out))⟩; have n9_ : Aside0 (Kd.C k29 wr A170_3 ((rd_T85 t167 x10_2).f0.f3).length ((rd_T85 t167 x10_2).f0.f3)) := ⟨by rw [← hq_]; exact (by repeat (first | (with_reducible exact HR171_3.out) | (with_reducible refine Kd.C_alloc ?_ _) | (with_reducible refine Kd.C_drewN ?_ _) | (with_reducible refine Kd.C_drew ?_) | exact HR171_3.out))⟩; have n10_ : Aside0 (Kd.C k29 wr A170_3 ((rd_T85 t167 x10_2).f0.f3).length ((rd_T85 t167 x10_2).f0.f3)) := ⟨by rw [← hq_]; exact (by repeat (first | (with_reducible exact HR173_3.out) | (with_reducible refine Kd.C_alloc ?_ _) | (with_reducible refine Kd.C_drewN ?_ _) | (with_reducible refine Kd.C_drew ?_) | exact HR173_3.out))⟩; clear HL170_3 HL171_3 HL173_3 HO_8 HO_9 BK164 BK165 HB HR170_3 HR171_3 HR173_3 hq_; have HL170_3 := n0_; have HL171_3 := n1_; have HL173_3 := n2_; have HO_8 := n3_; have HO_9 := n4_; have BK164 := n5_; have BK165 := n6_; have HB := n7_; have HR170_3 := n8_; have HR171_3 := n9_; have HR173_3 := n10_; clear n0_ n1_ n2_ n3_ n4_ n5_ n6_ n7_ n8_ n9_ n10_))
                        have n0_ := Aside0.mk (Kd.V_drew HO_8.out)
                        have n1_ := Aside0.mk (Kd.R_drew HO_9.out)
                        have n2_ := Aside0.mk (Kd.V_drew HL170_3.out)
                        have n3_ := Aside0.mk (Kd.V_drew HL171_3.out)
                        have n4_ := Aside0.mk (Kd.V_drew HL173_3.out)
                        have n5_ := Aside0.mk (blk_drew BK164.out)
                        have n6_ := Aside0.mk (blk_drew BK165.out)
                        have n7_ := Aside0.mk (Kd.C_drew HR170_3.out)
                        have n8_ := Aside0.mk (Kd.C_drew HR171_3.out)
                        have n9_ := Aside0.mk (Kd.C_drew HR173_3.out)
                        have n10_ := Aside0.mk (below_drew1 HB.out)
                        clear HO_8
                        clear HO_9
                        clear HL170_3
                        clear HL171_3
                        clear HL173_3
                        clear BK164
                        clear BK165
                        clear HR170_3
                        clear HR171_3
                        clear HR173_3
                        clear HB
                        have HO_8 := n0_
                        have HO_9 := n1_
                        have HL170_3 := n2_
                        have HL171_3 := n3_
                        have HL173_3 := n4_
                        have BK164 := n5_
                        have BK165 := n6_
                        have HR170_3 := n7_
                        have HR171_3 := n8_
                        have HR173_3 := n9_
                        have HB := n10_
                        clear n0_ n1_ n2_ n3_ n4_ n5_ n6_ n7_ n8_ n9_ n10_
                        have p174 : 0 ≤ (x10_2 : Int) := of_decide_eq_true (by first | (with_reducible assumption) | assumption)
                        have q174 : x10_2 < (t167.length : Int) := of_decide_eq_true (by first | (with_reducible assumption) | assumption)
                        obtain ⟨ad174, A174_3, c174_3, e174, hx174_0, hx174_1, hx174_2, hx174_3, hx174_4, hx174_5, hx174_6, hl174_3, hi174_3⟩ := at_T85 (Kd.V_reads' HO_8.out).2.2 x10_2 p174 q174
                        obtain rfl : ad170 = ad174 := (by injection e174)
                        obtain ⟨ce174, hce174, hMe174, hcc174⟩ := Kd.V_get HO_8.out z85 x10_2 p174 (by first | exact q174 | exact of_decide_eq_true (by first | (with_reducible assumption) | assumption) | (have e_ := (Kd.V_reads' HO_8.out).1; omega))
                        obtain ⟨ua174_3, uc174_3, rfl, ul174_3, ge174_3⟩ := k85_openF hMe174
                        have hv174_3 := hcc174 3 _ rfl
                        rw [add_field _ _ 3 (by omega)] at hv174_3
                        replace hv174_3 := Option.some.inj (hv174_3.symm.trans hx174_3)
                        injection hv174_3 with hva_ hvn_ hvc_
                        rw [hva_] at ge174_3
                        rw [hvc_] at ul174_3
                        have HL174_3 := Aside0.mk (show Kd.V k29 29 _ w.heap.size _ _ ((rd_T85 t167 x10_2).f0.f3) from Kd.V_mk ul174_3 ge174_3)
                        clear hva_ hvn_ hvc_ ge174_3 ul174_3
                        clear hcc174 hce174
                        have HR174_3 := Aside0.mk hi174_3
                        have HC174_3 := Aside0.mk hl174_3
                        clear hi174_3 hl174_3
                        replace p174 := eq_true p174
                        replace q174 := eq_true q174
                        refine start_ (n := 12) (S := fun w' => w'.cell? ⟨gb165, 0, none⟩ = some (.slice A2_0 l2_0.length c2_0) ∧ w'.cell? ⟨gb165, 1, none⟩ = some (.slice A2_1 l2_1.length c2_1) ∧ w'.cell? (ad170.add ((x10_2).toNat * 7)) = some (.int .u8 ((rd_T85 t167 x10_2).f0.f0)) ∧ w'.cell? ⟨(ad170.add ((x10_2).toNat * 7)).block, (ad170.add ((x10_2).toNat * 7)).off + 1, none⟩ = some (.int .u8 ((rd_T85 t167 x10_2).f0.f1)) ∧ w'.cell? ⟨(ad170.add ((x10_2).toNat * 7)).block, (ad170.add ((x10_2).toNat * 7)).off + 2, none⟩ = some (.int .i64 ((rd_T85 t167 x10_2).f0.f2)) ∧ w'.cell? ⟨(ad170.add ((x10_2).toNat * 7)).block, (ad170.add ((x10_2).toNat * 7)).off + 3, none⟩ = some (.slice A174_3 ((rd_T85 t167 x10_2).f0.f3).length c174_3) ∧ w'.cell? ⟨(ad170.add ((x10_2).toNat * 7)).block, (ad170.add ((x10_2).toNat * 7)).off + 4, none⟩ = some (.int .i64 ((rd_T85 t167 x10_2).f1.f0)) ∧ w'.cell? ⟨(ad170.add ((x10_2).toNat * 7)).block, (ad170.add ((x10_2).toNat * 7)).off + 5, none⟩ = some (.int .i64 ((rd_T85 t167 x10_2).f1.f1)) ∧ w'.cell? ⟨(ad170.add ((x10_2).toNat * 7)).block, (ad170.add ((x10_2).toNat * 7)).off + 6, none⟩ = some (.int .i64 ((rd_T85 t167 x10_2).f2))) (ds := []) #[false, false, false, false, false, false, false, false, false, false, false, false] (by kernel_rfl) rfl rfl ⟨(blk_cell BK165.out 0).trans rfl, (blk_cell BK165.out 1).trans rfl, hx174_0, hx174_1, hx174_2, hx174_3, hx174_4, hx174_5, hx174_6⟩ (fun hHeld => ?_); refine with_tabW glossatorref22_Of.tab11 glossatorref22_Of.bits11 (fun HT_ HW_ => ?_)
                        generalize wr.drew = w36 at HO_8 HO_9 HL170_3 HL171_3 HL173_3 BK164 BK165 HR170_3 HR171_3 HR173_3 HB HL174_3 HR174_3 hx174_0 hx174_1 hx174_2 hx174_3 hx174_4 hx174_5 hx174_6 hHeld ⊢
                        refine pure_ (i := 1) (N := some 60) (v := ?_) (a' := ?_) #[false, true, false, false, false, false, false, false, false, false, false, false] rfl rfl (any_of HT_.out (by kernel_rfl)) (fun _ _ _ h => h) (Or.inl ⟨by rfl, ?_⟩) ?_ ?_
                        rotate_left
                        · intro w'
                          go_simp
                          with_reducible rfl
                        rotate_left
                        · simp only [Act.put, List.setIfInBounds_toArray, List.set_cons_zero, List.set_cons_succ, i64_w, i32_w]
                          rfl
                        refine pure_ (i := 2) (N := some 61) (v := ?_) (a' := ?_) #[false, true, true, false, false, false, false, false, false, false, false, false] rfl rfl (any_of HT_.out (by kernel_rfl)) (fun _ _ _ h => h) (Or.inl ⟨by rfl, ?_⟩) ?_ ?_
                        rotate_left
                        · intro w'
                          go_simp
                          with_reducible rfl
                        rotate_left
                        · simp only [Act.put, List.setIfInBounds_toArray, List.set_cons_zero, List.set_cons_succ, i64_w, i32_w]
                          rfl
                        refine pure_ (i := 3) (N := some 62) (v := ?_) (a' := ?_) #[false, true, true, true, false, false, false, false, false, false, false, false] rfl rfl (any_of HT_.out (by kernel_rfl)) (fun _ _ _ h => h) (Or.inl ⟨by rfl, ?_⟩) ?_ ?_
                        rotate_left
                        · intro w'
                          go_simp
                          with_reducible rfl
                        rotate_left
                        · simp only [Act.put, List.setIfInBounds_toArray, List.set_cons_zero, List.set_cons_succ, i64_w, i32_w]
                          rfl
                        refine pure_ (i := 4) (N := some 63) (v := ?_) (a' := ?_) #[false, true, true, true, true, false, false, false, false, false, false, false] rfl rfl (any_of HT_.out (by kernel_rfl)) (fun _ _ _ h => h) (Or.inl ⟨by rfl, ?_⟩) ?_ ?_
                        rotate_left
                        · intro w'
                          go_simp
                          with_reducible rfl
                        rotate_left
                        · simp only [Act.put, List.setIfInBounds_toArray, List.set_cons_zero, List.set_cons_succ, i64_w, i32_w]
                          rfl
                        refine take_ (i := 0) (N := some 59) (v := ?_) (a' := ?_) #[true, true, true, true, true, false, false, false, false, false, false, false] rfl rfl (take_ofW HT_.out HW_.out (by kernel_rfl)) (fun _ _ _ h => h) (Or.inl ⟨by rfl, ?_⟩) hHeld ?_ ?_
                        rotate_left
                        · rintro w' ⟨s0, s1, s2, s3, s4, s5, s6, s7, s8⟩
                          go_simp
                          with_reducible rfl
                        rotate_left
                        · simp only [Act.put, List.setIfInBounds_toArray, List.set_cons_zero, List.set_cons_succ, i64_w, i32_w]
                          rfl
                        refine take_ (i := 5) (N := some 64) (v := ?_) (a' := ?_) #[true, true, true, true, true, true, false, false, false, false, false, false] rfl rfl (take_ofW HT_.out HW_.out (by kernel_rfl)) (fun _ _ _ h => h) (Or.inl ⟨by rfl, ?_⟩) hHeld ?_ ?_
                        rotate_left
                        · rintro w' ⟨s0, s1, s2, s3, s4, s5, s6, s7, s8⟩
                          go_simp
                          with_reducible rfl
                        rotate_left
                        · simp only [Act.put, List.setIfInBounds_toArray, List.set_cons_zero, List.set_cons_succ, i64_w, i32_w]
                          rfl
                        refine one_ (i := 6) (N := some 65) #[true, true, true, true, true, true, true, false, false, false, false, false] rfl rfl (one_of HT_.out (by kernel_rfl)) (by decide) (fun K hK => ?_)
                        refine goes_ Tryd.func26 (by kernel_rfl) rfl #[.agg #[.slice A2_0 l2_0.length c2_0, .slice A2_1 l2_1.length c2_1], .agg #[.int .i64 ((rd_T85 t167 x10_2).f1.f0), .int .i64 ((rd_T85 t167 x10_2).f1.f1)]] (by rfl) rfl rfl (by (try simp only [List.map_toArray, List.map_cons, List.map_nil]); first | done | rfl | (simp only [List.length_drop, List.length_take]; rfl)) ?_
                        with_reducible refine (glossatorref22_name.calls k2 _ _ l2_0 _ _ l2_1 ((rd_T85 t167 x10_2).f1.f0) ((rd_T85 t167 x10_2).f1.f1) t175 t176 _ ?side1 ?side2 ?side3 ?side4 A32.out).mono ?_
                        (case side1 => repeat (first | exact (Kd.C_below HR2_0.out HB.out) | (with_reducible refine Kd.C_alloc ?_ _) | (with_reducible refine Kd.C_drewN ?_ _) | (with_reducible refine Kd.C_drew ?_)))
                        (case side2 => exact HC2_0.out)
                        (case side3 => repeat (first | exact (Kd.C_below HR2_1.out HB.out) | (with_reducible refine Kd.C_alloc ?_ _) | (with_reducible refine Kd.C_drewN ?_ _) | (with_reducible refine Kd.C_drew ?_)))
                        (case side4 => exact HC2_1.out)
                        rintro e w37 ⟨rfl, hb⟩
                        have HS2_ := (hb.cell (World.block_lt_of_cell? _ _ (hHeld.2.2.1))).trans (hHeld.2.2.1)
                        have HS3_ := (hb.cell (World.block_lt_of_cell? _ _ (hHeld.2.2.2.1))).trans (hHeld.2.2.2.1)
                        have HS4_ := (hb.cell (World.block_lt_of_cell? _ _ (hHeld.2.2.2.2.1))).trans (hHeld.2.2.2.2.1)
                        have HS5_ := (hb.cell (World.block_lt_of_cell? _ _ (hHeld.2.2.2.2.2.1))).trans (hHeld.2.2.2.2.2.1)
                        have HS6_ := (hb.cell (World.block_lt_of_cell? _ _ (hHeld.2.2.2.2.2.2.1))).trans (hHeld.2.2.2.2.2.2.1)
                        have HS7_ := (hb.cell (World.block_lt_of_cell? _ _ (hHeld.2.2.2.2.2.2.2.1))).trans (hHeld.2.2.2.2.2.2.2.1)
                        have HS8_ := (hb.cell (World.block_lt_of_cell? _ _ (hHeld.2.2.2.2.2.2.2.2))).trans (hHeld.2.2.2.2.2.2.2.2)
                        refine ⟨_, rfl, ?_⟩
                        have n0_ := Aside0.mk (Kd.V_below (by (with_reducible repeat (first | apply Kd.V_alloc | apply Kd.V_drewN | apply Kd.V_drew)); exact HO_8.out) hb)
                        have n1_ := Aside0.mk (Kd.R_below (by (with_reducible repeat (first | apply Kd.R_alloc | apply Kd.R_drewN | apply Kd.R_drew)); exact HO_9.out) hb)
                        have n2_ := Aside0.mk (Kd.V_below (by (with_reducible repeat (first | apply Kd.V_alloc | apply Kd.V_drewN | apply Kd.V_drew)); exact HL170_3.out) hb)
                        have n3_ := Aside0.mk (Kd.V_below (by (with_reducible repeat (first | apply Kd.V_alloc | apply Kd.V_drewN | apply Kd.V_drew)); exact HL171_3.out) hb)
                        have n4_ := Aside0.mk (Kd.V_below (by (with_reducible repeat (first | apply Kd.V_alloc | apply Kd.V_drewN | apply Kd.V_drew)); exact HL173_3.out) hb)
                        have n5_ := Aside0.mk (Kd.V_below (by (with_reducible repeat (first | apply Kd.V_alloc | apply Kd.V_drewN | apply Kd.V_drew)); exact HL174_3.out) hb)
                        have n6_ := Aside0.mk (blk_below (g := gb164) (o := .cells #[.int .u8 a1_0, .int .u8 a1_1, .int .i64 a1_2, .slice A1_3 l1_3.length c1_3] 29 (0, 0)) (by (with_reducible repeat (first | refine blk_drewN ?_ _ | refine blk_drew ?_ | refine blk_alloc ?_ _)); exact BK164.out) hb)
                        have n7_ := Aside0.mk (blk_below (g := gb165) (o := .cells #[.slice A2_0 l2_0.length c2_0, .slice A2_1 l2_1.length c2_1] 26 (0, 0)) (by (with_reducible repeat (first | refine blk_drewN ?_ _ | refine blk_drew ?_ | refine blk_alloc ?_ _)); exact BK165.out) hb)
                        have n8_ := Aside0.mk (Kd.C_below (by repeat (first | (with_reducible exact HR170_3.out) | (with_reducible refine Kd.C_alloc ?_ _) | (with_reducible refine Kd.C_drewN ?_ _) | (with_reducible refine Kd.C_drew ?_) | exact HR170_3.out)) hb)
                        have n9_ := Aside0.mk (Kd.C_below (by repeat (first | (with_reducible exact HR171_3.out) | (with_reducible refine Kd.C_alloc ?_ _) | (with_reducible refine Kd.C_drewN ?_ _) | (with_reducible refine Kd.C_drew ?_) | exact HR171_3.out)) hb)
                        have n10_ := Aside0.mk (Kd.C_below (by repeat (first | (with_reducible exact HR173_3.out) | (with_reducible refine Kd.C_alloc ?_ _) | (with_reducible refine Kd.C_drewN ?_ _) | (with_reducible refine Kd.C_drew ?_) | exact HR173_3.out)) hb)
                        have n11_ := Aside0.mk (Kd.C_below (by repeat (first | (with_reducible exact HR174_3.out) | (with_reducible refine Kd.C_alloc ?_ _) | (with_reducible refine Kd.C_drewN ?_ _) | (with_reducible refine Kd.C_drew ?_) | exact HR174_3.out)) hb)
                        have n12_ := Aside0.mk (below_step (by repeat (first | (with_reducible first | exact HB.out | apply below_alloc | apply pw_below_drewN | apply below_drew1 | refine below_set ?_ GE164.out | refine below_set ?_ GE165.out) | exact HB.out)) hb)
                        clear HO_8
                        clear HO_9
                        clear HL170_3
                        clear HL171_3
                        clear HL173_3
                        clear HL174_3
                        clear BK164
                        clear BK165
                        clear HR170_3
                        clear HR171_3
                        clear HR173_3
                        clear HR174_3
                        clear HB
                        have HO_8 := n0_
                        have HO_9 := n1_
                        have HL170_3 := n2_
                        have HL171_3 := n3_
                        have HL173_3 := n4_
                        have HL174_3 := n5_
                        have BK164 := n6_
                        have BK165 := n7_
                        have HR170_3 := n8_
                        have HR171_3 := n9_
                        have HR173_3 := n10_
                        have HR174_3 := n11_
                        have HB := n12_
                        clear n0_ n1_ n2_ n3_ n4_ n5_ n6_ n7_ n8_ n9_ n10_ n11_ n12_
                        (try clear hb)
                        (try clear hb2)
                        (try clear hk)
                        (try clear hi)
                        refine hK.out _ _ ⟨(blk_cell BK165.out 0).trans rfl, (blk_cell BK165.out 1).trans rfl, HS2_, HS3_, HS4_, HS5_, HS6_, HS7_, HS8_⟩ (fun hHeld => ?_)
                        clear hK K
                        refine norm_ (a' := ?_) ?_ ?_
                        rotate_left
                        · show Act.put _ (some 65) _ = _
                          simp only [Act.put, List.setIfInBounds_toArray, List.set_cons_zero, List.set_cons_succ, i64_w, i32_w]
                          rfl
                        refine pure_ (i := 7) (N := some 58) (v := ?_) (a' := ?_) #[true, true, true, true, true, true, true, true, false, false, false, false] rfl rfl (any_of HT_.out (by kernel_rfl)) (fun _ _ _ h => h) (Or.inl ⟨by rfl, ?_⟩) ?_ ?_
                        rotate_left
                        · intro w'
                          go_simp
                          with_reducible rfl
                        rotate_left
                        · simp only [Act.put, List.setIfInBounds_toArray, List.set_cons_zero, List.set_cons_succ, i64_w, i32_w]
                          rfl
                        refine pure_ (i := 8) (N := some 66) (v := ?_) (a' := ?_) #[true, true, true, true, true, true, true, true, true, false, false, false] rfl rfl (any_of HT_.out (by kernel_rfl)) (fun _ _ _ h => h) (Or.inl ⟨by rfl, ?_⟩) ?_ ?_
                        rotate_left
                        · intro w'
                          go_simp
                          with_reducible rfl
                        rotate_left
                        · simp only [Act.put, List.setIfInBounds_toArray, List.set_cons_zero, List.set_cons_succ, i64_w, i32_w]
                          rfl
                        refine pure_ (i := 9) (N := some 67) (v := ?_) (a' := ?_) #[true, true, true, true, true, true, true, true, true, true, false, false] rfl rfl (any_of HT_.out (by kernel_rfl)) (fun _ _ _ h => h) (Or.inl ⟨by rfl, ?_⟩) ?_ ?_
                        rotate_left
                        · intro w'
                          go_simp
                          with_reducible rfl
                        rotate_left
                        · simp only [Act.put, List.setIfInBounds_toArray, List.set_cons_zero, List.set_cons_succ, i64_w, i32_w]
                          rfl
                        refine pure_ (i := 10) (N := some 11) (v := ?_) (a' := ?_) #[true, true, true, true, true, true, true, true, true, true, true, false] rfl rfl (any_of HT_.out (by kernel_rfl)) (fun _ _ _ h => h) (Or.inl ⟨by rfl, ?_⟩) ?_ ?_
                        rotate_left
                        · intro w'
                          go_simp
                          with_reducible rfl
                        rotate_left
                        · simp only [Act.put, List.setIfInBounds_toArray, List.set_cons_zero, List.set_cons_succ, i64_w, i32_w]
                          rfl
                        refine pure_ (i := 11) (N := some 12) (v := ?_) (a' := ?_) #[true, true, true, true, true, true, true, true, true, true, true, true] rfl rfl (any_of HT_.out (by kernel_rfl)) (fun _ _ _ h => h) (Or.inl ⟨by rfl, ?_⟩) ?_ ?_
                        rotate_left
                        · intro w'
                          go_simp
                          with_reducible rfl
                        rotate_left
                        · simp only [Act.put, List.setIfInBounds_toArray, List.set_cons_zero, List.set_cons_succ, i64_w, i32_w]
                          rfl
                        refine done_ (done_of HT_.out (by kernel_rfl)) ?_
                        have p177 : 0 ≤ (x10_2 : Int) := of_decide_eq_true (by first | (with_reducible assumption) | assumption)
                        have q177 : x10_2 < (t167.length : Int) := of_decide_eq_true (by first | (with_reducible assumption) | assumption)
                        obtain ⟨ad177, A177_3, c177_3, e177, hx177_0, hx177_1, hx177_2, hx177_3, hx177_4, hx177_5, hx177_6, hl177_3, hi177_3⟩ := at_T85 (Kd.V_reads' HO_8.out).2.2 x10_2 p177 q177
                        obtain rfl : ad170 = ad177 := (by injection e177)
                        obtain ⟨ce177, hce177, hMe177, hcc177⟩ := Kd.V_get HO_8.out z85 x10_2 p177 (by first | exact q177 | exact of_decide_eq_true (by first | (with_reducible assumption) | assumption) | (have e_ := (Kd.V_reads' HO_8.out).1; omega))
                        obtain ⟨ua177_3, uc177_3, rfl, ul177_3, ge177_3⟩ := k85_openF hMe177
                        have hv177_3 := hcc177 3 _ rfl
                        rw [add_field _ _ 3 (by omega)] at hv177_3
                        replace hv177_3 := Option.some.inj (hv177_3.symm.trans hx177_3)
                        injection hv177_3 with hva_ hvn_ hvc_
                        rw [hva_] at ge177_3
                        rw [hvc_] at ul177_3
                        have HL177_3 := Aside0.mk (show Kd.V k29 29 _ w.heap.size _ _ ((rd_T85 t167 x10_2).f0.f3) from Kd.V_mk ul177_3 ge177_3)
                        clear hva_ hvn_ hvc_ ge177_3 ul177_3
                        clear hcc177 hce177
                        have HR177_3 := Aside0.mk hi177_3
                        have HC177_3 := Aside0.mk hl177_3
                        clear hi177_3 hl177_3
                        replace p177 := eq_true p177
                        replace q177 := eq_true q177
                        try go_wp2_with (first | ((with_reducible refine gate_builtin (b := .append) (xs := #[.tmp 70, .tmp 79]) rfl ?_); (try (refine gate_guard (by rfl) ?_; dsimp only)); at_builtin; refine Kd.R_append k57 (w0 := w) w.heap.size rfl (.tmp 70) (.tmp 79) 47 57 (.agg #[(.int .i64 0), (.int .i64 0), (.int .i64 0), (.int .i64 0)]) 32 rfl Tryd.underlying47 info57 rfl (by decide) (by omega) u9 x9_2 (⟨(⟨(rd_T85 t167 x10_2).f1.f0, (rd_T85 t167 x10_2).f1.f1⟩ : S41), t175, t176⟩ : S57) [.int .i64 ((rd_T85 t167 x10_2).f1.f0), .int .i64 ((rd_T85 t167 x10_2).f1.f1), .int .i64 t175, .int .i64 t176] (fun _ => True) (fun _ => False) rfl rfl ?aP (fun _ hk => hk.elim) ?aF ?aO ?aB ?aS ?aL ?_; (case aP => exact k57_mkM _ _ _ (⟨(⟨(rd_T85 t167 x10_2).f1.f0, (rd_T85 t167 x10_2).f1.f1⟩ : S41), t175, t176⟩ : S57)); (case aB => exact (by repeat (first | (with_reducible first | exact HB.out | apply below_alloc | apply pw_below_drewN | apply below_drew1 | refine below_set ?_ GE164.out | refine below_set ?_ GE165.out) | exact HB.out))); (case aF => exact (fun _ _ => trivial)); (case aO => exact (by (with_reducible repeat (first | apply Kd.R_alloc | apply Kd.R_drewN | apply Kd.R_drew)); exact HO_9.out)); (case aS => exact (below_size (by repeat (first | (with_reducible first | exact HB.out | apply below_alloc | apply pw_below_drewN | apply below_drew1 | refine below_set ?_ GE164.out | refine below_set ?_ GE165.out) | exact HB.out)))); (case aL => have := LMc34.out; omega); intro v179 w38 ho hb hg hat; rw [← Ny178.out] at ho; have n0_ := Aside0.mk (Kd.V_afterv (ok := (fun k_ => k_ ≠ gb164 ∧ k_ ≠ gb165)) (by (with_reducible repeat (first | apply Kd.V_alloc | apply Kd.V_drewN | apply Kd.V_drew)); exact Kd.V_mono HO_8.out (fun _ hk => ⟨⟨hk.2.1, hk.2.2⟩, hk.1⟩)) hg hat); have n1_ := Aside0.mk (blk_grown (g := gb164) (o := .cells #[.int .u8 a1_0, .int .u8 a1_1, .int .i64 a1_2, .slice A1_3 l1_3.length c1_3] 29 (0, 0)) (by (with_reducible repeat (first | refine blk_drewN ?_ _ | refine blk_drew ?_ | refine blk_alloc ?_ _)); exact BK164.out) hg (Kd.R_ne HO_9.out BK164.out (by decide))); have n2_ := Aside0.mk (blk_grown (g := gb165) (o := .cells #[.slice A2_0 l2_0.length c2_0, .slice A2_1 l2_1.length c2_1] 26 (0, 0)) (by (with_reducible repeat (first | refine blk_drewN ?_ _ | refine blk_drew ?_ | refine blk_alloc ?_ _)); exact BK165.out) hg (Kd.R_ne HO_9.out BK165.out (by decide))); have n3_ := Aside0.mk (Kd.V_afterv (ok := (fun k_ => k_ ≠ gb164 ∧ k_ ≠ gb165)) (by (with_reducible repeat (first | apply Kd.V_alloc | apply Kd.V_drewN | apply Kd.V_drew)); exact Kd.V_mono HL170_3.out (fun _ hk => ⟨⟨hk.2.1, hk.2.2⟩, hk.1⟩)) hg hat); have n4_ := Aside0.mk (Kd.V_afterv (ok := (fun k_ => k_ ≠ gb164 ∧ k_ ≠ gb165)) (by (with_reducible repeat (first | apply Kd.V_alloc | apply Kd.V_drewN | apply Kd.V_drew)); exact Kd.V_mono HL171_3.out (fun _ hk => ⟨⟨hk.2.1, hk.2.2⟩, hk.1⟩)) hg hat); have n5_ := Aside0.mk (Kd.V_afterv (ok := (fun k_ => k_ ≠ gb164 ∧ k_ ≠ gb165)) (by (with_reducible repeat (first | apply Kd.V_alloc | apply Kd.V_drewN | apply Kd.V_drew)); exact Kd.V_mono HL173_3.out (fun _ hk => ⟨⟨hk.2.1, hk.2.2⟩, hk.1⟩)) hg hat); have n6_ := Aside0.mk (Kd.V_afterv (ok := (fun k_ => k_ ≠ gb164 ∧ k_ ≠ gb165)) (by (with_reducible repeat (first | apply Kd.V_alloc | apply Kd.V_drewN | apply Kd.V_drew)); exact Kd.V_mono HL174_3.out (fun _ hk => ⟨⟨hk.2.1, hk.2.2⟩, hk.1⟩)) hg hat); have n7_ := Aside0.mk (Kd.V_afterv (ok := (fun k_ => k_ ≠ gb164 ∧ k_ ≠ gb165)) (by (with_reducible repeat (first | apply Kd.V_alloc | apply Kd.V_drewN | apply Kd.V_drew)); exact Kd.V_mono HL177_3.out (fun _ hk => ⟨⟨hk.2.1, hk.2.2⟩, hk.1⟩)) hg hat); have n8_ := Aside0.mk (hb); have n9_ := Aside0.mk (ho); clear HO_8; clear BK164; clear BK165; clear HL170_3; clear HL171_3; clear HL173_3; clear HL174_3; clear HL177_3; clear HB; clear HO_9; have HO_8 := n0_; have BK164 := n1_; have BK165 := n2_; have HL170_3 := n3_; have HL171_3 := n4_; have HL173_3 := n5_; have HL174_3 := n6_; have HL177_3 := n7_; have HB := n8_; have HO180 := n9_; clear n0_ n1_ n2_ n3_ n4_ n5_ n6_ n7_ n8_ n9_; clear ho hb hg hat))
                        go_roundg k2
                        case measure => have := HJ3.out; have := HK2.out; omega
                        case rel => exact ⟨(y178), (wrap64 (x10_2 + 1)), (by first | rfl | (simp; done) | (simp [*]; done)), H', ⟨by have := HJ3.out; have := HK2.out; omega⟩, ⟨by (with_reducible repeat (first | apply Kd.V_alloc | apply Kd.V_drewN | apply Kd.V_drew)); exact Kd.V_mono HO_8.out (fun _ hk => ⟨hk.2, ⟨hk.1.1, hk.1.2⟩⟩)⟩, ⟨by (with_reducible repeat (first | apply Kd.R_alloc | apply Kd.R_drewN | apply Kd.R_drew)); exact HO180.out⟩, ⟨by (with_reducible repeat (first | refine blk_drewN ?_ _ | refine blk_drew ?_ | refine blk_alloc ?_ _)); exact BK164.out⟩, ⟨by (with_reducible repeat (first | refine blk_drewN ?_ _ | refine blk_drew ?_ | refine blk_alloc ?_ _)); exact BK165.out⟩, ⟨by repeat (first | (with_reducible first | exact HB.out | apply below_alloc | apply pw_below_drewN | apply below_drew1 | refine below_set ?_ GE164.out | refine below_set ?_ GE165.out) | exact HB.out)⟩⟩
                      · rw [if_neg c34] at H
                        exact absurd H (by simp)
                    · rw [if_neg c33] at H
                      have c33b0 : decide (0 ≤ t175) = false := decide_eq_false c33
                      clear c33
                      have H' := Aside0.mk H
                      clear H
                      obtain ⟨Ao39, co39, eo39⟩ := Kd.V_slice HO_8.out
                      subst eo39
                      have p170 : 0 ≤ (x10_2 : Int) := of_decide_eq_true (by first | (with_reducible assumption) | assumption)
                      have q170 : x10_2 < (t167.length : Int) := of_decide_eq_true (by first | (with_reducible assumption) | assumption)
                      obtain ⟨ad170, A170_3, c170_3, e170, hx170_0, hx170_1, hx170_2, hx170_3, hx170_4, hx170_5, hx170_6, hl170_3, hi170_3⟩ := at_T85 (Kd.V_reads' HO_8.out).2.2 x10_2 p170 q170
                      cases e170
                      obtain ⟨ce170, hce170, hMe170, hcc170⟩ := Kd.V_get HO_8.out z85 x10_2 p170 (by first | exact q170 | exact of_decide_eq_true (by first | (with_reducible assumption) | assumption) | (have e_ := (Kd.V_reads' HO_8.out).1; omega))
                      obtain ⟨ua170_3, uc170_3, rfl, ul170_3, ge170_3⟩ := k85_openF hMe170
                      have hv170_3 := hcc170 3 _ rfl
                      rw [add_field _ _ 3 (by omega)] at hv170_3
                      replace hv170_3 := Option.some.inj (hv170_3.symm.trans hx170_3)
                      injection hv170_3 with hva_ hvn_ hvc_
                      rw [hva_] at ge170_3
                      rw [hvc_] at ul170_3
                      have HL170_3 := Aside0.mk (show Kd.V k29 29 _ w.heap.size _ _ ((rd_T85 t167 x10_2).f0.f3) from Kd.V_mk ul170_3 ge170_3)
                      clear hva_ hvn_ hvc_ ge170_3 ul170_3
                      clear hcc170 hce170
                      have HR170_3 := Aside0.mk hi170_3
                      have HC170_3 := Aside0.mk hl170_3
                      clear hi170_3 hl170_3
                      replace p170 := eq_true p170
                      replace q170 := eq_true q170
                      have p171 : 0 ≤ (x10_2 : Int) := of_decide_eq_true (by first | (with_reducible assumption) | assumption)
                      have q171 : x10_2 < (t167.length : Int) := of_decide_eq_true (by first | (with_reducible assumption) | assumption)
                      obtain ⟨ad171, A171_3, c171_3, e171, hx171_0, hx171_1, hx171_2, hx171_3, hx171_4, hx171_5, hx171_6, hl171_3, hi171_3⟩ := at_T85 (Kd.V_reads' HO_8.out).2.2 x10_2 p171 q171
                      obtain rfl : ad170 = ad171 := (by injection e171)
                      obtain ⟨ce171, hce171, hMe171, hcc171⟩ := Kd.V_get HO_8.out z85 x10_2 p171 (by first | exact q171 | exact of_decide_eq_true (by first | (with_reducible assumption) | assumption) | (have e_ := (Kd.V_reads' HO_8.out).1; omega))
                      obtain ⟨ua171_3, uc171_3, rfl, ul171_3, ge171_3⟩ := k85_openF hMe171
                      have hv171_3 := hcc171 3 _ rfl
                      rw [add_field _ _ 3 (by omega)] at hv171_3
                      replace hv171_3 := Option.some.inj (hv171_3.symm.trans hx171_3)
                      injection hv171_3 with hva_ hvn_ hvc_
                      rw [hva_] at ge171_3
                      rw [hvc_] at ul171_3
                      have HL171_3 := Aside0.mk (show Kd.V k29 29 _ w.heap.size _ _ ((rd_T85 t167 x10_2).f0.f3) from Kd.V_mk ul171_3 ge171_3)
                      clear hva_ hvn_ hvc_ ge171_3 ul171_3
                      clear hcc171 hce171
                      have HR171_3 := Aside0.mk hi171_3
                      have HC171_3 := Aside0.mk hl171_3
                      clear hi171_3 hl171_3
                      replace p171 := eq_true p171
                      replace q171 := eq_true q171
                      have ea_ := Option.some.inj (hx170_3.symm.trans hx171_3)
                      injection ea_ with ea_ en_ ec_
                      subst ea_
                      subst ec_
                      clear en_
                      try go_wp2_with (first | ((with_reducible refine gate_callee (f := 25) rfl ?_); refine goesL_ (some 50) rfl rfl Tryd.func25 (by kernel_rfl) rfl #[.int .u8 ((rd_T85 t167 x10_2).f0.f0)] rfl (by (try simp only [List.map_toArray, List.map_cons, List.map_nil]); first | done | rfl | (simp only [List.length_drop, List.length_take]; rfl)) ?_; (with_reducible refine (glossatorref22_kind.calls k2 ((rd_T85 t167 x10_2).f0.f0) t172 _ A30.out).mono ?_); rintro e w' ⟨rfl, ⟨nd, rfl⟩⟩; refine ⟨_, rfl, ?_⟩; have p173 : 0 ≤ (x10_2 : Int) := of_decide_eq_true (by first | (with_reducible assumption) | assumption); have q173 : x10_2 < (t167.length : Int) := of_decide_eq_true (by first | (with_reducible assumption) | assumption); obtain ⟨ad173, A173_3, c173_3, e173, hx173_0, hx173_1, hx173_2, hx173_3, hx173_4, hx173_5, hx173_6, hl173_3, hi173_3⟩ := at_T85 (Kd.V_reads' HO_8.out).2.2 x10_2 p173 q173; obtain rfl : ad170 = ad173 := (by injection e173); obtain ⟨ce173, hce173, hMe173, hcc173⟩ := Kd.V_get HO_8.out z85 x10_2 p173 (by first | exact q173 | exact of_decide_eq_true (by first | (with_reducible assumption) | assumption) | (have e_ := (Kd.V_reads' HO_8.out).1; omega)); obtain ⟨ua173_3, uc173_3, rfl, ul173_3, ge173_3⟩ := k85_openF hMe173; have hv173_3 := hcc173 3 _ rfl; rw [add_field _ _ 3 (by omega)] at hv173_3; replace hv173_3 := Option.some.inj (hv173_3.symm.trans hx173_3); injection hv173_3 with hva_ hvn_ hvc_; rw [hva_] at ge173_3; rw [hvc_] at ul173_3; have HL173_3 := Aside0.mk (show Kd.V k29 29 _ w.heap.size _ _ ((rd_T85 t167 x10_2).f0.f3) from Kd.V_mk ul173_3 ge173_3); clear hva_ hvn_ hvc_ ge173_3 ul173_3; clear hcc173 hce173; have HR173_3 := Aside0.mk hi173_3; have HC173_3 := Aside0.mk hl173_3; clear hi173_3 hl173_3; replace p173 := eq_true p173; replace q173 := eq_true q173; have ea_ := Option.some.inj (hx170_3.symm.trans hx173_3); injection ea_ with ea_ en_ ec_; subst ea_; subst ec_; clear en_))
                      (try (rw [drewN_self wr]; generalize hq_ : World.drewN wr _ = wr; have n0_ : Aside0 (Kd.V k29 29 wr w.heap.size (fun k_ => some k_ ≠ (u9 : Value).ownBlock ∧ k_ ≠ gb164 ∧ k_ ≠ gb165) (.slice A170_3 ((rd_T85 t167 x10_2).f0.f3).length c170_3) ((rd_T85 t167 x10_2).f0.f3)) := ⟨by rw [← hq_]; exact (by (with_reducible repeat (first | apply Kd.V_alloc | apply Kd.V_drewN | apply Kd.V_drew)); exact HL170_3.out)⟩; have n1_ : Aside0 (Kd.V k29 29 wr w.heap.size (fun k_ => some k_ ≠ (u9 : Value).ownBlock ∧ k_ ≠ gb164 ∧ k_ ≠ gb165) (.slice A170_3 ((rd_T85 t167 x10_2).f0.f3).length c170_3) ((rd_T85 t167 x10_2).f0.f3)) := ⟨by rw [← hq_]; exact (by (with_reducible repeat (first | apply Kd.V_alloc | apply Kd.V_drewN | apply Kd.V_drew)); exact HL171_3.out)⟩; have n2_ : Aside0 (Kd.V k29 29 wr w.heap.size (fun k_ => some k_ ≠ (u9 : Value).ownBlock ∧ k_ ≠ gb164 ∧ k_ ≠ gb165) (.slice A170_3 ((rd_T85 t167 x10_2).f0.f3).length c170_3) ((rd_T85 t167 x10_2).f0.f3)) := ⟨by rw [← hq_]; exact (by (with_reducible repeat (first | apply Kd.V_alloc | apply Kd.V_drewN | apply Kd.V_drew)); exact HL173_3.out)⟩; have n3_ : Aside0 (Kd.V k85 85 wr w.heap.size (fun k_ => some k_ ≠ (u9 : Value).ownBlock ∧ k_ ≠ gb164 ∧ k_ ≠ gb165) (.slice (some ad170) t167.length co39) t167) := ⟨by rw [← hq_]; exact (by (with_reducible repeat (first | apply Kd.V_alloc | apply Kd.V_drewN | apply Kd.V_drew)); exact HO_8.out)⟩; have n4_ : Aside0 (Kd.R k57 57 wr w.heap.size (fun _ => True) u9 x9_2) := ⟨by rw [← hq_]; exact (by (with_reducible repeat (first | apply Kd.R_alloc | apply Kd.R_drewN | apply Kd.R_drew)); exact HO_9.out)⟩; have n5_ : Aside0 (wr.heap[gb164]? = some (.cells #[.int .u8 a1_0, .int .u8 a1_1, .int .i64 a1_2, .slice A1_3 l1_3.length c1_3] 29 (0, 0))) := ⟨by rw [← hq_]; exact (by (with_reducible repeat (first | refine blk_drewN ?_ _ | refine blk_drew ?_ | refine blk_alloc ?_ _)); exact BK164.out)⟩; have n6_ : Aside0 (wr.heap[gb165]? = some (.cells #[.slice A2_0 l2_0.length c2_0, .slice A2_1 l2_1.length c2_1] 26 (0, 0))) := ⟨by rw [← hq_]; exact (by (with_reducible repeat (first | refine blk_drewN ?_ _ | refine blk_drew ?_ | refine blk_alloc ?_ _)); exact BK165.out)⟩; have n7_ : Aside0 (Below w.heap.size w wr) := ⟨by rw [← hq_]; exact (by repeat (first | (with_reducible first | exact HB.out | apply below_alloc | apply pw_below_drewN | apply below_drew1 | refine below_set ?_ GE164.out | refine below_set ?_ GE165.out) | exact HB.out))⟩; have n8_ : Aside0 (Kd.C k29 wr A170_3 ((rd_T85 t167 x10_2).f0.f3).length ((rd_T85 t167 x10_2).f0.f3)) := ⟨by rw [← hq_]; exact (by repeat (first | (with_reducible exact HR170_3.out) | (with_reducible refine Kd.C_alloc ?_ _) | (with_reducible refine Kd.C_drewN ?_ _) | (with_reducible refine Kd.C_drew ?_) | exact HR170_3.out))⟩; have n9_ : Aside0 (Kd.C k29 wr A170_3 ((rd_T85 t167 x10_2).f0.f3).length ((rd_T85 t167 x10_2).f0.f3)) := ⟨by rw [← hq_]; exact (by repeat (first | (with_reducible exact HR171_3.out) | (with_reducible refine Kd.C_alloc ?_ _) | (with_reducible refine Kd.C_drewN ?_ _) | (with_reducible refine Kd.C_drew ?_) | exact HR171_3.out))⟩; have n10_ : Aside0 (Kd.C k29 wr A170_3 ((rd_T85 t167 x10_2).f0.f3).length ((rd_T85 t167 x10_2).f0.f3)) := ⟨by rw [← hq_]; exact (by repeat (first | (with_reducible exact HR173_3.out) | (with_reducible refine Kd.C_alloc ?_ _) | (with_reducible refine Kd.C_drewN ?_ _) | (with_reducible refine Kd.C_drew ?_) | exact HR173_3.out))⟩; clear HL170_3 HL171_3 HL173_3 HO_8 HO_9 BK164 BK165 HB HR170_3 HR171_3 HR173_3 hq_; have HL170_3 := n0_; have HL171_3 := n1_; have HL173_3 := n2_; have HO_8 := n3_; have HO_9 := n4_; have BK164 := n5_; have BK165 := n6_; have HB := n7_; have HR170_3 := n8_; have HR171_3 := n9_; have HR173_3 := n10_; clear n0_ n1_ n2_ n3_ n4_ n5_ n6_ n7_ n8_ n9_ n10_))
                      have n0_ := Aside0.mk (Kd.V_drew HO_8.out)
                      have n1_ := Aside0.mk (Kd.R_drew HO_9.out)
                      have n2_ := Aside0.mk (Kd.V_drew HL170_3.out)
                      have n3_ := Aside0.mk (Kd.V_drew HL171_3.out)
                      have n4_ := Aside0.mk (Kd.V_drew HL173_3.out)
                      have n5_ := Aside0.mk (blk_drew BK164.out)
                      have n6_ := Aside0.mk (blk_drew BK165.out)
                      have n7_ := Aside0.mk (Kd.C_drew HR170_3.out)
                      have n8_ := Aside0.mk (Kd.C_drew HR171_3.out)
                      have n9_ := Aside0.mk (Kd.C_drew HR173_3.out)
                      have n10_ := Aside0.mk (below_drew1 HB.out)
                      clear HO_8
                      clear HO_9
                      clear HL170_3
                      clear HL171_3
                      clear HL173_3
                      clear BK164
                      clear BK165
                      clear HR170_3
                      clear HR171_3
                      clear HR173_3
                      clear HB
                      have HO_8 := n0_
                      have HO_9 := n1_
                      have HL170_3 := n2_
                      have HL171_3 := n3_
                      have HL173_3 := n4_
                      have BK164 := n5_
                      have BK165 := n6_
                      have HR170_3 := n7_
                      have HR171_3 := n8_
                      have HR173_3 := n9_
                      have HB := n10_
                      clear n0_ n1_ n2_ n3_ n4_ n5_ n6_ n7_ n8_ n9_ n10_
                      have p174 : 0 ≤ (x10_2 : Int) := of_decide_eq_true (by first | (with_reducible assumption) | assumption)
                      have q174 : x10_2 < (t167.length : Int) := of_decide_eq_true (by first | (with_reducible assumption) | assumption)
                      obtain ⟨ad174, A174_3, c174_3, e174, hx174_0, hx174_1, hx174_2, hx174_3, hx174_4, hx174_5, hx174_6, hl174_3, hi174_3⟩ := at_T85 (Kd.V_reads' HO_8.out).2.2 x10_2 p174 q174
                      obtain rfl : ad170 = ad174 := (by injection e174)
                      obtain ⟨ce174, hce174, hMe174, hcc174⟩ := Kd.V_get HO_8.out z85 x10_2 p174 (by first | exact q174 | exact of_decide_eq_true (by first | (with_reducible assumption) | assumption) | (have e_ := (Kd.V_reads' HO_8.out).1; omega))
                      obtain ⟨ua174_3, uc174_3, rfl, ul174_3, ge174_3⟩ := k85_openF hMe174
                      have hv174_3 := hcc174 3 _ rfl
                      rw [add_field _ _ 3 (by omega)] at hv174_3
                      replace hv174_3 := Option.some.inj (hv174_3.symm.trans hx174_3)
                      injection hv174_3 with hva_ hvn_ hvc_
                      rw [hva_] at ge174_3
                      rw [hvc_] at ul174_3
                      have HL174_3 := Aside0.mk (show Kd.V k29 29 _ w.heap.size _ _ ((rd_T85 t167 x10_2).f0.f3) from Kd.V_mk ul174_3 ge174_3)
                      clear hva_ hvn_ hvc_ ge174_3 ul174_3
                      clear hcc174 hce174
                      have HR174_3 := Aside0.mk hi174_3
                      have HC174_3 := Aside0.mk hl174_3
                      clear hi174_3 hl174_3
                      replace p174 := eq_true p174
                      replace q174 := eq_true q174
                      refine start_ (n := 12) (S := fun w' => w'.cell? ⟨gb165, 0, none⟩ = some (.slice A2_0 l2_0.length c2_0) ∧ w'.cell? ⟨gb165, 1, none⟩ = some (.slice A2_1 l2_1.length c2_1) ∧ w'.cell? (ad170.add ((x10_2).toNat * 7)) = some (.int .u8 ((rd_T85 t167 x10_2).f0.f0)) ∧ w'.cell? ⟨(ad170.add ((x10_2).toNat * 7)).block, (ad170.add ((x10_2).toNat * 7)).off + 1, none⟩ = some (.int .u8 ((rd_T85 t167 x10_2).f0.f1)) ∧ w'.cell? ⟨(ad170.add ((x10_2).toNat * 7)).block, (ad170.add ((x10_2).toNat * 7)).off + 2, none⟩ = some (.int .i64 ((rd_T85 t167 x10_2).f0.f2)) ∧ w'.cell? ⟨(ad170.add ((x10_2).toNat * 7)).block, (ad170.add ((x10_2).toNat * 7)).off + 3, none⟩ = some (.slice A174_3 ((rd_T85 t167 x10_2).f0.f3).length c174_3) ∧ w'.cell? ⟨(ad170.add ((x10_2).toNat * 7)).block, (ad170.add ((x10_2).toNat * 7)).off + 4, none⟩ = some (.int .i64 ((rd_T85 t167 x10_2).f1.f0)) ∧ w'.cell? ⟨(ad170.add ((x10_2).toNat * 7)).block, (ad170.add ((x10_2).toNat * 7)).off + 5, none⟩ = some (.int .i64 ((rd_T85 t167 x10_2).f1.f1)) ∧ w'.cell? ⟨(ad170.add ((x10_2).toNat * 7)).block, (ad170.add ((x10_2).toNat * 7)).off + 6, none⟩ = some (.int .i64 ((rd_T85 t167 x10_2).f2))) (ds := []) #[false, false, false, false, false, false, false, false, false, false, false, false] (by kernel_rfl) rfl rfl ⟨(blk_cell BK165.out 0).trans rfl, (blk_cell BK165.out 1).trans rfl, hx174_0, hx174_1, hx174_2, hx174_3, hx174_4, hx174_5, hx174_6⟩ (fun hHeld => ?_); refine with_tabW glossatorref22_Of.tab11 glossatorref22_Of.bits11 (fun HT_ HW_ => ?_)
                      generalize wr.drew = w40 at HO_8 HO_9 HL170_3 HL171_3 HL173_3 BK164 BK165 HR170_3 HR171_3 HR173_3 HB HL174_3 HR174_3 hx174_0 hx174_1 hx174_2 hx174_3 hx174_4 hx174_5 hx174_6 hHeld ⊢
                      refine pure_ (i := 1) (N := some 60) (v := ?_) (a' := ?_) #[false, true, false, false, false, false, false, false, false, false, false, false] rfl rfl (any_of HT_.out (by kernel_rfl)) (fun _ _ _ h => h) (Or.inl ⟨by rfl, ?_⟩) ?_ ?_
                      rotate_left
                      · intro w'
                        go_simp
                        with_reducible rfl
                      rotate_left
                      · simp only [Act.put, List.setIfInBounds_toArray, List.set_cons_zero, List.set_cons_succ, i64_w, i32_w]
                        rfl
                      refine pure_ (i := 2) (N := some 61) (v := ?_) (a' := ?_) #[false, true, true, false, false, false, false, false, false, false, false, false] rfl rfl (any_of HT_.out (by kernel_rfl)) (fun _ _ _ h => h) (Or.inl ⟨by rfl, ?_⟩) ?_ ?_
                      rotate_left
                      · intro w'
                        go_simp
                        with_reducible rfl
                      rotate_left
                      · simp only [Act.put, List.setIfInBounds_toArray, List.set_cons_zero, List.set_cons_succ, i64_w, i32_w]
                        rfl
                      refine pure_ (i := 3) (N := some 62) (v := ?_) (a' := ?_) #[false, true, true, true, false, false, false, false, false, false, false, false] rfl rfl (any_of HT_.out (by kernel_rfl)) (fun _ _ _ h => h) (Or.inl ⟨by rfl, ?_⟩) ?_ ?_
                      rotate_left
                      · intro w'
                        go_simp
                        with_reducible rfl
                      rotate_left
                      · simp only [Act.put, List.setIfInBounds_toArray, List.set_cons_zero, List.set_cons_succ, i64_w, i32_w]
                        rfl
                      refine pure_ (i := 4) (N := some 63) (v := ?_) (a' := ?_) #[false, true, true, true, true, false, false, false, false, false, false, false] rfl rfl (any_of HT_.out (by kernel_rfl)) (fun _ _ _ h => h) (Or.inl ⟨by rfl, ?_⟩) ?_ ?_
                      rotate_left
                      · intro w'
                        go_simp
                        with_reducible rfl
                      rotate_left
                      · simp only [Act.put, List.setIfInBounds_toArray, List.set_cons_zero, List.set_cons_succ, i64_w, i32_w]
                        rfl
                      refine take_ (i := 0) (N := some 59) (v := ?_) (a' := ?_) #[true, true, true, true, true, false, false, false, false, false, false, false] rfl rfl (take_ofW HT_.out HW_.out (by kernel_rfl)) (fun _ _ _ h => h) (Or.inl ⟨by rfl, ?_⟩) hHeld ?_ ?_
                      rotate_left
                      · rintro w' ⟨s0, s1, s2, s3, s4, s5, s6, s7, s8⟩
                        go_simp
                        with_reducible rfl
                      rotate_left
                      · simp only [Act.put, List.setIfInBounds_toArray, List.set_cons_zero, List.set_cons_succ, i64_w, i32_w]
                        rfl
                      refine take_ (i := 5) (N := some 64) (v := ?_) (a' := ?_) #[true, true, true, true, true, true, false, false, false, false, false, false] rfl rfl (take_ofW HT_.out HW_.out (by kernel_rfl)) (fun _ _ _ h => h) (Or.inl ⟨by rfl, ?_⟩) hHeld ?_ ?_
                      rotate_left
                      · rintro w' ⟨s0, s1, s2, s3, s4, s5, s6, s7, s8⟩
                        go_simp
                        with_reducible rfl
                      rotate_left
                      · simp only [Act.put, List.setIfInBounds_toArray, List.set_cons_zero, List.set_cons_succ, i64_w, i32_w]
                        rfl
                      refine one_ (i := 6) (N := some 65) #[true, true, true, true, true, true, true, false, false, false, false, false] rfl rfl (one_of HT_.out (by kernel_rfl)) (by decide) (fun K hK => ?_)
                      refine goes_ Tryd.func26 (by kernel_rfl) rfl #[.agg #[.slice A2_0 l2_0.length c2_0, .slice A2_1 l2_1.length c2_1], .agg #[.int .i64 ((rd_T85 t167 x10_2).f1.f0), .int .i64 ((rd_T85 t167 x10_2).f1.f1)]] (by rfl) rfl rfl (by (try simp only [List.map_toArray, List.map_cons, List.map_nil]); first | done | rfl | (simp only [List.length_drop, List.length_take]; rfl)) ?_
                      with_reducible refine (glossatorref22_name.calls k2 _ _ l2_0 _ _ l2_1 ((rd_T85 t167 x10_2).f1.f0) ((rd_T85 t167 x10_2).f1.f1) t175 t176 _ ?side1 ?side2 ?side3 ?side4 A32.out).mono ?_
                      (case side1 => repeat (first | exact (Kd.C_below HR2_0.out HB.out) | (with_reducible refine Kd.C_alloc ?_ _) | (with_reducible refine Kd.C_drewN ?_ _) | (with_reducible refine Kd.C_drew ?_)))
                      (case side2 => exact HC2_0.out)
                      (case side3 => repeat (first | exact (Kd.C_below HR2_1.out HB.out) | (with_reducible refine Kd.C_alloc ?_ _) | (with_reducible refine Kd.C_drewN ?_ _) | (with_reducible refine Kd.C_drew ?_)))
                      (case side4 => exact HC2_1.out)
                      rintro e w41 ⟨rfl, hb⟩
                      have HS2_ := (hb.cell (World.block_lt_of_cell? _ _ (hHeld.2.2.1))).trans (hHeld.2.2.1)
                      have HS3_ := (hb.cell (World.block_lt_of_cell? _ _ (hHeld.2.2.2.1))).trans (hHeld.2.2.2.1)
                      have HS4_ := (hb.cell (World.block_lt_of_cell? _ _ (hHeld.2.2.2.2.1))).trans (hHeld.2.2.2.2.1)
                      have HS5_ := (hb.cell (World.block_lt_of_cell? _ _ (hHeld.2.2.2.2.2.1))).trans (hHeld.2.2.2.2.2.1)
                      have HS6_ := (hb.cell (World.block_lt_of_cell? _ _ (hHeld.2.2.2.2.2.2.1))).trans (hHeld.2.2.2.2.2.2.1)
                      have HS7_ := (hb.cell (World.block_lt_of_cell? _ _ (hHeld.2.2.2.2.2.2.2.1))).trans (hHeld.2.2.2.2.2.2.2.1)
                      have HS8_ := (hb.cell (World.block_lt_of_cell? _ _ (hHeld.2.2.2.2.2.2.2.2))).trans (hHeld.2.2.2.2.2.2.2.2)
                      refine ⟨_, rfl, ?_⟩
                      have n0_ := Aside0.mk (Kd.V_below (by (with_reducible repeat (first | apply Kd.V_alloc | apply Kd.V_drewN | apply Kd.V_drew)); exact HO_8.out) hb)
                      have n1_ := Aside0.mk (Kd.R_below (by (with_reducible repeat (first | apply Kd.R_alloc | apply Kd.R_drewN | apply Kd.R_drew)); exact HO_9.out) hb)
                      have n2_ := Aside0.mk (Kd.V_below (by (with_reducible repeat (first | apply Kd.V_alloc | apply Kd.V_drewN | apply Kd.V_drew)); exact HL170_3.out) hb)
                      have n3_ := Aside0.mk (Kd.V_below (by (with_reducible repeat (first | apply Kd.V_alloc | apply Kd.V_drewN | apply Kd.V_drew)); exact HL171_3.out) hb)
                      have n4_ := Aside0.mk (Kd.V_below (by (with_reducible repeat (first | apply Kd.V_alloc | apply Kd.V_drewN | apply Kd.V_drew)); exact HL173_3.out) hb)
                      have n5_ := Aside0.mk (Kd.V_below (by (with_reducible repeat (first | apply Kd.V_alloc | apply Kd.V_drewN | apply Kd.V_drew)); exact HL174_3.out) hb)
                      have n6_ := Aside0.mk (blk_below (g := gb164) (o := .cells #[.int .u8 a1_0, .int .u8 a1_1, .int .i64 a1_2, .slice A1_3 l1_3.length c1_3] 29 (0, 0)) (by (with_reducible repeat (first | refine blk_drewN ?_ _ | refine blk_drew ?_ | refine blk_alloc ?_ _)); exact BK164.out) hb)
                      have n7_ := Aside0.mk (blk_below (g := gb165) (o := .cells #[.slice A2_0 l2_0.length c2_0, .slice A2_1 l2_1.length c2_1] 26 (0, 0)) (by (with_reducible repeat (first | refine blk_drewN ?_ _ | refine blk_drew ?_ | refine blk_alloc ?_ _)); exact BK165.out) hb)
                      have n8_ := Aside0.mk (Kd.C_below (by repeat (first | (with_reducible exact HR170_3.out) | (with_reducible refine Kd.C_alloc ?_ _) | (with_reducible refine Kd.C_drewN ?_ _) | (with_reducible refine Kd.C_drew ?_) | exact HR170_3.out)) hb)
                      have n9_ := Aside0.mk (Kd.C_below (by repeat (first | (with_reducible exact HR171_3.out) | (with_reducible refine Kd.C_alloc ?_ _) | (with_reducible refine Kd.C_drewN ?_ _) | (with_reducible refine Kd.C_drew ?_) | exact HR171_3.out)) hb)
                      have n10_ := Aside0.mk (Kd.C_below (by repeat (first | (with_reducible exact HR173_3.out) | (with_reducible refine Kd.C_alloc ?_ _) | (with_reducible refine Kd.C_drewN ?_ _) | (with_reducible refine Kd.C_drew ?_) | exact HR173_3.out)) hb)
                      have n11_ := Aside0.mk (Kd.C_below (by repeat (first | (with_reducible exact HR174_3.out) | (with_reducible refine Kd.C_alloc ?_ _) | (with_reducible refine Kd.C_drewN ?_ _) | (with_reducible refine Kd.C_drew ?_) | exact HR174_3.out)) hb)
                      have n12_ := Aside0.mk (below_step (by repeat (first | (with_reducible first | exact HB.out | apply below_alloc | apply pw_below_drewN | apply below_drew1 | refine below_set ?_ GE164.out | refine below_set ?_ GE165.out) | exact HB.out)) hb)
                      clear HO_8
                      clear HO_9
                      clear HL170_3
                      clear HL171_3
                      clear HL173_3
                      clear HL174_3
                      clear BK164
                      clear BK165
                      clear HR170_3
                      clear HR171_3
                      clear HR173_3
                      clear HR174_3
                      clear HB
                      have HO_8 := n0_
                      have HO_9 := n1_
                      have HL170_3 := n2_
                      have HL171_3 := n3_
                      have HL173_3 := n4_
                      have HL174_3 := n5_
                      have BK164 := n6_
                      have BK165 := n7_
                      have HR170_3 := n8_
                      have HR171_3 := n9_
                      have HR173_3 := n10_
                      have HR174_3 := n11_
                      have HB := n12_
                      clear n0_ n1_ n2_ n3_ n4_ n5_ n6_ n7_ n8_ n9_ n10_ n11_ n12_
                      (try clear hb)
                      (try clear hb2)
                      (try clear hk)
                      (try clear hi)
                      refine hK.out _ _ ⟨(blk_cell BK165.out 0).trans rfl, (blk_cell BK165.out 1).trans rfl, HS2_, HS3_, HS4_, HS5_, HS6_, HS7_, HS8_⟩ (fun hHeld => ?_)
                      clear hK K
                      refine norm_ (a' := ?_) ?_ ?_
                      rotate_left
                      · show Act.put _ (some 65) _ = _
                        simp only [Act.put, List.setIfInBounds_toArray, List.set_cons_zero, List.set_cons_succ, i64_w, i32_w]
                        rfl
                      refine pure_ (i := 7) (N := some 58) (v := ?_) (a' := ?_) #[true, true, true, true, true, true, true, true, false, false, false, false] rfl rfl (any_of HT_.out (by kernel_rfl)) (fun _ _ _ h => h) (Or.inl ⟨by rfl, ?_⟩) ?_ ?_
                      rotate_left
                      · intro w'
                        go_simp
                        with_reducible rfl
                      rotate_left
                      · simp only [Act.put, List.setIfInBounds_toArray, List.set_cons_zero, List.set_cons_succ, i64_w, i32_w]
                        rfl
                      refine pure_ (i := 8) (N := some 66) (v := ?_) (a' := ?_) #[true, true, true, true, true, true, true, true, true, false, false, false] rfl rfl (any_of HT_.out (by kernel_rfl)) (fun _ _ _ h => h) (Or.inl ⟨by rfl, ?_⟩) ?_ ?_
                      rotate_left
                      · intro w'
                        go_simp
                        with_reducible rfl
                      rotate_left
                      · simp only [Act.put, List.setIfInBounds_toArray, List.set_cons_zero, List.set_cons_succ, i64_w, i32_w]
                        rfl
                      refine pure_ (i := 9) (N := some 67) (v := ?_) (a' := ?_) #[true, true, true, true, true, true, true, true, true, true, false, false] rfl rfl (any_of HT_.out (by kernel_rfl)) (fun _ _ _ h => h) (Or.inl ⟨by rfl, ?_⟩) ?_ ?_
                      rotate_left
                      · intro w'
                        go_simp
                        with_reducible rfl
                      rotate_left
                      · simp only [Act.put, List.setIfInBounds_toArray, List.set_cons_zero, List.set_cons_succ, i64_w, i32_w]
                        rfl
                      refine pure_ (i := 10) (N := some 11) (v := ?_) (a' := ?_) #[true, true, true, true, true, true, true, true, true, true, true, false] rfl rfl (any_of HT_.out (by kernel_rfl)) (fun _ _ _ h => h) (Or.inl ⟨by rfl, ?_⟩) ?_ ?_
                      rotate_left
                      · intro w'
                        go_simp
                        with_reducible rfl
                      rotate_left
                      · simp only [Act.put, List.setIfInBounds_toArray, List.set_cons_zero, List.set_cons_succ, i64_w, i32_w]
                        rfl
                      refine pure_ (i := 11) (N := some 12) (v := ?_) (a' := ?_) #[true, true, true, true, true, true, true, true, true, true, true, true] rfl rfl (any_of HT_.out (by kernel_rfl)) (fun _ _ _ h => h) (Or.inl ⟨by rfl, ?_⟩) ?_ ?_
                      rotate_left
                      · intro w'
                        go_simp
                        with_reducible rfl
                      rotate_left
                      · simp only [Act.put, List.setIfInBounds_toArray, List.set_cons_zero, List.set_cons_succ, i64_w, i32_w]
                        rfl
                      refine done_ (done_of HT_.out (by kernel_rfl)) ?_
                      try go_wp2
                      go_roundg k2
                      case measure => have := HJ3.out; have := HK2.out; omega
                      case rel => exact ⟨(x9_2), (wrap64 (x10_2 + 1)), (by first | rfl | (simp; done) | (simp [*]; done)), H', ⟨by have := HJ3.out; have := HK2.out; omega⟩, ⟨by (with_reducible repeat (first | apply Kd.V_alloc | apply Kd.V_drewN | apply Kd.V_drew)); exact HO_8.out⟩, ⟨by (with_reducible repeat (first | apply Kd.R_alloc | apply Kd.R_drewN | apply Kd.R_drew)); exact HO_9.out⟩, ⟨by (with_reducible repeat (first | refine blk_drewN ?_ _ | refine blk_drew ?_ | refine blk_alloc ?_ _)); exact BK164.out⟩, ⟨by (with_reducible repeat (first | refine blk_drewN ?_ _ | refine blk_drew ?_ | refine blk_alloc ?_ _)); exact BK165.out⟩, ⟨by repeat (first | (with_reducible first | exact HB.out | apply below_alloc | apply pw_below_drewN | apply below_drew1 | refine below_set ?_ GE164.out | refine below_set ?_ GE165.out) | exact HB.out)⟩⟩
                  · rw [if_neg c31] at H
                    have c31b0 : (((rd_T85 t167 x10_2).f0.f0) == 6) = false := beq_eq_false_iff_ne.mpr c31
                    have c31b1 : (((rd_T85 t167 x10_2).f0.f0) != 6) = true := bne_iff_ne.mpr c31
                    by_cases c42 : t172 ≥ 0
                    · rw [if_pos c42] at H
                      have c42b0 : decide (0 ≤ t172) = true := decide_eq_true c42
                      clear c42
                      by_cases c43 : x9_2.length < 4398046511104
                      · rw [if_pos c43] at H
                        have LMc43 := Aside0.mk c43
                        clear c43
                        obtain ⟨y182, hy182⟩ : ∃ y_ : List (S57), y_ = (x9_2 ++ [(⟨(⟨(rd_T85 t167 x10_2).f1.f0, (rd_T85 t167 x10_2).f1.f1⟩ : S41), t172, 0⟩ : S57)]) := ⟨_, rfl⟩
                        replace H : (glossatorref22_Of.l0 k2 t167 y182 (wrap64 (x10_2 + 1)) l2_0 l2_1) = some (r1, r2) := by first | (rw [hy182]; with_reducible exact H) | (have H2_ := (Option.bind_some _ _).symm.trans H; rw [hy182]; with_reducible exact H2_) | (have H2_ := (Option.bind_some _ _).symm.trans H; with_reducible exact H2_) | with_reducible exact H | (rw [hy182]; exact H) | exact H
                        have Ny182 := Aside0.mk hy182
                        clear hy182
                        have H' := Aside0.mk H
                        clear H
                        obtain ⟨Ao44, co44, eo44⟩ := Kd.V_slice HO_8.out
                        subst eo44
                        have p170 : 0 ≤ (x10_2 : Int) := of_decide_eq_true (by first | (with_reducible assumption) | assumption)
                        have q170 : x10_2 < (t167.length : Int) := of_decide_eq_true (by first | (with_reducible assumption) | assumption)
                        obtain ⟨ad170, A170_3, c170_3, e170, hx170_0, hx170_1, hx170_2, hx170_3, hx170_4, hx170_5, hx170_6, hl170_3, hi170_3⟩ := at_T85 (Kd.V_reads' HO_8.out).2.2 x10_2 p170 q170
                        cases e170
                        obtain ⟨ce170, hce170, hMe170, hcc170⟩ := Kd.V_get HO_8.out z85 x10_2 p170 (by first | exact q170 | exact of_decide_eq_true (by first | (with_reducible assumption) | assumption) | (have e_ := (Kd.V_reads' HO_8.out).1; omega))
                        obtain ⟨ua170_3, uc170_3, rfl, ul170_3, ge170_3⟩ := k85_openF hMe170
                        have hv170_3 := hcc170 3 _ rfl
                        rw [add_field _ _ 3 (by omega)] at hv170_3
                        replace hv170_3 := Option.some.inj (hv170_3.symm.trans hx170_3)
                        injection hv170_3 with hva_ hvn_ hvc_
                        rw [hva_] at ge170_3
                        rw [hvc_] at ul170_3
                        have HL170_3 := Aside0.mk (show Kd.V k29 29 _ w.heap.size _ _ ((rd_T85 t167 x10_2).f0.f3) from Kd.V_mk ul170_3 ge170_3)
                        clear hva_ hvn_ hvc_ ge170_3 ul170_3
                        clear hcc170 hce170
                        have HR170_3 := Aside0.mk hi170_3
                        have HC170_3 := Aside0.mk hl170_3
                        clear hi170_3 hl170_3
                        replace p170 := eq_true p170
                        replace q170 := eq_true q170
                        have p171 : 0 ≤ (x10_2 : Int) := of_decide_eq_true (by first | (with_reducible assumption) | assumption)
                        have q171 : x10_2 < (t167.length : Int) := of_decide_eq_true (by first | (with_reducible assumption) | assumption)
                        obtain ⟨ad171, A171_3, c171_3, e171, hx171_0, hx171_1, hx171_2, hx171_3, hx171_4, hx171_5, hx171_6, hl171_3, hi171_3⟩ := at_T85 (Kd.V_reads' HO_8.out).2.2 x10_2 p171 q171
                        obtain rfl : ad170 = ad171 := (by injection e171)
                        obtain ⟨ce171, hce171, hMe171, hcc171⟩ := Kd.V_get HO_8.out z85 x10_2 p171 (by first | exact q171 | exact of_decide_eq_true (by first | (with_reducible assumption) | assumption) | (have e_ := (Kd.V_reads' HO_8.out).1; omega))
                        obtain ⟨ua171_3, uc171_3, rfl, ul171_3, ge171_3⟩ := k85_openF hMe171
                        have hv171_3 := hcc171 3 _ rfl
                        rw [add_field _ _ 3 (by omega)] at hv171_3
                        replace hv171_3 := Option.some.inj (hv171_3.symm.trans hx171_3)
                        injection hv171_3 with hva_ hvn_ hvc_
                        rw [hva_] at ge171_3
                        rw [hvc_] at ul171_3
                        have HL171_3 := Aside0.mk (show Kd.V k29 29 _ w.heap.size _ _ ((rd_T85 t167 x10_2).f0.f3) from Kd.V_mk ul171_3 ge171_3)
                        clear hva_ hvn_ hvc_ ge171_3 ul171_3
                        clear hcc171 hce171
                        have HR171_3 := Aside0.mk hi171_3
                        have HC171_3 := Aside0.mk hl171_3
                        clear hi171_3 hl171_3
                        replace p171 := eq_true p171
                        replace q171 := eq_true q171
                        have ea_ := Option.some.inj (hx170_3.symm.trans hx171_3)
                        injection ea_ with ea_ en_ ec_
                        subst ea_
                        subst ec_
                        clear en_
                        go_wp2_with (first | ((with_reducible refine gate_callee (f := 25) rfl ?_); refine goesL_ (some 50) rfl rfl Tryd.func25 (by kernel_rfl) rfl #[.int .u8 ((rd_T85 t167 x10_2).f0.f0)] rfl (by (try simp only [List.map_toArray, List.map_cons, List.map_nil]); first | done | rfl | (simp only [List.length_drop, List.length_take]; rfl)) ?_; (with_reducible refine (glossatorref22_kind.calls k2 ((rd_T85 t167 x10_2).f0.f0) t172 _ A30.out).mono ?_); rintro e w' ⟨rfl, ⟨nd, rfl⟩⟩; refine ⟨_, rfl, ?_⟩; have p173 : 0 ≤ (x10_2 : Int) := of_decide_eq_true (by first | (with_reducible assumption) | assumption); have q173 : x10_2 < (t167.length : Int) := of_decide_eq_true (by first | (with_reducible assumption) | assumption); obtain ⟨ad173, A173_3, c173_3, e173, hx173_0, hx173_1, hx173_2, hx173_3, hx173_4, hx173_5, hx173_6, hl173_3, hi173_3⟩ := at_T85 (Kd.V_reads' HO_8.out).2.2 x10_2 p173 q173; obtain rfl : ad170 = ad173 := (by injection e173); obtain ⟨ce173, hce173, hMe173, hcc173⟩ := Kd.V_get HO_8.out z85 x10_2 p173 (by first | exact q173 | exact of_decide_eq_true (by first | (with_reducible assumption) | assumption) | (have e_ := (Kd.V_reads' HO_8.out).1; omega)); obtain ⟨ua173_3, uc173_3, rfl, ul173_3, ge173_3⟩ := k85_openF hMe173; have hv173_3 := hcc173 3 _ rfl; rw [add_field _ _ 3 (by omega)] at hv173_3; replace hv173_3 := Option.some.inj (hv173_3.symm.trans hx173_3); injection hv173_3 with hva_ hvn_ hvc_; rw [hva_] at ge173_3; rw [hvc_] at ul173_3; have HL173_3 := Aside0.mk (show Kd.V k29 29 _ w.heap.size _ _ ((rd_T85 t167 x10_2).f0.f3) from Kd.V_mk ul173_3 ge173_3); clear hva_ hvn_ hvc_ ge173_3 ul173_3; clear hcc173 hce173; have HR173_3 := Aside0.mk hi173_3; have HC173_3 := Aside0.mk hl173_3; clear hi173_3 hl173_3; replace p173 := eq_true p173; replace q173 := eq_true q173; have ea_ := Option.some.inj (hx170_3.symm.trans hx173_3); injection ea_ with ea_ en_ ec_; subst ea_; subst ec_; clear en_; have p181 : 0 ≤ (x10_2 : Int) := of_decide_eq_true (by first | (with_reducible assumption) | assumption); have q181 : x10_2 < (t167.length : Int) := of_decide_eq_true (by first | (with_reducible assumption) | assumption); obtain ⟨ad181, A181_3, c181_3, e181, hx181_0, hx181_1, hx181_2, hx181_3, hx181_4, hx181_5, hx181_6, hl181_3, hi181_3⟩ := at_T85 (Kd.V_reads' HO_8.out).2.2 x10_2 p181 q181; obtain rfl : ad170 = ad181 := (by injection e181); obtain ⟨ce181, hce181, hMe181, hcc181⟩ := Kd.V_get HO_8.out z85 x10_2 p181 (by first | exact q181 | exact of_decide_eq_true (by first | (with_reducible assumption) | assumption) | (have e_ := (Kd.V_reads' HO_8.out).1; omega)); obtain ⟨ua181_3, uc181_3, rfl, ul181_3, ge181_3⟩ := k85_openF hMe181; have hv181_3 := hcc181 3 _ rfl; rw [add_field _ _ 3 (by omega)] at hv181_3; replace hv181_3 := Option.some.inj (hv181_3.symm.trans hx181_3); injection hv181_3 with hva_ hvn_ hvc_; rw [hva_] at ge181_3; rw [hvc_] at ul181_3; have HL181_3 := Aside0.mk (show Kd.V k29 29 _ w.heap.size _ _ ((rd_T85 t167 x10_2).f0.f3) from Kd.V_mk ul181_3 ge181_3); clear hva_ hvn_ hvc_ ge181_3 ul181_3; clear hcc181 hce181; have HR181_3 := Aside0.mk hi181_3; have HC181_3 := Aside0.mk hl181_3; clear hi181_3 hl181_3; replace p181 := eq_true p181; replace q181 := eq_true q181; have ea_ := Option.some.inj (hx170_3.symm.trans hx181_3); injection ea_ with ea_ en_ ec_; subst ea_; subst ec_; clear en_) | ((with_reducible refine gate_builtin (b := .append) (xs := #[.tmp 70, .tmp 79]) rfl ?_); (try (refine gate_guard (by rfl) ?_; dsimp only)); at_builtin; refine Kd.R_append k57 (w0 := w) w.heap.size rfl (.tmp 70) (.tmp 79) 47 57 (.agg #[(.int .i64 0), (.int .i64 0), (.int .i64 0), (.int .i64 0)]) 32 rfl Tryd.underlying47 info57 rfl (by decide) (by omega) u9 x9_2 (⟨(⟨(rd_T85 t167 x10_2).f1.f0, (rd_T85 t167 x10_2).f1.f1⟩ : S41), t172, 0⟩ : S57) [.int .i64 ((rd_T85 t167 x10_2).f1.f0), .int .i64 ((rd_T85 t167 x10_2).f1.f1), .int .i64 t172, .int .i64 0] (fun _ => True) (fun _ => False) rfl rfl ?aP (fun _ hk => hk.elim) ?aF ?aO ?aB ?aS ?aL ?_; (case aP => exact k57_mkM _ _ _ (⟨(⟨(rd_T85 t167 x10_2).f1.f0, (rd_T85 t167 x10_2).f1.f1⟩ : S41), t172, 0⟩ : S57)); (case aB => exact (by repeat (first | (with_reducible first | exact HB.out | apply below_alloc | apply pw_below_drewN | apply below_drew1 | refine below_set ?_ GE164.out | refine below_set ?_ GE165.out) | exact HB.out))); (case aF => exact (fun _ _ => trivial)); (case aO => exact (by (with_reducible repeat (first | apply Kd.R_alloc | apply Kd.R_drewN | apply Kd.R_drew)); exact HO_9.out)); (case aS => exact (below_size (by repeat (first | (with_reducible first | exact HB.out | apply below_alloc | apply pw_below_drewN | apply below_drew1 | refine below_set ?_ GE164.out | refine below_set ?_ GE165.out) | exact HB.out)))); (case aL => have := LMc43.out; omega); intro v183 w45 ho hb hg hat; rw [← Ny182.out] at ho; have n0_ := Aside0.mk (Kd.V_afterv (ok := (fun k_ => k_ ≠ gb164 ∧ k_ ≠ gb165)) (by (with_reducible repeat (first | apply Kd.V_alloc | apply Kd.V_drewN | apply Kd.V_drew)); exact Kd.V_mono HO_8.out (fun _ hk => ⟨⟨hk.2.1, hk.2.2⟩, hk.1⟩)) hg hat); have n1_ := Aside0.mk (blk_grown (g := gb164) (o := .cells #[.int .u8 a1_0, .int .u8 a1_1, .int .i64 a1_2, .slice A1_3 l1_3.length c1_3] 29 (0, 0)) (by (with_reducible repeat (first | refine blk_drewN ?_ _ | refine blk_drew ?_ | refine blk_alloc ?_ _)); exact BK164.out) hg (Kd.R_ne HO_9.out BK164.out (by decide))); have n2_ := Aside0.mk (blk_grown (g := gb165) (o := .cells #[.slice A2_0 l2_0.length c2_0, .slice A2_1 l2_1.length c2_1] 26 (0, 0)) (by (with_reducible repeat (first | refine blk_drewN ?_ _ | refine blk_drew ?_ | refine blk_alloc ?_ _)); exact BK165.out) hg (Kd.R_ne HO_9.out BK165.out (by decide))); have n3_ := Aside0.mk (Kd.V_afterv (ok := (fun k_ => k_ ≠ gb164 ∧ k_ ≠ gb165)) (by (with_reducible repeat (first | apply Kd.V_alloc | apply Kd.V_drewN | apply Kd.V_drew)); exact Kd.V_mono HL170_3.out (fun _ hk => ⟨⟨hk.2.1, hk.2.2⟩, hk.1⟩)) hg hat); have n4_ := Aside0.mk (Kd.V_afterv (ok := (fun k_ => k_ ≠ gb164 ∧ k_ ≠ gb165)) (by (with_reducible repeat (first | apply Kd.V_alloc | apply Kd.V_drewN | apply Kd.V_drew)); exact Kd.V_mono HL171_3.out (fun _ hk => ⟨⟨hk.2.1, hk.2.2⟩, hk.1⟩)) hg hat); have n5_ := Aside0.mk (Kd.V_afterv (ok := (fun k_ => k_ ≠ gb164 ∧ k_ ≠ gb165)) (by (with_reducible repeat (first | apply Kd.V_alloc | apply Kd.V_drewN | apply Kd.V_drew)); exact Kd.V_mono HL173_3.out (fun _ hk => ⟨⟨hk.2.1, hk.2.2⟩, hk.1⟩)) hg hat); have n6_ := Aside0.mk (Kd.V_afterv (ok := (fun k_ => k_ ≠ gb164 ∧ k_ ≠ gb165)) (by (with_reducible repeat (first | apply Kd.V_alloc | apply Kd.V_drewN | apply Kd.V_drew)); exact Kd.V_mono HL181_3.out (fun _ hk => ⟨⟨hk.2.1, hk.2.2⟩, hk.1⟩)) hg hat); have n7_ := Aside0.mk (hb); have n8_ := Aside0.mk (ho); clear HO_8; clear BK164; clear BK165; clear HL170_3; clear HL171_3; clear HL173_3; clear HL181_3; clear HB; clear HO_9; have HO_8 := n0_; have BK164 := n1_; have BK165 := n2_; have HL170_3 := n3_; have HL171_3 := n4_; have HL173_3 := n5_; have HL181_3 := n6_; have HB := n7_; have HO184 := n8_; clear n0_ n1_ n2_ n3_ n4_ n5_ n6_ n7_ n8_; clear ho hb hg hat))
                        go_roundg k2
                        case measure => have := HJ3.out; have := HK2.out; omega
                        case rel => exact ⟨(y182), (wrap64 (x10_2 + 1)), (by first | rfl | (simp; done) | (simp [*]; done)), H', ⟨by have := HJ3.out; have := HK2.out; omega⟩, ⟨by (with_reducible repeat (first | apply Kd.V_alloc | apply Kd.V_drewN | apply Kd.V_drew)); exact Kd.V_mono HO_8.out (fun _ hk => ⟨hk.2, ⟨hk.1.1, hk.1.2⟩⟩)⟩, ⟨by (with_reducible repeat (first | apply Kd.R_alloc | apply Kd.R_drewN | apply Kd.R_drew)); exact HO184.out⟩, ⟨by (with_reducible repeat (first | refine blk_drewN ?_ _ | refine blk_drew ?_ | refine blk_alloc ?_ _)); exact BK164.out⟩, ⟨by (with_reducible repeat (first | refine blk_drewN ?_ _ | refine blk_drew ?_ | refine blk_alloc ?_ _)); exact BK165.out⟩, ⟨by repeat (first | (with_reducible first | exact HB.out | apply below_alloc | apply pw_below_drewN | apply below_drew1 | refine below_set ?_ GE164.out | refine below_set ?_ GE165.out) | exact HB.out)⟩⟩
                      · rw [if_neg c43] at H
                        exact absurd H (by simp)
                    · rw [if_neg c42] at H
                      have c42b0 : decide (0 ≤ t172) = false := decide_eq_false c42
                      clear c42
                      have H' := Aside0.mk H
                      clear H
                      obtain ⟨Ao46, co46, eo46⟩ := Kd.V_slice HO_8.out
                      subst eo46
                      have p170 : 0 ≤ (x10_2 : Int) := of_decide_eq_true (by first | (with_reducible assumption) | assumption)
                      have q170 : x10_2 < (t167.length : Int) := of_decide_eq_true (by first | (with_reducible assumption) | assumption)
                      obtain ⟨ad170, A170_3, c170_3, e170, hx170_0, hx170_1, hx170_2, hx170_3, hx170_4, hx170_5, hx170_6, hl170_3, hi170_3⟩ := at_T85 (Kd.V_reads' HO_8.out).2.2 x10_2 p170 q170
                      cases e170
                      obtain ⟨ce170, hce170, hMe170, hcc170⟩ := Kd.V_get HO_8.out z85 x10_2 p170 (by first | exact q170 | exact of_decide_eq_true (by first | (with_reducible assumption) | assumption) | (have e_ := (Kd.V_reads' HO_8.out).1; omega))
                      obtain ⟨ua170_3, uc170_3, rfl, ul170_3, ge170_3⟩ := k85_openF hMe170
                      have hv170_3 := hcc170 3 _ rfl
                      rw [add_field _ _ 3 (by omega)] at hv170_3
                      replace hv170_3 := Option.some.inj (hv170_3.symm.trans hx170_3)
                      injection hv170_3 with hva_ hvn_ hvc_
                      rw [hva_] at ge170_3
                      rw [hvc_] at ul170_3
                      have HL170_3 := Aside0.mk (show Kd.V k29 29 _ w.heap.size _ _ ((rd_T85 t167 x10_2).f0.f3) from Kd.V_mk ul170_3 ge170_3)
                      clear hva_ hvn_ hvc_ ge170_3 ul170_3
                      clear hcc170 hce170
                      have HR170_3 := Aside0.mk hi170_3
                      have HC170_3 := Aside0.mk hl170_3
                      clear hi170_3 hl170_3
                      replace p170 := eq_true p170
                      replace q170 := eq_true q170
                      have p171 : 0 ≤ (x10_2 : Int) := of_decide_eq_true (by first | (with_reducible assumption) | assumption)
                      have q171 : x10_2 < (t167.length : Int) := of_decide_eq_true (by first | (with_reducible assumption) | assumption)
                      obtain ⟨ad171, A171_3, c171_3, e171, hx171_0, hx171_1, hx171_2, hx171_3, hx171_4, hx171_5, hx171_6, hl171_3, hi171_3⟩ := at_T85 (Kd.V_reads' HO_8.out).2.2 x10_2 p171 q171
                      obtain rfl : ad170 = ad171 := (by injection e171)
                      obtain ⟨ce171, hce171, hMe171, hcc171⟩ := Kd.V_get HO_8.out z85 x10_2 p171 (by first | exact q171 | exact of_decide_eq_true (by first | (with_reducible assumption) | assumption) | (have e_ := (Kd.V_reads' HO_8.out).1; omega))
                      obtain ⟨ua171_3, uc171_3, rfl, ul171_3, ge171_3⟩ := k85_openF hMe171
                      have hv171_3 := hcc171 3 _ rfl
                      rw [add_field _ _ 3 (by omega)] at hv171_3
                      replace hv171_3 := Option.some.inj (hv171_3.symm.trans hx171_3)
                      injection hv171_3 with hva_ hvn_ hvc_
                      rw [hva_] at ge171_3
                      rw [hvc_] at ul171_3
                      have HL171_3 := Aside0.mk (show Kd.V k29 29 _ w.heap.size _ _ ((rd_T85 t167 x10_2).f0.f3) from Kd.V_mk ul171_3 ge171_3)
                      clear hva_ hvn_ hvc_ ge171_3 ul171_3
                      clear hcc171 hce171
                      have HR171_3 := Aside0.mk hi171_3
                      have HC171_3 := Aside0.mk hl171_3
                      clear hi171_3 hl171_3
                      replace p171 := eq_true p171
                      replace q171 := eq_true q171
                      have ea_ := Option.some.inj (hx170_3.symm.trans hx171_3)
                      injection ea_ with ea_ en_ ec_
                      subst ea_
                      subst ec_
                      clear en_
                      go_wp2_with (first | ((with_reducible refine gate_callee (f := 25) rfl ?_); refine goesL_ (some 50) rfl rfl Tryd.func25 (by kernel_rfl) rfl #[.int .u8 ((rd_T85 t167 x10_2).f0.f0)] rfl (by (try simp only [List.map_toArray, List.map_cons, List.map_nil]); first | done | rfl | (simp only [List.length_drop, List.length_take]; rfl)) ?_; (with_reducible refine (glossatorref22_kind.calls k2 ((rd_T85 t167 x10_2).f0.f0) t172 _ A30.out).mono ?_); rintro e w' ⟨rfl, ⟨nd, rfl⟩⟩; refine ⟨_, rfl, ?_⟩; have p173 : 0 ≤ (x10_2 : Int) := of_decide_eq_true (by first | (with_reducible assumption) | assumption); have q173 : x10_2 < (t167.length : Int) := of_decide_eq_true (by first | (with_reducible assumption) | assumption); obtain ⟨ad173, A173_3, c173_3, e173, hx173_0, hx173_1, hx173_2, hx173_3, hx173_4, hx173_5, hx173_6, hl173_3, hi173_3⟩ := at_T85 (Kd.V_reads' HO_8.out).2.2 x10_2 p173 q173; obtain rfl : ad170 = ad173 := (by injection e173); obtain ⟨ce173, hce173, hMe173, hcc173⟩ := Kd.V_get HO_8.out z85 x10_2 p173 (by first | exact q173 | exact of_decide_eq_true (by first | (with_reducible assumption) | assumption) | (have e_ := (Kd.V_reads' HO_8.out).1; omega)); obtain ⟨ua173_3, uc173_3, rfl, ul173_3, ge173_3⟩ := k85_openF hMe173; have hv173_3 := hcc173 3 _ rfl; rw [add_field _ _ 3 (by omega)] at hv173_3; replace hv173_3 := Option.some.inj (hv173_3.symm.trans hx173_3); injection hv173_3 with hva_ hvn_ hvc_; rw [hva_] at ge173_3; rw [hvc_] at ul173_3; have HL173_3 := Aside0.mk (show Kd.V k29 29 _ w.heap.size _ _ ((rd_T85 t167 x10_2).f0.f3) from Kd.V_mk ul173_3 ge173_3); clear hva_ hvn_ hvc_ ge173_3 ul173_3; clear hcc173 hce173; have HR173_3 := Aside0.mk hi173_3; have HC173_3 := Aside0.mk hl173_3; clear hi173_3 hl173_3; replace p173 := eq_true p173; replace q173 := eq_true q173; have ea_ := Option.some.inj (hx170_3.symm.trans hx173_3); injection ea_ with ea_ en_ ec_; subst ea_; subst ec_; clear en_))
                      go_roundg k2
                      case measure => have := HJ3.out; have := HK2.out; omega
                      case rel => exact ⟨(x9_2), (wrap64 (x10_2 + 1)), (by first | rfl | (simp; done) | (simp [*]; done)), H', ⟨by have := HJ3.out; have := HK2.out; omega⟩, ⟨by (with_reducible repeat (first | apply Kd.V_alloc | apply Kd.V_drewN | apply Kd.V_drew)); exact HO_8.out⟩, ⟨by (with_reducible repeat (first | apply Kd.R_alloc | apply Kd.R_drewN | apply Kd.R_drew)); exact HO_9.out⟩, ⟨by (with_reducible repeat (first | refine blk_drewN ?_ _ | refine blk_drew ?_ | refine blk_alloc ?_ _)); exact BK164.out⟩, ⟨by (with_reducible repeat (first | refine blk_drewN ?_ _ | refine blk_drew ?_ | refine blk_alloc ?_ _)); exact BK165.out⟩, ⟨by repeat (first | (with_reducible first | exact HB.out | apply below_alloc | apply pw_below_drewN | apply below_drew1 | refine below_set ?_ GE164.out | refine below_set ?_ GE165.out) | exact HB.out)⟩⟩
              · rw [if_neg c27] at H
                exact absurd H (by simp)
            · rw [if_neg c26] at H
              have c26b0 : decide (x10_2 < (t167.length : Int)) = false := decide_eq_false c26
              clear c26
              simp only [Option.some.injEq, Prod.mk.injEq] at H
              obtain ⟨rfl, rfl⟩ := H
              obtain ⟨Ao47, co47, eo47⟩ := Kd.V_slice HO_8.out
              subst eo47
              go_wp2
              go_ret2
              exact ⟨_, by first | rfl | (simp [errW_none, errW_some] <;> rfl) | (simp [*, errW_none, errW_some] <;> rfl), by (with_reducible repeat (first | apply Kd.R_alloc | apply Kd.R_drewN | apply Kd.R_drew)); exact HO_9.out, by repeat (first | (with_reducible first | exact HB.out | apply below_alloc | apply pw_below_drewN | apply below_drew1 | refine below_set ?_ GE164.out | refine below_set ?_ GE165.out) | exact HB.out)⟩
end Go.Proofs.YtobgkpnigjfhmaaDoor.H
