-- printed by wip/printx.py, a call of the kit's printer over this seat (with contracts of our own for the functions that it does not take)
import Derived.Test.YtceddikbmbadlaaQHx0
import Derived.Test.YtceddikbmbadlaaQHTreeAll
namespace Go.Proofs.Ytceddikbmbadlaa.H
open Go.RowKit Go.Proofs.YtceddikbmbadlaaW.PrintWords Go.Proofs.YtceddikbmbadlaaW.PrintLast Go.Proofs.YtceddikbmbadlaaW.PrintMore
attribute [local go_sem] max2_int min2_int max_two min_two max_three min_three max_four min_four   -- for this text's walks alone
set_option linter.unusedVariables false
set_option linter.unusedSimpArgs false
def glossatorref19_Of.l0 : Nat → List (S44) → List (S58) → Int → Option ((List (S44)))
  | 0, _, _, _ => none
  | k + 1, x3, x4, x5 => if x5 < (x4.length : Int) then (if 0 ≤ x5 then (if ((rd_T58 x4 x5).f0.f0) = 50 then (if x3.length < 5864062014805 then (glossatorref19_Of.l0 k (x3 ++ [(⟨(⟨(rd_T58 x4 x5).f1.f0, (rd_T58 x4 x5).f1.f1⟩ : S42), (rd_T58 x4 x5).f0.f0, (rd_T58 x4 x5).f0.f1⟩ : S44)]) x4 (wrap64 (x5 + 1))) else (none)) else (if ((rd_T58 x4 x5).f0.f0) = 68 then (if x3.length < 5864062014805 then (glossatorref19_Of.l0 k (x3 ++ [(⟨(⟨(rd_T58 x4 x5).f1.f0, (rd_T58 x4 x5).f1.f1⟩ : S42), (rd_T58 x4 x5).f0.f0, (rd_T58 x4 x5).f0.f1⟩ : S44)]) x4 (wrap64 (x5 + 1))) else (none)) else (if ((rd_T58 x4 x5).f0.f0) = 5 then (if x3.length < 5864062014805 then (glossatorref19_Of.l0 k (x3 ++ [(⟨(⟨(rd_T58 x4 x5).f1.f0, (rd_T58 x4 x5).f1.f1⟩ : S42), (rd_T58 x4 x5).f0.f0, (rd_T58 x4 x5).f0.f1⟩ : S44)]) x4 (wrap64 (x5 + 1))) else (none)) else (if ((rd_T58 x4 x5).f0.f0) = 9 then (if x3.length < 5864062014805 then (glossatorref19_Of.l0 k (x3 ++ [(⟨(⟨(rd_T58 x4 x5).f1.f0, (rd_T58 x4 x5).f1.f1⟩ : S42), (rd_T58 x4 x5).f0.f0, (rd_T58 x4 x5).f0.f1⟩ : S44)]) x4 (wrap64 (x5 + 1))) else (none)) else (if ((rd_T58 x4 x5).f0.f0) = 4 then (if x3.length < 5864062014805 then (glossatorref19_Of.l0 k (x3 ++ [(⟨(⟨(rd_T58 x4 x5).f1.f0, (rd_T58 x4 x5).f1.f1⟩ : S42), (rd_T58 x4 x5).f0.f0, (rd_T58 x4 x5).f0.f1⟩ : S44)]) x4 (wrap64 (x5 + 1))) else (none)) else (glossatorref19_Of.l0 k x3 x4 (wrap64 (x5 + 1)))))))) else (none)) else (some x3)
def glossatorref19_Of.f (k : Nat) (a0_0 : Int) (a0_1 : Int) (a0_2 : Int) (l0_3 : List (S25)) : Option ((List (S44))) := (glossatorref15_All.f k a0_0 a0_1 a0_2 l0_3).bind fun t153 => (glossatorref19_Of.l0 k ([] : List (S44)) t153 0)
theorem glossatorref19_Of.mono_l : ∀ k, (∀ y0 y1 y2, LeO (glossatorref19_Of.l0 k y0 y1 y2) (glossatorref19_Of.l0 (k + 1) y0 y1 y2))
  | 0 => fun _ _ _ r h => by simp [glossatorref19_Of.l0] at h
  | k + 1 => by
    have ih0 := glossatorref19_Of.mono_l k
    · intro y0 y1 y2
      unfold glossatorref19_Of.l0
      repeat' first
      | (with_reducible exact ih0 _ _ _)
      | (with_reducible exact glossatorref15_All.mono _ _ _ _ _)
      | (with_reducible exact LeO.refl _)
      | (with_reducible exact LeO.none _)
      | (with_reducible refine LeO.ite ?_ ?_)
      | (with_reducible refine LeO.bind ?_ (fun _ => ?_))
      | exact ih0 _ _ _
      | exact glossatorref15_All.mono _ _ _ _ _
      | exact LeO.none _
      | refine LeO.ite ?_ ?_
      | refine LeO.bind ?_ (fun _ => ?_)
theorem glossatorref19_Of.mono : ∀ a0 a1 a2 a3 k, LeO (glossatorref19_Of.f k a0 a1 a2 a3) (glossatorref19_Of.f (k + 1) a0 a1 a2 a3) := by
  intro a0 a1 a2 a3 k
  have ih0 := glossatorref19_Of.mono_l k
  unfold glossatorref19_Of.f
  repeat' first
      | (with_reducible exact ih0 _ _ _)
      | (with_reducible exact glossatorref15_All.mono _ _ _ _ _)
      | (with_reducible exact LeO.refl _)
      | (with_reducible exact LeO.none _)
      | (with_reducible refine LeO.ite ?_ ?_)
      | (with_reducible refine LeO.bind ?_ (fun _ => ?_))
      | exact ih0 _ _ _
      | exact glossatorref15_All.mono _ _ _ _ _
      | exact LeO.none _
      | refine LeO.ite ?_ ?_
      | refine LeO.bind ?_ (fun _ => ?_)
def glossatorref19_Of.T8 : Bool × List (List Nat × List Nat) := (true, [([], []), ([], []), ([], []), ([1, 2], [1, 2]), ([3], [3]), ([4], [4]), ([], []), ([], []), ([], []), ([7, 8], [7, 8]), ([9], [9]), ([10], [10]), ([11], [11]), ([5, 6, 12], [5, 6, 12]), ([13], [13]), ([0, 14], [0, 14]), ([15, 15, 0, 1, 2, 3, 4, 5, 6, 7, 8, 9, 10, 11, 12, 13, 14, 15], [0, 15])])
def glossatorref19_Of.B8 : List Nat := [0, 0, 0, 6, 14, 30, 0, 0, 0, 384, 896, 1920, 3968, 8190, 16382, 32767, 65535]
theorem glossatorref19_Of.tab8 : rtab .any (opsOf Try.f11 8) = glossatorref19_Of.T8 := by kernel_rfl
theorem glossatorref19_Of.bits8 : waitsOk glossatorref19_Of.T8.2 glossatorref19_Of.B8 = true := by kernel_rfl
set_option maxHeartbeats 8000000 in
set_option maxRecDepth 100000 in
theorem glossatorref19_Of.calls (k : Nat) (a0_0 : Int) (a0_1 : Int) (a0_2 : Int) (A0_3 : Option Addr) (c0_3 : Nat) (l0_3 : List (S25)) (r : List (S44)) (w : World) (hr0_3 : Kd.C k25 w A0_3 l0_3.length l0_3) (hc0_3 : l0_3.length ≤ c0_3) (h : glossatorref19_Of.f k a0_0 a0_1 a0_2 l0_3 = some r) :
    Calls Try.prog 11 #[.agg #[.int .u8 a0_0, .int .u8 a0_1, .int .i64 a0_2, .slice A0_3 l0_3.length c0_3]] w fun e w' => ∃ v0_ : Value, e = .returned (v0_) ∧ Kd.R k44 44 w' w.heap.size (fun _ => True) v0_ r ∧ Below w.heap.size w w' := by
  have hu25 := Try.underlying25
  have hu42 := Try.underlying42
  have hu44 := Try.underlying44
  have HR0_3 := Aside0.mk hr0_3
  have HC0_3 := Aside0.mk hc0_3
  clear hr0_3 hc0_3
  have HB := Aside0.mk (Below.refl w.heap.size w)
  have H : ((glossatorref15_All.f k a0_0 a0_1 a0_2 l0_3).bind fun t153 => (glossatorref19_Of.l0 k ([] : List (S44)) t153 0)) = some r := h
  clear h
  replace H := Option.bind_eq_some_iff.mp H
  obtain ⟨t153, A20, H⟩ := H
  replace H : (glossatorref19_Of.l0 k ([] : List (S44)) t153 0) = some r := H
  have A2 := Aside0.mk A20
  clear A20
  have H' := Aside0.mk H
  clear H
  go_enter Try.func11, Try.ntmps11
  go_wp2_with (first | ((with_reducible refine gate_dst (N := 1) rfl ?_); refine box_event ?hg (N := 1) ?hd (cs := #[.int .u8 a0_0, .int .u8 a0_1, .int .i64 a0_2, .slice A0_3 l0_3.length c0_3]) (t := 25) ?hr ?_; (case hd => rfl); (case hg => rfl); (case hr => first | (go_simp; done) | (go_simp; rfl)); intro gb152 hg w3 hbox hb; have n0_ := Aside0.mk (below_step (by repeat (first | (with_reducible first | exact HB.out | apply below_alloc | apply pw_below_drewN | apply below_drew1) | exact HB.out)) hb); have n1_ := Aside0.mk (hbox); have n2_ := Aside0.mk ((by rw [hg]; exact (below_size (by repeat (first | (with_reducible first | exact HB.out | apply below_alloc | apply pw_below_drewN | apply below_drew1) | exact HB.out))) : w.heap.size ≤ gb152)); have n3_ := Aside0.mk ((by rw [hg]; exact (below_size (by repeat (first | (with_reducible first | exact HB.out | apply below_alloc | apply pw_below_drewN | apply below_drew1) | exact HB.out))) : w.heap.size ≤ gb152)); clear HB; have HB := n0_; have BK152 := n1_; have GW152 := n2_; have GE152 := n3_; clear n0_ n1_ n2_ n3_; clear hb hbox hg; have hcz4_0 : w3.cell? ⟨gb152, 0, none⟩ = some (.int .u8 a0_0) := (blk_cell BK152.out 0).trans rfl; have hcz4_1 : w3.cell? ⟨gb152, 1, none⟩ = some (.int .u8 a0_1) := (blk_cell BK152.out 1).trans rfl; have hcz4_2 : w3.cell? ⟨gb152, 2, none⟩ = some (.int .i64 a0_2) := (blk_cell BK152.out 2).trans rfl; have hcz4_3 : w3.cell? ⟨gb152, 3, none⟩ = some (.slice A0_3 l0_3.length c0_3) := (blk_cell BK152.out 3).trans rfl; have hfz4_0 := blk_frozen BK152.out 0; have hfz4_1 := blk_frozen BK152.out 1; have hfz4_2 := blk_frozen BK152.out 2; have hfz4_3 := blk_frozen BK152.out 3) | ((with_reducible refine gate_callee (f := 18) rfl ?_); refine goesL_ (some 8) rfl rfl Try.func18 (by kernel_rfl) rfl #[.agg #[.int .u8 a0_0, .int .u8 a0_1, .int .i64 a0_2, .slice A0_3 l0_3.length c0_3]] rfl (by (try simp only [List.map_toArray, List.map_cons, List.map_nil]); first | done | rfl | (simp only [List.length_drop, List.length_take]; rfl)) ?_; (with_reducible refine (glossatorref15_All.calls k a0_0 a0_1 a0_2 (fun k_ => k_ < w.heap.size) _ _ l0_3 t153 _ ?side1 A2.out).mono ?_); (case side1 => exact Kd.V_mk HC0_3.out (Kd.F_below (Kd.C_F k25_heap HR0_3.out) (by repeat (first | (with_reducible first | exact HB.out | apply below_alloc | apply pw_below_drewN | apply below_drew1 | refine below_set ?_ GE152.out) | exact HB.out)))); rintro e w5 ⟨v154, rfl, ho0, hb⟩; refine ⟨_, rfl, ?_⟩; have n0_ := Aside0.mk (Kd.V_lower (Kd.V_mono (ok' := fun k_ => k_ ≠ gb152) ho0 (fun k_ hk_ => Or.elim hk_ (fun hs_ => fun e_ => Nat.not_le.2 hs_ (by rw [e_]; exact GW152.out)) (fun hn_ => (Kd.freshB (g := gb152) (o := .cells #[.int .u8 a0_0, .int .u8 a0_1, .int .i64 a0_2, .slice A0_3 l0_3.length c0_3] 25 (0, 0)) (by (with_reducible repeat (first | refine blk_drewN ?_ _ | refine blk_drew ?_ | refine blk_alloc ?_ _)); exact BK152.out) k_ hn_)))) (below_size (by repeat (first | (with_reducible first | exact HB.out | apply below_alloc | apply pw_below_drewN | apply below_drew1 | refine below_set ?_ GE152.out) | exact HB.out)))); have n1_ := Aside0.mk (blk_below (g := gb152) (o := .cells #[.int .u8 a0_0, .int .u8 a0_1, .int .i64 a0_2, .slice A0_3 l0_3.length c0_3] 25 (0, 0)) (by (with_reducible repeat (first | refine blk_drewN ?_ _ | refine blk_drew ?_ | refine blk_alloc ?_ _)); exact BK152.out) hb); have n2_ := Aside0.mk (below_step (by repeat (first | (with_reducible first | exact HB.out | apply below_alloc | apply pw_below_drewN | apply below_drew1 | refine below_set ?_ GE152.out) | exact HB.out)) hb); clear BK152; clear HB; have HO155 := n0_; have BK152 := n1_; have HB := n2_; clear n0_ n1_ n2_; (try clear hb); (try clear hb2); (try clear hk); (try clear hi); (try clear ho0)))
  go_loopg [3, 5] k (fun kq v3 v5 w' => ∃ (x3_1 : List (S44)) (x5_1 : Int), v5 = .int .i64 x5_1 ∧ Aside0 (glossatorref19_Of.l0 kq x3_1 t153 x5_1 = some r) ∧ Aside0 (kq ≤ k) ∧ Aside0 (Kd.R k44 44 w' w.heap.size (fun _ => True) v3 x3_1) ∧ Aside0 (Kd.V k58 58 w' w.heap.size (fun k_ => some k_ ≠ (v3 : Value).ownBlock ∧ k_ ≠ gb152) v154 t153) ∧ Aside0 (w'.heap[gb152]? = some (.cells #[.int .u8 a0_0, .int .u8 a0_1, .int .i64 a0_2, (.slice A0_3 l0_3.length c0_3)] 25 (0, 0))) ∧ Aside0 (Below w.heap.size w w'))
  case atStart => exact ⟨(([] : List (S44))), (0), (by first | rfl | (simp; done) | (simp [*]; done)), H', ⟨Nat.le_refl _⟩, ⟨by first | exact Kd.R_nil _ _ _ _ _ | exact Kd.N_nil _ _ _ _ _ | exact Kd.V_nil _ _ _ _ _ | exact Kd.Q_nil _ _ _ _ _ | exact Kd.S_nil _ _ _ _ _⟩, ⟨by (with_reducible repeat (first | apply Kd.V_alloc | apply Kd.V_drewN | apply Kd.V_drew)); exact Kd.V_mono HO155.out (fun _ hk => ⟨(by simp [Value.ownBlock]), hk⟩)⟩, ⟨by (with_reducible repeat (first | refine blk_drewN ?_ _ | refine blk_drew ?_ | refine blk_alloc ?_ _)); exact BK152.out⟩, ⟨by repeat (first | (with_reducible first | exact HB.out | apply below_alloc | apply pw_below_drewN | apply below_drew1 | refine below_set ?_ GE152.out) | exact HB.out)⟩⟩
  case round =>
    clear H'
    try clear c1
    try clear p2
    try clear hcz4_0
    try clear hcz4_1
    try clear hcz4_2
    try clear hcz4_3
    try clear hfz4_0
    try clear hfz4_1
    try clear hfz4_2
    try clear hfz4_3
    obtain ⟨x3_1, x5_1, rfl, HA, HK1, HO_3, HO_4, BK152, HB⟩ := hrel
    cases gk with
    | zero => exact absurd HA.out (by simp [glossatorref19_Of.l0])
    | succ k1 =>
      have H := HA.out
      clear HA
      simp only [glossatorref19_Of.l0] at H
      by_cases c6 : x5_1 < (t153.length : Int)
      · rw [if_pos c6] at H
        have c6b0 : decide (x5_1 < (t153.length : Int)) = true := decide_eq_true c6
        clear c6
        by_cases c7 : 0 ≤ x5_1
        · rw [if_pos c7] at H
          have c7b0 : decide (0 ≤ x5_1) = true := decide_eq_true c7
          clear c7
          by_cases c8 : ((rd_T58 t153 x5_1).f0.f0) = 50
          · rw [if_pos c8] at H
            have c8b0 : (((rd_T58 t153 x5_1).f0.f0) == 50) = true := beq_iff_eq.mpr c8
            have c8b1 : (((rd_T58 t153 x5_1).f0.f0) != 50) = false := bne_eq_false_iff_eq.mpr c8
            clear c8
            by_cases c9 : x3_1.length < 5864062014805
            · rw [if_pos c9] at H
              have LMc9 := Aside0.mk c9
              clear c9
              obtain ⟨y159, hy159⟩ : ∃ y_ : List (S44), y_ = (x3_1 ++ [(⟨(⟨(rd_T58 t153 x5_1).f1.f0, (rd_T58 t153 x5_1).f1.f1⟩ : S42), (rd_T58 t153 x5_1).f0.f0, (rd_T58 t153 x5_1).f0.f1⟩ : S44)]) := ⟨_, rfl⟩
              replace H : (glossatorref19_Of.l0 k1 y159 t153 (wrap64 (x5_1 + 1))) = some r := by first | (rw [hy159]; with_reducible exact H) | (have H2_ := (Option.bind_some _ _).symm.trans H; rw [hy159]; with_reducible exact H2_) | (have H2_ := (Option.bind_some _ _).symm.trans H; with_reducible exact H2_) | with_reducible exact H | (rw [hy159]; exact H) | exact H
              have Ny159 := Aside0.mk hy159
              clear hy159
              have H' := Aside0.mk H
              clear H
              obtain ⟨Ao10, co10, eo10⟩ := Kd.V_slice HO_4.out
              subst eo10
              have p156 : 0 ≤ (x5_1 : Int) := of_decide_eq_true (by first | (with_reducible assumption) | assumption)
              have q156 : x5_1 < (t153.length : Int) := of_decide_eq_true (by first | (with_reducible assumption) | assumption)
              obtain ⟨ad156, A156_3, c156_3, e156, hx156_0, hx156_1, hx156_2, hx156_3, hx156_4, hx156_5, hx156_6, hl156_3, hi156_3⟩ := at_T58 (Kd.V_reads' HO_4.out).2.2 x5_1 p156 q156
              cases e156
              obtain ⟨ce156, hce156, hMe156, hcc156⟩ := Kd.V_get HO_4.out z58 x5_1 p156 (by first | exact q156 | exact of_decide_eq_true (by first | (with_reducible assumption) | assumption) | (have e_ := (Kd.V_reads' HO_4.out).1; omega))
              obtain ⟨ua156_3, uc156_3, rfl, ul156_3, ge156_3⟩ := k58_openF hMe156
              have hv156_3 := hcc156 3 _ rfl
              rw [add_field _ _ 3 (by omega)] at hv156_3
              replace hv156_3 := Option.some.inj (hv156_3.symm.trans hx156_3)
              injection hv156_3 with hva_ hvn_ hvc_
              rw [hva_] at ge156_3
              rw [hvc_] at ul156_3
              have HL156_3 := Aside0.mk (show Kd.V k25 25 _ w.heap.size _ _ ((rd_T58 t153 x5_1).f0.f3) from Kd.V_mk ul156_3 ge156_3)
              clear hva_ hvn_ hvc_ ge156_3 ul156_3
              clear hcc156 hce156
              have HR156_3 := Aside0.mk hi156_3
              have HC156_3 := Aside0.mk hl156_3
              clear hi156_3 hl156_3
              replace p156 := eq_true p156
              replace q156 := eq_true q156
              try go_wp2
              have n0_ := Aside0.mk (Kd.R_drew HO_3.out)
              have n1_ := Aside0.mk (Kd.V_drew HO_4.out)
              have n2_ := Aside0.mk (Kd.V_drew HL156_3.out)
              have n3_ := Aside0.mk (blk_drew BK152.out)
              have n4_ := Aside0.mk (Kd.C_drew HR156_3.out)
              have n5_ := Aside0.mk (below_drew1 HB.out)
              clear HO_3
              clear HO_4
              clear HL156_3
              clear BK152
              clear HR156_3
              clear HB
              have HO_3 := n0_
              have HO_4 := n1_
              have HL156_3 := n2_
              have BK152 := n3_
              have HR156_3 := n4_
              have HB := n5_
              clear n0_ n1_ n2_ n3_ n4_ n5_
              have p157 : 0 ≤ (x5_1 : Int) := of_decide_eq_true (by first | (with_reducible assumption) | assumption)
              have q157 : x5_1 < (t153.length : Int) := of_decide_eq_true (by first | (with_reducible assumption) | assumption)
              obtain ⟨ad157, A157_3, c157_3, e157, hx157_0, hx157_1, hx157_2, hx157_3, hx157_4, hx157_5, hx157_6, hl157_3, hi157_3⟩ := at_T58 (Kd.V_reads' HO_4.out).2.2 x5_1 p157 q157
              obtain rfl : ad156 = ad157 := (by injection e157)
              obtain ⟨ce157, hce157, hMe157, hcc157⟩ := Kd.V_get HO_4.out z58 x5_1 p157 (by first | exact q157 | exact of_decide_eq_true (by first | (with_reducible assumption) | assumption) | (have e_ := (Kd.V_reads' HO_4.out).1; omega))
              obtain ⟨ua157_3, uc157_3, rfl, ul157_3, ge157_3⟩ := k58_openF hMe157
              have hv157_3 := hcc157 3 _ rfl
              rw [add_field _ _ 3 (by omega)] at hv157_3
              replace hv157_3 := Option.some.inj (hv157_3.symm.trans hx157_3)
              injection hv157_3 with hva_ hvn_ hvc_
              rw [hva_] at ge157_3
              rw [hvc_] at ul157_3
              have HL157_3 := Aside0.mk (show Kd.V k25 25 _ w.heap.size _ _ ((rd_T58 t153 x5_1).f0.f3) from Kd.V_mk ul157_3 ge157_3)
              clear hva_ hvn_ hvc_ ge157_3 ul157_3
              clear hcc157 hce157
              have HR157_3 := Aside0.mk hi157_3
              have HC157_3 := Aside0.mk hl157_3
              clear hi157_3 hl157_3
              replace p157 := eq_true p157
              replace q157 := eq_true q157
              have p158 : 0 ≤ (x5_1 : Int) := of_decide_eq_true (by first | (with_reducible assumption) | assumption)
              have q158 : x5_1 < (t153.length : Int) := of_decide_eq_true (by first | (with_reducible assumption) | assumption)
              obtain ⟨ad158, A158_3, c158_3, e158, hx158_0, hx158_1, hx158_2, hx158_3, hx158_4, hx158_5, hx158_6, hl158_3, hi158_3⟩ := at_T58 (Kd.V_reads' HO_4.out).2.2 x5_1 p158 q158
              obtain rfl : ad156 = ad158 := (by injection e158)
              obtain ⟨ce158, hce158, hMe158, hcc158⟩ := Kd.V_get HO_4.out z58 x5_1 p158 (by first | exact q158 | exact of_decide_eq_true (by first | (with_reducible assumption) | assumption) | (have e_ := (Kd.V_reads' HO_4.out).1; omega))
              obtain ⟨ua158_3, uc158_3, rfl, ul158_3, ge158_3⟩ := k58_openF hMe158
              have hv158_3 := hcc158 3 _ rfl
              rw [add_field _ _ 3 (by omega)] at hv158_3
              replace hv158_3 := Option.some.inj (hv158_3.symm.trans hx158_3)
              injection hv158_3 with hva_ hvn_ hvc_
              rw [hva_] at ge158_3
              rw [hvc_] at ul158_3
              have HL158_3 := Aside0.mk (show Kd.V k25 25 _ w.heap.size _ _ ((rd_T58 t153 x5_1).f0.f3) from Kd.V_mk ul158_3 ge158_3)
              clear hva_ hvn_ hvc_ ge158_3 ul158_3
              clear hcc158 hce158
              have HR158_3 := Aside0.mk hi158_3
              have HC158_3 := Aside0.mk hl158_3
              clear hi158_3 hl158_3
              replace p158 := eq_true p158
              replace q158 := eq_true q158
              have ea_ := Option.some.inj (hx157_3.symm.trans hx158_3)
              injection ea_ with ea_ en_ ec_
              subst ea_
              subst ec_
              clear en_
              refine start_ (n := 17) (S := fun w' => w'.cell? (ad156.add ((x5_1).toNat * 7)) = some (.int .u8 ((rd_T58 t153 x5_1).f0.f0)) ∧ w'.cell? ⟨(ad156.add ((x5_1).toNat * 7)).block, (ad156.add ((x5_1).toNat * 7)).off + 1, none⟩ = some (.int .u8 ((rd_T58 t153 x5_1).f0.f1)) ∧ w'.cell? ⟨(ad156.add ((x5_1).toNat * 7)).block, (ad156.add ((x5_1).toNat * 7)).off + 2, none⟩ = some (.int .i64 ((rd_T58 t153 x5_1).f0.f2)) ∧ w'.cell? ⟨(ad156.add ((x5_1).toNat * 7)).block, (ad156.add ((x5_1).toNat * 7)).off + 3, none⟩ = some (.slice A157_3 ((rd_T58 t153 x5_1).f0.f3).length c157_3) ∧ w'.cell? ⟨(ad156.add ((x5_1).toNat * 7)).block, (ad156.add ((x5_1).toNat * 7)).off + 4, none⟩ = some (.int .i64 ((rd_T58 t153 x5_1).f1.f0)) ∧ w'.cell? ⟨(ad156.add ((x5_1).toNat * 7)).block, (ad156.add ((x5_1).toNat * 7)).off + 5, none⟩ = some (.int .i64 ((rd_T58 t153 x5_1).f1.f1)) ∧ w'.cell? ⟨(ad156.add ((x5_1).toNat * 7)).block, (ad156.add ((x5_1).toNat * 7)).off + 6, none⟩ = some (.int .i64 ((rd_T58 t153 x5_1).f2)) ∧ w'.cell? (ad156.add ((x5_1).toNat * 7)) = some (.int .u8 ((rd_T58 t153 x5_1).f0.f0)) ∧ w'.cell? ⟨(ad156.add ((x5_1).toNat * 7)).block, (ad156.add ((x5_1).toNat * 7)).off + 1, none⟩ = some (.int .u8 ((rd_T58 t153 x5_1).f0.f1)) ∧ w'.cell? ⟨(ad156.add ((x5_1).toNat * 7)).block, (ad156.add ((x5_1).toNat * 7)).off + 2, none⟩ = some (.int .i64 ((rd_T58 t153 x5_1).f0.f2)) ∧ w'.cell? ⟨(ad156.add ((x5_1).toNat * 7)).block, (ad156.add ((x5_1).toNat * 7)).off + 3, none⟩ = some (.slice A157_3 ((rd_T58 t153 x5_1).f0.f3).length c157_3) ∧ w'.cell? ⟨(ad156.add ((x5_1).toNat * 7)).block, (ad156.add ((x5_1).toNat * 7)).off + 4, none⟩ = some (.int .i64 ((rd_T58 t153 x5_1).f1.f0)) ∧ w'.cell? ⟨(ad156.add ((x5_1).toNat * 7)).block, (ad156.add ((x5_1).toNat * 7)).off + 5, none⟩ = some (.int .i64 ((rd_T58 t153 x5_1).f1.f1)) ∧ w'.cell? ⟨(ad156.add ((x5_1).toNat * 7)).block, (ad156.add ((x5_1).toNat * 7)).off + 6, none⟩ = some (.int .i64 ((rd_T58 t153 x5_1).f2))) (ds := [14, 15]) #[false, false, false, false, false, false, false, false, false, false, false, false, false, false, false, false, false] (by kernel_rfl) rfl rfl ⟨hx157_0, hx157_1, hx157_2, hx157_3, hx157_4, hx157_5, hx157_6, hx158_0, hx158_1, hx158_2, hx158_3, hx158_4, hx158_5, hx158_6⟩ (fun hHeld => ?_); refine with_tabW glossatorref19_Of.tab8 glossatorref19_Of.bits8 (fun HT_ HW_ => ?_)
              generalize wr.drew = w11 at HO_3 HO_4 HL156_3 BK152 HR156_3 HB HL157_3 HL158_3 HR157_3 HR158_3 hx157_0 hx157_1 hx157_2 hx157_3 hx157_4 hx157_5 hx157_6 hx158_0 hx158_1 hx158_2 hx158_3 hx158_4 hx158_5 hx158_6 hHeld ⊢
              refine pure_ (i := 0) (N := some 39) (v := ?_) (a' := ?_) #[true, false, false, false, false, false, false, false, false, false, false, false, false, false, false, false, false] rfl rfl (any_of HT_.out (by kernel_rfl)) (fun _ _ _ h => h) (Or.inl ⟨by rfl, ?_⟩) ?_ ?_
              rotate_left
              · intro w'
                go_simp
                with_reducible rfl
              rotate_left
              · simp only [Act.put, List.setIfInBounds_toArray, List.set_cons_zero, List.set_cons_succ, i64_w, i32_w]
                rfl
              refine pure_ (i := 1) (N := some 40) (v := ?_) (a' := ?_) #[true, true, false, false, false, false, false, false, false, false, false, false, false, false, false, false, false] rfl rfl (any_of HT_.out (by kernel_rfl)) (fun _ _ _ h => h) (Or.inl ⟨by rfl, ?_⟩) ?_ ?_
              rotate_left
              · intro w'
                go_simp
                with_reducible rfl
              rotate_left
              · simp only [Act.put, List.setIfInBounds_toArray, List.set_cons_zero, List.set_cons_succ, i64_w, i32_w]
                rfl
              refine pure_ (i := 2) (N := some 41) (v := ?_) (a' := ?_) #[true, true, true, false, false, false, false, false, false, false, false, false, false, false, false, false, false] rfl rfl (any_of HT_.out (by kernel_rfl)) (fun _ _ _ h => h) (Or.inl ⟨by rfl, ?_⟩) ?_ ?_
              rotate_left
              · intro w'
                go_simp
                with_reducible rfl
              rotate_left
              · simp only [Act.put, List.setIfInBounds_toArray, List.set_cons_zero, List.set_cons_succ, i64_w, i32_w]
                rfl
              refine pure_ (i := 3) (N := some 42) (v := ?_) (a' := ?_) #[true, true, true, true, false, false, false, false, false, false, false, false, false, false, false, false, false] rfl rfl (any_of HT_.out (by kernel_rfl)) (fun _ _ _ h => h) (Or.inl ⟨by rfl, ?_⟩) ?_ ?_
              rotate_left
              · intro w'
                go_simp
                with_reducible rfl
              rotate_left
              · simp only [Act.put, List.setIfInBounds_toArray, List.set_cons_zero, List.set_cons_succ, i64_w, i32_w]
                rfl
              refine pure_ (i := 4) (N := some 43) (v := ?_) (a' := ?_) #[true, true, true, true, true, false, false, false, false, false, false, false, false, false, false, false, false] rfl rfl (any_of HT_.out (by kernel_rfl)) (fun _ _ _ h => h) (Or.inl ⟨by rfl, ?_⟩) ?_ ?_
              rotate_left
              · intro w'
                go_simp
                with_reducible rfl
              rotate_left
              · simp only [Act.put, List.setIfInBounds_toArray, List.set_cons_zero, List.set_cons_succ, i64_w, i32_w]
                rfl
              refine pure_ (i := 6) (N := some 45) (v := ?_) (a' := ?_) #[true, true, true, true, true, false, true, false, false, false, false, false, false, false, false, false, false] rfl rfl (any_of HT_.out (by kernel_rfl)) (fun _ _ _ h => h) (Or.inl ⟨by rfl, ?_⟩) ?_ ?_
              rotate_left
              · intro w'
                go_simp
                with_reducible rfl
              rotate_left
              · simp only [Act.put, List.setIfInBounds_toArray, List.set_cons_zero, List.set_cons_succ, i64_w, i32_w]
                rfl
              refine pure_ (i := 7) (N := some 46) (v := ?_) (a' := ?_) #[true, true, true, true, true, false, true, true, false, false, false, false, false, false, false, false, false] rfl rfl (any_of HT_.out (by kernel_rfl)) (fun _ _ _ h => h) (Or.inl ⟨by rfl, ?_⟩) ?_ ?_
              rotate_left
              · intro w'
                go_simp
                with_reducible rfl
              rotate_left
              · simp only [Act.put, List.setIfInBounds_toArray, List.set_cons_zero, List.set_cons_succ, i64_w, i32_w]
                rfl
              refine pure_ (i := 8) (N := some 47) (v := ?_) (a' := ?_) #[true, true, true, true, true, false, true, true, true, false, false, false, false, false, false, false, false] rfl rfl (any_of HT_.out (by kernel_rfl)) (fun _ _ _ h => h) (Or.inl ⟨by rfl, ?_⟩) ?_ ?_
              rotate_left
              · intro w'
                go_simp
                with_reducible rfl
              rotate_left
              · simp only [Act.put, List.setIfInBounds_toArray, List.set_cons_zero, List.set_cons_succ, i64_w, i32_w]
                rfl
              refine pure_ (i := 9) (N := some 48) (v := ?_) (a' := ?_) #[true, true, true, true, true, false, true, true, true, true, false, false, false, false, false, false, false] rfl rfl (any_of HT_.out (by kernel_rfl)) (fun _ _ _ h => h) (Or.inl ⟨by rfl, ?_⟩) ?_ ?_
              rotate_left
              · intro w'
                go_simp
                with_reducible rfl
              rotate_left
              · simp only [Act.put, List.setIfInBounds_toArray, List.set_cons_zero, List.set_cons_succ, i64_w, i32_w]
                rfl
              refine pure_ (i := 10) (N := some 49) (v := ?_) (a' := ?_) #[true, true, true, true, true, false, true, true, true, true, true, false, false, false, false, false, false] rfl rfl (any_of HT_.out (by kernel_rfl)) (fun _ _ _ h => h) (Or.inl ⟨by rfl, ?_⟩) ?_ ?_
              rotate_left
              · intro w'
                go_simp
                with_reducible rfl
              rotate_left
              · simp only [Act.put, List.setIfInBounds_toArray, List.set_cons_zero, List.set_cons_succ, i64_w, i32_w]
                rfl
              refine pure_ (i := 11) (N := some 50) (v := ?_) (a' := ?_) #[true, true, true, true, true, false, true, true, true, true, true, true, false, false, false, false, false] rfl rfl (any_of HT_.out (by kernel_rfl)) (fun _ _ _ h => h) (Or.inl ⟨by rfl, ?_⟩) ?_ ?_
              rotate_left
              · intro w'
                go_simp
                with_reducible rfl
              rotate_left
              · simp only [Act.put, List.setIfInBounds_toArray, List.set_cons_zero, List.set_cons_succ, i64_w, i32_w]
                rfl
              refine take_ (i := 5) (N := some 44) (v := ?_) (a' := ?_) #[true, true, true, true, true, true, true, true, true, true, true, true, false, false, false, false, false] rfl rfl (take_ofW HT_.out HW_.out (by kernel_rfl)) (fun _ _ _ h => h) (Or.inl ⟨by rfl, ?_⟩) hHeld ?_ ?_
              rotate_left
              · rintro w' ⟨s0, s1, s2, s3, s4, s5, s6, s7, s8, s9, s10, s11, s12, s13⟩
                go_simp
                with_reducible rfl
              rotate_left
              · simp only [Act.put, List.setIfInBounds_toArray, List.set_cons_zero, List.set_cons_succ, i64_w, i32_w]
                rfl
              refine take_ (i := 12) (N := some 51) (v := ?_) (a' := ?_) #[true, true, true, true, true, true, true, true, true, true, true, true, true, false, false, false, false] rfl rfl (take_ofW HT_.out HW_.out (by kernel_rfl)) (fun _ _ _ h => h) (Or.inl ⟨by rfl, ?_⟩) hHeld ?_ ?_
              rotate_left
              · rintro w' ⟨s0, s1, s2, s3, s4, s5, s6, s7, s8, s9, s10, s11, s12, s13⟩
                go_simp
                with_reducible rfl
              rotate_left
              · simp only [Act.put, List.setIfInBounds_toArray, List.set_cons_zero, List.set_cons_succ, i64_w, i32_w]
                rfl
              refine pure_ (i := 13) (N := some 52) (v := ?_) (a' := ?_) #[true, true, true, true, true, true, true, true, true, true, true, true, true, true, false, false, false] rfl rfl (any_of HT_.out (by kernel_rfl)) (fun _ _ _ h => h) (Or.inl ⟨by rfl, ?_⟩) ?_ ?_
              rotate_left
              · intro w'
                go_simp
                with_reducible rfl
              rotate_left
              · simp only [Act.put, List.setIfInBounds_toArray, List.set_cons_zero, List.set_cons_succ, i64_w, i32_w]
                rfl
              refine last_ (i := 14) (N := some 53) #[true, true, true, true, true, true, true, true, true, true, true, true, true, true, true, false, false] rfl rfl (one_of HT_.out (by kernel_rfl)) (by decide) (fun K hK => ?_)
              refine value_ (w1 := ?_) (v := ?_) (by rfl) rfl ?_ ?_
              rotate_left 2
              · go_simp
                constructor
                · rfl
                · rfl
              refine hK.out _ _ ?_
              clear hK K
              refine norm_ (a' := ?_) ?_ ?_
              rotate_left
              · show Act.put _ (some 53) _ = _
                simp only [Act.put, List.setIfInBounds_toArray, List.set_cons_zero, List.set_cons_succ, i64_w, i32_w]
                rfl
              refine last_ (i := 15) (N := some 54) #[true, true, true, true, true, true, true, true, true, true, true, true, true, true, true, true, false] rfl rfl (one_of HT_.out (by kernel_rfl)) (by decide) (fun K hK => ?_)
              refine Kd.R_append_step k44 (w0 := w) w.heap.size (by rfl) (.tmp 39) (.tmp 53) 37 44 (.agg #[(.int .i64 0), (.int .i64 0), (.int .u8 0), (.int .u8 0)]) 24 rfl Try.underlying37 info44 rfl (by decide) (by omega) u3 x3_1 (⟨(⟨(rd_T58 t153 x5_1).f1.f0, (rd_T58 t153 x5_1).f1.f1⟩ : S42), (rd_T58 t153 x5_1).f0.f0, (rd_T58 t153 x5_1).f0.f1⟩ : S44) [.int .i64 ((rd_T58 t153 x5_1).f1.f0), .int .i64 ((rd_T58 t153 x5_1).f1.f1), .int .u8 ((rd_T58 t153 x5_1).f0.f0), .int .u8 ((rd_T58 t153 x5_1).f0.f1)] (fun _ => True) (fun _ => False) rfl rfl ?aP (fun _ hk => hk.elim) ?aF ?aO ?aB ?aS ?aL ?_
              (case aP => exact k44_mkM _ _ _ (⟨(⟨(rd_T58 t153 x5_1).f1.f0, (rd_T58 t153 x5_1).f1.f1⟩ : S42), (rd_T58 t153 x5_1).f0.f0, (rd_T58 t153 x5_1).f0.f1⟩ : S44))
              (case aB => exact (by repeat (first | (with_reducible first | exact HB.out | apply below_alloc | apply pw_below_drewN | apply below_drew1 | refine below_set ?_ GE152.out) | exact HB.out)))
              (case aF => exact (fun _ _ => trivial))
              (case aO => exact (by (with_reducible repeat (first | apply Kd.R_alloc | apply Kd.R_drewN | apply Kd.R_drew)); exact HO_3.out))
              (case aS => exact (below_size (by repeat (first | (with_reducible first | exact HB.out | apply below_alloc | apply pw_below_drewN | apply below_drew1 | refine below_set ?_ GE152.out) | exact HB.out))))
              (case aL => have := LMc9.out; omega)
              intro v160 w12 ho hb hg hat
              rw [← Ny159.out] at ho
              have n0_ := Aside0.mk (Kd.V_afterv (ok := (fun k_ => k_ ≠ gb152)) (by (with_reducible repeat (first | apply Kd.V_alloc | apply Kd.V_drewN | apply Kd.V_drew)); exact Kd.V_mono HO_4.out (fun _ hk => ⟨hk.2, hk.1⟩)) hg hat)
              have n1_ := Aside0.mk (blk_grown (g := gb152) (o := .cells #[.int .u8 a0_0, .int .u8 a0_1, .int .i64 a0_2, .slice A0_3 l0_3.length c0_3] 25 (0, 0)) (by (with_reducible repeat (first | refine blk_drewN ?_ _ | refine blk_drew ?_ | refine blk_alloc ?_ _)); exact BK152.out) hg (Kd.R_ne HO_3.out BK152.out (by decide)))
              have n2_ := Aside0.mk (Kd.V_afterv (ok := (fun k_ => k_ ≠ gb152)) (by (with_reducible repeat (first | apply Kd.V_alloc | apply Kd.V_drewN | apply Kd.V_drew)); exact Kd.V_mono HL156_3.out (fun _ hk => ⟨hk.2, hk.1⟩)) hg hat)
              have n3_ := Aside0.mk (Kd.V_afterv (ok := (fun k_ => k_ ≠ gb152)) (by (with_reducible repeat (first | apply Kd.V_alloc | apply Kd.V_drewN | apply Kd.V_drew)); exact Kd.V_mono HL157_3.out (fun _ hk => ⟨hk.2, hk.1⟩)) hg hat)
              have n4_ := Aside0.mk (Kd.V_afterv (ok := (fun k_ => k_ ≠ gb152)) (by (with_reducible repeat (first | apply Kd.V_alloc | apply Kd.V_drewN | apply Kd.V_drew)); exact Kd.V_mono HL158_3.out (fun _ hk => ⟨hk.2, hk.1⟩)) hg hat)
              have n5_ := Aside0.mk (hb)
              have n6_ := Aside0.mk (ho)
              clear HO_4
              clear BK152
              clear HL156_3
              clear HL157_3
              clear HL158_3
              clear HB
              clear HO_3
              have HO_4 := n0_
              have BK152 := n1_
              have HL156_3 := n2_
              have HL157_3 := n3_
              have HL158_3 := n4_
              have HB := n5_
              have HO161 := n6_
              clear n0_ n1_ n2_ n3_ n4_ n5_ n6_
              clear ho hb hg hat
              refine hK.out _ _ ?_
              clear hK K
              refine norm_ (a' := ?_) ?_ ?_
              rotate_left
              · show Act.put _ (some 54) _ = _
                simp only [Act.put, List.setIfInBounds_toArray, List.set_cons_zero, List.set_cons_succ, i64_w, i32_w]
                rfl
              refine pure_ (i := 16) (N := some 3) (v := ?_) (a' := ?_) #[true, true, true, true, true, true, true, true, true, true, true, true, true, true, true, true, true] rfl rfl (any_of HT_.out (by kernel_rfl)) (fun _ _ _ h => h) (Or.inl ⟨by rfl, ?_⟩) ?_ ?_
              rotate_left
              · intro w'
                go_simp
                with_reducible rfl
              rotate_left
              · simp only [Act.put, List.setIfInBounds_toArray, List.set_cons_zero, List.set_cons_succ, i64_w, i32_w]
                rfl
              refine done_ (done_of HT_.out (by kernel_rfl)) ?_
              try go_wp2
              go_roundg k1
              case measure => have := HK1.out; omega
              case rel => exact ⟨(y159), (wrap64 (x5_1 + 1)), (by first | rfl | (simp; done) | (simp [*]; done)), H', ⟨by have := HK1.out; omega⟩, ⟨by (with_reducible repeat (first | apply Kd.R_alloc | apply Kd.R_drewN | apply Kd.R_drew)); exact HO161.out⟩, ⟨by (with_reducible repeat (first | apply Kd.V_alloc | apply Kd.V_drewN | apply Kd.V_drew)); exact Kd.V_mono HO_4.out (fun _ hk => ⟨hk.2, hk.1⟩)⟩, ⟨by (with_reducible repeat (first | refine blk_drewN ?_ _ | refine blk_drew ?_ | refine blk_alloc ?_ _)); exact BK152.out⟩, ⟨by repeat (first | (with_reducible first | exact HB.out | apply below_alloc | apply pw_below_drewN | apply below_drew1 | refine below_set ?_ GE152.out) | exact HB.out)⟩⟩
            · rw [if_neg c9] at H
              exact absurd H (by simp)
          · rw [if_neg c8] at H
            have c8b0 : (((rd_T58 t153 x5_1).f0.f0) == 50) = false := beq_eq_false_iff_ne.mpr c8
            have c8b1 : (((rd_T58 t153 x5_1).f0.f0) != 50) = true := bne_iff_ne.mpr c8
            by_cases c13 : ((rd_T58 t153 x5_1).f0.f0) = 68
            · rw [if_pos c13] at H
              have c13b0 : (((rd_T58 t153 x5_1).f0.f0) == 68) = true := beq_iff_eq.mpr c13
              have c13b1 : (((rd_T58 t153 x5_1).f0.f0) != 68) = false := bne_eq_false_iff_eq.mpr c13
              clear c13
              by_cases c14 : x3_1.length < 5864062014805
              · rw [if_pos c14] at H
                have LMc14 := Aside0.mk c14
                clear c14
                obtain ⟨y164, hy164⟩ : ∃ y_ : List (S44), y_ = (x3_1 ++ [(⟨(⟨(rd_T58 t153 x5_1).f1.f0, (rd_T58 t153 x5_1).f1.f1⟩ : S42), (rd_T58 t153 x5_1).f0.f0, (rd_T58 t153 x5_1).f0.f1⟩ : S44)]) := ⟨_, rfl⟩
                replace H : (glossatorref19_Of.l0 k1 y164 t153 (wrap64 (x5_1 + 1))) = some r := by first | (rw [hy164]; with_reducible exact H) | (have H2_ := (Option.bind_some _ _).symm.trans H; rw [hy164]; with_reducible exact H2_) | (have H2_ := (Option.bind_some _ _).symm.trans H; with_reducible exact H2_) | with_reducible exact H | (rw [hy164]; exact H) | exact H
                have Ny164 := Aside0.mk hy164
                clear hy164
                have H' := Aside0.mk H
                clear H
                obtain ⟨Ao15, co15, eo15⟩ := Kd.V_slice HO_4.out
                subst eo15
                have p156 : 0 ≤ (x5_1 : Int) := of_decide_eq_true (by first | (with_reducible assumption) | assumption)
                have q156 : x5_1 < (t153.length : Int) := of_decide_eq_true (by first | (with_reducible assumption) | assumption)
                obtain ⟨ad156, A156_3, c156_3, e156, hx156_0, hx156_1, hx156_2, hx156_3, hx156_4, hx156_5, hx156_6, hl156_3, hi156_3⟩ := at_T58 (Kd.V_reads' HO_4.out).2.2 x5_1 p156 q156
                cases e156
                obtain ⟨ce156, hce156, hMe156, hcc156⟩ := Kd.V_get HO_4.out z58 x5_1 p156 (by first | exact q156 | exact of_decide_eq_true (by first | (with_reducible assumption) | assumption) | (have e_ := (Kd.V_reads' HO_4.out).1; omega))
                obtain ⟨ua156_3, uc156_3, rfl, ul156_3, ge156_3⟩ := k58_openF hMe156
                have hv156_3 := hcc156 3 _ rfl
                rw [add_field _ _ 3 (by omega)] at hv156_3
                replace hv156_3 := Option.some.inj (hv156_3.symm.trans hx156_3)
                injection hv156_3 with hva_ hvn_ hvc_
                rw [hva_] at ge156_3
                rw [hvc_] at ul156_3
                have HL156_3 := Aside0.mk (show Kd.V k25 25 _ w.heap.size _ _ ((rd_T58 t153 x5_1).f0.f3) from Kd.V_mk ul156_3 ge156_3)
                clear hva_ hvn_ hvc_ ge156_3 ul156_3
                clear hcc156 hce156
                have HR156_3 := Aside0.mk hi156_3
                have HC156_3 := Aside0.mk hl156_3
                clear hi156_3 hl156_3
                replace p156 := eq_true p156
                replace q156 := eq_true q156
                try go_wp2
                have n0_ := Aside0.mk (Kd.R_drew HO_3.out)
                have n1_ := Aside0.mk (Kd.V_drew HO_4.out)
                have n2_ := Aside0.mk (Kd.V_drew HL156_3.out)
                have n3_ := Aside0.mk (blk_drew BK152.out)
                have n4_ := Aside0.mk (Kd.C_drew HR156_3.out)
                have n5_ := Aside0.mk (below_drew1 HB.out)
                clear HO_3
                clear HO_4
                clear HL156_3
                clear BK152
                clear HR156_3
                clear HB
                have HO_3 := n0_
                have HO_4 := n1_
                have HL156_3 := n2_
                have BK152 := n3_
                have HR156_3 := n4_
                have HB := n5_
                clear n0_ n1_ n2_ n3_ n4_ n5_
                have p162 : 0 ≤ (x5_1 : Int) := of_decide_eq_true (by first | (with_reducible assumption) | assumption)
                have q162 : x5_1 < (t153.length : Int) := of_decide_eq_true (by first | (with_reducible assumption) | assumption)
                obtain ⟨ad162, A162_3, c162_3, e162, hx162_0, hx162_1, hx162_2, hx162_3, hx162_4, hx162_5, hx162_6, hl162_3, hi162_3⟩ := at_T58 (Kd.V_reads' HO_4.out).2.2 x5_1 p162 q162
                obtain rfl : ad156 = ad162 := (by injection e162)
                obtain ⟨ce162, hce162, hMe162, hcc162⟩ := Kd.V_get HO_4.out z58 x5_1 p162 (by first | exact q162 | exact of_decide_eq_true (by first | (with_reducible assumption) | assumption) | (have e_ := (Kd.V_reads' HO_4.out).1; omega))
                obtain ⟨ua162_3, uc162_3, rfl, ul162_3, ge162_3⟩ := k58_openF hMe162
                have hv162_3 := hcc162 3 _ rfl
                rw [add_field _ _ 3 (by omega)] at hv162_3
                replace hv162_3 := Option.some.inj (hv162_3.symm.trans hx162_3)
                injection hv162_3 with hva_ hvn_ hvc_
                rw [hva_] at ge162_3
                rw [hvc_] at ul162_3
                have HL162_3 := Aside0.mk (show Kd.V k25 25 _ w.heap.size _ _ ((rd_T58 t153 x5_1).f0.f3) from Kd.V_mk ul162_3 ge162_3)
                clear hva_ hvn_ hvc_ ge162_3 ul162_3
                clear hcc162 hce162
                have HR162_3 := Aside0.mk hi162_3
                have HC162_3 := Aside0.mk hl162_3
                clear hi162_3 hl162_3
                replace p162 := eq_true p162
                replace q162 := eq_true q162
                have p163 : 0 ≤ (x5_1 : Int) := of_decide_eq_true (by first | (with_reducible assumption) | assumption)
                have q163 : x5_1 < (t153.length : Int) := of_decide_eq_true (by first | (with_reducible assumption) | assumption)
                obtain ⟨ad163, A163_3, c163_3, e163, hx163_0, hx163_1, hx163_2, hx163_3, hx163_4, hx163_5, hx163_6, hl163_3, hi163_3⟩ := at_T58 (Kd.V_reads' HO_4.out).2.2 x5_1 p163 q163
                obtain rfl : ad156 = ad163 := (by injection e163)
                obtain ⟨ce163, hce163, hMe163, hcc163⟩ := Kd.V_get HO_4.out z58 x5_1 p163 (by first | exact q163 | exact of_decide_eq_true (by first | (with_reducible assumption) | assumption) | (have e_ := (Kd.V_reads' HO_4.out).1; omega))
                obtain ⟨ua163_3, uc163_3, rfl, ul163_3, ge163_3⟩ := k58_openF hMe163
                have hv163_3 := hcc163 3 _ rfl
                rw [add_field _ _ 3 (by omega)] at hv163_3
                replace hv163_3 := Option.some.inj (hv163_3.symm.trans hx163_3)
                injection hv163_3 with hva_ hvn_ hvc_
                rw [hva_] at ge163_3
                rw [hvc_] at ul163_3
                have HL163_3 := Aside0.mk (show Kd.V k25 25 _ w.heap.size _ _ ((rd_T58 t153 x5_1).f0.f3) from Kd.V_mk ul163_3 ge163_3)
                clear hva_ hvn_ hvc_ ge163_3 ul163_3
                clear hcc163 hce163
                have HR163_3 := Aside0.mk hi163_3
                have HC163_3 := Aside0.mk hl163_3
                clear hi163_3 hl163_3
                replace p163 := eq_true p163
                replace q163 := eq_true q163
                have ea_ := Option.some.inj (hx162_3.symm.trans hx163_3)
                injection ea_ with ea_ en_ ec_
                subst ea_
                subst ec_
                clear en_
                refine start_ (n := 17) (S := fun w' => w'.cell? (ad156.add ((x5_1).toNat * 7)) = some (.int .u8 ((rd_T58 t153 x5_1).f0.f0)) ∧ w'.cell? ⟨(ad156.add ((x5_1).toNat * 7)).block, (ad156.add ((x5_1).toNat * 7)).off + 1, none⟩ = some (.int .u8 ((rd_T58 t153 x5_1).f0.f1)) ∧ w'.cell? ⟨(ad156.add ((x5_1).toNat * 7)).block, (ad156.add ((x5_1).toNat * 7)).off + 2, none⟩ = some (.int .i64 ((rd_T58 t153 x5_1).f0.f2)) ∧ w'.cell? ⟨(ad156.add ((x5_1).toNat * 7)).block, (ad156.add ((x5_1).toNat * 7)).off + 3, none⟩ = some (.slice A162_3 ((rd_T58 t153 x5_1).f0.f3).length c162_3) ∧ w'.cell? ⟨(ad156.add ((x5_1).toNat * 7)).block, (ad156.add ((x5_1).toNat * 7)).off + 4, none⟩ = some (.int .i64 ((rd_T58 t153 x5_1).f1.f0)) ∧ w'.cell? ⟨(ad156.add ((x5_1).toNat * 7)).block, (ad156.add ((x5_1).toNat * 7)).off + 5, none⟩ = some (.int .i64 ((rd_T58 t153 x5_1).f1.f1)) ∧ w'.cell? ⟨(ad156.add ((x5_1).toNat * 7)).block, (ad156.add ((x5_1).toNat * 7)).off + 6, none⟩ = some (.int .i64 ((rd_T58 t153 x5_1).f2)) ∧ w'.cell? (ad156.add ((x5_1).toNat * 7)) = some (.int .u8 ((rd_T58 t153 x5_1).f0.f0)) ∧ w'.cell? ⟨(ad156.add ((x5_1).toNat * 7)).block, (ad156.add ((x5_1).toNat * 7)).off + 1, none⟩ = some (.int .u8 ((rd_T58 t153 x5_1).f0.f1)) ∧ w'.cell? ⟨(ad156.add ((x5_1).toNat * 7)).block, (ad156.add ((x5_1).toNat * 7)).off + 2, none⟩ = some (.int .i64 ((rd_T58 t153 x5_1).f0.f2)) ∧ w'.cell? ⟨(ad156.add ((x5_1).toNat * 7)).block, (ad156.add ((x5_1).toNat * 7)).off + 3, none⟩ = some (.slice A162_3 ((rd_T58 t153 x5_1).f0.f3).length c162_3) ∧ w'.cell? ⟨(ad156.add ((x5_1).toNat * 7)).block, (ad156.add ((x5_1).toNat * 7)).off + 4, none⟩ = some (.int .i64 ((rd_T58 t153 x5_1).f1.f0)) ∧ w'.cell? ⟨(ad156.add ((x5_1).toNat * 7)).block, (ad156.add ((x5_1).toNat * 7)).off + 5, none⟩ = some (.int .i64 ((rd_T58 t153 x5_1).f1.f1)) ∧ w'.cell? ⟨(ad156.add ((x5_1).toNat * 7)).block, (ad156.add ((x5_1).toNat * 7)).off + 6, none⟩ = some (.int .i64 ((rd_T58 t153 x5_1).f2))) (ds := [14, 15]) #[false, false, false, false, false, false, false, false, false, false, false, false, false, false, false, false, false] (by kernel_rfl) rfl rfl ⟨hx162_0, hx162_1, hx162_2, hx162_3, hx162_4, hx162_5, hx162_6, hx163_0, hx163_1, hx163_2, hx163_3, hx163_4, hx163_5, hx163_6⟩ (fun hHeld => ?_); refine with_tabW glossatorref19_Of.tab8 glossatorref19_Of.bits8 (fun HT_ HW_ => ?_)
                generalize wr.drew = w16 at HO_3 HO_4 HL156_3 BK152 HR156_3 HB HL162_3 HL163_3 HR162_3 HR163_3 hx162_0 hx162_1 hx162_2 hx162_3 hx162_4 hx162_5 hx162_6 hx163_0 hx163_1 hx163_2 hx163_3 hx163_4 hx163_5 hx163_6 hHeld ⊢
                refine pure_ (i := 0) (N := some 39) (v := ?_) (a' := ?_) #[true, false, false, false, false, false, false, false, false, false, false, false, false, false, false, false, false] rfl rfl (any_of HT_.out (by kernel_rfl)) (fun _ _ _ h => h) (Or.inl ⟨by rfl, ?_⟩) ?_ ?_
                rotate_left
                · intro w'
                  go_simp
                  with_reducible rfl
                rotate_left
                · simp only [Act.put, List.setIfInBounds_toArray, List.set_cons_zero, List.set_cons_succ, i64_w, i32_w]
                  rfl
                refine pure_ (i := 1) (N := some 40) (v := ?_) (a' := ?_) #[true, true, false, false, false, false, false, false, false, false, false, false, false, false, false, false, false] rfl rfl (any_of HT_.out (by kernel_rfl)) (fun _ _ _ h => h) (Or.inl ⟨by rfl, ?_⟩) ?_ ?_
                rotate_left
                · intro w'
                  go_simp
                  with_reducible rfl
                rotate_left
                · simp only [Act.put, List.setIfInBounds_toArray, List.set_cons_zero, List.set_cons_succ, i64_w, i32_w]
                  rfl
                refine pure_ (i := 2) (N := some 41) (v := ?_) (a' := ?_) #[true, true, true, false, false, false, false, false, false, false, false, false, false, false, false, false, false] rfl rfl (any_of HT_.out (by kernel_rfl)) (fun _ _ _ h => h) (Or.inl ⟨by rfl, ?_⟩) ?_ ?_
                rotate_left
                · intro w'
                  go_simp
                  with_reducible rfl
                rotate_left
                · simp only [Act.put, List.setIfInBounds_toArray, List.set_cons_zero, List.set_cons_succ, i64_w, i32_w]
                  rfl
                refine pure_ (i := 3) (N := some 42) (v := ?_) (a' := ?_) #[true, true, true, true, false, false, false, false, false, false, false, false, false, false, false, false, false] rfl rfl (any_of HT_.out (by kernel_rfl)) (fun _ _ _ h => h) (Or.inl ⟨by rfl, ?_⟩) ?_ ?_
                rotate_left
                · intro w'
                  go_simp
                  with_reducible rfl
                rotate_left
                · simp only [Act.put, List.setIfInBounds_toArray, List.set_cons_zero, List.set_cons_succ, i64_w, i32_w]
                  rfl
                refine pure_ (i := 4) (N := some 43) (v := ?_) (a' := ?_) #[true, true, true, true, true, false, false, false, false, false, false, false, false, false, false, false, false] rfl rfl (any_of HT_.out (by kernel_rfl)) (fun _ _ _ h => h) (Or.inl ⟨by rfl, ?_⟩) ?_ ?_
                rotate_left
                · intro w'
                  go_simp
                  with_reducible rfl
                rotate_left
                · simp only [Act.put, List.setIfInBounds_toArray, List.set_cons_zero, List.set_cons_succ, i64_w, i32_w]
                  rfl
                refine pure_ (i := 6) (N := some 45) (v := ?_) (a' := ?_) #[true, true, true, true, true, false, true, false, false, false, false, false, false, false, false, false, false] rfl rfl (any_of HT_.out (by kernel_rfl)) (fun _ _ _ h => h) (Or.inl ⟨by rfl, ?_⟩) ?_ ?_
                rotate_left
                · intro w'
                  go_simp
                  with_reducible rfl
                rotate_left
                · simp only [Act.put, List.setIfInBounds_toArray, List.set_cons_zero, List.set_cons_succ, i64_w, i32_w]
                  rfl
                refine pure_ (i := 7) (N := some 46) (v := ?_) (a' := ?_) #[true, true, true, true, true, false, true, true, false, false, false, false, false, false, false, false, false] rfl rfl (any_of HT_.out (by kernel_rfl)) (fun _ _ _ h => h) (Or.inl ⟨by rfl, ?_⟩) ?_ ?_
                rotate_left
                · intro w'
                  go_simp
                  with_reducible rfl
                rotate_left
                · simp only [Act.put, List.setIfInBounds_toArray, List.set_cons_zero, List.set_cons_succ, i64_w, i32_w]
                  rfl
                refine pure_ (i := 8) (N := some 47) (v := ?_) (a' := ?_) #[true, true, true, true, true, false, true, true, true, false, false, false, false, false, false, false, false] rfl rfl (any_of HT_.out (by kernel_rfl)) (fun _ _ _ h => h) (Or.inl ⟨by rfl, ?_⟩) ?_ ?_
                rotate_left
                · intro w'
                  go_simp
                  with_reducible rfl
                rotate_left
                · simp only [Act.put, List.setIfInBounds_toArray, List.set_cons_zero, List.set_cons_succ, i64_w, i32_w]
                  rfl
                refine pure_ (i := 9) (N := some 48) (v := ?_) (a' := ?_) #[true, true, true, true, true, false, true, true, true, true, false, false, false, false, false, false, false] rfl rfl (any_of HT_.out (by kernel_rfl)) (fun _ _ _ h => h) (Or.inl ⟨by rfl, ?_⟩) ?_ ?_
                rotate_left
                · intro w'
                  go_simp
                  with_reducible rfl
                rotate_left
                · simp only [Act.put, List.setIfInBounds_toArray, List.set_cons_zero, List.set_cons_succ, i64_w, i32_w]
                  rfl
                refine pure_ (i := 10) (N := some 49) (v := ?_) (a' := ?_) #[true, true, true, true, true, false, true, true, true, true, true, false, false, false, false, false, false] rfl rfl (any_of HT_.out (by kernel_rfl)) (fun _ _ _ h => h) (Or.inl ⟨by rfl, ?_⟩) ?_ ?_
                rotate_left
                · intro w'
                  go_simp
                  with_reducible rfl
                rotate_left
                · simp only [Act.put, List.setIfInBounds_toArray, List.set_cons_zero, List.set_cons_succ, i64_w, i32_w]
                  rfl
                refine pure_ (i := 11) (N := some 50) (v := ?_) (a' := ?_) #[true, true, true, true, true, false, true, true, true, true, true, true, false, false, false, false, false] rfl rfl (any_of HT_.out (by kernel_rfl)) (fun _ _ _ h => h) (Or.inl ⟨by rfl, ?_⟩) ?_ ?_
                rotate_left
                · intro w'
                  go_simp
                  with_reducible rfl
                rotate_left
                · simp only [Act.put, List.setIfInBounds_toArray, List.set_cons_zero, List.set_cons_succ, i64_w, i32_w]
                  rfl
                refine take_ (i := 5) (N := some 44) (v := ?_) (a' := ?_) #[true, true, true, true, true, true, true, true, true, true, true, true, false, false, false, false, false] rfl rfl (take_ofW HT_.out HW_.out (by kernel_rfl)) (fun _ _ _ h => h) (Or.inl ⟨by rfl, ?_⟩) hHeld ?_ ?_
                rotate_left
                · rintro w' ⟨s0, s1, s2, s3, s4, s5, s6, s7, s8, s9, s10, s11, s12, s13⟩
                  go_simp
                  with_reducible rfl
                rotate_left
                · simp only [Act.put, List.setIfInBounds_toArray, List.set_cons_zero, List.set_cons_succ, i64_w, i32_w]
                  rfl
                refine take_ (i := 12) (N := some 51) (v := ?_) (a' := ?_) #[true, true, true, true, true, true, true, true, true, true, true, true, true, false, false, false, false] rfl rfl (take_ofW HT_.out HW_.out (by kernel_rfl)) (fun _ _ _ h => h) (Or.inl ⟨by rfl, ?_⟩) hHeld ?_ ?_
                rotate_left
                · rintro w' ⟨s0, s1, s2, s3, s4, s5, s6, s7, s8, s9, s10, s11, s12, s13⟩
                  go_simp
                  with_reducible rfl
                rotate_left
                · simp only [Act.put, List.setIfInBounds_toArray, List.set_cons_zero, List.set_cons_succ, i64_w, i32_w]
                  rfl
                refine pure_ (i := 13) (N := some 52) (v := ?_) (a' := ?_) #[true, true, true, true, true, true, true, true, true, true, true, true, true, true, false, false, false] rfl rfl (any_of HT_.out (by kernel_rfl)) (fun _ _ _ h => h) (Or.inl ⟨by rfl, ?_⟩) ?_ ?_
                rotate_left
                · intro w'
                  go_simp
                  with_reducible rfl
                rotate_left
                · simp only [Act.put, List.setIfInBounds_toArray, List.set_cons_zero, List.set_cons_succ, i64_w, i32_w]
                  rfl
                refine last_ (i := 14) (N := some 53) #[true, true, true, true, true, true, true, true, true, true, true, true, true, true, true, false, false] rfl rfl (one_of HT_.out (by kernel_rfl)) (by decide) (fun K hK => ?_)
                refine value_ (w1 := ?_) (v := ?_) (by rfl) rfl ?_ ?_
                rotate_left 2
                · go_simp
                  constructor
                  · rfl
                  · rfl
                refine hK.out _ _ ?_
                clear hK K
                refine norm_ (a' := ?_) ?_ ?_
                rotate_left
                · show Act.put _ (some 53) _ = _
                  simp only [Act.put, List.setIfInBounds_toArray, List.set_cons_zero, List.set_cons_succ, i64_w, i32_w]
                  rfl
                refine last_ (i := 15) (N := some 54) #[true, true, true, true, true, true, true, true, true, true, true, true, true, true, true, true, false] rfl rfl (one_of HT_.out (by kernel_rfl)) (by decide) (fun K hK => ?_)
                refine Kd.R_append_step k44 (w0 := w) w.heap.size (by rfl) (.tmp 39) (.tmp 53) 37 44 (.agg #[(.int .i64 0), (.int .i64 0), (.int .u8 0), (.int .u8 0)]) 24 rfl Try.underlying37 info44 rfl (by decide) (by omega) u3 x3_1 (⟨(⟨(rd_T58 t153 x5_1).f1.f0, (rd_T58 t153 x5_1).f1.f1⟩ : S42), (rd_T58 t153 x5_1).f0.f0, (rd_T58 t153 x5_1).f0.f1⟩ : S44) [.int .i64 ((rd_T58 t153 x5_1).f1.f0), .int .i64 ((rd_T58 t153 x5_1).f1.f1), .int .u8 ((rd_T58 t153 x5_1).f0.f0), .int .u8 ((rd_T58 t153 x5_1).f0.f1)] (fun _ => True) (fun _ => False) rfl rfl ?aP (fun _ hk => hk.elim) ?aF ?aO ?aB ?aS ?aL ?_
                (case aP => exact k44_mkM _ _ _ (⟨(⟨(rd_T58 t153 x5_1).f1.f0, (rd_T58 t153 x5_1).f1.f1⟩ : S42), (rd_T58 t153 x5_1).f0.f0, (rd_T58 t153 x5_1).f0.f1⟩ : S44))
                (case aB => exact (by repeat (first | (with_reducible first | exact HB.out | apply below_alloc | apply pw_below_drewN | apply below_drew1 | refine below_set ?_ GE152.out) | exact HB.out)))
                (case aF => exact (fun _ _ => trivial))
                (case aO => exact (by (with_reducible repeat (first | apply Kd.R_alloc | apply Kd.R_drewN | apply Kd.R_drew)); exact HO_3.out))
                (case aS => exact (below_size (by repeat (first | (with_reducible first | exact HB.out | apply below_alloc | apply pw_below_drewN | apply below_drew1 | refine below_set ?_ GE152.out) | exact HB.out))))
                (case aL => have := LMc14.out; omega)
                intro v165 w17 ho hb hg hat
                rw [← Ny164.out] at ho
                have n0_ := Aside0.mk (Kd.V_afterv (ok := (fun k_ => k_ ≠ gb152)) (by (with_reducible repeat (first | apply Kd.V_alloc | apply Kd.V_drewN | apply Kd.V_drew)); exact Kd.V_mono HO_4.out (fun _ hk => ⟨hk.2, hk.1⟩)) hg hat)
                have n1_ := Aside0.mk (blk_grown (g := gb152) (o := .cells #[.int .u8 a0_0, .int .u8 a0_1, .int .i64 a0_2, .slice A0_3 l0_3.length c0_3] 25 (0, 0)) (by (with_reducible repeat (first | refine blk_drewN ?_ _ | refine blk_drew ?_ | refine blk_alloc ?_ _)); exact BK152.out) hg (Kd.R_ne HO_3.out BK152.out (by decide)))
                have n2_ := Aside0.mk (Kd.V_afterv (ok := (fun k_ => k_ ≠ gb152)) (by (with_reducible repeat (first | apply Kd.V_alloc | apply Kd.V_drewN | apply Kd.V_drew)); exact Kd.V_mono HL156_3.out (fun _ hk => ⟨hk.2, hk.1⟩)) hg hat)
                have n3_ := Aside0.mk (Kd.V_afterv (ok := (fun k_ => k_ ≠ gb152)) (by (with_reducible repeat (first | apply Kd.V_alloc | apply Kd.V_drewN | apply Kd.V_drew)); exact Kd.V_mono HL162_3.out (fun _ hk => ⟨hk.2, hk.1⟩)) hg hat)
                have n4_ := Aside0.mk (Kd.V_afterv (ok := (fun k_ => k_ ≠ gb152)) (by (with_reducible repeat (first | apply Kd.V_alloc | apply Kd.V_drewN | apply Kd.V_drew)); exact Kd.V_mono HL163_3.out (fun _ hk => ⟨hk.2, hk.1⟩)) hg hat)
                have n5_ := Aside0.mk (hb)
                have n6_ := Aside0.mk (ho)
                clear HO_4
                clear BK152
                clear HL156_3
                clear HL162_3
                clear HL163_3
                clear HB
                clear HO_3
                have HO_4 := n0_
                have BK152 := n1_
                have HL156_3 := n2_
                have HL162_3 := n3_
                have HL163_3 := n4_
                have HB := n5_
                have HO166 := n6_
                clear n0_ n1_ n2_ n3_ n4_ n5_ n6_
                clear ho hb hg hat
                refine hK.out _ _ ?_
                clear hK K
                refine norm_ (a' := ?_) ?_ ?_
                rotate_left
                · show Act.put _ (some 54) _ = _
                  simp only [Act.put, List.setIfInBounds_toArray, List.set_cons_zero, List.set_cons_succ, i64_w, i32_w]
                  rfl
                refine pure_ (i := 16) (N := some 3) (v := ?_) (a' := ?_) #[true, true, true, true, true, true, true, true, true, true, true, true, true, true, true, true, true] rfl rfl (any_of HT_.out (by kernel_rfl)) (fun _ _ _ h => h) (Or.inl ⟨by rfl, ?_⟩) ?_ ?_
                rotate_left
                · intro w'
                  go_simp
                  with_reducible rfl
                rotate_left
                · simp only [Act.put, List.setIfInBounds_toArray, List.set_cons_zero, List.set_cons_succ, i64_w, i32_w]
                  rfl
                refine done_ (done_of HT_.out (by kernel_rfl)) ?_
                try go_wp2
                go_roundg k1
                case measure => have := HK1.out; omega
                case rel => exact ⟨(y164), (wrap64 (x5_1 + 1)), (by first | rfl | (simp; done) | (simp [*]; done)), H', ⟨by have := HK1.out; omega⟩, ⟨by (with_reducible repeat (first | apply Kd.R_alloc | apply Kd.R_drewN | apply Kd.R_drew)); exact HO166.out⟩, ⟨by (with_reducible repeat (first | apply Kd.V_alloc | apply Kd.V_drewN | apply Kd.V_drew)); exact Kd.V_mono HO_4.out (fun _ hk => ⟨hk.2, hk.1⟩)⟩, ⟨by (with_reducible repeat (first | refine blk_drewN ?_ _ | refine blk_drew ?_ | refine blk_alloc ?_ _)); exact BK152.out⟩, ⟨by repeat (first | (with_reducible first | exact HB.out | apply below_alloc | apply pw_below_drewN | apply below_drew1 | refine below_set ?_ GE152.out) | exact HB.out)⟩⟩
              · rw [if_neg c14] at H
                exact absurd H (by simp)
            · rw [if_neg c13] at H
              have c13b0 : (((rd_T58 t153 x5_1).f0.f0) == 68) = false := beq_eq_false_iff_ne.mpr c13
              have c13b1 : (((rd_T58 t153 x5_1).f0.f0) != 68) = true := bne_iff_ne.mpr c13
              by_cases c18 : ((rd_T58 t153 x5_1).f0.f0) = 5
              · rw [if_pos c18] at H
                have c18b0 : (((rd_T58 t153 x5_1).f0.f0) == 5) = true := beq_iff_eq.mpr c18
                have c18b1 : (((rd_T58 t153 x5_1).f0.f0) != 5) = false := bne_eq_false_iff_eq.mpr c18
                clear c18
                by_cases c19 : x3_1.length < 5864062014805
                · rw [if_pos c19] at H
                  have LMc19 := Aside0.mk c19
                  clear c19
                  obtain ⟨y169, hy169⟩ : ∃ y_ : List (S44), y_ = (x3_1 ++ [(⟨(⟨(rd_T58 t153 x5_1).f1.f0, (rd_T58 t153 x5_1).f1.f1⟩ : S42), (rd_T58 t153 x5_1).f0.f0, (rd_T58 t153 x5_1).f0.f1⟩ : S44)]) := ⟨_, rfl⟩
                  replace H : (glossatorref19_Of.l0 k1 y169 t153 (wrap64 (x5_1 + 1))) = some r := by first | (rw [hy169]; with_reducible exact H) | (have H2_ := (Option.bind_some _ _).symm.trans H; rw [hy169]; with_reducible exact H2_) | (have H2_ := (Option.bind_some _ _).symm.trans H; with_reducible exact H2_) | with_reducible exact H | (rw [hy169]; exact H) | exact H
                  have Ny169 := Aside0.mk hy169
                  clear hy169
                  have H' := Aside0.mk H
                  clear H
                  obtain ⟨Ao20, co20, eo20⟩ := Kd.V_slice HO_4.out
                  subst eo20
                  have p156 : 0 ≤ (x5_1 : Int) := of_decide_eq_true (by first | (with_reducible assumption) | assumption)
                  have q156 : x5_1 < (t153.length : Int) := of_decide_eq_true (by first | (with_reducible assumption) | assumption)
                  obtain ⟨ad156, A156_3, c156_3, e156, hx156_0, hx156_1, hx156_2, hx156_3, hx156_4, hx156_5, hx156_6, hl156_3, hi156_3⟩ := at_T58 (Kd.V_reads' HO_4.out).2.2 x5_1 p156 q156
                  cases e156
                  obtain ⟨ce156, hce156, hMe156, hcc156⟩ := Kd.V_get HO_4.out z58 x5_1 p156 (by first | exact q156 | exact of_decide_eq_true (by first | (with_reducible assumption) | assumption) | (have e_ := (Kd.V_reads' HO_4.out).1; omega))
                  obtain ⟨ua156_3, uc156_3, rfl, ul156_3, ge156_3⟩ := k58_openF hMe156
                  have hv156_3 := hcc156 3 _ rfl
                  rw [add_field _ _ 3 (by omega)] at hv156_3
                  replace hv156_3 := Option.some.inj (hv156_3.symm.trans hx156_3)
                  injection hv156_3 with hva_ hvn_ hvc_
                  rw [hva_] at ge156_3
                  rw [hvc_] at ul156_3
                  have HL156_3 := Aside0.mk (show Kd.V k25 25 _ w.heap.size _ _ ((rd_T58 t153 x5_1).f0.f3) from Kd.V_mk ul156_3 ge156_3)
                  clear hva_ hvn_ hvc_ ge156_3 ul156_3
                  clear hcc156 hce156
                  have HR156_3 := Aside0.mk hi156_3
                  have HC156_3 := Aside0.mk hl156_3
                  clear hi156_3 hl156_3
                  replace p156 := eq_true p156
                  replace q156 := eq_true q156
                  try go_wp2
                  have n0_ := Aside0.mk (Kd.R_drew HO_3.out)
                  have n1_ := Aside0.mk (Kd.V_drew HO_4.out)
                  have n2_ := Aside0.mk (Kd.V_drew HL156_3.out)
                  have n3_ := Aside0.mk (blk_drew BK152.out)
                  have n4_ := Aside0.mk (Kd.C_drew HR156_3.out)
                  have n5_ := Aside0.mk (below_drew1 HB.out)
                  clear HO_3
                  clear HO_4
                  clear HL156_3
                  clear BK152
                  clear HR156_3
                  clear HB
                  have HO_3 := n0_
                  have HO_4 := n1_
                  have HL156_3 := n2_
                  have BK152 := n3_
                  have HR156_3 := n4_
                  have HB := n5_
                  clear n0_ n1_ n2_ n3_ n4_ n5_
                  have p167 : 0 ≤ (x5_1 : Int) := of_decide_eq_true (by first | (with_reducible assumption) | assumption)
                  have q167 : x5_1 < (t153.length : Int) := of_decide_eq_true (by first | (with_reducible assumption) | assumption)
                  obtain ⟨ad167, A167_3, c167_3, e167, hx167_0, hx167_1, hx167_2, hx167_3, hx167_4, hx167_5, hx167_6, hl167_3, hi167_3⟩ := at_T58 (Kd.V_reads' HO_4.out).2.2 x5_1 p167 q167
                  obtain rfl : ad156 = ad167 := (by injection e167)
                  obtain ⟨ce167, hce167, hMe167, hcc167⟩ := Kd.V_get HO_4.out z58 x5_1 p167 (by first | exact q167 | exact of_decide_eq_true (by first | (with_reducible assumption) | assumption) | (have e_ := (Kd.V_reads' HO_4.out).1; omega))
                  obtain ⟨ua167_3, uc167_3, rfl, ul167_3, ge167_3⟩ := k58_openF hMe167
                  have hv167_3 := hcc167 3 _ rfl
                  rw [add_field _ _ 3 (by omega)] at hv167_3
                  replace hv167_3 := Option.some.inj (hv167_3.symm.trans hx167_3)
                  injection hv167_3 with hva_ hvn_ hvc_
                  rw [hva_] at ge167_3
                  rw [hvc_] at ul167_3
                  have HL167_3 := Aside0.mk (show Kd.V k25 25 _ w.heap.size _ _ ((rd_T58 t153 x5_1).f0.f3) from Kd.V_mk ul167_3 ge167_3)
                  clear hva_ hvn_ hvc_ ge167_3 ul167_3
                  clear hcc167 hce167
                  have HR167_3 := Aside0.mk hi167_3
                  have HC167_3 := Aside0.mk hl167_3
                  clear hi167_3 hl167_3
                  replace p167 := eq_true p167
                  replace q167 := eq_true q167
                  have p168 : 0 ≤ (x5_1 : Int) := of_decide_eq_true (by first | (with_reducible assumption) | assumption)
                  have q168 : x5_1 < (t153.length : Int) := of_decide_eq_true (by first | (with_reducible assumption) | assumption)
                  obtain ⟨ad168, A168_3, c168_3, e168, hx168_0, hx168_1, hx168_2, hx168_3, hx168_4, hx168_5, hx168_6, hl168_3, hi168_3⟩ := at_T58 (Kd.V_reads' HO_4.out).2.2 x5_1 p168 q168
                  obtain rfl : ad156 = ad168 := (by injection e168)
                  obtain ⟨ce168, hce168, hMe168, hcc168⟩ := Kd.V_get HO_4.out z58 x5_1 p168 (by first | exact q168 | exact of_decide_eq_true (by first | (with_reducible assumption) | assumption) | (have e_ := (Kd.V_reads' HO_4.out).1; omega))
                  obtain ⟨ua168_3, uc168_3, rfl, ul168_3, ge168_3⟩ := k58_openF hMe168
                  have hv168_3 := hcc168 3 _ rfl
                  rw [add_field _ _ 3 (by omega)] at hv168_3
                  replace hv168_3 := Option.some.inj (hv168_3.symm.trans hx168_3)
                  injection hv168_3 with hva_ hvn_ hvc_
                  rw [hva_] at ge168_3
                  rw [hvc_] at ul168_3
                  have HL168_3 := Aside0.mk (show Kd.V k25 25 _ w.heap.size _ _ ((rd_T58 t153 x5_1).f0.f3) from Kd.V_mk ul168_3 ge168_3)
                  clear hva_ hvn_ hvc_ ge168_3 ul168_3
                  clear hcc168 hce168
                  have HR168_3 := Aside0.mk hi168_3
                  have HC168_3 := Aside0.mk hl168_3
                  clear hi168_3 hl168_3
                  replace p168 := eq_true p168
                  replace q168 := eq_true q168
                  have ea_ := Option.some.inj (hx167_3.symm.trans hx168_3)
                  injection ea_ with ea_ en_ ec_
                  subst ea_
                  subst ec_
                  clear en_
                  refine start_ (n := 17) (S := fun w' => w'.cell? (ad156.add ((x5_1).toNat * 7)) = some (.int .u8 ((rd_T58 t153 x5_1).f0.f0)) ∧ w'.cell? ⟨(ad156.add ((x5_1).toNat * 7)).block, (ad156.add ((x5_1).toNat * 7)).off + 1, none⟩ = some (.int .u8 ((rd_T58 t153 x5_1).f0.f1)) ∧ w'.cell? ⟨(ad156.add ((x5_1).toNat * 7)).block, (ad156.add ((x5_1).toNat * 7)).off + 2, none⟩ = some (.int .i64 ((rd_T58 t153 x5_1).f0.f2)) ∧ w'.cell? ⟨(ad156.add ((x5_1).toNat * 7)).block, (ad156.add ((x5_1).toNat * 7)).off + 3, none⟩ = some (.slice A167_3 ((rd_T58 t153 x5_1).f0.f3).length c167_3) ∧ w'.cell? ⟨(ad156.add ((x5_1).toNat * 7)).block, (ad156.add ((x5_1).toNat * 7)).off + 4, none⟩ = some (.int .i64 ((rd_T58 t153 x5_1).f1.f0)) ∧ w'.cell? ⟨(ad156.add ((x5_1).toNat * 7)).block, (ad156.add ((x5_1).toNat * 7)).off + 5, none⟩ = some (.int .i64 ((rd_T58 t153 x5_1).f1.f1)) ∧ w'.cell? ⟨(ad156.add ((x5_1).toNat * 7)).block, (ad156.add ((x5_1).toNat * 7)).off + 6, none⟩ = some (.int .i64 ((rd_T58 t153 x5_1).f2)) ∧ w'.cell? (ad156.add ((x5_1).toNat * 7)) = some (.int .u8 ((rd_T58 t153 x5_1).f0.f0)) ∧ w'.cell? ⟨(ad156.add ((x5_1).toNat * 7)).block, (ad156.add ((x5_1).toNat * 7)).off + 1, none⟩ = some (.int .u8 ((rd_T58 t153 x5_1).f0.f1)) ∧ w'.cell? ⟨(ad156.add ((x5_1).toNat * 7)).block, (ad156.add ((x5_1).toNat * 7)).off + 2, none⟩ = some (.int .i64 ((rd_T58 t153 x5_1).f0.f2)) ∧ w'.cell? ⟨(ad156.add ((x5_1).toNat * 7)).block, (ad156.add ((x5_1).toNat * 7)).off + 3, none⟩ = some (.slice A167_3 ((rd_T58 t153 x5_1).f0.f3).length c167_3) ∧ w'.cell? ⟨(ad156.add ((x5_1).toNat * 7)).block, (ad156.add ((x5_1).toNat * 7)).off + 4, none⟩ = some (.int .i64 ((rd_T58 t153 x5_1).f1.f0)) ∧ w'.cell? ⟨(ad156.add ((x5_1).toNat * 7)).block, (ad156.add ((x5_1).toNat * 7)).off + 5, none⟩ = some (.int .i64 ((rd_T58 t153 x5_1).f1.f1)) ∧ w'.cell? ⟨(ad156.add ((x5_1).toNat * 7)).block, (ad156.add ((x5_1).toNat * 7)).off + 6, none⟩ = some (.int .i64 ((rd_T58 t153 x5_1).f2))) (ds := [14, 15]) #[false, false, false, false, false, false, false, false, false, false, false, false, false, false, false, false, false] (by kernel_rfl) rfl rfl ⟨hx167_0, hx167_1, hx167_2, hx167_3, hx167_4, hx167_5, hx167_6, hx168_0, hx168_1, hx168_2, hx168_3, hx168_4, hx168_5, hx168_6⟩ (fun hHeld => ?_); refine with_tabW glossatorref19_Of.tab8 glossatorref19_Of.bits8 (fun HT_ HW_ => ?_)
                  generalize wr.drew = w21 at HO_3 HO_4 HL156_3 BK152 HR156_3 HB HL167_3 HL168_3 HR167_3 HR168_3 hx167_0 hx167_1 hx167_2 hx167_3 hx167_4 hx167_5 hx167_6 hx168_0 hx168_1 hx168_2 hx168_3 hx168_4 hx168_5 hx168_6 hHeld ⊢
                  refine pure_ (i := 0) (N := some 39) (v := ?_) (a' := ?_) #[true, false, false, false, false, false, false, false, false, false, false, false, false, false, false, false, false] rfl rfl (any_of HT_.out (by kernel_rfl)) (fun _ _ _ h => h) (Or.inl ⟨by rfl, ?_⟩) ?_ ?_
                  rotate_left
                  · intro w'
                    go_simp
                    with_reducible rfl
                  rotate_left
                  · simp only [Act.put, List.setIfInBounds_toArray, List.set_cons_zero, List.set_cons_succ, i64_w, i32_w]
                    rfl
                  refine pure_ (i := 1) (N := some 40) (v := ?_) (a' := ?_) #[true, true, false, false, false, false, false, false, false, false, false, false, false, false, false, false, false] rfl rfl (any_of HT_.out (by kernel_rfl)) (fun _ _ _ h => h) (Or.inl ⟨by rfl, ?_⟩) ?_ ?_
                  rotate_left
                  · intro w'
                    go_simp
                    with_reducible rfl
                  rotate_left
                  · simp only [Act.put, List.setIfInBounds_toArray, List.set_cons_zero, List.set_cons_succ, i64_w, i32_w]
                    rfl
                  refine pure_ (i := 2) (N := some 41) (v := ?_) (a' := ?_) #[true, true, true, false, false, false, false, false, false, false, false, false, false, false, false, false, false] rfl rfl (any_of HT_.out (by kernel_rfl)) (fun _ _ _ h => h) (Or.inl ⟨by rfl, ?_⟩) ?_ ?_
                  rotate_left
                  · intro w'
                    go_simp
                    with_reducible rfl
                  rotate_left
                  · simp only [Act.put, List.setIfInBounds_toArray, List.set_cons_zero, List.set_cons_succ, i64_w, i32_w]
                    rfl
                  refine pure_ (i := 3) (N := some 42) (v := ?_) (a' := ?_) #[true, true, true, true, false, false, false, false, false, false, false, false, false, false, false, false, false] rfl rfl (any_of HT_.out (by kernel_rfl)) (fun _ _ _ h => h) (Or.inl ⟨by rfl, ?_⟩) ?_ ?_
                  rotate_left
                  · intro w'
                    go_simp
                    with_reducible rfl
                  rotate_left
                  · simp only [Act.put, List.setIfInBounds_toArray, List.set_cons_zero, List.set_cons_succ, i64_w, i32_w]
                    rfl
                  refine pure_ (i := 4) (N := some 43) (v := ?_) (a' := ?_) #[true, true, true, true, true, false, false, false, false, false, false, false, false, false, false, false, false] rfl rfl (any_of HT_.out (by kernel_rfl)) (fun _ _ _ h => h) (Or.inl ⟨by rfl, ?_⟩) ?_ ?_
                  rotate_left
                  · intro w'
                    go_simp
                    with_reducible rfl
                  rotate_left
                  · simp only [Act.put, List.setIfInBounds_toArray, List.set_cons_zero, List.set_cons_succ, i64_w, i32_w]
                    rfl
                  refine pure_ (i := 6) (N := some 45) (v := ?_) (a' := ?_) #[true, true, true, true, true, false, true, false, false, false, false, false, false, false, false, false, false] rfl rfl (any_of HT_.out (by kernel_rfl)) (fun _ _ _ h => h) (Or.inl ⟨by rfl, ?_⟩) ?_ ?_
                  rotate_left
                  · intro w'
                    go_simp
                    with_reducible rfl
                  rotate_left
                  · simp only [Act.put, List.setIfInBounds_toArray, List.set_cons_zero, List.set_cons_succ, i64_w, i32_w]
                    rfl
                  refine pure_ (i := 7) (N := some 46) (v := ?_) (a' := ?_) #[true, true, true, true, true, false, true, true, false, false, false, false, false, false, false, false, false] rfl rfl (any_of HT_.out (by kernel_rfl)) (fun _ _ _ h => h) (Or.inl ⟨by rfl, ?_⟩) ?_ ?_
                  rotate_left
                  · intro w'
                    go_simp
                    with_reducible rfl
                  rotate_left
                  · simp only [Act.put, List.setIfInBounds_toArray, List.set_cons_zero, List.set_cons_succ, i64_w, i32_w]
                    rfl
                  refine pure_ (i := 8) (N := some 47) (v := ?_) (a' := ?_) #[true, true, true, true, true, false, true, true, true, false, false, false, false, false, false, false, false] rfl rfl (any_of HT_.out (by kernel_rfl)) (fun _ _ _ h => h) (Or.inl ⟨by rfl, ?_⟩) ?_ ?_
                  rotate_left
                  · intro w'
                    go_simp
                    with_reducible rfl
                  rotate_left
                  · simp only [Act.put, List.setIfInBounds_toArray, List.set_cons_zero, List.set_cons_succ, i64_w, i32_w]
                    rfl
                  refine pure_ (i := 9) (N := some 48) (v := ?_) (a' := ?_) #[true, true, true, true, true, false, true, true, true, true, false, false, false, false, false, false, false] rfl rfl (any_of HT_.out (by kernel_rfl)) (fun _ _ _ h => h) (Or.inl ⟨by rfl, ?_⟩) ?_ ?_
                  rotate_left
                  · intro w'
                    go_simp
                    with_reducible rfl
                  rotate_left
                  · simp only [Act.put, List.setIfInBounds_toArray, List.set_cons_zero, List.set_cons_succ, i64_w, i32_w]
                    rfl
                  refine pure_ (i := 10) (N := some 49) (v := ?_) (a' := ?_) #[true, true, true, true, true, false, true, true, true, true, true, false, false, false, false, false, false] rfl rfl (any_of HT_.out (by kernel_rfl)) (fun _ _ _ h => h) (Or.inl ⟨by rfl, ?_⟩) ?_ ?_
                  rotate_left
                  · intro w'
                    go_simp
                    with_reducible rfl
                  rotate_left
                  · simp only [Act.put, List.setIfInBounds_toArray, List.set_cons_zero, List.set_cons_succ, i64_w, i32_w]
                    rfl
                  refine pure_ (i := 11) (N := some 50) (v := ?_) (a' := ?_) #[true, true, true, true, true, false, true, true, true, true, true, true, false, false, false, false, false] rfl rfl (any_of HT_.out (by kernel_rfl)) (fun _ _ _ h => h) (Or.inl ⟨by rfl, ?_⟩) ?_ ?_
                  rotate_left
                  · intro w'
                    go_simp
                    with_reducible rfl
                  rotate_left
                  · simp only [Act.put, List.setIfInBounds_toArray, List.set_cons_zero, List.set_cons_succ, i64_w, i32_w]
                    rfl
                  refine take_ (i := 5) (N := some 44) (v := ?_) (a' := ?_) #[true, true, true, true, true, true, true, true, true, true, true, true, false, false, false, false, false] rfl rfl (take_ofW HT_.out HW_.out (by kernel_rfl)) (fun _ _ _ h => h) (Or.inl ⟨by rfl, ?_⟩) hHeld ?_ ?_
                  rotate_left
                  · rintro w' ⟨s0, s1, s2, s3, s4, s5, s6, s7, s8, s9, s10, s11, s12, s13⟩
                    go_simp
                    with_reducible rfl
                  rotate_left
                  · simp only [Act.put, List.setIfInBounds_toArray, List.set_cons_zero, List.set_cons_succ, i64_w, i32_w]
                    rfl
                  refine take_ (i := 12) (N := some 51) (v := ?_) (a' := ?_) #[true, true, true, true, true, true, true, true, true, true, true, true, true, false, false, false, false] rfl rfl (take_ofW HT_.out HW_.out (by kernel_rfl)) (fun _ _ _ h => h) (Or.inl ⟨by rfl, ?_⟩) hHeld ?_ ?_
                  rotate_left
                  · rintro w' ⟨s0, s1, s2, s3, s4, s5, s6, s7, s8, s9, s10, s11, s12, s13⟩
                    go_simp
                    with_reducible rfl
                  rotate_left
                  · simp only [Act.put, List.setIfInBounds_toArray, List.set_cons_zero, List.set_cons_succ, i64_w, i32_w]
                    rfl
                  refine pure_ (i := 13) (N := some 52) (v := ?_) (a' := ?_) #[true, true, true, true, true, true, true, true, true, true, true, true, true, true, false, false, false] rfl rfl (any_of HT_.out (by kernel_rfl)) (fun _ _ _ h => h) (Or.inl ⟨by rfl, ?_⟩) ?_ ?_
                  rotate_left
                  · intro w'
                    go_simp
                    with_reducible rfl
                  rotate_left
                  · simp only [Act.put, List.setIfInBounds_toArray, List.set_cons_zero, List.set_cons_succ, i64_w, i32_w]
                    rfl
                  refine last_ (i := 14) (N := some 53) #[true, true, true, true, true, true, true, true, true, true, true, true, true, true, true, false, false] rfl rfl (one_of HT_.out (by kernel_rfl)) (by decide) (fun K hK => ?_)
                  refine value_ (w1 := ?_) (v := ?_) (by rfl) rfl ?_ ?_
                  rotate_left 2
                  · go_simp
                    constructor
                    · rfl
                    · rfl
                  refine hK.out _ _ ?_
                  clear hK K
                  refine norm_ (a' := ?_) ?_ ?_
                  rotate_left
                  · show Act.put _ (some 53) _ = _
                    simp only [Act.put, List.setIfInBounds_toArray, List.set_cons_zero, List.set_cons_succ, i64_w, i32_w]
                    rfl
                  refine last_ (i := 15) (N := some 54) #[true, true, true, true, true, true, true, true, true, true, true, true, true, true, true, true, false] rfl rfl (one_of HT_.out (by kernel_rfl)) (by decide) (fun K hK => ?_)
                  refine Kd.R_append_step k44 (w0 := w) w.heap.size (by rfl) (.tmp 39) (.tmp 53) 37 44 (.agg #[(.int .i64 0), (.int .i64 0), (.int .u8 0), (.int .u8 0)]) 24 rfl Try.underlying37 info44 rfl (by decide) (by omega) u3 x3_1 (⟨(⟨(rd_T58 t153 x5_1).f1.f0, (rd_T58 t153 x5_1).f1.f1⟩ : S42), (rd_T58 t153 x5_1).f0.f0, (rd_T58 t153 x5_1).f0.f1⟩ : S44) [.int .i64 ((rd_T58 t153 x5_1).f1.f0), .int .i64 ((rd_T58 t153 x5_1).f1.f1), .int .u8 ((rd_T58 t153 x5_1).f0.f0), .int .u8 ((rd_T58 t153 x5_1).f0.f1)] (fun _ => True) (fun _ => False) rfl rfl ?aP (fun _ hk => hk.elim) ?aF ?aO ?aB ?aS ?aL ?_
                  (case aP => exact k44_mkM _ _ _ (⟨(⟨(rd_T58 t153 x5_1).f1.f0, (rd_T58 t153 x5_1).f1.f1⟩ : S42), (rd_T58 t153 x5_1).f0.f0, (rd_T58 t153 x5_1).f0.f1⟩ : S44))
                  (case aB => exact (by repeat (first | (with_reducible first | exact HB.out | apply below_alloc | apply pw_below_drewN | apply below_drew1 | refine below_set ?_ GE152.out) | exact HB.out)))
                  (case aF => exact (fun _ _ => trivial))
                  (case aO => exact (by (with_reducible repeat (first | apply Kd.R_alloc | apply Kd.R_drewN | apply Kd.R_drew)); exact HO_3.out))
                  (case aS => exact (below_size (by repeat (first | (with_reducible first | exact HB.out | apply below_alloc | apply pw_below_drewN | apply below_drew1 | refine below_set ?_ GE152.out) | exact HB.out))))
                  (case aL => have := LMc19.out; omega)
                  intro v170 w22 ho hb hg hat
                  rw [← Ny169.out] at ho
                  have n0_ := Aside0.mk (Kd.V_afterv (ok := (fun k_ => k_ ≠ gb152)) (by (with_reducible repeat (first | apply Kd.V_alloc | apply Kd.V_drewN | apply Kd.V_drew)); exact Kd.V_mono HO_4.out (fun _ hk => ⟨hk.2, hk.1⟩)) hg hat)
                  have n1_ := Aside0.mk (blk_grown (g := gb152) (o := .cells #[.int .u8 a0_0, .int .u8 a0_1, .int .i64 a0_2, .slice A0_3 l0_3.length c0_3] 25 (0, 0)) (by (with_reducible repeat (first | refine blk_drewN ?_ _ | refine blk_drew ?_ | refine blk_alloc ?_ _)); exact BK152.out) hg (Kd.R_ne HO_3.out BK152.out (by decide)))
                  have n2_ := Aside0.mk (Kd.V_afterv (ok := (fun k_ => k_ ≠ gb152)) (by (with_reducible repeat (first | apply Kd.V_alloc | apply Kd.V_drewN | apply Kd.V_drew)); exact Kd.V_mono HL156_3.out (fun _ hk => ⟨hk.2, hk.1⟩)) hg hat)
                  have n3_ := Aside0.mk (Kd.V_afterv (ok := (fun k_ => k_ ≠ gb152)) (by (with_reducible repeat (first | apply Kd.V_alloc | apply Kd.V_drewN | apply Kd.V_drew)); exact Kd.V_mono HL167_3.out (fun _ hk => ⟨hk.2, hk.1⟩)) hg hat)
                  have n4_ := Aside0.mk (Kd.V_afterv (ok := (fun k_ => k_ ≠ gb152)) (by (with_reducible repeat (first | apply Kd.V_alloc | apply Kd.V_drewN | apply Kd.V_drew)); exact Kd.V_mono HL168_3.out (fun _ hk => ⟨hk.2, hk.1⟩)) hg hat)
                  have n5_ := Aside0.mk (hb)
                  have n6_ := Aside0.mk (ho)
                  clear HO_4
                  clear BK152
                  clear HL156_3
                  clear HL167_3
                  clear HL168_3
                  clear HB
                  clear HO_3
                  have HO_4 := n0_
                  have BK152 := n1_
                  have HL156_3 := n2_
                  have HL167_3 := n3_
                  have HL168_3 := n4_
                  have HB := n5_
                  have HO171 := n6_
                  clear n0_ n1_ n2_ n3_ n4_ n5_ n6_
                  clear ho hb hg hat
                  refine hK.out _ _ ?_
                  clear hK K
                  refine norm_ (a' := ?_) ?_ ?_
                  rotate_left
                  · show Act.put _ (some 54) _ = _
                    simp only [Act.put, List.setIfInBounds_toArray, List.set_cons_zero, List.set_cons_succ, i64_w, i32_w]
                    rfl
                  refine pure_ (i := 16) (N := some 3) (v := ?_) (a' := ?_) #[true, true, true, true, true, true, true, true, true, true, true, true, true, true, true, true, true] rfl rfl (any_of HT_.out (by kernel_rfl)) (fun _ _ _ h => h) (Or.inl ⟨by rfl, ?_⟩) ?_ ?_
                  rotate_left
                  · intro w'
                    go_simp
                    with_reducible rfl
                  rotate_left
                  · simp only [Act.put, List.setIfInBounds_toArray, List.set_cons_zero, List.set_cons_succ, i64_w, i32_w]
                    rfl
                  refine done_ (done_of HT_.out (by kernel_rfl)) ?_
                  try go_wp2
                  go_roundg k1
                  case measure => have := HK1.out; omega
                  case rel => exact ⟨(y169), (wrap64 (x5_1 + 1)), (by first | rfl | (simp; done) | (simp [*]; done)), H', ⟨by have := HK1.out; omega⟩, ⟨by (with_reducible repeat (first | apply Kd.R_alloc | apply Kd.R_drewN | apply Kd.R_drew)); exact HO171.out⟩, ⟨by (with_reducible repeat (first | apply Kd.V_alloc | apply Kd.V_drewN | apply Kd.V_drew)); exact Kd.V_mono HO_4.out (fun _ hk => ⟨hk.2, hk.1⟩)⟩, ⟨by (with_reducible repeat (first | refine blk_drewN ?_ _ | refine blk_drew ?_ | refine blk_alloc ?_ _)); exact BK152.out⟩, ⟨by repeat (first | (with_reducible first | exact HB.out | apply below_alloc | apply pw_below_drewN | apply below_drew1 | refine below_set ?_ GE152.out) | exact HB.out)⟩⟩
                · rw [if_neg c19] at H
                  exact absurd H (by simp)
              · rw [if_neg c18] at H
                have c18b0 : (((rd_T58 t153 x5_1).f0.f0) == 5) = false := beq_eq_false_iff_ne.mpr c18
                have c18b1 : (((rd_T58 t153 x5_1).f0.f0) != 5) = true := bne_iff_ne.mpr c18
                by_cases c23 : ((rd_T58 t153 x5_1).f0.f0) = 9
                · rw [if_pos c23] at H
                  have c23b0 : (((rd_T58 t153 x5_1).f0.f0) == 9) = true := beq_iff_eq.mpr c23
                  have c23b1 : (((rd_T58 t153 x5_1).f0.f0) != 9) = false := bne_eq_false_iff_eq.mpr c23
                  clear c23
                  by_cases c24 : x3_1.length < 5864062014805
                  · rw [if_pos c24] at H
                    have LMc24 := Aside0.mk c24
                    clear c24
                    obtain ⟨y174, hy174⟩ : ∃ y_ : List (S44), y_ = (x3_1 ++ [(⟨(⟨(rd_T58 t153 x5_1).f1.f0, (rd_T58 t153 x5_1).f1.f1⟩ : S42), (rd_T58 t153 x5_1).f0.f0, (rd_T58 t153 x5_1).f0.f1⟩ : S44)]) := ⟨_, rfl⟩
                    replace H : (glossatorref19_Of.l0 k1 y174 t153 (wrap64 (x5_1 + 1))) = some r := by first | (rw [hy174]; with_reducible exact H) | (have H2_ := (Option.bind_some _ _).symm.trans H; rw [hy174]; with_reducible exact H2_) | (have H2_ := (Option.bind_some _ _).symm.trans H; with_reducible exact H2_) | with_reducible exact H | (rw [hy174]; exact H) | exact H
                    have Ny174 := Aside0.mk hy174
                    clear hy174
                    have H' := Aside0.mk H
                    clear H
                    obtain ⟨Ao25, co25, eo25⟩ := Kd.V_slice HO_4.out
                    subst eo25
                    have p156 : 0 ≤ (x5_1 : Int) := of_decide_eq_true (by first | (with_reducible assumption) | assumption)
                    have q156 : x5_1 < (t153.length : Int) := of_decide_eq_true (by first | (with_reducible assumption) | assumption)
                    obtain ⟨ad156, A156_3, c156_3, e156, hx156_0, hx156_1, hx156_2, hx156_3, hx156_4, hx156_5, hx156_6, hl156_3, hi156_3⟩ := at_T58 (Kd.V_reads' HO_4.out).2.2 x5_1 p156 q156
                    cases e156
                    obtain ⟨ce156, hce156, hMe156, hcc156⟩ := Kd.V_get HO_4.out z58 x5_1 p156 (by first | exact q156 | exact of_decide_eq_true (by first | (with_reducible assumption) | assumption) | (have e_ := (Kd.V_reads' HO_4.out).1; omega))
                    obtain ⟨ua156_3, uc156_3, rfl, ul156_3, ge156_3⟩ := k58_openF hMe156
                    have hv156_3 := hcc156 3 _ rfl
                    rw [add_field _ _ 3 (by omega)] at hv156_3
                    replace hv156_3 := Option.some.inj (hv156_3.symm.trans hx156_3)
                    injection hv156_3 with hva_ hvn_ hvc_
                    rw [hva_] at ge156_3
                    rw [hvc_] at ul156_3
                    have HL156_3 := Aside0.mk (show Kd.V k25 25 _ w.heap.size _ _ ((rd_T58 t153 x5_1).f0.f3) from Kd.V_mk ul156_3 ge156_3)
                    clear hva_ hvn_ hvc_ ge156_3 ul156_3
                    clear hcc156 hce156
                    have HR156_3 := Aside0.mk hi156_3
                    have HC156_3 := Aside0.mk hl156_3
                    clear hi156_3 hl156_3
                    replace p156 := eq_true p156
                    replace q156 := eq_true q156
                    try go_wp2
                    have n0_ := Aside0.mk (Kd.R_drew HO_3.out)
                    have n1_ := Aside0.mk (Kd.V_drew HO_4.out)
                    have n2_ := Aside0.mk (Kd.V_drew HL156_3.out)
                    have n3_ := Aside0.mk (blk_drew BK152.out)
                    have n4_ := Aside0.mk (Kd.C_drew HR156_3.out)
                    have n5_ := Aside0.mk (below_drew1 HB.out)
                    clear HO_3
                    clear HO_4
                    clear HL156_3
                    clear BK152
                    clear HR156_3
                    clear HB
                    have HO_3 := n0_
                    have HO_4 := n1_
                    have HL156_3 := n2_
                    have BK152 := n3_
                    have HR156_3 := n4_
                    have HB := n5_
                    clear n0_ n1_ n2_ n3_ n4_ n5_
                    have p172 : 0 ≤ (x5_1 : Int) := of_decide_eq_true (by first | (with_reducible assumption) | assumption)
                    have q172 : x5_1 < (t153.length : Int) := of_decide_eq_true (by first | (with_reducible assumption) | assumption)
                    obtain ⟨ad172, A172_3, c172_3, e172, hx172_0, hx172_1, hx172_2, hx172_3, hx172_4, hx172_5, hx172_6, hl172_3, hi172_3⟩ := at_T58 (Kd.V_reads' HO_4.out).2.2 x5_1 p172 q172
                    obtain rfl : ad156 = ad172 := (by injection e172)
                    obtain ⟨ce172, hce172, hMe172, hcc172⟩ := Kd.V_get HO_4.out z58 x5_1 p172 (by first | exact q172 | exact of_decide_eq_true (by first | (with_reducible assumption) | assumption) | (have e_ := (Kd.V_reads' HO_4.out).1; omega))
                    obtain ⟨ua172_3, uc172_3, rfl, ul172_3, ge172_3⟩ := k58_openF hMe172
                    have hv172_3 := hcc172 3 _ rfl
                    rw [add_field _ _ 3 (by omega)] at hv172_3
                    replace hv172_3 := Option.some.inj (hv172_3.symm.trans hx172_3)
                    injection hv172_3 with hva_ hvn_ hvc_
                    rw [hva_] at ge172_3
                    rw [hvc_] at ul172_3
                    have HL172_3 := Aside0.mk (show Kd.V k25 25 _ w.heap.size _ _ ((rd_T58 t153 x5_1).f0.f3) from Kd.V_mk ul172_3 ge172_3)
                    clear hva_ hvn_ hvc_ ge172_3 ul172_3
                    clear hcc172 hce172
                    have HR172_3 := Aside0.mk hi172_3
                    have HC172_3 := Aside0.mk hl172_3
                    clear hi172_3 hl172_3
                    replace p172 := eq_true p172
                    replace q172 := eq_true q172
                    have p173 : 0 ≤ (x5_1 : Int) := of_decide_eq_true (by first | (with_reducible assumption) | assumption)
                    have q173 : x5_1 < (t153.length : Int) := of_decide_eq_true (by first | (with_reducible assumption) | assumption)
                    obtain ⟨ad173, A173_3, c173_3, e173, hx173_0, hx173_1, hx173_2, hx173_3, hx173_4, hx173_5, hx173_6, hl173_3, hi173_3⟩ := at_T58 (Kd.V_reads' HO_4.out).2.2 x5_1 p173 q173
                    obtain rfl : ad156 = ad173 := (by injection e173)
                    obtain ⟨ce173, hce173, hMe173, hcc173⟩ := Kd.V_get HO_4.out z58 x5_1 p173 (by first | exact q173 | exact of_decide_eq_true (by first | (with_reducible assumption) | assumption) | (have e_ := (Kd.V_reads' HO_4.out).1; omega))
                    obtain ⟨ua173_3, uc173_3, rfl, ul173_3, ge173_3⟩ := k58_openF hMe173
                    have hv173_3 := hcc173 3 _ rfl
                    rw [add_field _ _ 3 (by omega)] at hv173_3
                    replace hv173_3 := Option.some.inj (hv173_3.symm.trans hx173_3)
                    injection hv173_3 with hva_ hvn_ hvc_
                    rw [hva_] at ge173_3
                    rw [hvc_] at ul173_3
                    have HL173_3 := Aside0.mk (show Kd.V k25 25 _ w.heap.size _ _ ((rd_T58 t153 x5_1).f0.f3) from Kd.V_mk ul173_3 ge173_3)
                    clear hva_ hvn_ hvc_ ge173_3 ul173_3
                    clear hcc173 hce173
                    have HR173_3 := Aside0.mk hi173_3
                    have HC173_3 := Aside0.mk hl173_3
                    clear hi173_3 hl173_3
                    replace p173 := eq_true p173
                    replace q173 := eq_true q173
                    have ea_ := Option.some.inj (hx172_3.symm.trans hx173_3)
                    injection ea_ with ea_ en_ ec_
                    subst ea_
                    subst ec_
                    clear en_
                    refine start_ (n := 17) (S := fun w' => w'.cell? (ad156.add ((x5_1).toNat * 7)) = some (.int .u8 ((rd_T58 t153 x5_1).f0.f0)) ∧ w'.cell? ⟨(ad156.add ((x5_1).toNat * 7)).block, (ad156.add ((x5_1).toNat * 7)).off + 1, none⟩ = some (.int .u8 ((rd_T58 t153 x5_1).f0.f1)) ∧ w'.cell? ⟨(ad156.add ((x5_1).toNat * 7)).block, (ad156.add ((x5_1).toNat * 7)).off + 2, none⟩ = some (.int .i64 ((rd_T58 t153 x5_1).f0.f2)) ∧ w'.cell? ⟨(ad156.add ((x5_1).toNat * 7)).block, (ad156.add ((x5_1).toNat * 7)).off + 3, none⟩ = some (.slice A172_3 ((rd_T58 t153 x5_1).f0.f3).length c172_3) ∧ w'.cell? ⟨(ad156.add ((x5_1).toNat * 7)).block, (ad156.add ((x5_1).toNat * 7)).off + 4, none⟩ = some (.int .i64 ((rd_T58 t153 x5_1).f1.f0)) ∧ w'.cell? ⟨(ad156.add ((x5_1).toNat * 7)).block, (ad156.add ((x5_1).toNat * 7)).off + 5, none⟩ = some (.int .i64 ((rd_T58 t153 x5_1).f1.f1)) ∧ w'.cell? ⟨(ad156.add ((x5_1).toNat * 7)).block, (ad156.add ((x5_1).toNat * 7)).off + 6, none⟩ = some (.int .i64 ((rd_T58 t153 x5_1).f2)) ∧ w'.cell? (ad156.add ((x5_1).toNat * 7)) = some (.int .u8 ((rd_T58 t153 x5_1).f0.f0)) ∧ w'.cell? ⟨(ad156.add ((x5_1).toNat * 7)).block, (ad156.add ((x5_1).toNat * 7)).off + 1, none⟩ = some (.int .u8 ((rd_T58 t153 x5_1).f0.f1)) ∧ w'.cell? ⟨(ad156.add ((x5_1).toNat * 7)).block, (ad156.add ((x5_1).toNat * 7)).off + 2, none⟩ = some (.int .i64 ((rd_T58 t153 x5_1).f0.f2)) ∧ w'.cell? ⟨(ad156.add ((x5_1).toNat * 7)).block, (ad156.add ((x5_1).toNat * 7)).off + 3, none⟩ = some (.slice A172_3 ((rd_T58 t153 x5_1).f0.f3).length c172_3) ∧ w'.cell? ⟨(ad156.add ((x5_1).toNat * 7)).block, (ad156.add ((x5_1).toNat * 7)).off + 4, none⟩ = some (.int .i64 ((rd_T58 t153 x5_1).f1.f0)) ∧ w'.cell? ⟨(ad156.add ((x5_1).toNat * 7)).block, (ad156.add ((x5_1).toNat * 7)).off + 5, none⟩ = some (.int .i64 ((rd_T58 t153 x5_1).f1.f1)) ∧ w'.cell? ⟨(ad156.add ((x5_1).toNat * 7)).block, (ad156.add ((x5_1).toNat * 7)).off + 6, none⟩ = some (.int .i64 ((rd_T58 t153 x5_1).f2))) (ds := [14, 15]) #[false, false, false, false, false, false, false, false, false, false, false, false, false, false, false, false, false] (by kernel_rfl) rfl rfl ⟨hx172_0, hx172_1, hx172_2, hx172_3, hx172_4, hx172_5, hx172_6, hx173_0, hx173_1, hx173_2, hx173_3, hx173_4, hx173_5, hx173_6⟩ (fun hHeld => ?_); refine with_tabW glossatorref19_Of.tab8 glossatorref19_Of.bits8 (fun HT_ HW_ => ?_)
                    generalize wr.drew = w26 at HO_3 HO_4 HL156_3 BK152 HR156_3 HB HL172_3 HL173_3 HR172_3 HR173_3 hx172_0 hx172_1 hx172_2 hx172_3 hx172_4 hx172_5 hx172_6 hx173_0 hx173_1 hx173_2 hx173_3 hx173_4 hx173_5 hx173_6 hHeld ⊢
                    refine pure_ (i := 0) (N := some 39) (v := ?_) (a' := ?_) #[true, false, false, false, false, false, false, false, false, false, false, false, false, false, false, false, false] rfl rfl (any_of HT_.out (by kernel_rfl)) (fun _ _ _ h => h) (Or.inl ⟨by rfl, ?_⟩) ?_ ?_
                    rotate_left
                    · intro w'
                      go_simp
                      with_reducible rfl
                    rotate_left
                    · simp only [Act.put, List.setIfInBounds_toArray, List.set_cons_zero, List.set_cons_succ, i64_w, i32_w]
                      rfl
                    refine pure_ (i := 1) (N := some 40) (v := ?_) (a' := ?_) #[true, true, false, false, false, false, false, false, false, false, false, false, false, false, false, false, false] rfl rfl (any_of HT_.out (by kernel_rfl)) (fun _ _ _ h => h) (Or.inl ⟨by rfl, ?_⟩) ?_ ?_
                    rotate_left
                    · intro w'
                      go_simp
                      with_reducible rfl
                    rotate_left
                    · simp only [Act.put, List.setIfInBounds_toArray, List.set_cons_zero, List.set_cons_succ, i64_w, i32_w]
                      rfl
                    refine pure_ (i := 2) (N := some 41) (v := ?_) (a' := ?_) #[true, true, true, false, false, false, false, false, false, false, false, false, false, false, false, false, false] rfl rfl (any_of HT_.out (by kernel_rfl)) (fun _ _ _ h => h) (Or.inl ⟨by rfl, ?_⟩) ?_ ?_
                    rotate_left
                    · intro w'
                      go_simp
                      with_reducible rfl
                    rotate_left
                    · simp only [Act.put, List.setIfInBounds_toArray, List.set_cons_zero, List.set_cons_succ, i64_w, i32_w]
                      rfl
                    refine pure_ (i := 3) (N := some 42) (v := ?_) (a' := ?_) #[true, true, true, true, false, false, false, false, false, false, false, false, false, false, false, false, false] rfl rfl (any_of HT_.out (by kernel_rfl)) (fun _ _ _ h => h) (Or.inl ⟨by rfl, ?_⟩) ?_ ?_
                    rotate_left
                    · intro w'
                      go_simp
                      with_reducible rfl
                    rotate_left
                    · simp only [Act.put, List.setIfInBounds_toArray, List.set_cons_zero, List.set_cons_succ, i64_w, i32_w]
                      rfl
                    refine pure_ (i := 4) (N := some 43) (v := ?_) (a' := ?_) #[true, true, true, true, true, false, false, false, false, false, false, false, false, false, false, false, false] rfl rfl (any_of HT_.out (by kernel_rfl)) (fun _ _ _ h => h) (Or.inl ⟨by rfl, ?_⟩) ?_ ?_
                    rotate_left
                    · intro w'
                      go_simp
                      with_reducible rfl
                    rotate_left
                    · simp only [Act.put, List.setIfInBounds_toArray, List.set_cons_zero, List.set_cons_succ, i64_w, i32_w]
                      rfl
                    refine pure_ (i := 6) (N := some 45) (v := ?_) (a' := ?_) #[true, true, true, true, true, false, true, false, false, false, false, false, false, false, false, false, false] rfl rfl (any_of HT_.out (by kernel_rfl)) (fun _ _ _ h => h) (Or.inl ⟨by rfl, ?_⟩) ?_ ?_
                    rotate_left
                    · intro w'
                      go_simp
                      with_reducible rfl
                    rotate_left
                    · simp only [Act.put, List.setIfInBounds_toArray, List.set_cons_zero, List.set_cons_succ, i64_w, i32_w]
                      rfl
                    refine pure_ (i := 7) (N := some 46) (v := ?_) (a' := ?_) #[true, true, true, true, true, false, true, true, false, false, false, false, false, false, false, false, false] rfl rfl (any_of HT_.out (by kernel_rfl)) (fun _ _ _ h => h) (Or.inl ⟨by rfl, ?_⟩) ?_ ?_
                    rotate_left
                    · intro w'
                      go_simp
                      with_reducible rfl
                    rotate_left
                    · simp only [Act.put, List.setIfInBounds_toArray, List.set_cons_zero, List.set_cons_succ, i64_w, i32_w]
                      rfl
                    refine pure_ (i := 8) (N := some 47) (v := ?_) (a' := ?_) #[true, true, true, true, true, false, true, true, true, false, false, false, false, false, false, false, false] rfl rfl (any_of HT_.out (by kernel_rfl)) (fun _ _ _ h => h) (Or.inl ⟨by rfl, ?_⟩) ?_ ?_
                    rotate_left
                    · intro w'
                      go_simp
                      with_reducible rfl
                    rotate_left
                    · simp only [Act.put, List.setIfInBounds_toArray, List.set_cons_zero, List.set_cons_succ, i64_w, i32_w]
                      rfl
                    refine pure_ (i := 9) (N := some 48) (v := ?_) (a' := ?_) #[true, true, true, true, true, false, true, true, true, true, false, false, false, false, false, false, false] rfl rfl (any_of HT_.out (by kernel_rfl)) (fun _ _ _ h => h) (Or.inl ⟨by rfl, ?_⟩) ?_ ?_
                    rotate_left
                    · intro w'
                      go_simp
                      with_reducible rfl
                    rotate_left
                    · simp only [Act.put, List.setIfInBounds_toArray, List.set_cons_zero, List.set_cons_succ, i64_w, i32_w]
                      rfl
                    refine pure_ (i := 10) (N := some 49) (v := ?_) (a' := ?_) #[true, true, true, true, true, false, true, true, true, true, true, false, false, false, false, false, false] rfl rfl (any_of HT_.out (by kernel_rfl)) (fun _ _ _ h => h) (Or.inl ⟨by rfl, ?_⟩) ?_ ?_
                    rotate_left
                    · intro w'
                      go_simp
                      with_reducible rfl
                    rotate_left
                    · simp only [Act.put, List.setIfInBounds_toArray, List.set_cons_zero, List.set_cons_succ, i64_w, i32_w]
                      rfl
                    refine pure_ (i := 11) (N := some 50) (v := ?_) (a' := ?_) #[true, true, true, true, true, false, true, true, true, true, true, true, false, false, false, false, false] rfl rfl (any_of HT_.out (by kernel_rfl)) (fun _ _ _ h => h) (Or.inl ⟨by rfl, ?_⟩) ?_ ?_
                    rotate_left
                    · intro w'
                      go_simp
                      with_reducible rfl
                    rotate_left
                    · simp only [Act.put, List.setIfInBounds_toArray, List.set_cons_zero, List.set_cons_succ, i64_w, i32_w]
                      rfl
                    refine take_ (i := 5) (N := some 44) (v := ?_) (a' := ?_) #[true, true, true, true, true, true, true, true, true, true, true, true, false, false, false, false, false] rfl rfl (take_ofW HT_.out HW_.out (by kernel_rfl)) (fun _ _ _ h => h) (Or.inl ⟨by rfl, ?_⟩) hHeld ?_ ?_
                    rotate_left
                    · rintro w' ⟨s0, s1, s2, s3, s4, s5, s6, s7, s8, s9, s10, s11, s12, s13⟩
                      go_simp
                      with_reducible rfl
                    rotate_left
                    · simp only [Act.put, List.setIfInBounds_toArray, List.set_cons_zero, List.set_cons_succ, i64_w, i32_w]
                      rfl
                    refine take_ (i := 12) (N := some 51) (v := ?_) (a' := ?_) #[true, true, true, true, true, true, true, true, true, true, true, true, true, false, false, false, false] rfl rfl (take_ofW HT_.out HW_.out (by kernel_rfl)) (fun _ _ _ h => h) (Or.inl ⟨by rfl, ?_⟩) hHeld ?_ ?_
                    rotate_left
                    · rintro w' ⟨s0, s1, s2, s3, s4, s5, s6, s7, s8, s9, s10, s11, s12, s13⟩
                      go_simp
                      with_reducible rfl
                    rotate_left
                    · simp only [Act.put, List.setIfInBounds_toArray, List.set_cons_zero, List.set_cons_succ, i64_w, i32_w]
                      rfl
                    refine pure_ (i := 13) (N := some 52) (v := ?_) (a' := ?_) #[true, true, true, true, true, true, true, true, true, true, true, true, true, true, false, false, false] rfl rfl (any_of HT_.out (by kernel_rfl)) (fun _ _ _ h => h) (Or.inl ⟨by rfl, ?_⟩) ?_ ?_
                    rotate_left
                    · intro w'
                      go_simp
                      with_reducible rfl
                    rotate_left
                    · simp only [Act.put, List.setIfInBounds_toArray, List.set_cons_zero, List.set_cons_succ, i64_w, i32_w]
                      rfl
                    refine last_ (i := 14) (N := some 53) #[true, true, true, true, true, true, true, true, true, true, true, true, true, true, true, false, false] rfl rfl (one_of HT_.out (by kernel_rfl)) (by decide) (fun K hK => ?_)
                    refine value_ (w1 := ?_) (v := ?_) (by rfl) rfl ?_ ?_
                    rotate_left 2
                    · go_simp
                      constructor
                      · rfl
                      · rfl
                    refine hK.out _ _ ?_
                    clear hK K
                    refine norm_ (a' := ?_) ?_ ?_
                    rotate_left
                    · show Act.put _ (some 53) _ = _
                      simp only [Act.put, List.setIfInBounds_toArray, List.set_cons_zero, List.set_cons_succ, i64_w, i32_w]
                      rfl
                    refine last_ (i := 15) (N := some 54) #[true, true, true, true, true, true, true, true, true, true, true, true, true, true, true, true, false] rfl rfl (one_of HT_.out (by kernel_rfl)) (by decide) (fun K hK => ?_)
                    refine Kd.R_append_step k44 (w0 := w) w.heap.size (by rfl) (.tmp 39) (.tmp 53) 37 44 (.agg #[(.int .i64 0), (.int .i64 0), (.int .u8 0), (.int .u8 0)]) 24 rfl Try.underlying37 info44 rfl (by decide) (by omega) u3 x3_1 (⟨(⟨(rd_T58 t153 x5_1).f1.f0, (rd_T58 t153 x5_1).f1.f1⟩ : S42), (rd_T58 t153 x5_1).f0.f0, (rd_T58 t153 x5_1).f0.f1⟩ : S44) [.int .i64 ((rd_T58 t153 x5_1).f1.f0), .int .i64 ((rd_T58 t153 x5_1).f1.f1), .int .u8 ((rd_T58 t153 x5_1).f0.f0), .int .u8 ((rd_T58 t153 x5_1).f0.f1)] (fun _ => True) (fun _ => False) rfl rfl ?aP (fun _ hk => hk.elim) ?aF ?aO ?aB ?aS ?aL ?_
                    (case aP => exact k44_mkM _ _ _ (⟨(⟨(rd_T58 t153 x5_1).f1.f0, (rd_T58 t153 x5_1).f1.f1⟩ : S42), (rd_T58 t153 x5_1).f0.f0, (rd_T58 t153 x5_1).f0.f1⟩ : S44))
                    (case aB => exact (by repeat (first | (with_reducible first | exact HB.out | apply below_alloc | apply pw_below_drewN | apply below_drew1 | refine below_set ?_ GE152.out) | exact HB.out)))
                    (case aF => exact (fun _ _ => trivial))
                    (case aO => exact (by (with_reducible repeat (first | apply Kd.R_alloc | apply Kd.R_drewN | apply Kd.R_drew)); exact HO_3.out))
                    (case aS => exact (below_size (by repeat (first | (with_reducible first | exact HB.out | apply below_alloc | apply pw_below_drewN | apply below_drew1 | refine below_set ?_ GE152.out) | exact HB.out))))
                    (case aL => have := LMc24.out; omega)
                    intro v175 w27 ho hb hg hat
                    rw [← Ny174.out] at ho
                    have n0_ := Aside0.mk (Kd.V_afterv (ok := (fun k_ => k_ ≠ gb152)) (by (with_reducible repeat (first | apply Kd.V_alloc | apply Kd.V_drewN | apply Kd.V_drew)); exact Kd.V_mono HO_4.out (fun _ hk => ⟨hk.2, hk.1⟩)) hg hat)
                    have n1_ := Aside0.mk (blk_grown (g := gb152) (o := .cells #[.int .u8 a0_0, .int .u8 a0_1, .int .i64 a0_2, .slice A0_3 l0_3.length c0_3] 25 (0, 0)) (by (with_reducible repeat (first | refine blk_drewN ?_ _ | refine blk_drew ?_ | refine blk_alloc ?_ _)); exact BK152.out) hg (Kd.R_ne HO_3.out BK152.out (by decide)))
                    have n2_ := Aside0.mk (Kd.V_afterv (ok := (fun k_ => k_ ≠ gb152)) (by (with_reducible repeat (first | apply Kd.V_alloc | apply Kd.V_drewN | apply Kd.V_drew)); exact Kd.V_mono HL156_3.out (fun _ hk => ⟨hk.2, hk.1⟩)) hg hat)
                    have n3_ := Aside0.mk (Kd.V_afterv (ok := (fun k_ => k_ ≠ gb152)) (by (with_reducible repeat (first | apply Kd.V_alloc | apply Kd.V_drewN | apply Kd.V_drew)); exact Kd.V_mono HL172_3.out (fun _ hk => ⟨hk.2, hk.1⟩)) hg hat)
                    have n4_ := Aside0.mk (Kd.V_afterv (ok := (fun k_ => k_ ≠ gb152)) (by (with_reducible repeat (first | apply Kd.V_alloc | apply Kd.V_drewN | apply Kd.V_drew)); exact Kd.V_mono HL173_3.out (fun _ hk => ⟨hk.2, hk.1⟩)) hg hat)
                    have n5_ := Aside0.mk (hb)
                    have n6_ := Aside0.mk (ho)
                    clear HO_4
                    clear BK152
                    clear HL156_3
                    clear HL172_3
                    clear HL173_3
                    clear HB
                    clear HO_3
                    have HO_4 := n0_
                    have BK152 := n1_
                    have HL156_3 := n2_
                    have HL172_3 := n3_
                    have HL173_3 := n4_
                    have HB := n5_
                    have HO176 := n6_
                    clear n0_ n1_ n2_ n3_ n4_ n5_ n6_
                    clear ho hb hg hat
                    refine hK.out _ _ ?_
                    clear hK K
                    refine norm_ (a' := ?_) ?_ ?_
                    rotate_left
                    · show Act.put _ (some 54) _ = _
                      simp only [Act.put, List.setIfInBounds_toArray, List.set_cons_zero, List.set_cons_succ, i64_w, i32_w]
                      rfl
                    refine pure_ (i := 16) (N := some 3) (v := ?_) (a' := ?_) #[true, true, true, true, true, true, true, true, true, true, true, true, true, true, true, true, true] rfl rfl (any_of HT_.out (by kernel_rfl)) (fun _ _ _ h => h) (Or.inl ⟨by rfl, ?_⟩) ?_ ?_
                    rotate_left
                    · intro w'
                      go_simp
                      with_reducible rfl
                    rotate_left
                    · simp only [Act.put, List.setIfInBounds_toArray, List.set_cons_zero, List.set_cons_succ, i64_w, i32_w]
                      rfl
                    refine done_ (done_of HT_.out (by kernel_rfl)) ?_
                    try go_wp2
                    go_roundg k1
                    case measure => have := HK1.out; omega
                    case rel => exact ⟨(y174), (wrap64 (x5_1 + 1)), (by first | rfl | (simp; done) | (simp [*]; done)), H', ⟨by have := HK1.out; omega⟩, ⟨by (with_reducible repeat (first | apply Kd.R_alloc | apply Kd.R_drewN | apply Kd.R_drew)); exact HO176.out⟩, ⟨by (with_reducible repeat (first | apply Kd.V_alloc | apply Kd.V_drewN | apply Kd.V_drew)); exact Kd.V_mono HO_4.out (fun _ hk => ⟨hk.2, hk.1⟩)⟩, ⟨by (with_reducible repeat (first | refine blk_drewN ?_ _ | refine blk_drew ?_ | refine blk_alloc ?_ _)); exact BK152.out⟩, ⟨by repeat (first | (with_reducible first | exact HB.out | apply below_alloc | apply pw_below_drewN | apply below_drew1 | refine below_set ?_ GE152.out) | exact HB.out)⟩⟩
                  · rw [if_neg c24] at H
                    exact absurd H (by simp)
                · rw [if_neg c23] at H
                  have c23b0 : (((rd_T58 t153 x5_1).f0.f0) == 9) = false := beq_eq_false_iff_ne.mpr c23
                  have c23b1 : (((rd_T58 t153 x5_1).f0.f0) != 9) = true := bne_iff_ne.mpr c23
                  by_cases c28 : ((rd_T58 t153 x5_1).f0.f0) = 4
                  · rw [if_pos c28] at H
                    have c28b0 : (((rd_T58 t153 x5_1).f0.f0) == 4) = true := beq_iff_eq.mpr c28
                    have c28b1 : (((rd_T58 t153 x5_1).f0.f0) != 4) = false := bne_eq_false_iff_eq.mpr c28
                    clear c28
                    by_cases c29 : x3_1.length < 5864062014805
                    · rw [if_pos c29] at H
                      have LMc29 := Aside0.mk c29
                      clear c29
                      obtain ⟨y179, hy179⟩ : ∃ y_ : List (S44), y_ = (x3_1 ++ [(⟨(⟨(rd_T58 t153 x5_1).f1.f0, (rd_T58 t153 x5_1).f1.f1⟩ : S42), (rd_T58 t153 x5_1).f0.f0, (rd_T58 t153 x5_1).f0.f1⟩ : S44)]) := ⟨_, rfl⟩
                      replace H : (glossatorref19_Of.l0 k1 y179 t153 (wrap64 (x5_1 + 1))) = some r := by first | (rw [hy179]; with_reducible exact H) | (have H2_ := (Option.bind_some _ _).symm.trans H; rw [hy179]; with_reducible exact H2_) | (have H2_ := (Option.bind_some _ _).symm.trans H; with_reducible exact H2_) | with_reducible exact H | (rw [hy179]; exact H) | exact H
                      have Ny179 := Aside0.mk hy179
                      clear hy179
                      have H' := Aside0.mk H
                      clear H
                      obtain ⟨Ao30, co30, eo30⟩ := Kd.V_slice HO_4.out
                      subst eo30
                      have p156 : 0 ≤ (x5_1 : Int) := of_decide_eq_true (by first | (with_reducible assumption) | assumption)
                      have q156 : x5_1 < (t153.length : Int) := of_decide_eq_true (by first | (with_reducible assumption) | assumption)
                      obtain ⟨ad156, A156_3, c156_3, e156, hx156_0, hx156_1, hx156_2, hx156_3, hx156_4, hx156_5, hx156_6, hl156_3, hi156_3⟩ := at_T58 (Kd.V_reads' HO_4.out).2.2 x5_1 p156 q156
                      cases e156
                      obtain ⟨ce156, hce156, hMe156, hcc156⟩ := Kd.V_get HO_4.out z58 x5_1 p156 (by first | exact q156 | exact of_decide_eq_true (by first | (with_reducible assumption) | assumption) | (have e_ := (Kd.V_reads' HO_4.out).1; omega))
                      obtain ⟨ua156_3, uc156_3, rfl, ul156_3, ge156_3⟩ := k58_openF hMe156
                      have hv156_3 := hcc156 3 _ rfl
                      rw [add_field _ _ 3 (by omega)] at hv156_3
                      replace hv156_3 := Option.some.inj (hv156_3.symm.trans hx156_3)
                      injection hv156_3 with hva_ hvn_ hvc_
                      rw [hva_] at ge156_3
                      rw [hvc_] at ul156_3
                      have HL156_3 := Aside0.mk (show Kd.V k25 25 _ w.heap.size _ _ ((rd_T58 t153 x5_1).f0.f3) from Kd.V_mk ul156_3 ge156_3)
                      clear hva_ hvn_ hvc_ ge156_3 ul156_3
                      clear hcc156 hce156
                      have HR156_3 := Aside0.mk hi156_3
                      have HC156_3 := Aside0.mk hl156_3
                      clear hi156_3 hl156_3
                      replace p156 := eq_true p156
                      replace q156 := eq_true q156
                      try go_wp2
                      have n0_ := Aside0.mk (Kd.R_drew HO_3.out)
                      have n1_ := Aside0.mk (Kd.V_drew HO_4.out)
                      have n2_ := Aside0.mk (Kd.V_drew HL156_3.out)
                      have n3_ := Aside0.mk (blk_drew BK152.out)
                      have n4_ := Aside0.mk (Kd.C_drew HR156_3.out)
                      have n5_ := Aside0.mk (below_drew1 HB.out)
                      clear HO_3
                      clear HO_4
                      clear HL156_3
                      clear BK152
                      clear HR156_3
                      clear HB
                      have HO_3 := n0_
                      have HO_4 := n1_
                      have HL156_3 := n2_
                      have BK152 := n3_
                      have HR156_3 := n4_
                      have HB := n5_
                      clear n0_ n1_ n2_ n3_ n4_ n5_
                      have p177 : 0 ≤ (x5_1 : Int) := of_decide_eq_true (by first | (with_reducible assumption) | assumption)
                      have q177 : x5_1 < (t153.length : Int) := of_decide_eq_true (by first | (with_reducible assumption) | assumption)
                      obtain ⟨ad177, A177_3, c177_3, e177, hx177_0, hx177_1, hx177_2, hx177_3, hx177_4, hx177_5, hx177_6, hl177_3, hi177_3⟩ := at_T58 (Kd.V_reads' HO_4.out).2.2 x5_1 p177 q177
                      obtain rfl : ad156 = ad177 := (by injection e177)
                      obtain ⟨ce177, hce177, hMe177, hcc177⟩ := Kd.V_get HO_4.out z58 x5_1 p177 (by first | exact q177 | exact of_decide_eq_true (by first | (with_reducible assumption) | assumption) | (have e_ := (Kd.V_reads' HO_4.out).1; omega))
                      obtain ⟨ua177_3, uc177_3, rfl, ul177_3, ge177_3⟩ := k58_openF hMe177
                      have hv177_3 := hcc177 3 _ rfl
                      rw [add_field _ _ 3 (by omega)] at hv177_3
                      replace hv177_3 := Option.some.inj (hv177_3.symm.trans hx177_3)
                      injection hv177_3 with hva_ hvn_ hvc_
                      rw [hva_] at ge177_3
                      rw [hvc_] at ul177_3
                      have HL177_3 := Aside0.mk (show Kd.V k25 25 _ w.heap.size _ _ ((rd_T58 t153 x5_1).f0.f3) from Kd.V_mk ul177_3 ge177_3)
                      clear hva_ hvn_ hvc_ ge177_3 ul177_3
                      clear hcc177 hce177
                      have HR177_3 := Aside0.mk hi177_3
                      have HC177_3 := Aside0.mk hl177_3
                      clear hi177_3 hl177_3
                      replace p177 := eq_true p177
                      replace q177 := eq_true q177
                      have p178 : 0 ≤ (x5_1 : Int) := of_decide_eq_true (by first | (with_reducible assumption) | assumption)
                      have q178 : x5_1 < (t153.length : Int) := of_decide_eq_true (by first | (with_reducible assumption) | assumption)
                      obtain ⟨ad178, A178_3, c178_3, e178, hx178_0, hx178_1, hx178_2, hx178_3, hx178_4, hx178_5, hx178_6, hl178_3, hi178_3⟩ := at_T58 (Kd.V_reads' HO_4.out).2.2 x5_1 p178 q178
                      obtain rfl : ad156 = ad178 := (by injection e178)
                      obtain ⟨ce178, hce178, hMe178, hcc178⟩ := Kd.V_get HO_4.out z58 x5_1 p178 (by first | exact q178 | exact of_decide_eq_true (by first | (with_reducible assumption) | assumption) | (have e_ := (Kd.V_reads' HO_4.out).1; omega))
                      obtain ⟨ua178_3, uc178_3, rfl, ul178_3, ge178_3⟩ := k58_openF hMe178
                      have hv178_3 := hcc178 3 _ rfl
                      rw [add_field _ _ 3 (by omega)] at hv178_3
                      replace hv178_3 := Option.some.inj (hv178_3.symm.trans hx178_3)
                      injection hv178_3 with hva_ hvn_ hvc_
                      rw [hva_] at ge178_3
                      rw [hvc_] at ul178_3
                      have HL178_3 := Aside0.mk (show Kd.V k25 25 _ w.heap.size _ _ ((rd_T58 t153 x5_1).f0.f3) from Kd.V_mk ul178_3 ge178_3)
                      clear hva_ hvn_ hvc_ ge178_3 ul178_3
                      clear hcc178 hce178
                      have HR178_3 := Aside0.mk hi178_3
                      have HC178_3 := Aside0.mk hl178_3
                      clear hi178_3 hl178_3
                      replace p178 := eq_true p178
                      replace q178 := eq_true q178
                      have ea_ := Option.some.inj (hx177_3.symm.trans hx178_3)
                      injection ea_ with ea_ en_ ec_
                      subst ea_
                      subst ec_
                      clear en_
                      refine start_ (n := 17) (S := fun w' => w'.cell? (ad156.add ((x5_1).toNat * 7)) = some (.int .u8 ((rd_T58 t153 x5_1).f0.f0)) ∧ w'.cell? ⟨(ad156.add ((x5_1).toNat * 7)).block, (ad156.add ((x5_1).toNat * 7)).off + 1, none⟩ = some (.int .u8 ((rd_T58 t153 x5_1).f0.f1)) ∧ w'.cell? ⟨(ad156.add ((x5_1).toNat * 7)).block, (ad156.add ((x5_1).toNat * 7)).off + 2, none⟩ = some (.int .i64 ((rd_T58 t153 x5_1).f0.f2)) ∧ w'.cell? ⟨(ad156.add ((x5_1).toNat * 7)).block, (ad156.add ((x5_1).toNat * 7)).off + 3, none⟩ = some (.slice A177_3 ((rd_T58 t153 x5_1).f0.f3).length c177_3) ∧ w'.cell? ⟨(ad156.add ((x5_1).toNat * 7)).block, (ad156.add ((x5_1).toNat * 7)).off + 4, none⟩ = some (.int .i64 ((rd_T58 t153 x5_1).f1.f0)) ∧ w'.cell? ⟨(ad156.add ((x5_1).toNat * 7)).block, (ad156.add ((x5_1).toNat * 7)).off + 5, none⟩ = some (.int .i64 ((rd_T58 t153 x5_1).f1.f1)) ∧ w'.cell? ⟨(ad156.add ((x5_1).toNat * 7)).block, (ad156.add ((x5_1).toNat * 7)).off + 6, none⟩ = some (.int .i64 ((rd_T58 t153 x5_1).f2)) ∧ w'.cell? (ad156.add ((x5_1).toNat * 7)) = some (.int .u8 ((rd_T58 t153 x5_1).f0.f0)) ∧ w'.cell? ⟨(ad156.add ((x5_1).toNat * 7)).block, (ad156.add ((x5_1).toNat * 7)).off + 1, none⟩ = some (.int .u8 ((rd_T58 t153 x5_1).f0.f1)) ∧ w'.cell? ⟨(ad156.add ((x5_1).toNat * 7)).block, (ad156.add ((x5_1).toNat * 7)).off + 2, none⟩ = some (.int .i64 ((rd_T58 t153 x5_1).f0.f2)) ∧ w'.cell? ⟨(ad156.add ((x5_1).toNat * 7)).block, (ad156.add ((x5_1).toNat * 7)).off + 3, none⟩ = some (.slice A177_3 ((rd_T58 t153 x5_1).f0.f3).length c177_3) ∧ w'.cell? ⟨(ad156.add ((x5_1).toNat * 7)).block, (ad156.add ((x5_1).toNat * 7)).off + 4, none⟩ = some (.int .i64 ((rd_T58 t153 x5_1).f1.f0)) ∧ w'.cell? ⟨(ad156.add ((x5_1).toNat * 7)).block, (ad156.add ((x5_1).toNat * 7)).off + 5, none⟩ = some (.int .i64 ((rd_T58 t153 x5_1).f1.f1)) ∧ w'.cell? ⟨(ad156.add ((x5_1).toNat * 7)).block, (ad156.add ((x5_1).toNat * 7)).off + 6, none⟩ = some (.int .i64 ((rd_T58 t153 x5_1).f2))) (ds := [14, 15]) #[false, false, false, false, false, false, false, false, false, false, false, false, false, false, false, false, false] (by kernel_rfl) rfl rfl ⟨hx177_0, hx177_1, hx177_2, hx177_3, hx177_4, hx177_5, hx177_6, hx178_0, hx178_1, hx178_2, hx178_3, hx178_4, hx178_5, hx178_6⟩ (fun hHeld => ?_); refine with_tabW glossatorref19_Of.tab8 glossatorref19_Of.bits8 (fun HT_ HW_ => ?_)
                      generalize wr.drew = w31 at HO_3 HO_4 HL156_3 BK152 HR156_3 HB HL177_3 HL178_3 HR177_3 HR178_3 hx177_0 hx177_1 hx177_2 hx177_3 hx177_4 hx177_5 hx177_6 hx178_0 hx178_1 hx178_2 hx178_3 hx178_4 hx178_5 hx178_6 hHeld ⊢
                      refine pure_ (i := 0) (N := some 39) (v := ?_) (a' := ?_) #[true, false, false, false, false, false, false, false, false, false, false, false, false, false, false, false, false] rfl rfl (any_of HT_.out (by kernel_rfl)) (fun _ _ _ h => h) (Or.inl ⟨by rfl, ?_⟩) ?_ ?_
                      rotate_left
                      · intro w'
                        go_simp
                        with_reducible rfl
                      rotate_left
                      · simp only [Act.put, List.setIfInBounds_toArray, List.set_cons_zero, List.set_cons_succ, i64_w, i32_w]
                        rfl
                      refine pure_ (i := 1) (N := some 40) (v := ?_) (a' := ?_) #[true, true, false, false, false, false, false, false, false, false, false, false, false, false, false, false, false] rfl rfl (any_of HT_.out (by kernel_rfl)) (fun _ _ _ h => h) (Or.inl ⟨by rfl, ?_⟩) ?_ ?_
                      rotate_left
                      · intro w'
                        go_simp
                        with_reducible rfl
                      rotate_left
                      · simp only [Act.put, List.setIfInBounds_toArray, List.set_cons_zero, List.set_cons_succ, i64_w, i32_w]
                        rfl
                      refine pure_ (i := 2) (N := some 41) (v := ?_) (a' := ?_) #[true, true, true, false, false, false, false, false, false, false, false, false, false, false, false, false, false] rfl rfl (any_of HT_.out (by kernel_rfl)) (fun _ _ _ h => h) (Or.inl ⟨by rfl, ?_⟩) ?_ ?_
                      rotate_left
                      · intro w'
                        go_simp
                        with_reducible rfl
                      rotate_left
                      · simp only [Act.put, List.setIfInBounds_toArray, List.set_cons_zero, List.set_cons_succ, i64_w, i32_w]
                        rfl
                      refine pure_ (i := 3) (N := some 42) (v := ?_) (a' := ?_) #[true, true, true, true, false, false, false, false, false, false, false, false, false, false, false, false, false] rfl rfl (any_of HT_.out (by kernel_rfl)) (fun _ _ _ h => h) (Or.inl ⟨by rfl, ?_⟩) ?_ ?_
                      rotate_left
                      · intro w'
                        go_simp
                        with_reducible rfl
                      rotate_left
                      · simp only [Act.put, List.setIfInBounds_toArray, List.set_cons_zero, List.set_cons_succ, i64_w, i32_w]
                        rfl
                      refine pure_ (i := 4) (N := some 43) (v := ?_) (a' := ?_) #[true, true, true, true, true, false, false, false, false, false, false, false, false, false, false, false, false] rfl rfl (any_of HT_.out (by kernel_rfl)) (fun _ _ _ h => h) (Or.inl ⟨by rfl, ?_⟩) ?_ ?_
                      rotate_left
                      · intro w'
                        go_simp
                        with_reducible rfl
                      rotate_left
                      · simp only [Act.put, List.setIfInBounds_toArray, List.set_cons_zero, List.set_cons_succ, i64_w, i32_w]
                        rfl
                      refine pure_ (i := 6) (N := some 45) (v := ?_) (a' := ?_) #[true, true, true, true, true, false, true, false, false, false, false, false, false, false, false, false, false] rfl rfl (any_of HT_.out (by kernel_rfl)) (fun _ _ _ h => h) (Or.inl ⟨by rfl, ?_⟩) ?_ ?_
                      rotate_left
                      · intro w'
                        go_simp
                        with_reducible rfl
                      rotate_left
                      · simp only [Act.put, List.setIfInBounds_toArray, List.set_cons_zero, List.set_cons_succ, i64_w, i32_w]
                        rfl
                      refine pure_ (i := 7) (N := some 46) (v := ?_) (a' := ?_) #[true, true, true, true, true, false, true, true, false, false, false, false, false, false, false, false, false] rfl rfl (any_of HT_.out (by kernel_rfl)) (fun _ _ _ h => h) (Or.inl ⟨by rfl, ?_⟩) ?_ ?_
                      rotate_left
                      · intro w'
                        go_simp
                        with_reducible rfl
                      rotate_left
                      · simp only [Act.put, List.setIfInBounds_toArray, List.set_cons_zero, List.set_cons_succ, i64_w, i32_w]
                        rfl
                      refine pure_ (i := 8) (N := some 47) (v := ?_) (a' := ?_) #[true, true, true, true, true, false, true, true, true, false, false, false, false, false, false, false, false] rfl rfl (any_of HT_.out (by kernel_rfl)) (fun _ _ _ h => h) (Or.inl ⟨by rfl, ?_⟩) ?_ ?_
                      rotate_left
                      · intro w'
                        go_simp
                        with_reducible rfl
                      rotate_left
                      · simp only [Act.put, List.setIfInBounds_toArray, List.set_cons_zero, List.set_cons_succ, i64_w, i32_w]
                        rfl
                      refine pure_ (i := 9) (N := some 48) (v := ?_) (a' := ?_) #[true, true, true, true, true, false, true, true, true, true, false, false, false, false, false, false, false] rfl rfl (any_of HT_.out (by kernel_rfl)) (fun _ _ _ h => h) (Or.inl ⟨by rfl, ?_⟩) ?_ ?_
                      rotate_left
                      · intro w'
                        go_simp
                        with_reducible rfl
                      rotate_left
                      · simp only [Act.put, List.setIfInBounds_toArray, List.set_cons_zero, List.set_cons_succ, i64_w, i32_w]
                        rfl
                      refine pure_ (i := 10) (N := some 49) (v := ?_) (a' := ?_) #[true, true, true, true, true, false, true, true, true, true, true, false, false, false, false, false, false] rfl rfl (any_of HT_.out (by kernel_rfl)) (fun _ _ _ h => h) (Or.inl ⟨by rfl, ?_⟩) ?_ ?_
                      rotate_left
                      · intro w'
                        go_simp
                        with_reducible rfl
                      rotate_left
                      · simp only [Act.put, List.setIfInBounds_toArray, List.set_cons_zero, List.set_cons_succ, i64_w, i32_w]
                        rfl
                      refine pure_ (i := 11) (N := some 50) (v := ?_) (a' := ?_) #[true, true, true, true, true, false, true, true, true, true, true, true, false, false, false, false, false] rfl rfl (any_of HT_.out (by kernel_rfl)) (fun _ _ _ h => h) (Or.inl ⟨by rfl, ?_⟩) ?_ ?_
                      rotate_left
                      · intro w'
                        go_simp
                        with_reducible rfl
                      rotate_left
                      · simp only [Act.put, List.setIfInBounds_toArray, List.set_cons_zero, List.set_cons_succ, i64_w, i32_w]
                        rfl
                      refine take_ (i := 5) (N := some 44) (v := ?_) (a' := ?_) #[true, true, true, true, true, true, true, true, true, true, true, true, false, false, false, false, false] rfl rfl (take_ofW HT_.out HW_.out (by kernel_rfl)) (fun _ _ _ h => h) (Or.inl ⟨by rfl, ?_⟩) hHeld ?_ ?_
                      rotate_left
                      · rintro w' ⟨s0, s1, s2, s3, s4, s5, s6, s7, s8, s9, s10, s11, s12, s13⟩
                        go_simp
                        with_reducible rfl
                      rotate_left
                      · simp only [Act.put, List.setIfInBounds_toArray, List.set_cons_zero, List.set_cons_succ, i64_w, i32_w]
                        rfl
                      refine take_ (i := 12) (N := some 51) (v := ?_) (a' := ?_) #[true, true, true, true, true, true, true, true, true, true, true, true, true, false, false, false, false] rfl rfl (take_ofW HT_.out HW_.out (by kernel_rfl)) (fun _ _ _ h => h) (Or.inl ⟨by rfl, ?_⟩) hHeld ?_ ?_
                      rotate_left
                      · rintro w' ⟨s0, s1, s2, s3, s4, s5, s6, s7, s8, s9, s10, s11, s12, s13⟩
                        go_simp
                        with_reducible rfl
                      rotate_left
                      · simp only [Act.put, List.setIfInBounds_toArray, List.set_cons_zero, List.set_cons_succ, i64_w, i32_w]
                        rfl
                      refine pure_ (i := 13) (N := some 52) (v := ?_) (a' := ?_) #[true, true, true, true, true, true, true, true, true, true, true, true, true, true, false, false, false] rfl rfl (any_of HT_.out (by kernel_rfl)) (fun _ _ _ h => h) (Or.inl ⟨by rfl, ?_⟩) ?_ ?_
                      rotate_left
                      · intro w'
                        go_simp
                        with_reducible rfl
                      rotate_left
                      · simp only [Act.put, List.setIfInBounds_toArray, List.set_cons_zero, List.set_cons_succ, i64_w, i32_w]
                        rfl
                      refine last_ (i := 14) (N := some 53) #[true, true, true, true, true, true, true, true, true, true, true, true, true, true, true, false, false] rfl rfl (one_of HT_.out (by kernel_rfl)) (by decide) (fun K hK => ?_)
                      refine value_ (w1 := ?_) (v := ?_) (by rfl) rfl ?_ ?_
                      rotate_left 2
                      · go_simp
                        constructor
                        · rfl
                        · rfl
                      refine hK.out _ _ ?_
                      clear hK K
                      refine norm_ (a' := ?_) ?_ ?_
                      rotate_left
                      · show Act.put _ (some 53) _ = _
                        simp only [Act.put, List.setIfInBounds_toArray, List.set_cons_zero, List.set_cons_succ, i64_w, i32_w]
                        rfl
                      refine last_ (i := 15) (N := some 54) #[true, true, true, true, true, true, true, true, true, true, true, true, true, true, true, true, false] rfl rfl (one_of HT_.out (by kernel_rfl)) (by decide) (fun K hK => ?_)
                      refine Kd.R_append_step k44 (w0 := w) w.heap.size (by rfl) (.tmp 39) (.tmp 53) 37 44 (.agg #[(.int .i64 0), (.int .i64 0), (.int .u8 0), (.int .u8 0)]) 24 rfl Try.underlying37 info44 rfl (by decide) (by omega) u3 x3_1 (⟨(⟨(rd_T58 t153 x5_1).f1.f0, (rd_T58 t153 x5_1).f1.f1⟩ : S42), (rd_T58 t153 x5_1).f0.f0, (rd_T58 t153 x5_1).f0.f1⟩ : S44) [.int .i64 ((rd_T58 t153 x5_1).f1.f0), .int .i64 ((rd_T58 t153 x5_1).f1.f1), .int .u8 ((rd_T58 t153 x5_1).f0.f0), .int .u8 ((rd_T58 t153 x5_1).f0.f1)] (fun _ => True) (fun _ => False) rfl rfl ?aP (fun _ hk => hk.elim) ?aF ?aO ?aB ?aS ?aL ?_
                      (case aP => exact k44_mkM _ _ _ (⟨(⟨(rd_T58 t153 x5_1).f1.f0, (rd_T58 t153 x5_1).f1.f1⟩ : S42), (rd_T58 t153 x5_1).f0.f0, (rd_T58 t153 x5_1).f0.f1⟩ : S44))
                      (case aB => exact (by repeat (first | (with_reducible first | exact HB.out | apply below_alloc | apply pw_below_drewN | apply below_drew1 | refine below_set ?_ GE152.out) | exact HB.out)))
                      (case aF => exact (fun _ _ => trivial))
                      (case aO => exact (by (with_reducible repeat (first | apply Kd.R_alloc | apply Kd.R_drewN | apply Kd.R_drew)); exact HO_3.out))
                      (case aS => exact (below_size (by repeat (first | (with_reducible first | exact HB.out | apply below_alloc | apply pw_below_drewN | apply below_drew1 | refine below_set ?_ GE152.out) | exact HB.out))))
                      (case aL => have := LMc29.out; omega)
                      intro v180 w32 ho hb hg hat
                      rw [← Ny179.out] at ho
                      have n0_ := Aside0.mk (Kd.V_afterv (ok := (fun k_ => k_ ≠ gb152)) (by (with_reducible repeat (first | apply Kd.V_alloc | apply Kd.V_drewN | apply Kd.V_drew)); exact Kd.V_mono HO_4.out (fun _ hk => ⟨hk.2, hk.1⟩)) hg hat)
                      have n1_ := Aside0.mk (blk_grown (g := gb152) (o := .cells #[.int .u8 a0_0, .int .u8 a0_1, .int .i64 a0_2, .slice A0_3 l0_3.length c0_3] 25 (0, 0)) (by (with_reducible repeat (first | refine blk_drewN ?_ _ | refine blk_drew ?_ | refine blk_alloc ?_ _)); exact BK152.out) hg (Kd.R_ne HO_3.out BK152.out (by decide)))
                      have n2_ := Aside0.mk (Kd.V_afterv (ok := (fun k_ => k_ ≠ gb152)) (by (with_reducible repeat (first | apply Kd.V_alloc | apply Kd.V_drewN | apply Kd.V_drew)); exact Kd.V_mono HL156_3.out (fun _ hk => ⟨hk.2, hk.1⟩)) hg hat)
                      have n3_ := Aside0.mk (Kd.V_afterv (ok := (fun k_ => k_ ≠ gb152)) (by (with_reducible repeat (first | apply Kd.V_alloc | apply Kd.V_drewN | apply Kd.V_drew)); exact Kd.V_mono HL177_3.out (fun _ hk => ⟨hk.2, hk.1⟩)) hg hat)
                      have n4_ := Aside0.mk (Kd.V_afterv (ok := (fun k_ => k_ ≠ gb152)) (by (with_reducible repeat (first | apply Kd.V_alloc | apply Kd.V_drewN | apply Kd.V_drew)); exact Kd.V_mono HL178_3.out (fun _ hk => ⟨hk.2, hk.1⟩)) hg hat)
                      have n5_ := Aside0.mk (hb)
                      have n6_ := Aside0.mk (ho)
                      clear HO_4
                      clear BK152
                      clear HL156_3
                      clear HL177_3
                      clear HL178_3
                      clear HB
                      clear HO_3
                      have HO_4 := n0_
                      have BK152 := n1_
                      have HL156_3 := n2_
                      have HL177_3 := n3_
                      have HL178_3 := n4_
                      have HB := n5_
                      have HO181 := n6_
                      clear n0_ n1_ n2_ n3_ n4_ n5_ n6_
                      clear ho hb hg hat
                      refine hK.out _ _ ?_
                      clear hK K
                      refine norm_ (a' := ?_) ?_ ?_
                      rotate_left
                      · show Act.put _ (some 54) _ = _
                        simp only [Act.put, List.setIfInBounds_toArray, List.set_cons_zero, List.set_cons_succ, i64_w, i32_w]
                        rfl
                      refine pure_ (i := 16) (N := some 3) (v := ?_) (a' := ?_) #[true, true, true, true, true, true, true, true, true, true, true, true, true, true, true, true, true] rfl rfl (any_of HT_.out (by kernel_rfl)) (fun _ _ _ h => h) (Or.inl ⟨by rfl, ?_⟩) ?_ ?_
                      rotate_left
                      · intro w'
                        go_simp
                        with_reducible rfl
                      rotate_left
                      · simp only [Act.put, List.setIfInBounds_toArray, List.set_cons_zero, List.set_cons_succ, i64_w, i32_w]
                        rfl
                      refine done_ (done_of HT_.out (by kernel_rfl)) ?_
                      try go_wp2
                      go_roundg k1
                      case measure => have := HK1.out; omega
                      case rel => exact ⟨(y179), (wrap64 (x5_1 + 1)), (by first | rfl | (simp; done) | (simp [*]; done)), H', ⟨by have := HK1.out; omega⟩, ⟨by (with_reducible repeat (first | apply Kd.R_alloc | apply Kd.R_drewN | apply Kd.R_drew)); exact HO181.out⟩, ⟨by (with_reducible repeat (first | apply Kd.V_alloc | apply Kd.V_drewN | apply Kd.V_drew)); exact Kd.V_mono HO_4.out (fun _ hk => ⟨hk.2, hk.1⟩)⟩, ⟨by (with_reducible repeat (first | refine blk_drewN ?_ _ | refine blk_drew ?_ | refine blk_alloc ?_ _)); exact BK152.out⟩, ⟨by repeat (first | (with_reducible first | exact HB.out | apply below_alloc | apply pw_below_drewN | apply below_drew1 | refine below_set ?_ GE152.out) | exact HB.out)⟩⟩
                    · rw [if_neg c29] at H
                      exact absurd H (by simp)
                  · rw [if_neg c28] at H
                    have c28b0 : (((rd_T58 t153 x5_1).f0.f0) == 4) = false := beq_eq_false_iff_ne.mpr c28
                    have c28b1 : (((rd_T58 t153 x5_1).f0.f0) != 4) = true := bne_iff_ne.mpr c28
                    have H' := Aside0.mk H
                    clear H
                    obtain ⟨Ao33, co33, eo33⟩ := Kd.V_slice HO_4.out
                    subst eo33
                    have p156 : 0 ≤ (x5_1 : Int) := of_decide_eq_true (by first | (with_reducible assumption) | assumption)
                    have q156 : x5_1 < (t153.length : Int) := of_decide_eq_true (by first | (with_reducible assumption) | assumption)
                    obtain ⟨ad156, A156_3, c156_3, e156, hx156_0, hx156_1, hx156_2, hx156_3, hx156_4, hx156_5, hx156_6, hl156_3, hi156_3⟩ := at_T58 (Kd.V_reads' HO_4.out).2.2 x5_1 p156 q156
                    cases e156
                    obtain ⟨ce156, hce156, hMe156, hcc156⟩ := Kd.V_get HO_4.out z58 x5_1 p156 (by first | exact q156 | exact of_decide_eq_true (by first | (with_reducible assumption) | assumption) | (have e_ := (Kd.V_reads' HO_4.out).1; omega))
                    obtain ⟨ua156_3, uc156_3, rfl, ul156_3, ge156_3⟩ := k58_openF hMe156
                    have hv156_3 := hcc156 3 _ rfl
                    rw [add_field _ _ 3 (by omega)] at hv156_3
                    replace hv156_3 := Option.some.inj (hv156_3.symm.trans hx156_3)
                    injection hv156_3 with hva_ hvn_ hvc_
                    rw [hva_] at ge156_3
                    rw [hvc_] at ul156_3
                    have HL156_3 := Aside0.mk (show Kd.V k25 25 _ w.heap.size _ _ ((rd_T58 t153 x5_1).f0.f3) from Kd.V_mk ul156_3 ge156_3)
                    clear hva_ hvn_ hvc_ ge156_3 ul156_3
                    clear hcc156 hce156
                    have HR156_3 := Aside0.mk hi156_3
                    have HC156_3 := Aside0.mk hl156_3
                    clear hi156_3 hl156_3
                    replace p156 := eq_true p156
                    replace q156 := eq_true q156
                    go_wp2
                    go_roundg k1
                    case measure => have := HK1.out; omega
                    case rel => exact ⟨(x3_1), (wrap64 (x5_1 + 1)), (by first | rfl | (simp; done) | (simp [*]; done)), H', ⟨by have := HK1.out; omega⟩, ⟨by (with_reducible repeat (first | apply Kd.R_alloc | apply Kd.R_drewN | apply Kd.R_drew)); exact HO_3.out⟩, ⟨by (with_reducible repeat (first | apply Kd.V_alloc | apply Kd.V_drewN | apply Kd.V_drew)); exact HO_4.out⟩, ⟨by (with_reducible repeat (first | refine blk_drewN ?_ _ | refine blk_drew ?_ | refine blk_alloc ?_ _)); exact BK152.out⟩, ⟨by repeat (first | (with_reducible first | exact HB.out | apply below_alloc | apply pw_below_drewN | apply below_drew1 | refine below_set ?_ GE152.out) | exact HB.out)⟩⟩
        · rw [if_neg c7] at H
          exact absurd H (by simp)
      · rw [if_neg c6] at H
        have c6b0 : decide (x5_1 < (t153.length : Int)) = false := decide_eq_false c6
        clear c6
        obtain rfl := Option.some.inj H
        obtain ⟨Ao34, co34, eo34⟩ := Kd.V_slice HO_4.out
        subst eo34
        go_wp2
        go_ret
        exact ⟨_, by first | rfl | (simp [errW_none, errW_some] <;> rfl) | (simp [*, errW_none, errW_some] <;> rfl), by (with_reducible repeat (first | apply Kd.R_alloc | apply Kd.R_drewN | apply Kd.R_drew)); exact HO_3.out, by repeat (first | (with_reducible first | exact HB.out | apply below_alloc | apply pw_below_drewN | apply below_drew1 | refine below_set ?_ GE152.out) | exact HB.out)⟩
end Go.Proofs.Ytceddikbmbadlaa.H
