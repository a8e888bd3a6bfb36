/- Texts of this claim, merged. -/
import Derived.Test.YtceddikbmbadlaaZ2
set_option linter.unusedVariables false
set_option linter.unusedSimpArgs false
namespace Go.Proofs.Ytceddikbmbadlaa.H
open Go.RowKit Go.Proofs.YtceddikbmbadlaaW.PrintWords Go.Proofs.YtceddikbmbadlaaW.PrintLast Go.Proofs.YtceddikbmbadlaaW.PrintMore
section
attribute [local go_sem] zbq zbo zbx zbw zbg zbf zbp zbn
mutual
def zat.l0 : Nat → ByteArray → Int → Option (Int × Int)
 | 0, _, _ => none
 | k + 1, x0, x6 => if x6 < (x0.size : Int) then (if 0 ≤ x6 then (if (bt x0 x6) = 10 then (zat.j1 k x0 x6 false) else (zat.j1 k x0 x6 ((bt x0 x6) != 13))) else (none)) else (zat.j1 k x0 x6 false)
def zat.j1 : Nat → ByteArray → Int → Bool → Option (Int × Int)
 | 0, _, _, _ => none
 | k + 1, x0, x6, x24 => if x24 = true then (if 0 ≤ x6 then (if x6 < (x0.size : Int) then (if (bt x0 x6) = 34 then (some (8, wrap64 (x6 + 1))) else (if (bt x0 x6) = 92 then (if (wrap64 (x6 + 1)) = (x0.size : Int) then (some (9, wrap64 (x6 + 1))) else (if 0 ≤ (wrap64 (x6 + 1)) then (if (wrap64 (x6 + 1)) < (x0.size : Int) then (if (bt x0 (wrap64 (x6 + 1))) = 10 then (some (9, wrap64 (x6 + 1))) else (if (bt x0 (wrap64 (x6 + 1))) = 13 then (some (9, wrap64 (x6 + 1))) else ((zaT.f k x0 (wrap64 (x6 + 1))).bind fun t231 => (zat.l0 k x0 (wrap64 ((wrap64 (x6 + 1)) + t231)))))) else (none)) else (none))) else ((zaT.f k x0 x6).bind fun t232 => (zat.l0 k x0 (wrap64 (x6 + t232)))))) else (none)) else (none)) else (some (9, x6))
end
def zat.f (k : Nat) (a0 : ByteArray) (a1 : Int) : Option (Int × Int) := zat.l0 k a0 (wrap64 (a1 + 1))
theorem zat.zbr : ∀ k, (∀ y0 y1, LeO (zat.l0 k y0 y1) (zat.l0 (k + 1) y0 y1)) ∧ (∀ y0 y1 y2, LeO (zat.j1 k y0 y1 y2) (zat.j1 (k + 1) y0 y1 y2))
 | 0 => ⟨fun _ _ r h => by simp [zat.l0] at h, fun _ _ _ r h => by simp [zat.j1] at h⟩
 | k + 1 => by
  obtain ⟨ih0, ih1⟩ := zat.zbr k; refine ⟨?_, ?_⟩
  ·intro y0 y1
   unfold zat.l0
   repeat' first
   | (with_reducible exact ih0 _ _)
   | (with_reducible exact ih1 _ _ _)
   | (with_reducible exact zaT.mono _ _ _)
   | (with_reducible exact LeO.refl _)
   | (with_reducible exact LeO.none _)
   | (with_reducible refine LeO.ite ?_ ?_)
   | (with_reducible refine LeO.bind ?_ (fun _ => ?_))
   | exact ih0 _ _
   | exact ih1 _ _ _
   | exact zaT.mono _ _ _
   | exact LeO.none _
   | refine LeO.ite ?_ ?_
   | refine LeO.bind ?_ (fun _ => ?_)
  ·intro y0 y1 y2
   unfold zat.j1
   repeat' first
   | (with_reducible exact ih0 _ _)
   | (with_reducible exact ih1 _ _ _)
   | (with_reducible exact zaT.mono _ _ _)
   | (with_reducible exact LeO.refl _)
   | (with_reducible exact LeO.none _)
   | (with_reducible refine LeO.ite ?_ ?_)
   | (with_reducible refine LeO.bind ?_ (fun _ => ?_))
   | exact ih0 _ _
   | exact ih1 _ _ _
   | exact zaT.mono _ _ _
   | exact LeO.none _
   | refine LeO.ite ?_ ?_
   | refine LeO.bind ?_ (fun _ => ?_)
theorem zat.mono : ∀ a0 a1 k, LeO (zat.f k a0 a1) (zat.f (k + 1) a0 a1) := by
 intro a0 a1 k
 obtain ⟨ih0, ih1⟩ := zat.zbr k; unfold zat.f
 repeat' first
   | (with_reducible exact ih0 _ _)
   | (with_reducible exact ih1 _ _ _)
   | (with_reducible exact zaT.mono _ _ _)
   | (with_reducible exact LeO.refl _)
   | (with_reducible exact LeO.none _)
   | (with_reducible refine LeO.ite ?_ ?_)
   | (with_reducible refine LeO.bind ?_ (fun _ => ?_))
   | exact ih0 _ _
   | exact ih1 _ _ _
   | exact zaT.mono _ _ _
   | exact LeO.none _
   | refine LeO.ite ?_ ?_
   | refine LeO.bind ?_ (fun _ => ?_)
set_option maxHeartbeats 8000000 in
set_option maxRecDepth 100000 in
theorem zat.calls (k : Nat) (a0 : ByteArray) (a1 : Int) (r1 : Int) (r2 : Int) (w : World) (h : zat.f k a0 a1 = some (r1, r2)) :
  Calls Try.prog 30 #[.string a0, .int .i64 a1] w fun e w' => e = .returned (.tuple #[.int .u8 r1, .int .i64 r2]) ∧ Below w.heap.size w w' := by
 have HB := zaa.mk (Below.refl w.heap.size w); have H : (zat.l0 k a0 (wrap64 (a1 + 1))) = some (r1, r2) := h; clear h; have H' := zaa.mk H; clear H; go_enter Try.func30, Try.ntmps30
 go_wp2
 go_loopg [6] k (fun kq v6 w' => ∃ (x6_1 : Int), v6 = .int .i64 x6_1 ∧ zaa (zat.l0 kq a0 x6_1 = some (r1, r2)) ∧ zaa (kq ≤ k) ∧ zaa (Below w.heap.size w w'))
 case atStart => exact ⟨(wrap64 (a1 + 1)), (by first | rfl | (simp; done) | (simp [*]; done)), H', ⟨Nat.le_refl _⟩, ⟨by repeat (first | exact HB.out | apply zad | apply zac | apply zae)⟩⟩
 case round =>
  clear H'; try clear p2
  obtain ⟨x6_1, rfl, HA, HK1, HB⟩ := hrel; cases gk with
  | zero => exact absurd HA.out (by simp [zat.l0])
  | succ k1 =>
   have H := HA.out; clear HA; simp only [zat.l0] at H; have HC3 := zaa.mk H; clear H; go_upto_region 2 with (fail)
   go_cut [24] (fun v24 wc => ∃ (kq : Nat) (x24_2 : Bool), v24 = .bool x24_2 ∧ zaa (zat.j1 kq a0 x6_1 x24_2 = some (r1, r2)) ∧ zaa (kq ≤ k1) ∧ zaa (Below w.heap.size w wc))
   case first =>
    have H := HC3.out; clear HC3; by_cases c4 : x6_1 < (a0.size : Int)
    ·rw [if_pos c4] at H
     have c4b0 : decide (x6_1 < (a0.size : Int)) = true := decide_eq_true c4; clear c4
     (first | rw [c4b0] | (simp only [i64_w, i32_w]; rw [c4b0]) | skip)
     by_cases c5 : 0 ≤ x6_1
     ·rw [if_pos c5] at H
      have c5b0 : decide (0 ≤ x6_1) = true := decide_eq_true c5; clear c5; by_cases c7 : (bt a0 x6_1) = 10
      ·rw [if_pos c7] at H
       have c7b0 : ((bt a0 x6_1) == 10) = true := beq_iff_eq.mpr c7; have c7b1 : ((bt a0 x6_1) != 10) = false := bne_eq_false_iff_eq.mpr c7; clear c7; have H' := zaa.mk H; clear H; have p6 : 0 ≤ (x6_1 : Int) := of_decide_eq_true (by assumption)
       have q6 : x6_1 < (a0.size : Int) := of_decide_eq_true (by assumption)
       have hx6 := bt_at a0 x6_1; replace p6 := eq_true p6; replace q6 := eq_true q6; go_wp2
       go_meet
       case rel => exact ⟨_, (false), (by first | rfl | (simp; done) | (simp [*]; done)), H', ⟨by have := HK1.out; first | omega | exact Nat.le_refl _⟩, ⟨by repeat (first | exact HB.out | apply zad | apply zac | apply zae)⟩⟩
      ·rw [if_neg c7] at H
       have c7b0 : ((bt a0 x6_1) == 10) = false := beq_eq_false_iff_ne.mpr c7; have c7b1 : ((bt a0 x6_1) != 10) = true := bne_iff_ne.mpr c7; have H' := zaa.mk H; clear H; have p6 : 0 ≤ (x6_1 : Int) := of_decide_eq_true (by assumption)
       have q6 : x6_1 < (a0.size : Int) := of_decide_eq_true (by assumption)
       have hx6 := bt_at a0 x6_1; replace p6 := eq_true p6; replace q6 := eq_true q6; have p8 : 0 ≤ (x6_1 : Int) := of_decide_eq_true (by assumption)
       have q8 : x6_1 < (a0.size : Int) := of_decide_eq_true (by assumption)
       have hx8 := bt_at a0 x6_1; replace p8 := eq_true p8; replace q8 := eq_true q8; go_wp2
       go_meet
       case rel => exact ⟨_, (((bt a0 x6_1) != 13)), (by first | rfl | (simp; done) | (simp [*]; done)), H', ⟨by have := HK1.out; first | omega | exact Nat.le_refl _⟩, ⟨by repeat (first | exact HB.out | apply zad | apply zac | apply zae)⟩⟩
     ·rw [if_neg c5] at H
      exact absurd H (by simp)
    ·rw [if_neg c4] at H
     have c4b0 : decide (x6_1 < (a0.size : Int)) = false := decide_eq_false c4; clear c4
     (first | rw [c4b0] | (simp only [i64_w, i32_w]; rw [c4b0]) | skip)
     have H' := zaa.mk H; clear H; go_wp2
     go_meet
     case rel => exact ⟨_, (false), (by first | rfl | (simp; done) | (simp [*]; done)), H', ⟨by have := HK1.out; first | omega | exact Nat.le_refl _⟩, ⟨by repeat (first | exact HB.out | apply zad | apply zac | apply zae)⟩⟩
   case rest =>
    clear HC3; try clear p2
    try clear c3
    try clear c4
    try clear c4b0
    try clear c5
    try clear c5b0
    try clear p6
    try clear q6
    try clear hx6
    try clear c7
    try clear c7b0
    try clear c7b1
    try clear p8
    try clear q8
    try clear hx8
    try clear p2
    try clear p6
    try clear p8
    try clear q6
    try clear q8
    obtain ⟨kq, x24_2, rfl, HA, HJ2, HB⟩ := hcut; cases kq with
    | zero => exact absurd HA.out (by simp [zat.j1])
    | succ kj2 =>
     have H := HA.out; clear HA; simp only [zat.j1] at H; by_cases c9 : x24_2 = true
     ·subst c9
      have H1 : (if 0 ≤ x6_1 then (if x6_1 < (a0.size : Int) then (if (bt a0 x6_1) = 34 then (some (8, wrap64 (x6_1 + 1))) else (if (bt a0 x6_1) = 92 then (if (wrap64 (x6_1 + 1)) = (a0.size : Int) then (some (9, wrap64 (x6_1 + 1))) else (if 0 ≤ (wrap64 (x6_1 + 1)) then (if (wrap64 (x6_1 + 1)) < (a0.size : Int) then (if (bt a0 (wrap64 (x6_1 + 1))) = 10 then (some (9, wrap64 (x6_1 + 1))) else (if (bt a0 (wrap64 (x6_1 + 1))) = 13 then (some (9, wrap64 (x6_1 + 1))) else ((zaT.f kj2 a0 (wrap64 (x6_1 + 1))).bind fun t231 => (zat.l0 kj2 a0 (wrap64 ((wrap64 (x6_1 + 1)) + t231)))))) else (none)) else (none))) else ((zaT.f kj2 a0 x6_1).bind fun t232 => (zat.l0 kj2 a0 (wrap64 (x6_1 + t232)))))) else (none)) else (none)) = some (r1, r2) := by rw [if_pos rfl] at H; exact H
      clear H; have H := H1; clear H1; by_cases c10 : 0 ≤ x6_1
      ·rw [if_pos c10] at H
       have c10b0 : decide (0 ≤ x6_1) = true := decide_eq_true c10; clear c10; by_cases c11 : x6_1 < (a0.size : Int)
       ·rw [if_pos c11] at H
        have c11b0 : decide (x6_1 < (a0.size : Int)) = true := decide_eq_true c11; clear c11; by_cases c13 : (bt a0 x6_1) = 34
        ·rw [if_pos c13] at H
         have c13b0 : ((bt a0 x6_1) == 34) = true := beq_iff_eq.mpr c13; have c13b1 : ((bt a0 x6_1) != 34) = false := bne_eq_false_iff_eq.mpr c13; clear c13; simp only [Option.some.injEq, Prod.mk.injEq] at H; obtain ⟨rfl, rfl⟩ := H; have p12 : 0 ≤ (x6_1 : Int) := of_decide_eq_true (by assumption)
         have q12 : x6_1 < (a0.size : Int) := of_decide_eq_true (by assumption)
         have hx12 := bt_at a0 x6_1; replace p12 := eq_true p12; replace q12 := eq_true q12; go_wp2
         go_ret2
         exact ⟨by first | rfl | (simp [*, zaF, zaE] <;> rfl), by repeat (first | exact HB.out | apply zad | apply zac | apply zae)⟩
        ·rw [if_neg c13] at H
         have c13b0 : ((bt a0 x6_1) == 34) = false := beq_eq_false_iff_ne.mpr c13; have c13b1 : ((bt a0 x6_1) != 34) = true := bne_iff_ne.mpr c13; by_cases c15 : (bt a0 x6_1) = 92
         ·rw [if_pos c15] at H
          have c15b0 : ((bt a0 x6_1) == 92) = true := beq_iff_eq.mpr c15; have c15b1 : ((bt a0 x6_1) != 92) = false := bne_eq_false_iff_eq.mpr c15; clear c15; by_cases c16 : (wrap64 (x6_1 + 1)) = (a0.size : Int)
          ·rw [if_pos c16] at H
           have c16b0 : ((wrap64 (x6_1 + 1)) == (a0.size : Int)) = true := beq_iff_eq.mpr c16; have c16b1 : ((wrap64 (x6_1 + 1)) != (a0.size : Int)) = false := bne_eq_false_iff_eq.mpr c16; clear c16; simp only [Option.some.injEq, Prod.mk.injEq] at H; obtain ⟨rfl, rfl⟩ := H; have p12 : 0 ≤ (x6_1 : Int) := of_decide_eq_true (by assumption)
           have q12 : x6_1 < (a0.size : Int) := of_decide_eq_true (by assumption)
           have hx12 := bt_at a0 x6_1; replace p12 := eq_true p12; replace q12 := eq_true q12; have p14 : 0 ≤ (x6_1 : Int) := of_decide_eq_true (by assumption)
           have q14 : x6_1 < (a0.size : Int) := of_decide_eq_true (by assumption)
           have hx14 := bt_at a0 x6_1; replace p14 := eq_true p14; replace q14 := eq_true q14; go_wp2
           go_ret2
           exact ⟨by first | rfl | (simp [*, zaF, zaE] <;> rfl), by repeat (first | exact HB.out | apply zad | apply zac | apply zae)⟩
          ·rw [if_neg c16] at H
           have c16b0 : ((wrap64 (x6_1 + 1)) == (a0.size : Int)) = false := beq_eq_false_iff_ne.mpr c16; have c16b1 : ((wrap64 (x6_1 + 1)) != (a0.size : Int)) = true := bne_iff_ne.mpr c16; obtain ⟨ji17, hji17⟩ : ∃ j_ : Int, (wrap64 (x6_1 + 1)) = j_ := ⟨_, rfl⟩; replace H : (if 0 ≤ (ji17) then (if (ji17) < (a0.size : Int) then (if (bt a0 (ji17)) = 10 then (some (9, ji17)) else (if (bt a0 (ji17)) = 13 then (some (9, ji17)) else ((zaT.f kj2 a0 (ji17)).bind fun t231 => (zat.l0 kj2 a0 (wrap64 ((ji17) + t231)))))) else (none)) else (none)) = some (r1, r2) := by first | (rw [hji17] at H; exact H) | (simp only [hji17] at H ⊢; exact H)
           (try rw [hji17] at c16b0)
           (try rw [hji17] at c16b1)
           have hji17w : (IntKind.i64.wrap (x6_1 + 1)) = ji17 := (i64_w _).trans hji17; by_cases c18 : 0 ≤ (ji17)
           ·rw [if_pos c18] at H
            have c18b0 : decide (0 ≤ (ji17)) = true := decide_eq_true c18; clear c18; by_cases c19 : (ji17) < (a0.size : Int)
            ·rw [if_pos c19] at H
             have c19b0 : decide ((ji17) < (a0.size : Int)) = true := decide_eq_true c19; clear c19; by_cases c21 : (bt a0 (ji17)) = 10
             ·rw [if_pos c21] at H
              have c21b0 : ((bt a0 (ji17)) == 10) = true := beq_iff_eq.mpr c21; have c21b1 : ((bt a0 (ji17)) != 10) = false := bne_eq_false_iff_eq.mpr c21; clear c21; simp only [Option.some.injEq, Prod.mk.injEq] at H; obtain ⟨rfl, rfl⟩ := H; have p12 : 0 ≤ (x6_1 : Int) := of_decide_eq_true (by assumption)
              have q12 : x6_1 < (a0.size : Int) := of_decide_eq_true (by assumption)
              have hx12 := bt_at a0 x6_1; replace p12 := eq_true p12; replace q12 := eq_true q12; have p14 : 0 ≤ (x6_1 : Int) := of_decide_eq_true (by assumption)
              have q14 : x6_1 < (a0.size : Int) := of_decide_eq_true (by assumption)
              have hx14 := bt_at a0 x6_1; replace p14 := eq_true p14; replace q14 := eq_true q14; have p20 : 0 ≤ ((ji17) : Int) := of_decide_eq_true (by assumption)
              have q20 : (ji17) < (a0.size : Int) := of_decide_eq_true (by assumption)
              have hx20 := bt_at a0 (ji17); replace p20 := eq_true p20; replace q20 := eq_true q20; go_wp2
              go_ret2
              exact ⟨by first | rfl | (simp [zaF, zaE] <;> rfl) | (simp only [← hji17]; first | rfl | (simp [zaF, zaE] <;> rfl)) | (simp [*, zaF, zaE] <;> rfl), by repeat (first | exact HB.out | apply zad | apply zac | apply zae)⟩
             ·rw [if_neg c21] at H
              have c21b0 : ((bt a0 (ji17)) == 10) = false := beq_eq_false_iff_ne.mpr c21; have c21b1 : ((bt a0 (ji17)) != 10) = true := bne_iff_ne.mpr c21; by_cases c23 : (bt a0 (ji17)) = 13
              ·rw [if_pos c23] at H
               have c23b0 : ((bt a0 (ji17)) == 13) = true := beq_iff_eq.mpr c23; have c23b1 : ((bt a0 (ji17)) != 13) = false := bne_eq_false_iff_eq.mpr c23; clear c23; simp only [Option.some.injEq, Prod.mk.injEq] at H; obtain ⟨rfl, rfl⟩ := H; have p12 : 0 ≤ (x6_1 : Int) := of_decide_eq_true (by assumption)
               have q12 : x6_1 < (a0.size : Int) := of_decide_eq_true (by assumption)
               have hx12 := bt_at a0 x6_1; replace p12 := eq_true p12; replace q12 := eq_true q12; have p14 : 0 ≤ (x6_1 : Int) := of_decide_eq_true (by assumption)
               have q14 : x6_1 < (a0.size : Int) := of_decide_eq_true (by assumption)
               have hx14 := bt_at a0 x6_1; replace p14 := eq_true p14; replace q14 := eq_true q14; have p20 : 0 ≤ ((ji17) : Int) := of_decide_eq_true (by assumption)
               have q20 : (ji17) < (a0.size : Int) := of_decide_eq_true (by assumption)
               have hx20 := bt_at a0 (ji17); replace p20 := eq_true p20; replace q20 := eq_true q20; have p22 : 0 ≤ ((ji17) : Int) := of_decide_eq_true (by assumption)
               have q22 : (ji17) < (a0.size : Int) := of_decide_eq_true (by assumption)
               have hx22 := bt_at a0 (ji17); replace p22 := eq_true p22; replace q22 := eq_true q22; go_wp2
               go_ret2
               exact ⟨by first | rfl | (simp [zaF, zaE] <;> rfl) | (simp only [← hji17]; first | rfl | (simp [zaF, zaE] <;> rfl)) | (simp [*, zaF, zaE] <;> rfl), by repeat (first | exact HB.out | apply zad | apply zac | apply zae)⟩
              ·rw [if_neg c23] at H
               have c23b0 : ((bt a0 (ji17)) == 13) = false := beq_eq_false_iff_ne.mpr c23; have c23b1 : ((bt a0 (ji17)) != 13) = true := bne_iff_ne.mpr c23; replace H := Option.bind_eq_some_iff.mp H; obtain ⟨t231, A240, H⟩ := H; replace H : (zat.l0 kj2 a0 (wrap64 ((ji17) + t231))) = some (r1, r2) := H; have A24 := zaa.mk A240; clear A240; have H' := zaa.mk H; clear H; have p12 : 0 ≤ (x6_1 : Int) := of_decide_eq_true (by assumption)
               have q12 : x6_1 < (a0.size : Int) := of_decide_eq_true (by assumption)
               have hx12 := bt_at a0 x6_1; replace p12 := eq_true p12; replace q12 := eq_true q12; have p14 : 0 ≤ (x6_1 : Int) := of_decide_eq_true (by assumption)
               have q14 : x6_1 < (a0.size : Int) := of_decide_eq_true (by assumption)
               have hx14 := bt_at a0 x6_1; replace p14 := eq_true p14; replace q14 := eq_true q14; have p20 : 0 ≤ ((ji17) : Int) := of_decide_eq_true (by assumption)
               have q20 : (ji17) < (a0.size : Int) := of_decide_eq_true (by assumption)
               have hx20 := bt_at a0 (ji17); replace p20 := eq_true p20; replace q20 := eq_true q20; have p22 : 0 ≤ ((ji17) : Int) := of_decide_eq_true (by assumption)
               have q22 : (ji17) < (a0.size : Int) := of_decide_eq_true (by assumption)
               have hx22 := bt_at a0 (ji17); replace p22 := eq_true p22; replace q22 := eq_true q22; go_wp2_with (first | ((with_reducible refine zaS (f := 49) rfl ?_); refine zbj (some 56) rfl rfl Try.func49 (by kernel_rfl) rfl #[.string a0, .int .i64 ji17] rfl (by (try simp only [List.map_toArray, List.map_cons, List.map_nil]); first | done | (simp only [hji17]; rfl) | rfl | (simp only [List.length_drop, List.length_take]; rfl)) ?_; (with_reducible refine (zaT.calls kj2 a0 ji17 t231 _ A24.out).mono ?_); rintro e w25 ⟨rfl, hb⟩; refine ⟨_, rfl, ?_⟩; have n0_ := zaa.mk (zaG (by repeat (first | exact HB.out | apply zad | apply zac | apply zae)) hb); clear HB; have HB := n0_; clear n0_; (try clear hb); (try clear hb2); (try clear hk); (try clear hi)))
               go_roundg kj2
               case measure => have := HK1.out; have := HJ2.out; omega
               case rel => exact ⟨(wrap64 ((ji17) + t231)), (by first | rfl | (simp; done) | (simp only [← hji17] <;> (first | rfl | simp)) | (simp [*]; done)), H', ⟨by have := HK1.out; have := HJ2.out; omega⟩, ⟨by repeat (first | exact HB.out | apply zad | apply zac | apply zae)⟩⟩
            ·rw [if_neg c19] at H
             exact absurd H (by simp)
           ·rw [if_neg c18] at H
            exact absurd H (by simp)
         ·rw [if_neg c15] at H
          have c15b0 : ((bt a0 x6_1) == 92) = false := beq_eq_false_iff_ne.mpr c15; have c15b1 : ((bt a0 x6_1) != 92) = true := bne_iff_ne.mpr c15; replace H := Option.bind_eq_some_iff.mp H; obtain ⟨t232, A260, H⟩ := H; replace H : (zat.l0 kj2 a0 (wrap64 (x6_1 + t232))) = some (r1, r2) := H; have A26 := zaa.mk A260; clear A260; have H' := zaa.mk H; clear H; have p12 : 0 ≤ (x6_1 : Int) := of_decide_eq_true (by assumption)
          have q12 : x6_1 < (a0.size : Int) := of_decide_eq_true (by assumption)
          have hx12 := bt_at a0 x6_1; replace p12 := eq_true p12; replace q12 := eq_true q12; have p14 : 0 ≤ (x6_1 : Int) := of_decide_eq_true (by assumption)
          have q14 : x6_1 < (a0.size : Int) := of_decide_eq_true (by assumption)
          have hx14 := bt_at a0 x6_1; replace p14 := eq_true p14; replace q14 := eq_true q14; go_wp2_with (first | ((with_reducible refine zaS (f := 49) rfl ?_); refine zbj (some 56) rfl rfl Try.func49 (by kernel_rfl) rfl #[.string a0, .int .i64 x6_1] rfl (by (try simp only [List.map_toArray, List.map_cons, List.map_nil]); first | done | rfl | (simp only [List.length_drop, List.length_take]; rfl)) ?_; (with_reducible refine (zaT.calls kj2 a0 x6_1 t232 _ A26.out).mono ?_); rintro e w27 ⟨rfl, hb⟩; refine ⟨_, rfl, ?_⟩; have n0_ := zaa.mk (zaG (by repeat (first | exact HB.out | apply zad | apply zac | apply zae)) hb); clear HB; have HB := n0_; clear n0_; (try clear hb); (try clear hb2); (try clear hk); (try clear hi)))
          go_roundg kj2
          case measure => have := HK1.out; have := HJ2.out; omega
          case rel => exact ⟨(wrap64 (x6_1 + t232)), (by first | rfl | (simp; done) | (simp [*]; done)), H', ⟨by have := HK1.out; have := HJ2.out; omega⟩, ⟨by repeat (first | exact HB.out | apply zad | apply zac | apply zae)⟩⟩
       ·rw [if_neg c11] at H
        exact absurd H (by simp)
      ·rw [if_neg c10] at H
       exact absurd H (by simp)
     ·replace c9 := Bool.eq_false_iff.mpr c9
      subst c9; have H1 : (some (9, x6_1)) = some (r1, r2) := by rw [if_neg (show ¬ (false = true) by decide)] at H; exact H
      clear H; have H := H1; clear H1; simp only [Option.some.injEq, Prod.mk.injEq] at H; obtain ⟨rfl, rfl⟩ := H; go_wp2
      go_ret2
      exact ⟨by first | rfl | (simp [*, zaF, zaE] <;> rfl), by repeat (first | exact HB.out | apply zad | apply zac | apply zae)⟩
mutual
def zaz.l0 : Nat → ByteArray → Int → List ByteArray → List Int → Int → Option (Int × Int)
 | 0, _, _, _, _, _ => none
 | k + 1, x0, x1, x6, x7, x8 => if x8 < (x6.length : Int) then (if (wrap64 (x1 + 2)) ≤ (x0.size : Int) then (if 0 ≤ x1 then (if x1 ≤ (wrap64 (x1 + 2)) then (if 0 ≤ x8 then (if (x0.extract (x1 : Int).toNat ((wrap64 (x1 + 2)) : Int).toNat).toList = (rdOf ByteArray.empty x6 x8).toList then (if x8 < (x7.length : Int) then (some (rd x7 x8, wrap64 (x1 + 2))) else (none)) else (zaz.l0 k x0 x1 x6 x7 (wrap64 (x8 + 1)))) else (none)) else (none)) else (none)) else (zaz.l0 k x0 x1 x6 x7 (wrap64 (x8 + 1)))) else (zaz.l1 k x0 x1 (⟨#[40, 41, 123, 125, 44, 59, 61, 60, 62, 43, 45, 42, 37, 33]⟩ : ByteArray) (([20, 21, 22, 23, 24, 25, 26, 29, 31, 33, 34, 35, 37, 38] : List Int)) 0)
def zaz.l1 : Nat → ByteArray → Int → ByteArray → List Int → Int → Option (Int × Int)
 | 0, _, _, _, _, _ => none
 | k + 1, x0, x1, x9, x10, x11 => if x11 < (x9.size : Int) then (if 0 ≤ x1 then (if x1 < (x0.size : Int) then (if 0 ≤ x11 then (if (bt x0 x1) = (bt x9 x11) then (if x11 < (x10.length : Int) then (some (rd x10 x11, wrap64 (x1 + 1))) else (none)) else (zaz.l1 k x0 x1 x9 x10 (wrap64 (x11 + 1)))) else (none)) else (none)) else (none)) else ((zaT.f k x0 x1).bind fun t245 => (some (5, wrap64 (x1 + t245))))
end
def zaz.f (k : Nat) (a0 : ByteArray) (a1 : Int) : Option (Int × Int) := zaz.l0 k a0 a1 (([(⟨#[61, 61]⟩ : ByteArray), (⟨#[33, 61]⟩ : ByteArray), (⟨#[60, 61]⟩ : ByteArray), (⟨#[62, 61]⟩ : ByteArray), (⟨#[38, 38]⟩ : ByteArray), (⟨#[124, 124]⟩ : ByteArray)] : List ByteArray)) (([27, 28, 30, 32, 39, 40] : List Int)) 0
theorem zaz.zbr : ∀ k, (∀ y0 y1 y2 y3 y4, LeO (zaz.l0 k y0 y1 y2 y3 y4) (zaz.l0 (k + 1) y0 y1 y2 y3 y4)) ∧ (∀ y0 y1 y2 y3 y4, LeO (zaz.l1 k y0 y1 y2 y3 y4) (zaz.l1 (k + 1) y0 y1 y2 y3 y4))
 | 0 => ⟨fun _ _ _ _ _ r h => by simp [zaz.l0] at h, fun _ _ _ _ _ r h => by simp [zaz.l1] at h⟩
 | k + 1 => by
  obtain ⟨ih0, ih1⟩ := zaz.zbr k; refine ⟨?_, ?_⟩
  ·intro y0 y1 y2 y3 y4
   unfold zaz.l0
   repeat' first
   | (with_reducible exact ih0 _ _ _ _ _)
   | (with_reducible exact ih1 _ _ _ _ _)
   | (with_reducible exact zaT.mono _ _ _)
   | (with_reducible exact LeO.refl _)
   | (with_reducible exact LeO.none _)
   | (with_reducible refine LeO.ite ?_ ?_)
   | (with_reducible refine LeO.bind ?_ (fun _ => ?_))
   | exact ih0 _ _ _ _ _
   | exact ih1 _ _ _ _ _
   | exact zaT.mono _ _ _
   | exact LeO.none _
   | refine LeO.ite ?_ ?_
   | refine LeO.bind ?_ (fun _ => ?_)
  ·intro y0 y1 y2 y3 y4
   unfold zaz.l1
   repeat' first
   | (with_reducible exact ih0 _ _ _ _ _)
   | (with_reducible exact ih1 _ _ _ _ _)
   | (with_reducible exact zaT.mono _ _ _)
   | (with_reducible exact LeO.refl _)
   | (with_reducible exact LeO.none _)
   | (with_reducible refine LeO.ite ?_ ?_)
   | (with_reducible refine LeO.bind ?_ (fun _ => ?_))
   | exact ih0 _ _ _ _ _
   | exact ih1 _ _ _ _ _
   | exact zaT.mono _ _ _
   | exact LeO.none _
   | refine LeO.ite ?_ ?_
   | refine LeO.bind ?_ (fun _ => ?_)
theorem zaz.mono : ∀ a0 a1 k, LeO (zaz.f k a0 a1) (zaz.f (k + 1) a0 a1) := by
 intro a0 a1 k
 obtain ⟨ih0, ih1⟩ := zaz.zbr k; unfold zaz.f
 repeat' first
   | (with_reducible exact ih0 _ _ _ _ _)
   | (with_reducible exact ih1 _ _ _ _ _)
   | (with_reducible exact zaT.mono _ _ _)
   | (with_reducible exact LeO.refl _)
   | (with_reducible exact LeO.none _)
   | (with_reducible refine LeO.ite ?_ ?_)
   | (with_reducible refine LeO.bind ?_ (fun _ => ?_))
   | exact ih0 _ _ _ _ _
   | exact ih1 _ _ _ _ _
   | exact zaT.mono _ _ _
   | exact LeO.none _
   | refine LeO.ite ?_ ?_
   | refine LeO.bind ?_ (fun _ => ?_)
set_option maxHeartbeats 8000000 in
set_option maxRecDepth 100000 in
theorem zaz.calls (k : Nat) (a0 : ByteArray) (a1 : Int) (r1 : Int) (r2 : Int) (w : World) (h : zaz.f k a0 a1 = some (r1, r2)) :
  Calls Try.prog 31 #[.string a0, .int .i64 a1] w fun e w' => e = .returned (.tuple #[.int .u8 r1, .int .i64 r2]) ∧ Below w.heap.size w w' := by
 have HB := zaa.mk (Below.refl w.heap.size w); have H : (zaz.l0 k a0 a1 (([(⟨#[61, 61]⟩ : ByteArray), (⟨#[33, 61]⟩ : ByteArray), (⟨#[60, 61]⟩ : ByteArray), (⟨#[62, 61]⟩ : ByteArray), (⟨#[38, 38]⟩ : ByteArray), (⟨#[124, 124]⟩ : ByteArray)] : List ByteArray)) (([27, 28, 30, 32, 39, 40] : List Int)) 0) = some (r1, r2) := h; clear h; obtain ⟨y233, hy233⟩ : ∃ y_ : List ByteArray, y_ = (([(⟨#[61, 61]⟩ : ByteArray), (⟨#[33, 61]⟩ : ByteArray), (⟨#[60, 61]⟩ : ByteArray), (⟨#[62, 61]⟩ : ByteArray), (⟨#[38, 38]⟩ : ByteArray), (⟨#[124, 124]⟩ : ByteArray)] : List ByteArray)) := ⟨_, rfl⟩; replace H : (zaz.l0 k a0 a1 y233 (([27, 28, 30, 32, 39, 40] : List Int)) 0) = some (r1, r2) := by first | (rw [hy233]; with_reducible exact H) | (have H2_ := (Option.bind_some _ _).symm.trans H; rw [hy233]; with_reducible exact H2_) | (have H2_ := (Option.bind_some _ _).symm.trans H; with_reducible exact H2_) | with_reducible exact H | (rw [hy233]; exact H) | exact H
 have Ny233 := zaa.mk hy233; clear hy233; obtain ⟨y236, hy236⟩ : ∃ y_ : List Int, y_ = (([27, 28, 30, 32, 39, 40] : List Int)) := ⟨_, rfl⟩; replace H : (zaz.l0 k a0 a1 y233 y236 0) = some (r1, r2) := by first | (rw [hy236]; with_reducible exact H) | (have H2_ := (Option.bind_some _ _).symm.trans H; rw [hy236]; with_reducible exact H2_) | (have H2_ := (Option.bind_some _ _).symm.trans H; with_reducible exact H2_) | with_reducible exact H | (rw [hy236]; exact H) | exact H
 have Ny236 := zaa.mk hy236; clear hy236; have H' := zaa.mk H; clear H; go_enter Try.func31, Try.ntmps31
 go_wp2_with (first | ((with_reducible refine za7 (N := 12) rfl ?_); refine Kd.R_lit Kd.string _ 9 ?hg (N := 12) ?hd (xs := ([(⟨#[61, 61]⟩ : ByteArray), (⟨#[33, 61]⟩ : ByteArray), (⟨#[60, 61]⟩ : ByteArray), (⟨#[62, 61]⟩ : ByteArray), (⟨#[38, 38]⟩ : ByteArray), (⟨#[124, 124]⟩ : ByteArray)] : List ByteArray)) (inner := [.string (⟨#[61, 61]⟩ : ByteArray), .string (⟨#[33, 61]⟩ : ByteArray), .string (⟨#[60, 61]⟩ : ByteArray), .string (⟨#[62, 61]⟩ : ByteArray), .string (⟨#[38, 38]⟩ : ByteArray), .string (⟨#[124, 124]⟩ : ByteArray)]) (ok := fun _ => True) (okp := fun _ => True) ?hr ?hp (fun _ hk => hk) trivial (Below.refl _ _) (Nat.le_refl _) (by simp) ?_; (case hd => rfl); (case hg => rfl); (case hr => first | (go_simp; done) | (go_simp; rfl)); (case hp => exact (Reps.one (show Kd.M Kd.string _ _ _ (⟨#[61, 61]⟩ : ByteArray) [.string (⟨#[61, 61]⟩ : ByteArray)] from rfl) (Reps.one (show Kd.M Kd.string _ _ _ (⟨#[33, 61]⟩ : ByteArray) [.string (⟨#[33, 61]⟩ : ByteArray)] from rfl) (Reps.one (show Kd.M Kd.string _ _ _ (⟨#[60, 61]⟩ : ByteArray) [.string (⟨#[60, 61]⟩ : ByteArray)] from rfl) (Reps.one (show Kd.M Kd.string _ _ _ (⟨#[62, 61]⟩ : ByteArray) [.string (⟨#[62, 61]⟩ : ByteArray)] from rfl) (Reps.one (show Kd.M Kd.string _ _ _ (⟨#[38, 38]⟩ : ByteArray) [.string (⟨#[38, 38]⟩ : ByteArray)] from rfl) (Reps.one (show Kd.M Kd.string _ _ _ (⟨#[124, 124]⟩ : ByteArray) [.string (⟨#[124, 124]⟩ : ByteArray)] from rfl) (Reps.none _ _)))))))); intro v234 w3 ho4 hb hg_ hnew_; clear hg_ hnew_; (first | rw [← Ny233.out] at ho4 | (simp only [Int.reduceToNat] at ho4; rw [← Ny233.out] at ho4)); have n0_ := zaa.mk (Kd.zbG ho4 (zaB (by repeat (first | exact HB.out | apply zad | apply zac | apply zae)))); have n1_ := zaa.mk (zaG (by repeat (first | exact HB.out | apply zad | apply zac | apply zae)) hb); clear HB; have HO235 := n0_; have HB := n1_; clear n0_ n1_; clear hb ho4) | ((with_reducible refine za7 (N := 13) rfl ?_); refine Kd.R_lit (Kd.int .u8) _ 5 ?hg (N := 13) ?hd (xs := ([27, 28, 30, 32, 39, 40] : List Int)) (inner := [.int .u8 27, .int .u8 28, .int .u8 30, .int .u8 32, .int .u8 39, .int .u8 40]) (ok := fun _ => True) (okp := fun _ => True) ?hr ?hp (fun _ hk => hk) trivial (Below.refl _ _) (Nat.le_refl _) (by simp) ?_; (case hd => rfl); (case hg => rfl); (case hr => first | (go_simp; done) | (go_simp; rfl)); (case hp => exact (Reps.one (show Kd.M (Kd.int .u8) _ _ _ 27 [.int .u8 27] from rfl) (Reps.one (show Kd.M (Kd.int .u8) _ _ _ 28 [.int .u8 28] from rfl) (Reps.one (show Kd.M (Kd.int .u8) _ _ _ 30 [.int .u8 30] from rfl) (Reps.one (show Kd.M (Kd.int .u8) _ _ _ 32 [.int .u8 32] from rfl) (Reps.one (show Kd.M (Kd.int .u8) _ _ _ 39 [.int .u8 39] from rfl) (Reps.one (show Kd.M (Kd.int .u8) _ _ _ 40 [.int .u8 40] from rfl) (Reps.none _ _)))))))); intro v237 w5 ho6 hb hg_ hnew_; clear hg_ hnew_; (first | rw [← Ny236.out] at ho6 | (simp only [Int.reduceToNat] at ho6; rw [← Ny236.out] at ho6)); have n0_ := zaa.mk (Kd.zbT (by (with_reducible repeat (first | apply Kd.za3 | apply Kd.za2 | apply Kd.za8)); exact HO235.out) hb); have n1_ := zaa.mk (Kd.zbG ho6 (zaB (by repeat (first | exact HB.out | apply zad | apply zac | apply zae)))); have n2_ := zaa.mk (zaG (by repeat (first | exact HB.out | apply zad | apply zac | apply zae)) hb); clear HO235; clear HB; have HO235 := n0_; have HO238 := n1_; have HB := n2_; clear n0_ n1_ n2_; clear hb ho6))
 repeat (go_quiet (first | ((with_reducible refine za7 (N := 12) rfl ?_); refine Kd.R_lit Kd.string _ 9 ?hg (N := 12) ?hd (xs := ([(⟨#[61, 61]⟩ : ByteArray), (⟨#[33, 61]⟩ : ByteArray), (⟨#[60, 61]⟩ : ByteArray), (⟨#[62, 61]⟩ : ByteArray), (⟨#[38, 38]⟩ : ByteArray), (⟨#[124, 124]⟩ : ByteArray)] : List ByteArray)) (inner := [.string (⟨#[61, 61]⟩ : ByteArray), .string (⟨#[33, 61]⟩ : ByteArray), .string (⟨#[60, 61]⟩ : ByteArray), .string (⟨#[62, 61]⟩ : ByteArray), .string (⟨#[38, 38]⟩ : ByteArray), .string (⟨#[124, 124]⟩ : ByteArray)]) (ok := fun _ => True) (okp := fun _ => True) ?hr ?hp (fun _ hk => hk) trivial (Below.refl _ _) (Nat.le_refl _) (by simp) ?_; (case hd => rfl); (case hg => rfl); (case hr => first | (go_simp; done) | (go_simp; rfl)); (case hp => exact (Reps.one (show Kd.M Kd.string _ _ _ (⟨#[61, 61]⟩ : ByteArray) [.string (⟨#[61, 61]⟩ : ByteArray)] from rfl) (Reps.one (show Kd.M Kd.string _ _ _ (⟨#[33, 61]⟩ : ByteArray) [.string (⟨#[33, 61]⟩ : ByteArray)] from rfl) (Reps.one (show Kd.M Kd.string _ _ _ (⟨#[60, 61]⟩ : ByteArray) [.string (⟨#[60, 61]⟩ : ByteArray)] from rfl) (Reps.one (show Kd.M Kd.string _ _ _ (⟨#[62, 61]⟩ : ByteArray) [.string (⟨#[62, 61]⟩ : ByteArray)] from rfl) (Reps.one (show Kd.M Kd.string _ _ _ (⟨#[38, 38]⟩ : ByteArray) [.string (⟨#[38, 38]⟩ : ByteArray)] from rfl) (Reps.one (show Kd.M Kd.string _ _ _ (⟨#[124, 124]⟩ : ByteArray) [.string (⟨#[124, 124]⟩ : ByteArray)] from rfl) (Reps.none _ _)))))))); intro v234 w3 ho4 hb hg_ hnew_; clear hg_ hnew_; (first | rw [← Ny233.out] at ho4 | (simp only [Int.reduceToNat] at ho4; rw [← Ny233.out] at ho4)); have n0_ := zaa.mk (Kd.zbG ho4 (zaB (by repeat (first | exact HB.out | apply zad | apply zac | apply zae)))); have n1_ := zaa.mk (zaG (by repeat (first | exact HB.out | apply zad | apply zac | apply zae)) hb); clear HB; have HO235 := n0_; have HB := n1_; clear n0_ n1_; clear hb ho4) | ((with_reducible refine za7 (N := 13) rfl ?_); refine Kd.R_lit (Kd.int .u8) _ 5 ?hg (N := 13) ?hd (xs := ([27, 28, 30, 32, 39, 40] : List Int)) (inner := [.int .u8 27, .int .u8 28, .int .u8 30, .int .u8 32, .int .u8 39, .int .u8 40]) (ok := fun _ => True) (okp := fun _ => True) ?hr ?hp (fun _ hk => hk) trivial (Below.refl _ _) (Nat.le_refl _) (by simp) ?_; (case hd => rfl); (case hg => rfl); (case hr => first | (go_simp; done) | (go_simp; rfl)); (case hp => exact (Reps.one (show Kd.M (Kd.int .u8) _ _ _ 27 [.int .u8 27] from rfl) (Reps.one (show Kd.M (Kd.int .u8) _ _ _ 28 [.int .u8 28] from rfl) (Reps.one (show Kd.M (Kd.int .u8) _ _ _ 30 [.int .u8 30] from rfl) (Reps.one (show Kd.M (Kd.int .u8) _ _ _ 32 [.int .u8 32] from rfl) (Reps.one (show Kd.M (Kd.int .u8) _ _ _ 39 [.int .u8 39] from rfl) (Reps.one (show Kd.M (Kd.int .u8) _ _ _ 40 [.int .u8 40] from rfl) (Reps.none _ _)))))))); intro v237 w5 ho6 hb hg_ hnew_; clear hg_ hnew_; (first | rw [← Ny236.out] at ho6 | (simp only [Int.reduceToNat] at ho6; rw [← Ny236.out] at ho6)); have n0_ := zaa.mk (Kd.zbT (by (with_reducible repeat (first | apply Kd.za3 | apply Kd.za2 | apply Kd.za8)); exact HO235.out) hb); have n1_ := zaa.mk (Kd.zbG ho6 (zaB (by repeat (first | exact HB.out | apply zad | apply zac | apply zae)))); have n2_ := zaa.mk (zaG (by repeat (first | exact HB.out | apply zad | apply zac | apply zae)) hb); clear HO235; clear HB; have HO235 := n0_; have HO238 := n1_; have HB := n2_; clear n0_ n1_ n2_; clear hb ho6)); try go_wp2_with (first | ((with_reducible refine za7 (N := 12) rfl ?_); refine Kd.R_lit Kd.string _ 9 ?hg (N := 12) ?hd (xs := ([(⟨#[61, 61]⟩ : ByteArray), (⟨#[33, 61]⟩ : ByteArray), (⟨#[60, 61]⟩ : ByteArray), (⟨#[62, 61]⟩ : ByteArray), (⟨#[38, 38]⟩ : ByteArray), (⟨#[124, 124]⟩ : ByteArray)] : List ByteArray)) (inner := [.string (⟨#[61, 61]⟩ : ByteArray), .string (⟨#[33, 61]⟩ : ByteArray), .string (⟨#[60, 61]⟩ : ByteArray), .string (⟨#[62, 61]⟩ : ByteArray), .string (⟨#[38, 38]⟩ : ByteArray), .string (⟨#[124, 124]⟩ : ByteArray)]) (ok := fun _ => True) (okp := fun _ => True) ?hr ?hp (fun _ hk => hk) trivial (Below.refl _ _) (Nat.le_refl _) (by simp) ?_; (case hd => rfl); (case hg => rfl); (case hr => first | (go_simp; done) | (go_simp; rfl)); (case hp => exact (Reps.one (show Kd.M Kd.string _ _ _ (⟨#[61, 61]⟩ : ByteArray) [.string (⟨#[61, 61]⟩ : ByteArray)] from rfl) (Reps.one (show Kd.M Kd.string _ _ _ (⟨#[33, 61]⟩ : ByteArray) [.string (⟨#[33, 61]⟩ : ByteArray)] from rfl) (Reps.one (show Kd.M Kd.string _ _ _ (⟨#[60, 61]⟩ : ByteArray) [.string (⟨#[60, 61]⟩ : ByteArray)] from rfl) (Reps.one (show Kd.M Kd.string _ _ _ (⟨#[62, 61]⟩ : ByteArray) [.string (⟨#[62, 61]⟩ : ByteArray)] from rfl) (Reps.one (show Kd.M Kd.string _ _ _ (⟨#[38, 38]⟩ : ByteArray) [.string (⟨#[38, 38]⟩ : ByteArray)] from rfl) (Reps.one (show Kd.M Kd.string _ _ _ (⟨#[124, 124]⟩ : ByteArray) [.string (⟨#[124, 124]⟩ : ByteArray)] from rfl) (Reps.none _ _)))))))); intro v234 w3 ho4 hb hg_ hnew_; clear hg_ hnew_; (first | rw [← Ny233.out] at ho4 | (simp only [Int.reduceToNat] at ho4; rw [← Ny233.out] at ho4)); have n0_ := zaa.mk (Kd.zbG ho4 (zaB (by repeat (first | exact HB.out | apply zad | apply zac | apply zae)))); have n1_ := zaa.mk (zaG (by repeat (first | exact HB.out | apply zad | apply zac | apply zae)) hb); clear HB; have HO235 := n0_; have HB := n1_; clear n0_ n1_; clear hb ho4) | ((with_reducible refine za7 (N := 13) rfl ?_); refine Kd.R_lit (Kd.int .u8) _ 5 ?hg (N := 13) ?hd (xs := ([27, 28, 30, 32, 39, 40] : List Int)) (inner := [.int .u8 27, .int .u8 28, .int .u8 30, .int .u8 32, .int .u8 39, .int .u8 40]) (ok := fun _ => True) (okp := fun _ => True) ?hr ?hp (fun _ hk => hk) trivial (Below.refl _ _) (Nat.le_refl _) (by simp) ?_; (case hd => rfl); (case hg => rfl); (case hr => first | (go_simp; done) | (go_simp; rfl)); (case hp => exact (Reps.one (show Kd.M (Kd.int .u8) _ _ _ 27 [.int .u8 27] from rfl) (Reps.one (show Kd.M (Kd.int .u8) _ _ _ 28 [.int .u8 28] from rfl) (Reps.one (show Kd.M (Kd.int .u8) _ _ _ 30 [.int .u8 30] from rfl) (Reps.one (show Kd.M (Kd.int .u8) _ _ _ 32 [.int .u8 32] from rfl) (Reps.one (show Kd.M (Kd.int .u8) _ _ _ 39 [.int .u8 39] from rfl) (Reps.one (show Kd.M (Kd.int .u8) _ _ _ 40 [.int .u8 40] from rfl) (Reps.none _ _)))))))); intro v237 w5 ho6 hb hg_ hnew_; clear hg_ hnew_; (first | rw [← Ny236.out] at ho6 | (simp only [Int.reduceToNat] at ho6; rw [← Ny236.out] at ho6)); have n0_ := zaa.mk (Kd.zbT (by (with_reducible repeat (first | apply Kd.za3 | apply Kd.za2 | apply Kd.za8)); exact HO235.out) hb); have n1_ := zaa.mk (Kd.zbG ho6 (zaB (by repeat (first | exact HB.out | apply zad | apply zac | apply zae)))); have n2_ := zaa.mk (zaG (by repeat (first | exact HB.out | apply zad | apply zac | apply zae)) hb); clear HO235; clear HB; have HO235 := n0_; have HO238 := n1_; have HB := n2_; clear n0_ n1_ n2_; clear hb ho6)))
 go_loopg [8] k (fun kq v8 w' => ∃ (x8_1 : Int), v8 = .int .i64 x8_1 ∧ zaa (zaz.l0 kq a0 a1 y233 y236 x8_1 = some (r1, r2)) ∧ zaa (kq ≤ k) ∧ zaa (Kd.R Kd.string 9 w' w.heap.size (fun _ => True) v234 y233) ∧ zaa (Kd.R (Kd.int .u8) 5 w' w.heap.size (fun _ => True) v237 y236) ∧ zaa (Below w.heap.size w w'))
 case atStart => exact ⟨(0), (by first | rfl | (simp; done) | (simp [*]; done)), H', ⟨Nat.le_refl _⟩, ⟨by (with_reducible repeat (first | apply Kd.za3 | apply Kd.za2 | apply Kd.za8)); exact HO235.out⟩, ⟨by (with_reducible repeat (first | apply Kd.za3 | apply Kd.za2 | apply Kd.za8)); exact HO238.out⟩, ⟨by repeat (first | exact HB.out | apply zad | apply zac | apply zae)⟩⟩
 case round =>
  clear H'; try clear p2
  try clear c3
  obtain ⟨x8_1, rfl, HA, HK1, HO_6, HO_7, HB⟩ := hrel; cases gk with
  | zero => exact absurd HA.out (by simp [zaz.l0])
  | succ k1 =>
   have H := HA.out; clear HA; simp only [zaz.l0] at H; by_cases c7 : x8_1 < (y233.length : Int)
   ·rw [if_pos c7] at H
    have c7b0 : decide (x8_1 < (y233.length : Int)) = true := decide_eq_true c7; clear c7; by_cases c8 : (wrap64 (a1 + 2)) ≤ (a0.size : Int)
    ·rw [if_pos c8] at H
     have c8b0 : decide ((wrap64 (a1 + 2)) ≤ (a0.size : Int)) = true := decide_eq_true c8; clear c8; by_cases c9 : 0 ≤ a1
     ·rw [if_pos c9] at H
      have c9b0 := eq_true c9; have c9b1 : decide (0 ≤ a1) = true := decide_eq_true c9; clear c9; by_cases c10 : a1 ≤ (wrap64 (a1 + 2))
      ·rw [if_pos c10] at H
       have c10b0 := eq_true c10; have c10b1 : decide (a1 ≤ (wrap64 (a1 + 2))) = true := decide_eq_true c10; have c11b0 := eq_true (of_decide_eq_true (by assumption) : (wrap64 (a1 + 2)) ≤ (a0.size : Int))
       by_cases c12 : 0 ≤ x8_1
       ·rw [if_pos c12] at H
        have c12b0 : decide (0 ≤ x8_1) = true := decide_eq_true c12; clear c12; by_cases c13 : (a0.extract (a1 : Int).toNat ((wrap64 (a1 + 2)) : Int).toNat).toList = (rdOf ByteArray.empty y233 x8_1).toList
        ·rw [if_pos c13] at H
         have c13b0 : ((a0.extract (a1 : Int).toNat ((wrap64 (a1 + 2)) : Int).toNat).toList == (rdOf ByteArray.empty y233 x8_1).toList) = true := beq_iff_eq.mpr c13; have c13b1 : ((a0.extract (a1 : Int).toNat ((wrap64 (a1 + 2)) : Int).toNat).toList != (rdOf ByteArray.empty y233 x8_1).toList) = false := bne_eq_false_iff_eq.mpr c13; clear c13; by_cases c14 : x8_1 < (y236.length : Int)
         ·rw [if_pos c14] at H
          have c14b0 : decide (x8_1 < (y236.length : Int)) = true := decide_eq_true c14; clear c14; simp only [Option.some.injEq, Prod.mk.injEq] at H; obtain ⟨rfl, rfl⟩ := H; obtain ⟨Ao15, co15, eo15⟩ := Kd.zbB HO_6.out; subst eo15; have p239 : 0 ≤ (x8_1 : Int) := of_decide_eq_true (by assumption)
          have q239 : x8_1 < (y233.length : Int) := of_decide_eq_true (by assumption)
          obtain ⟨ad239, e239, hx239_0⟩ := Kd.at_string (Kd.zbt HO_6.out).2.2 x8_1 p239 q239; cases e239; replace p239 := eq_true p239; replace q239 := eq_true q239; obtain ⟨Ao16, co16, eo16⟩ := Kd.zbB HO_7.out; subst eo16; have p240 : 0 ≤ (x8_1 : Int) := of_decide_eq_true (by assumption)
          have q240 : x8_1 < (y236.length : Int) := of_decide_eq_true (by assumption)
          obtain ⟨ad240, e240, hx240_0⟩ := Kd.at_int (Kd.zbt HO_7.out).2.2 x8_1 p240 q240; cases e240; replace p240 := eq_true p240; replace q240 := eq_true q240; go_wp2
          repeat (go_quiet (fail); try go_wp2)
          go_ret2
          exact ⟨by first | rfl | (simp [*, zaF, zaE] <;> rfl), by repeat (first | exact HB.out | apply zad | apply zac | apply zae)⟩
         ·rw [if_neg c14] at H
          exact absurd H (by simp)
        ·rw [if_neg c13] at H
         have c13b0 : ((a0.extract (a1 : Int).toNat ((wrap64 (a1 + 2)) : Int).toNat).toList == (rdOf ByteArray.empty y233 x8_1).toList) = false := beq_eq_false_iff_ne.mpr c13; have c13b1 : ((a0.extract (a1 : Int).toNat ((wrap64 (a1 + 2)) : Int).toNat).toList != (rdOf ByteArray.empty y233 x8_1).toList) = true := bne_iff_ne.mpr c13; have H' := zaa.mk H; clear H; obtain ⟨Ao17, co17, eo17⟩ := Kd.zbB HO_6.out; subst eo17; have p239 : 0 ≤ (x8_1 : Int) := of_decide_eq_true (by assumption)
         have q239 : x8_1 < (y233.length : Int) := of_decide_eq_true (by assumption)
         obtain ⟨ad239, e239, hx239_0⟩ := Kd.at_string (Kd.zbt HO_6.out).2.2 x8_1 p239 q239; cases e239; replace p239 := eq_true p239; replace q239 := eq_true q239; go_wp2
         repeat (go_quiet (fail); try go_wp2)
         go_roundg k1
         case measure => have := HK1.out; omega
         case rel => exact ⟨(wrap64 (x8_1 + 1)), (by first | rfl | (simp; done) | (simp [*]; done)), H', ⟨by have := HK1.out; omega⟩, ⟨by (with_reducible repeat (first | apply Kd.za3 | apply Kd.za2 | apply Kd.za8)); exact HO_6.out⟩, ⟨by (with_reducible repeat (first | apply Kd.za3 | apply Kd.za2 | apply Kd.za8)); exact HO_7.out⟩, ⟨by repeat (first | exact HB.out | apply zad | apply zac | apply zae)⟩⟩
       ·rw [if_neg c12] at H
        exact absurd H (by simp)
      ·rw [if_neg c10] at H
       exact absurd H (by simp)
     ·rw [if_neg c9] at H
      exact absurd H (by simp)
    ·rw [if_neg c8] at H
     have c8b0 : decide ((wrap64 (a1 + 2)) ≤ (a0.size : Int)) = false := decide_eq_false c8; clear c8; have H' := zaa.mk H; clear H; obtain ⟨Ao18, co18, eo18⟩ := Kd.zbB HO_6.out; subst eo18; go_wp2
     repeat (go_quiet (fail); try go_wp2)
     go_roundg k1
     case measure => have := HK1.out; omega
     case rel => exact ⟨(wrap64 (x8_1 + 1)), (by first | rfl | (simp; done) | (simp [*]; done)), H', ⟨by have := HK1.out; omega⟩, ⟨by (with_reducible repeat (first | apply Kd.za3 | apply Kd.za2 | apply Kd.za8)); exact HO_6.out⟩, ⟨by (with_reducible repeat (first | apply Kd.za3 | apply Kd.za2 | apply Kd.za8)); exact HO_7.out⟩, ⟨by repeat (first | exact HB.out | apply zad | apply zac | apply zae)⟩⟩
   ·rw [if_neg c7] at H
    have c7b0 : decide (x8_1 < (y233.length : Int)) = false := decide_eq_false c7; clear c7; obtain ⟨y241, hy241⟩ : ∃ y_ : List Int, y_ = (([20, 21, 22, 23, 24, 25, 26, 29, 31, 33, 34, 35, 37, 38] : List Int)) := ⟨_, rfl⟩; replace H : (zaz.l1 k1 a0 a1 (⟨#[40, 41, 123, 125, 44, 59, 61, 60, 62, 43, 45, 42, 37, 33]⟩ : ByteArray) y241 0) = some (r1, r2) := by first | (rw [hy241]; with_reducible exact H) | (have H2_ := (Option.bind_some _ _).symm.trans H; rw [hy241]; with_reducible exact H2_) | (have H2_ := (Option.bind_some _ _).symm.trans H; with_reducible exact H2_) | with_reducible exact H | (rw [hy241]; exact H) | exact H
    have Ny241 := zaa.mk hy241; clear hy241; have H' := zaa.mk H; clear H; obtain ⟨Ao19, co19, eo19⟩ := Kd.zbB HO_6.out; subst eo19; go_wp2_with (first | ((with_reducible refine za7 (N := 43) rfl ?_); refine Kd.R_lit (Kd.int .u8) _ 5 ?hg (N := 43) ?hd (xs := ([20, 21, 22, 23, 24, 25, 26, 29, 31, 33, 34, 35, 37, 38] : List Int)) (inner := [.int .u8 20, .int .u8 21, .int .u8 22, .int .u8 23, .int .u8 24, .int .u8 25, .int .u8 26, .int .u8 29, .int .u8 31, .int .u8 33, .int .u8 34, .int .u8 35, .int .u8 37, .int .u8 38]) (ok := fun _ => True) (okp := fun _ => True) ?hr ?hp (fun _ hk => hk) trivial (Below.refl _ _) (Nat.le_refl _) (by simp) ?_; (case hd => rfl); (case hg => rfl); (case hr => first | (go_simp; done) | (go_simp; rfl)); (case hp => exact (Reps.one (show Kd.M (Kd.int .u8) _ _ _ 20 [.int .u8 20] from rfl) (Reps.one (show Kd.M (Kd.int .u8) _ _ _ 21 [.int .u8 21] from rfl) (Reps.one (show Kd.M (Kd.int .u8) _ _ _ 22 [.int .u8 22] from rfl) (Reps.one (show Kd.M (Kd.int .u8) _ _ _ 23 [.int .u8 23] from rfl) (Reps.one (show Kd.M (Kd.int .u8) _ _ _ 24 [.int .u8 24] from rfl) (Reps.one (show Kd.M (Kd.int .u8) _ _ _ 25 [.int .u8 25] from rfl) (Reps.one (show Kd.M (Kd.int .u8) _ _ _ 26 [.int .u8 26] from rfl) (Reps.one (show Kd.M (Kd.int .u8) _ _ _ 29 [.int .u8 29] from rfl) (Reps.one (show Kd.M (Kd.int .u8) _ _ _ 31 [.int .u8 31] from rfl) (Reps.one (show Kd.M (Kd.int .u8) _ _ _ 33 [.int .u8 33] from rfl) (Reps.one (show Kd.M (Kd.int .u8) _ _ _ 34 [.int .u8 34] from rfl) (Reps.one (show Kd.M (Kd.int .u8) _ _ _ 35 [.int .u8 35] from rfl) (Reps.one (show Kd.M (Kd.int .u8) _ _ _ 37 [.int .u8 37] from rfl) (Reps.one (show Kd.M (Kd.int .u8) _ _ _ 38 [.int .u8 38] from rfl) (Reps.none _ _)))))))))))))))); intro v242 w20 ho21 hb hg_ hnew_; clear hg_ hnew_; (first | rw [← Ny241.out] at ho21 | (simp only [Int.reduceToNat] at ho21; rw [← Ny241.out] at ho21)); have n0_ := zaa.mk (Kd.zbT (by (with_reducible repeat (first | apply Kd.za3 | apply Kd.za2 | apply Kd.za8)); exact HO_6.out) hb); have n1_ := zaa.mk (Kd.R_elder' (by (with_reducible repeat (first | apply Kd.za3 | apply Kd.za2 | apply Kd.za8)); exact HO_7.out) (Kd.R_base ho21) hb); have n2_ := zaa.mk (Kd.zbG (Kd.R_new' ho21 (Kd.R_lt (by (with_reducible repeat (first | apply Kd.za3 | apply Kd.za2 | apply Kd.za8)); exact HO_7.out))) (zaB (by repeat (first | exact HB.out | apply zad | apply zac | apply zae)))); have n3_ := zaa.mk (zaG (by repeat (first | exact HB.out | apply zad | apply zac | apply zae)) hb); clear HO_6; clear HO_7; clear HB; have HO_6 := n0_; have HO_7 := n1_; have HO243 := n2_; have HB := n3_; clear n0_ n1_ n2_ n3_; clear hb ho21))
    repeat (go_quiet (first | ((with_reducible refine za7 (N := 43) rfl ?_); refine Kd.R_lit (Kd.int .u8) _ 5 ?hg (N := 43) ?hd (xs := ([20, 21, 22, 23, 24, 25, 26, 29, 31, 33, 34, 35, 37, 38] : List Int)) (inner := [.int .u8 20, .int .u8 21, .int .u8 22, .int .u8 23, .int .u8 24, .int .u8 25, .int .u8 26, .int .u8 29, .int .u8 31, .int .u8 33, .int .u8 34, .int .u8 35, .int .u8 37, .int .u8 38]) (ok := fun _ => True) (okp := fun _ => True) ?hr ?hp (fun _ hk => hk) trivial (Below.refl _ _) (Nat.le_refl _) (by simp) ?_; (case hd => rfl); (case hg => rfl); (case hr => first | (go_simp; done) | (go_simp; rfl)); (case hp => exact (Reps.one (show Kd.M (Kd.int .u8) _ _ _ 20 [.int .u8 20] from rfl) (Reps.one (show Kd.M (Kd.int .u8) _ _ _ 21 [.int .u8 21] from rfl) (Reps.one (show Kd.M (Kd.int .u8) _ _ _ 22 [.int .u8 22] from rfl) (Reps.one (show Kd.M (Kd.int .u8) _ _ _ 23 [.int .u8 23] from rfl) (Reps.one (show Kd.M (Kd.int .u8) _ _ _ 24 [.int .u8 24] from rfl) (Reps.one (show Kd.M (Kd.int .u8) _ _ _ 25 [.int .u8 25] from rfl) (Reps.one (show Kd.M (Kd.int .u8) _ _ _ 26 [.int .u8 26] from rfl) (Reps.one (show Kd.M (Kd.int .u8) _ _ _ 29 [.int .u8 29] from rfl) (Reps.one (show Kd.M (Kd.int .u8) _ _ _ 31 [.int .u8 31] from rfl) (Reps.one (show Kd.M (Kd.int .u8) _ _ _ 33 [.int .u8 33] from rfl) (Reps.one (show Kd.M (Kd.int .u8) _ _ _ 34 [.int .u8 34] from rfl) (Reps.one (show Kd.M (Kd.int .u8) _ _ _ 35 [.int .u8 35] from rfl) (Reps.one (show Kd.M (Kd.int .u8) _ _ _ 37 [.int .u8 37] from rfl) (Reps.one (show Kd.M (Kd.int .u8) _ _ _ 38 [.int .u8 38] from rfl) (Reps.none _ _)))))))))))))))); intro v242 w20 ho21 hb hg_ hnew_; clear hg_ hnew_; (first | rw [← Ny241.out] at ho21 | (simp only [Int.reduceToNat] at ho21; rw [← Ny241.out] at ho21)); have n0_ := zaa.mk (Kd.zbT (by (with_reducible repeat (first | apply Kd.za3 | apply Kd.za2 | apply Kd.za8)); exact HO_6.out) hb); have n1_ := zaa.mk (Kd.R_elder' (by (with_reducible repeat (first | apply Kd.za3 | apply Kd.za2 | apply Kd.za8)); exact HO_7.out) (Kd.R_base ho21) hb); have n2_ := zaa.mk (Kd.zbG (Kd.R_new' ho21 (Kd.R_lt (by (with_reducible repeat (first | apply Kd.za3 | apply Kd.za2 | apply Kd.za8)); exact HO_7.out))) (zaB (by repeat (first | exact HB.out | apply zad | apply zac | apply zae)))); have n3_ := zaa.mk (zaG (by repeat (first | exact HB.out | apply zad | apply zac | apply zae)) hb); clear HO_6; clear HO_7; clear HB; have HO_6 := n0_; have HO_7 := n1_; have HO243 := n2_; have HB := n3_; clear n0_ n1_ n2_ n3_; clear hb ho21)); try go_wp2_with (first | ((with_reducible refine za7 (N := 43) rfl ?_); refine Kd.R_lit (Kd.int .u8) _ 5 ?hg (N := 43) ?hd (xs := ([20, 21, 22, 23, 24, 25, 26, 29, 31, 33, 34, 35, 37, 38] : List Int)) (inner := [.int .u8 20, .int .u8 21, .int .u8 22, .int .u8 23, .int .u8 24, .int .u8 25, .int .u8 26, .int .u8 29, .int .u8 31, .int .u8 33, .int .u8 34, .int .u8 35, .int .u8 37, .int .u8 38]) (ok := fun _ => True) (okp := fun _ => True) ?hr ?hp (fun _ hk => hk) trivial (Below.refl _ _) (Nat.le_refl _) (by simp) ?_; (case hd => rfl); (case hg => rfl); (case hr => first | (go_simp; done) | (go_simp; rfl)); (case hp => exact (Reps.one (show Kd.M (Kd.int .u8) _ _ _ 20 [.int .u8 20] from rfl) (Reps.one (show Kd.M (Kd.int .u8) _ _ _ 21 [.int .u8 21] from rfl) (Reps.one (show Kd.M (Kd.int .u8) _ _ _ 22 [.int .u8 22] from rfl) (Reps.one (show Kd.M (Kd.int .u8) _ _ _ 23 [.int .u8 23] from rfl) (Reps.one (show Kd.M (Kd.int .u8) _ _ _ 24 [.int .u8 24] from rfl) (Reps.one (show Kd.M (Kd.int .u8) _ _ _ 25 [.int .u8 25] from rfl) (Reps.one (show Kd.M (Kd.int .u8) _ _ _ 26 [.int .u8 26] from rfl) (Reps.one (show Kd.M (Kd.int .u8) _ _ _ 29 [.int .u8 29] from rfl) (Reps.one (show Kd.M (Kd.int .u8) _ _ _ 31 [.int .u8 31] from rfl) (Reps.one (show Kd.M (Kd.int .u8) _ _ _ 33 [.int .u8 33] from rfl) (Reps.one (show Kd.M (Kd.int .u8) _ _ _ 34 [.int .u8 34] from rfl) (Reps.one (show Kd.M (Kd.int .u8) _ _ _ 35 [.int .u8 35] from rfl) (Reps.one (show Kd.M (Kd.int .u8) _ _ _ 37 [.int .u8 37] from rfl) (Reps.one (show Kd.M (Kd.int .u8) _ _ _ 38 [.int .u8 38] from rfl) (Reps.none _ _)))))))))))))))); intro v242 w20 ho21 hb hg_ hnew_; clear hg_ hnew_; (first | rw [← Ny241.out] at ho21 | (simp only [Int.reduceToNat] at ho21; rw [← Ny241.out] at ho21)); have n0_ := zaa.mk (Kd.zbT (by (with_reducible repeat (first | apply Kd.za3 | apply Kd.za2 | apply Kd.za8)); exact HO_6.out) hb); have n1_ := zaa.mk (Kd.R_elder' (by (with_reducible repeat (first | apply Kd.za3 | apply Kd.za2 | apply Kd.za8)); exact HO_7.out) (Kd.R_base ho21) hb); have n2_ := zaa.mk (Kd.zbG (Kd.R_new' ho21 (Kd.R_lt (by (with_reducible repeat (first | apply Kd.za3 | apply Kd.za2 | apply Kd.za8)); exact HO_7.out))) (zaB (by repeat (first | exact HB.out | apply zad | apply zac | apply zae)))); have n3_ := zaa.mk (zaG (by repeat (first | exact HB.out | apply zad | apply zac | apply zae)) hb); clear HO_6; clear HO_7; clear HB; have HO_6 := n0_; have HO_7 := n1_; have HO243 := n2_; have HB := n3_; clear n0_ n1_ n2_ n3_; clear hb ho21)))
    go_loopg [11] k1 (fun kq v11 w' => ∃ (x11_2 : Int), v11 = .int .i64 x11_2 ∧ zaa (zaz.l1 kq a0 a1 (⟨#[40, 41, 123, 125, 44, 59, 61, 60, 62, 43, 45, 42, 37, 33]⟩ : ByteArray) y241 x11_2 = some (r1, r2)) ∧ zaa (kq ≤ k1) ∧ zaa (Kd.R (Kd.int .u8) 5 w' w.heap.size (fun _ => True) v242 y241) ∧ zaa (Below w.heap.size w w'))
    case atStart => exact ⟨(0), (by first | rfl | (simp; done) | (simp [*]; done)), H', ⟨Nat.le_refl _⟩, ⟨by (with_reducible repeat (first | apply Kd.za3 | apply Kd.za2 | apply Kd.za8)); exact Kd.zbV HO243.out (fun _ hk => trivial)⟩, ⟨by repeat (first | exact HB.out | apply zad | apply zac | apply zae)⟩⟩
    case round =>
     clear H'; try clear c1
     try clear p2
     try clear q2
     try clear hx2
     try clear c3
     try clear p6
     try clear c7
     try clear c7b0
     try clear c8
     try clear c8b0
     try clear c9
     try clear c9b0
     try clear c9b1
     try clear c10
     try clear c10b0
     try clear c10b1
     try clear c11
     try clear c11b0
     try clear c12
     try clear c12b0
     try clear c13
     try clear c13b0
     try clear c13b1
     try clear c14
     try clear c14b0
     try clear hx239_0
     try clear hx240_0
     try clear p2
     try clear p239
     try clear p240
     try clear q239
     try clear q240
     obtain ⟨x11_2, rfl, HA, HK2, HO_10, HB⟩ := hrel; cases gk with
     | zero => exact absurd HA.out (by simp [zaz.l1])
     | succ k2 =>
      have H := HA.out; clear HA; simp only [zaz.l1] at H; by_cases c22 : x11_2 < ((⟨#[40, 41, 123, 125, 44, 59, 61, 60, 62, 43, 45, 42, 37, 33]⟩ : ByteArray).size : Int)
      ·rw [if_pos c22] at H
       have c22b0 : decide (x11_2 < ((⟨#[40, 41, 123, 125, 44, 59, 61, 60, 62, 43, 45, 42, 37, 33]⟩ : ByteArray).size : Int)) = true := decide_eq_true c22; have c22b0n : decide (x11_2 < 14) = true := c22b0; clear c22; by_cases c23 : 0 ≤ a1
       ·rw [if_pos c23] at H
        have c23b0 : decide (0 ≤ a1) = true := decide_eq_true c23; clear c23; by_cases c24 : a1 < (a0.size : Int)
        ·rw [if_pos c24] at H
         have c24b0 : decide (a1 < (a0.size : Int)) = true := decide_eq_true c24; clear c24; by_cases c26 : 0 ≤ x11_2
         ·rw [if_pos c26] at H
          have c26b0 : decide (0 ≤ x11_2) = true := decide_eq_true c26; clear c26; by_cases c28 : (bt a0 a1) = (bt (⟨#[40, 41, 123, 125, 44, 59, 61, 60, 62, 43, 45, 42, 37, 33]⟩ : ByteArray) x11_2)
          ·rw [if_pos c28] at H
           have c28b0 : ((bt a0 a1) == (bt (⟨#[40, 41, 123, 125, 44, 59, 61, 60, 62, 43, 45, 42, 37, 33]⟩ : ByteArray) x11_2)) = true := beq_iff_eq.mpr c28; have c28b1 : ((bt a0 a1) != (bt (⟨#[40, 41, 123, 125, 44, 59, 61, 60, 62, 43, 45, 42, 37, 33]⟩ : ByteArray) x11_2)) = false := bne_eq_false_iff_eq.mpr c28; clear c28; by_cases c29 : x11_2 < (y241.length : Int)
           ·rw [if_pos c29] at H
            have c29b0 : decide (x11_2 < (y241.length : Int)) = true := decide_eq_true c29; clear c29; simp only [Option.some.injEq, Prod.mk.injEq] at H; obtain ⟨rfl, rfl⟩ := H; have p25 : 0 ≤ (a1 : Int) := of_decide_eq_true (by assumption)
            have q25 : a1 < (a0.size : Int) := of_decide_eq_true (by assumption)
            have hx25 := bt_at a0 a1; replace p25 := eq_true p25; replace q25 := eq_true q25; have p27 : 0 ≤ (x11_2 : Int) := of_decide_eq_true (by assumption)
            have q27 : x11_2 < (14 : Int) := of_decide_eq_true (by assumption)
            have hx27 := bt_at (⟨#[40, 41, 123, 125, 44, 59, 61, 60, 62, 43, 45, 42, 37, 33]⟩ : ByteArray) x11_2; replace p27 := eq_true p27; replace q27 := eq_true q27; obtain ⟨Ao30, co30, eo30⟩ := Kd.zbB HO_10.out; subst eo30; have p244 : 0 ≤ (x11_2 : Int) := of_decide_eq_true (by assumption)
            have q244 : x11_2 < (y241.length : Int) := of_decide_eq_true (by assumption)
            obtain ⟨ad244, e244, hx244_0⟩ := Kd.at_int (Kd.zbt HO_10.out).2.2 x11_2 p244 q244; cases e244; replace p244 := eq_true p244; replace q244 := eq_true q244; go_wp2
            repeat (go_quiet (fail); try go_wp2)
            go_ret2
            exact ⟨by first | rfl | (simp [*, zaF, zaE] <;> rfl), by repeat (first | exact HB.out | apply zad | apply zac | apply zae)⟩
           ·rw [if_neg c29] at H
            exact absurd H (by simp)
          ·rw [if_neg c28] at H
           have c28b0 : ((bt a0 a1) == (bt (⟨#[40, 41, 123, 125, 44, 59, 61, 60, 62, 43, 45, 42, 37, 33]⟩ : ByteArray) x11_2)) = false := beq_eq_false_iff_ne.mpr c28; have c28b1 : ((bt a0 a1) != (bt (⟨#[40, 41, 123, 125, 44, 59, 61, 60, 62, 43, 45, 42, 37, 33]⟩ : ByteArray) x11_2)) = true := bne_iff_ne.mpr c28; have H' := zaa.mk H; clear H; have p25 : 0 ≤ (a1 : Int) := of_decide_eq_true (by assumption)
           have q25 : a1 < (a0.size : Int) := of_decide_eq_true (by assumption)
           have hx25 := bt_at a0 a1; replace p25 := eq_true p25; replace q25 := eq_true q25; have p27 : 0 ≤ (x11_2 : Int) := of_decide_eq_true (by assumption)
           have q27 : x11_2 < (14 : Int) := of_decide_eq_true (by assumption)
           have hx27 := bt_at (⟨#[40, 41, 123, 125, 44, 59, 61, 60, 62, 43, 45, 42, 37, 33]⟩ : ByteArray) x11_2; replace p27 := eq_true p27; replace q27 := eq_true q27; go_wp2
           repeat (go_quiet (fail); try go_wp2)
           go_roundg k2
           case measure => have := HK1.out; have := HK2.out; omega
           case rel => exact ⟨(wrap64 (x11_2 + 1)), (by first | rfl | (simp; done) | (simp [*]; done)), H', ⟨by have := HK1.out; have := HK2.out; omega⟩, ⟨by (with_reducible repeat (first | apply Kd.za3 | apply Kd.za2 | apply Kd.za8)); exact HO_10.out⟩, ⟨by repeat (first | exact HB.out | apply zad | apply zac | apply zae)⟩⟩
         ·rw [if_neg c26] at H
          exact absurd H (by simp)
        ·rw [if_neg c24] at H
         exact absurd H (by simp)
       ·rw [if_neg c23] at H
        exact absurd H (by simp)
      ·rw [if_neg c22] at H
       have c22b0 : decide (x11_2 < ((⟨#[40, 41, 123, 125, 44, 59, 61, 60, 62, 43, 45, 42, 37, 33]⟩ : ByteArray).size : Int)) = false := decide_eq_false c22; have c22b0n : decide (x11_2 < 14) = false := c22b0; clear c22; replace H := Option.bind_eq_some_iff.mp H; obtain ⟨t245, A310, H⟩ := H; replace H : (some (5, wrap64 (a1 + t245))) = some (r1, r2) := H; have A31 := zaa.mk A310; clear A310; simp only [Option.some.injEq, Prod.mk.injEq] at H; obtain ⟨rfl, rfl⟩ := H; go_wp2_with (first | (go_at_call 49; (with_reducible refine (zaT.calls k2 a0 a1 t245 _ A31.out).mono ?_); rintro e w32 ⟨rfl, hb⟩; have n0_ := zaa.mk (Kd.zbT (by (with_reducible repeat (first | apply Kd.za3 | apply Kd.za2 | apply Kd.za8)); exact HO_10.out) hb); have n1_ := zaa.mk (zaG (by repeat (first | exact HB.out | apply zad | apply zac | apply zae)) hb); clear HO_10; clear HB; have HO_10 := n0_; have HB := n1_; clear n0_ n1_; (try clear hb); (try clear hb2); (try clear hk); (try clear hi)))
       repeat (go_quiet (first | (go_at_call 49; (with_reducible refine (zaT.calls k2 a0 a1 t245 _ A31.out).mono ?_); rintro e w32 ⟨rfl, hb⟩; have n0_ := zaa.mk (Kd.zbT (by (with_reducible repeat (first | apply Kd.za3 | apply Kd.za2 | apply Kd.za8)); exact HO_10.out) hb); have n1_ := zaa.mk (zaG (by repeat (first | exact HB.out | apply zad | apply zac | apply zae)) hb); clear HO_10; clear HB; have HO_10 := n0_; have HB := n1_; clear n0_ n1_; (try clear hb); (try clear hb2); (try clear hk); (try clear hi))); try go_wp2_with (first | (go_at_call 49; (with_reducible refine (zaT.calls k2 a0 a1 t245 _ A31.out).mono ?_); rintro e w32 ⟨rfl, hb⟩; have n0_ := zaa.mk (Kd.zbT (by (with_reducible repeat (first | apply Kd.za3 | apply Kd.za2 | apply Kd.za8)); exact HO_10.out) hb); have n1_ := zaa.mk (zaG (by repeat (first | exact HB.out | apply zad | apply zac | apply zae)) hb); clear HO_10; clear HB; have HO_10 := n0_; have HB := n1_; clear n0_ n1_; (try clear hb); (try clear hb2); (try clear hk); (try clear hi))))
       go_ret2
       exact ⟨by first | rfl | (simp [*, zaF, zaE] <;> rfl), by repeat (first | exact HB.out | apply zad | apply zac | apply zae)⟩
mutual
def zao.l0 : Nat → ByteArray → Int → Option (Int × Int)
 | 0, _, _ => none
 | k + 1, x0, x7 => if x7 < (x0.size : Int) then (if 0 ≤ x7 then ((za6.f (bt x0 x7)).bind fun t247 => (if t247 = true then (zao.l0 k x0 (wrap64 (x7 + 1))) else (some (1, x7)))) else (none)) else (some (1, x7))
def zao.l1 : Nat → ByteArray → Int → Int → Option (Int × Int)
 | 0, _, _, _ => none
 | k + 1, x0, x1, x7 => if x7 < (x0.size : Int) then (if 0 ≤ x7 then ((za1.f (bt x0 x7)).bind fun t251 => (if t251 = true then (zao.l1 k x0 x1 (wrap64 (x7 + 1))) else ((zaY.f (bt x0 x7)).bind fun t252 => (if t252 = true then (zao.l1 k x0 x1 (wrap64 (x7 + 1))) else (if 0 ≤ x1 then (if x1 ≤ x7 then (if x7 ≤ (x0.size : Int) then ((zaK.f k (x0.extract (x1 : Int).toNat (x7 : Int).toNat)).bind fun t253 => (some (t253, x7))) else (none)) else (none)) else (none)))))) else (none)) else (if 0 ≤ x1 then (if x1 ≤ x7 then (if x7 ≤ (x0.size : Int) then ((zaK.f k (x0.extract (x1 : Int).toNat (x7 : Int).toNat)).bind fun t254 => (some (t254, x7))) else (none)) else (none)) else (none))
def zao.l2 : Nat → ByteArray → Int → Option (Int × Int)
 | 0, _, _ => none
 | k + 1, x0, x7 => if x7 < (x0.size : Int) then (if 0 ≤ x7 then ((zaY.f (bt x0 x7)).bind fun t256 => (if t256 = true then (zao.l2 k x0 (wrap64 (x7 + 1))) else (some (7, x7)))) else (none)) else (some (7, x7))
end
def zao.f (k : Nat) (a0 : ByteArray) (a1 : Int) : Option (Int × Int) := if 0 ≤ a1 then (if a1 < (a0.size : Int) then ((za6.f (bt a0 a1)).bind fun t246 => (if t246 = true then (zao.l0 k a0 a1) else (if (bt a0 a1) = 47 then ((zal.f k a0 a1).bind fun bt248 => (some (bt248.1, bt248.2))) else ((za1.f (bt a0 a1)).bind fun t250 => (if t250 = true then (zao.l1 k a0 a1 a1) else ((zaY.f (bt a0 a1)).bind fun t255 => (if t255 = true then (zao.l2 k a0 a1) else (if (bt a0 a1) = 34 then ((zat.f k a0 a1).bind fun bt257 => (some (bt257.1, bt257.2))) else ((zaz.f k a0 a1).bind fun bt259 => (some (bt259.1, bt259.2))))))))))) else (none)) else (none)
theorem zao.zbr : ∀ k, (∀ y0 y1, LeO (zao.l0 k y0 y1) (zao.l0 (k + 1) y0 y1)) ∧ (∀ y0 y1 y2, LeO (zao.l1 k y0 y1 y2) (zao.l1 (k + 1) y0 y1 y2)) ∧ (∀ y0 y1, LeO (zao.l2 k y0 y1) (zao.l2 (k + 1) y0 y1))
 | 0 => ⟨fun _ _ r h => by simp [zao.l0] at h, fun _ _ _ r h => by simp [zao.l1] at h, fun _ _ r h => by simp [zao.l2] at h⟩
 | k + 1 => by
  obtain ⟨ih0, ih1, ih2⟩ := zao.zbr k; refine ⟨?_, ?_, ?_⟩
  ·intro y0 y1
   unfold zao.l0
   repeat' first
   | (with_reducible exact ih0 _ _)
   | (with_reducible exact ih1 _ _ _)
   | (with_reducible exact ih2 _ _)
   | (with_reducible exact zaK.mono _ _)
   | (with_reducible exact zat.mono _ _ _)
   | (with_reducible exact zaz.mono _ _ _)
   | (with_reducible exact zal.mono _ _ _)
   | (with_reducible exact LeO.refl _)
   | (with_reducible exact LeO.none _)
   | (with_reducible refine LeO.ite ?_ ?_)
   | (with_reducible refine LeO.bind ?_ (fun _ => ?_))
   | exact ih0 _ _
   | exact ih1 _ _ _
   | exact ih2 _ _
   | exact zaK.mono _ _
   | exact zat.mono _ _ _
   | exact zaz.mono _ _ _
   | exact zal.mono _ _ _
   | exact LeO.none _
   | refine LeO.ite ?_ ?_
   | refine LeO.bind ?_ (fun _ => ?_)
  ·intro y0 y1 y2
   unfold zao.l1
   repeat' first
   | (with_reducible exact ih0 _ _)
   | (with_reducible exact ih1 _ _ _)
   | (with_reducible exact ih2 _ _)
   | (with_reducible exact zaK.mono _ _)
   | (with_reducible exact zat.mono _ _ _)
   | (with_reducible exact zaz.mono _ _ _)
   | (with_reducible exact zal.mono _ _ _)
   | (with_reducible exact LeO.refl _)
   | (with_reducible exact LeO.none _)
   | (with_reducible refine LeO.ite ?_ ?_)
   | (with_reducible refine LeO.bind ?_ (fun _ => ?_))
   | exact ih0 _ _
   | exact ih1 _ _ _
   | exact ih2 _ _
   | exact zaK.mono _ _
   | exact zat.mono _ _ _
   | exact zaz.mono _ _ _
   | exact zal.mono _ _ _
   | exact LeO.none _
   | refine LeO.ite ?_ ?_
   | refine LeO.bind ?_ (fun _ => ?_)
  ·intro y0 y1
   unfold zao.l2
   repeat' first
   | (with_reducible exact ih0 _ _)
   | (with_reducible exact ih1 _ _ _)
   | (with_reducible exact ih2 _ _)
   | (with_reducible exact zaK.mono _ _)
   | (with_reducible exact zat.mono _ _ _)
   | (with_reducible exact zaz.mono _ _ _)
   | (with_reducible exact zal.mono _ _ _)
   | (with_reducible exact LeO.refl _)
   | (with_reducible exact LeO.none _)
   | (with_reducible refine LeO.ite ?_ ?_)
   | (with_reducible refine LeO.bind ?_ (fun _ => ?_))
   | exact ih0 _ _
   | exact ih1 _ _ _
   | exact ih2 _ _
   | exact zaK.mono _ _
   | exact zat.mono _ _ _
   | exact zaz.mono _ _ _
   | exact zal.mono _ _ _
   | exact LeO.none _
   | refine LeO.ite ?_ ?_
   | refine LeO.bind ?_ (fun _ => ?_)
theorem zao.mono : ∀ a0 a1 k, LeO (zao.f k a0 a1) (zao.f (k + 1) a0 a1) := by
 intro a0 a1 k
 obtain ⟨ih0, ih1, ih2⟩ := zao.zbr k; unfold zao.f
 repeat' first
   | (with_reducible exact ih0 _ _)
   | (with_reducible exact ih1 _ _ _)
   | (with_reducible exact ih2 _ _)
   | (with_reducible exact zaK.mono _ _)
   | (with_reducible exact zat.mono _ _ _)
   | (with_reducible exact zaz.mono _ _ _)
   | (with_reducible exact zal.mono _ _ _)
   | (with_reducible exact LeO.refl _)
   | (with_reducible exact LeO.none _)
   | (with_reducible refine LeO.ite ?_ ?_)
   | (with_reducible refine LeO.bind ?_ (fun _ => ?_))
   | exact ih0 _ _
   | exact ih1 _ _ _
   | exact ih2 _ _
   | exact zaK.mono _ _
   | exact zat.mono _ _ _
   | exact zaz.mono _ _ _
   | exact zal.mono _ _ _
   | exact LeO.none _
   | refine LeO.ite ?_ ?_
   | refine LeO.bind ?_ (fun _ => ?_)
set_option maxHeartbeats 8000000 in
set_option maxRecDepth 100000 in
theorem zao.calls (k : Nat) (a0 : ByteArray) (a1 : Int) (r1 : Int) (r2 : Int) (w : World) (h : zao.f k a0 a1 = some (r1, r2)) :
  Calls Try.prog 16 #[.string a0, .int .i64 a1] w fun e w' => e = .returned (.tuple #[.int .u8 r1, .int .i64 r2]) ∧ Below w.heap.size w w' := by
 have HB := zaa.mk (Below.refl w.heap.size w); have H : (if 0 ≤ a1 then (if a1 < (a0.size : Int) then ((za6.f (bt a0 a1)).bind fun t246 => (if t246 = true then (zao.l0 k a0 a1) else (if (bt a0 a1) = 47 then ((zal.f k a0 a1).bind fun bt248 => (some (bt248.1, bt248.2))) else ((za1.f (bt a0 a1)).bind fun t250 => (if t250 = true then (zao.l1 k a0 a1 a1) else ((zaY.f (bt a0 a1)).bind fun t255 => (if t255 = true then (zao.l2 k a0 a1) else (if (bt a0 a1) = 34 then ((zat.f k a0 a1).bind fun bt257 => (some (bt257.1, bt257.2))) else ((zaz.f k a0 a1).bind fun bt259 => (some (bt259.1, bt259.2))))))))))) else (none)) else (none)) = some (r1, r2) := h
 clear h; by_cases c3 : 0 ≤ a1
 ·rw [if_pos c3] at H
  have c3b0 : decide (0 ≤ a1) = true := decide_eq_true c3; clear c3; by_cases c4 : a1 < (a0.size : Int)
  ·rw [if_pos c4] at H
   have c4b0 : decide (a1 < (a0.size : Int)) = true := decide_eq_true c4; clear c4; replace H := Option.bind_eq_some_iff.mp H; obtain ⟨t246, A60, H⟩ := H; replace H : (if t246 = true then (zao.l0 k a0 a1) else (if (bt a0 a1) = 47 then ((zal.f k a0 a1).bind fun bt248 => (some (bt248.1, bt248.2))) else ((za1.f (bt a0 a1)).bind fun t250 => (if t250 = true then (zao.l1 k a0 a1 a1) else ((zaY.f (bt a0 a1)).bind fun t255 => (if t255 = true then (zao.l2 k a0 a1) else (if (bt a0 a1) = 34 then ((zat.f k a0 a1).bind fun bt257 => (some (bt257.1, bt257.2))) else ((zaz.f k a0 a1).bind fun bt259 => (some (bt259.1, bt259.2)))))))))) = some (r1, r2) := H
   have A6 := zaa.mk A60; clear A60; by_cases c7 : t246 = true
   ·subst c7
    have H1 : (zao.l0 k a0 a1) = some (r1, r2) := by rw [if_pos rfl] at H; exact H
    clear H; have H := H1; clear H1; have H' := zaa.mk H; clear H; have p5 : 0 ≤ (a1 : Int) := of_decide_eq_true (by assumption)
    have q5 : a1 < (a0.size : Int) := of_decide_eq_true (by assumption)
    have hx5 := bt_at a0 a1; replace p5 := eq_true p5; replace q5 := eq_true q5; go_enter Try.func16, Try.ntmps16
    go_wp2_with (first | ((with_reducible refine zaS (f := 25) rfl ?_); refine zbj (some 14) rfl rfl Try.func25 (by kernel_rfl) rfl #[.int .u8 (bt a0 a1)] rfl (by (try simp only [List.map_toArray, List.map_cons, List.map_nil]); first | done | rfl | (simp only [List.length_drop, List.length_take]; rfl)) ?_; (with_reducible refine (za6.calls (bt a0 a1) true _ A6.out).mono ?_); rintro e w' ⟨rfl, ⟨nd, rfl⟩⟩; refine ⟨_, rfl, ?_⟩))
    go_loopg [7] k (fun kq v7 w' => ∃ (x7_1 : Int), v7 = .int .i64 x7_1 ∧ zaa (zao.l0 kq a0 x7_1 = some (r1, r2)) ∧ zaa (kq ≤ k) ∧ zaa (Below w.heap.size w w'))
    case atStart => exact ⟨(a1), (by first | rfl | (simp; done) | (simp [*]; done)), H', ⟨Nat.le_refl _⟩, ⟨by repeat (first | exact HB.out | apply zad | apply zac | apply zae)⟩⟩
    case round =>
     clear H'; try clear c1
     try clear c2
     try clear p2
     try clear c3
     try clear c3b0
     try clear c4
     try clear c4b0
     try clear p5
     try clear q5
     try clear hx5
     try clear c7
     try clear p5
     try clear q5
     obtain ⟨x7_1, rfl, HA, HK1, HB⟩ := hrel; cases gk with
     | zero => exact absurd HA.out (by simp [zao.l0])
     | succ k1 =>
      have H := HA.out; clear HA; simp only [zao.l0] at H; by_cases c8 : x7_1 < (a0.size : Int)
      ·rw [if_pos c8] at H
       have c8b0 : decide (x7_1 < (a0.size : Int)) = true := decide_eq_true c8; clear c8; by_cases c9 : 0 ≤ x7_1
       ·rw [if_pos c9] at H
        have c9b0 : decide (0 ≤ x7_1) = true := decide_eq_true c9; clear c9; replace H := Option.bind_eq_some_iff.mp H; obtain ⟨t247, A110, H⟩ := H; replace H : (if t247 = true then (zao.l0 k1 a0 (wrap64 (x7_1 + 1))) else (some (1, x7_1))) = some (r1, r2) := H
        have A11 := zaa.mk A110; clear A110; by_cases c12 : t247 = true
        ·subst c12
         have H1 : (zao.l0 k1 a0 (wrap64 (x7_1 + 1))) = some (r1, r2) := by rw [if_pos rfl] at H; exact H
         clear H; have H := H1; clear H1; have H' := zaa.mk H; clear H; have p10 : 0 ≤ (x7_1 : Int) := of_decide_eq_true (by assumption)
         have q10 : x7_1 < (a0.size : Int) := of_decide_eq_true (by assumption)
         have hx10 := bt_at a0 x7_1; replace p10 := eq_true p10; replace q10 := eq_true q10; go_wp2_with (first | (go_at_call 25; (with_reducible refine (za6.calls (bt a0 x7_1) true _ A11.out).mono ?_); rintro e w' ⟨rfl, ⟨nd, rfl⟩⟩))
         go_roundg k1
         case measure => have := HK1.out; omega
         case rel => exact ⟨(wrap64 (x7_1 + 1)), (by first | rfl | (simp; done) | (simp [*]; done)), H', ⟨by have := HK1.out; omega⟩, ⟨by repeat (first | exact HB.out | apply zad | apply zac | apply zae)⟩⟩
        ·replace c12 := Bool.eq_false_iff.mpr c12
         subst c12; have H1 : (some (1, x7_1)) = some (r1, r2) := by rw [if_neg (show ¬ (false = true) by decide)] at H; exact H
         clear H; have H := H1; clear H1; simp only [Option.some.injEq, Prod.mk.injEq] at H; obtain ⟨rfl, rfl⟩ := H; have p10 : 0 ≤ (x7_1 : Int) := of_decide_eq_true (by assumption)
         have q10 : x7_1 < (a0.size : Int) := of_decide_eq_true (by assumption)
         have hx10 := bt_at a0 x7_1; replace p10 := eq_true p10; replace q10 := eq_true q10; go_wp2_with (first | (go_at_call 25; (with_reducible refine (za6.calls (bt a0 x7_1) false _ A11.out).mono ?_); rintro e w' ⟨rfl, ⟨nd, rfl⟩⟩))
         go_ret2
         exact ⟨by first | rfl | (simp [*, zaF, zaE] <;> rfl), by repeat (first | exact HB.out | apply zad | apply zac | apply zae)⟩
       ·rw [if_neg c9] at H
        exact absurd H (by simp)
      ·rw [if_neg c8] at H
       have c8b0 : decide (x7_1 < (a0.size : Int)) = false := decide_eq_false c8; clear c8; simp only [Option.some.injEq, Prod.mk.injEq] at H; obtain ⟨rfl, rfl⟩ := H; go_wp2
       go_ret2
       exact ⟨by first | rfl | (simp [*, zaF, zaE] <;> rfl), by repeat (first | exact HB.out | apply zad | apply zac | apply zae)⟩
   ·replace c7 := Bool.eq_false_iff.mpr c7
    subst c7; have H1 : (if (bt a0 a1) = 47 then ((zal.f k a0 a1).bind fun bt248 => (some (bt248.1, bt248.2))) else ((za1.f (bt a0 a1)).bind fun t250 => (if t250 = true then (zao.l1 k a0 a1 a1) else ((zaY.f (bt a0 a1)).bind fun t255 => (if t255 = true then (zao.l2 k a0 a1) else (if (bt a0 a1) = 34 then ((zat.f k a0 a1).bind fun bt257 => (some (bt257.1, bt257.2))) else ((zaz.f k a0 a1).bind fun bt259 => (some (bt259.1, bt259.2))))))))) = some (r1, r2) := by rw [if_neg (show ¬ (false = true) by decide)] at H; exact H
    clear H; have H := H1; clear H1; by_cases c13 : (bt a0 a1) = 47
    ·rw [if_pos c13] at H
     have c13b0 : ((bt a0 a1) == 47) = true := beq_iff_eq.mpr c13; have c13b1 : ((bt a0 a1) != 47) = false := bne_eq_false_iff_eq.mpr c13; clear c13; replace H := Option.bind_eq_some_iff.mp H; obtain ⟨⟨t248, t249⟩, A140, H⟩ := H; replace H : (some (t248, t249)) = some (r1, r2) := H; have A14 := zaa.mk A140; clear A140; simp only [Option.some.injEq, Prod.mk.injEq] at H; obtain ⟨rfl, rfl⟩ := H; have p5 : 0 ≤ (a1 : Int) := of_decide_eq_true (by assumption)
     have q5 : a1 < (a0.size : Int) := of_decide_eq_true (by assumption)
     have hx5 := bt_at a0 a1; replace p5 := eq_true p5; replace q5 := eq_true q5; go_enter Try.func16, Try.ntmps16
     go_wp2_with (first | ((with_reducible refine zaS (f := 25) rfl ?_); refine zbj (some 14) rfl rfl Try.func25 (by kernel_rfl) rfl #[.int .u8 (bt a0 a1)] rfl (by (try simp only [List.map_toArray, List.map_cons, List.map_nil]); first | done | rfl | (simp only [List.length_drop, List.length_take]; rfl)) ?_; (with_reducible refine (za6.calls (bt a0 a1) false _ A6.out).mono ?_); rintro e w' ⟨rfl, ⟨nd, rfl⟩⟩; refine ⟨_, rfl, ?_⟩) | ((with_reducible refine zaS (f := 26) rfl ?_); refine zbj (some 33) rfl rfl Try.func26 (by kernel_rfl) rfl #[.string a0, .int .i64 a1] rfl (by (try simp only [List.map_toArray, List.map_cons, List.map_nil]); first | done | rfl | (simp only [List.length_drop, List.length_take]; rfl)) ?_; (with_reducible refine (zal.calls k a0 a1 t248 t249 _ A14.out).mono ?_); rintro e w' ⟨rfl, ⟨nd, rfl⟩⟩; refine ⟨_, rfl, ?_⟩))
     go_ret2
     exact ⟨by first | rfl | (simp [*, zaF, zaE] <;> rfl), by repeat (first | exact HB.out | apply zad | apply zac | apply zae)⟩
    ·rw [if_neg c13] at H
     have c13b0 : ((bt a0 a1) == 47) = false := beq_eq_false_iff_ne.mpr c13; have c13b1 : ((bt a0 a1) != 47) = true := bne_iff_ne.mpr c13; replace H := Option.bind_eq_some_iff.mp H; obtain ⟨t250, A150, H⟩ := H; replace H : (if t250 = true then (zao.l1 k a0 a1 a1) else ((zaY.f (bt a0 a1)).bind fun t255 => (if t255 = true then (zao.l2 k a0 a1) else (if (bt a0 a1) = 34 then ((zat.f k a0 a1).bind fun bt257 => (some (bt257.1, bt257.2))) else ((zaz.f k a0 a1).bind fun bt259 => (some (bt259.1, bt259.2))))))) = some (r1, r2) := H
     have A15 := zaa.mk A150; clear A150; by_cases c16 : t250 = true
     ·subst c16
      have H1 : (zao.l1 k a0 a1 a1) = some (r1, r2) := by rw [if_pos rfl] at H; exact H
      clear H; have H := H1; clear H1; have H' := zaa.mk H; clear H; have p5 : 0 ≤ (a1 : Int) := of_decide_eq_true (by assumption)
      have q5 : a1 < (a0.size : Int) := of_decide_eq_true (by assumption)
      have hx5 := bt_at a0 a1; replace p5 := eq_true p5; replace q5 := eq_true q5; go_enter Try.func16, Try.ntmps16
      go_wp2_with (first | ((with_reducible refine zaS (f := 25) rfl ?_); refine zbj (some 14) rfl rfl Try.func25 (by kernel_rfl) rfl #[.int .u8 (bt a0 a1)] rfl (by (try simp only [List.map_toArray, List.map_cons, List.map_nil]); first | done | rfl | (simp only [List.length_drop, List.length_take]; rfl)) ?_; (with_reducible refine (za6.calls (bt a0 a1) false _ A6.out).mono ?_); rintro e w' ⟨rfl, ⟨nd, rfl⟩⟩; refine ⟨_, rfl, ?_⟩) | ((with_reducible refine zaS (f := 27) rfl ?_); refine zbj (some 38) rfl rfl Try.func27 (by kernel_rfl) rfl #[.int .u8 (bt a0 a1)] rfl (by (try simp only [List.map_toArray, List.map_cons, List.map_nil]); first | done | rfl | (simp only [List.length_drop, List.length_take]; rfl)) ?_; (with_reducible refine (za1.calls (bt a0 a1) true _ A15.out).mono ?_); rintro e w' ⟨rfl, ⟨nd, rfl⟩⟩; refine ⟨_, rfl, ?_⟩))
      go_loopg [7] k (fun kq v7 w' => ∃ (x7_1 : Int), v7 = .int .i64 x7_1 ∧ zaa (zao.l1 kq a0 a1 x7_1 = some (r1, r2)) ∧ zaa (kq ≤ k) ∧ zaa (Below w.heap.size w w'))
      case atStart => exact ⟨(a1), (by first | rfl | (simp; done) | (simp [*]; done)), H', ⟨Nat.le_refl _⟩, ⟨by repeat (first | exact HB.out | apply zad | apply zac | apply zae)⟩⟩
      case round =>
       clear H'; try clear c1
       try clear p1
       try clear q1
       try clear hx1
       try clear c2
       try clear p2
       try clear c3
       try clear c3b0
       try clear c4
       try clear c4b0
       try clear p5
       try clear q5
       try clear hx5
       try clear p6
       try clear c7
       try clear c8
       try clear c8b0
       try clear c9
       try clear c9b0
       try clear p10
       try clear q10
       try clear hx10
       try clear c12
       try clear c13
       try clear c13b0
       try clear c13b1
       try clear c16
       try clear p10
       try clear p2
       try clear p5
       try clear q10
       try clear q5
       obtain ⟨x7_1, rfl, HA, HK1, HB⟩ := hrel; cases gk with
       | zero => exact absurd HA.out (by simp [zao.l1])
       | succ k1 =>
        have H := HA.out; clear HA; simp only [zao.l1] at H; by_cases c17 : x7_1 < (a0.size : Int)
        ·rw [if_pos c17] at H
         have c17b0 : decide (x7_1 < (a0.size : Int)) = true := decide_eq_true c17; clear c17; by_cases c18 : 0 ≤ x7_1
         ·rw [if_pos c18] at H
          have c18b0 : decide (0 ≤ x7_1) = true := decide_eq_true c18; clear c18; replace H := Option.bind_eq_some_iff.mp H; obtain ⟨t251, A200, H⟩ := H; replace H : (if t251 = true then (zao.l1 k1 a0 a1 (wrap64 (x7_1 + 1))) else ((zaY.f (bt a0 x7_1)).bind fun t252 => (if t252 = true then (zao.l1 k1 a0 a1 (wrap64 (x7_1 + 1))) else (if 0 ≤ a1 then (if a1 ≤ x7_1 then (if x7_1 ≤ (a0.size : Int) then ((zaK.f k1 (a0.extract (a1 : Int).toNat (x7_1 : Int).toNat)).bind fun t253 => (some (t253, x7_1))) else (none)) else (none)) else (none))))) = some (r1, r2) := H
          have A20 := zaa.mk A200; clear A200; by_cases c21 : t251 = true
          ·subst c21
           have H1 : (zao.l1 k1 a0 a1 (wrap64 (x7_1 + 1))) = some (r1, r2) := by rw [if_pos rfl] at H; exact H
           clear H; have H := H1; clear H1; have H' := zaa.mk H; clear H; have p19 : 0 ≤ (x7_1 : Int) := of_decide_eq_true (by assumption)
           have q19 : x7_1 < (a0.size : Int) := of_decide_eq_true (by assumption)
           have hx19 := bt_at a0 x7_1; replace p19 := eq_true p19; replace q19 := eq_true q19; go_wp2_with (first | (go_at_call 27; (with_reducible refine (za1.calls (bt a0 x7_1) true _ A20.out).mono ?_); rintro e w' ⟨rfl, ⟨nd, rfl⟩⟩))
           go_roundg k1
           case measure => have := HK1.out; omega
           case rel => exact ⟨(wrap64 (x7_1 + 1)), (by first | rfl | (simp; done) | (simp [*]; done)), H', ⟨by have := HK1.out; omega⟩, ⟨by repeat (first | exact HB.out | apply zad | apply zac | apply zae)⟩⟩
          ·replace c21 := Bool.eq_false_iff.mpr c21
           subst c21; have H1 : ((zaY.f (bt a0 x7_1)).bind fun t252 => (if t252 = true then (zao.l1 k1 a0 a1 (wrap64 (x7_1 + 1))) else (if 0 ≤ a1 then (if a1 ≤ x7_1 then (if x7_1 ≤ (a0.size : Int) then ((zaK.f k1 (a0.extract (a1 : Int).toNat (x7_1 : Int).toNat)).bind fun t253 => (some (t253, x7_1))) else (none)) else (none)) else (none)))) = some (r1, r2) := by rw [if_neg (show ¬ (false = true) by decide)] at H; exact H
           clear H; have H := H1; clear H1; replace H := Option.bind_eq_some_iff.mp H; obtain ⟨t252, A230, H⟩ := H; replace H : (if t252 = true then (zao.l1 k1 a0 a1 (wrap64 (x7_1 + 1))) else (if 0 ≤ a1 then (if a1 ≤ x7_1 then (if x7_1 ≤ (a0.size : Int) then ((zaK.f k1 (a0.extract (a1 : Int).toNat (x7_1 : Int).toNat)).bind fun t253 => (some (t253, x7_1))) else (none)) else (none)) else (none))) = some (r1, r2) := H
           have A23 := zaa.mk A230; clear A230; by_cases c24 : t252 = true
           ·subst c24
            have H1 : (zao.l1 k1 a0 a1 (wrap64 (x7_1 + 1))) = some (r1, r2) := by rw [if_pos rfl] at H; exact H
            clear H; have H := H1; clear H1; have H' := zaa.mk H; clear H; have p19 : 0 ≤ (x7_1 : Int) := of_decide_eq_true (by assumption)
            have q19 : x7_1 < (a0.size : Int) := of_decide_eq_true (by assumption)
            have hx19 := bt_at a0 x7_1; replace p19 := eq_true p19; replace q19 := eq_true q19; go_wp2_with (first | (go_at_call 27; (with_reducible refine (za1.calls (bt a0 x7_1) false _ A20.out).mono ?_); rintro e w' ⟨rfl, ⟨nd, rfl⟩⟩; have p22 : 0 ≤ (x7_1 : Int) := of_decide_eq_true (by assumption); have q22 : x7_1 < (a0.size : Int) := of_decide_eq_true (by assumption); have hx22 := bt_at a0 x7_1; replace p22 := eq_true p22; replace q22 := eq_true q22) | (go_at_call 28; (with_reducible refine (zaY.calls (bt a0 x7_1) true _ A23.out).mono ?_); rintro e w' ⟨rfl, ⟨nd, rfl⟩⟩))
            go_roundg k1
            case measure => have := HK1.out; omega
            case rel => exact ⟨(wrap64 (x7_1 + 1)), (by first | rfl | (simp; done) | (simp [*]; done)), H', ⟨by have := HK1.out; omega⟩, ⟨by repeat (first | exact HB.out | apply zad | apply zac | apply zae)⟩⟩
           ·replace c24 := Bool.eq_false_iff.mpr c24
            subst c24; have H1 : (if 0 ≤ a1 then (if a1 ≤ x7_1 then (if x7_1 ≤ (a0.size : Int) then ((zaK.f k1 (a0.extract (a1 : Int).toNat (x7_1 : Int).toNat)).bind fun t253 => (some (t253, x7_1))) else (none)) else (none)) else (none)) = some (r1, r2) := by rw [if_neg (show ¬ (false = true) by decide)] at H; exact H
            clear H; have H := H1; clear H1; by_cases c25 : 0 ≤ a1
            ·rw [if_pos c25] at H
             have c25b0 := eq_true c25; have c25b1 : decide (0 ≤ a1) = true := decide_eq_true c25; clear c25; by_cases c26 : a1 ≤ x7_1
             ·rw [if_pos c26] at H
              have c26b0 := eq_true c26; have c26b1 : decide (a1 ≤ x7_1) = true := decide_eq_true c26; clear c26; by_cases c27 : x7_1 ≤ (a0.size : Int)
              ·rw [if_pos c27] at H
               have c27b0 := eq_true c27; have c27b1 : decide (x7_1 ≤ (a0.size : Int)) = true := decide_eq_true c27; clear c27; replace H := Option.bind_eq_some_iff.mp H; obtain ⟨t253, A280, H⟩ := H; replace H : (some (t253, x7_1)) = some (r1, r2) := H; have A28 := zaa.mk A280; clear A280; simp only [Option.some.injEq, Prod.mk.injEq] at H; obtain ⟨rfl, rfl⟩ := H; have p19 : 0 ≤ (x7_1 : Int) := of_decide_eq_true (by assumption)
               have q19 : x7_1 < (a0.size : Int) := of_decide_eq_true (by assumption)
               have hx19 := bt_at a0 x7_1; replace p19 := eq_true p19; replace q19 := eq_true q19; go_wp2_with (first | (go_at_call 27; (with_reducible refine (za1.calls (bt a0 x7_1) false _ A20.out).mono ?_); rintro e w' ⟨rfl, ⟨nd, rfl⟩⟩; have p22 : 0 ≤ (x7_1 : Int) := of_decide_eq_true (by assumption); have q22 : x7_1 < (a0.size : Int) := of_decide_eq_true (by assumption); have hx22 := bt_at a0 x7_1; replace p22 := eq_true p22; replace q22 := eq_true q22) | (go_at_call 28; (with_reducible refine (zaY.calls (bt a0 x7_1) false _ A23.out).mono ?_); rintro e w' ⟨rfl, ⟨nd, rfl⟩⟩) | ((with_reducible refine zaS (f := 29) rfl ?_); refine zbj (some 61) rfl rfl Try.func29 (by kernel_rfl) rfl #[.string (a0.extract (a1 : Int).toNat (x7_1 : Int).toNat)] rfl (by (try simp only [List.map_toArray, List.map_cons, List.map_nil]); first | done | rfl | (simp only [List.length_drop, List.length_take]; rfl)) ?_; (with_reducible refine (zaK.calls k1 (a0.extract (a1 : Int).toNat (x7_1 : Int).toNat) t253 _ A28.out).mono ?_); rintro e w29 ⟨rfl, hb⟩; refine ⟨_, rfl, ?_⟩; have n0_ := zaa.mk (zaG (by repeat (first | exact HB.out | apply zad | apply zac | apply zae)) hb); clear HB; have HB := n0_; clear n0_; (try clear hb); (try clear hb2); (try clear hk); (try clear hi)))
               go_ret2
               exact ⟨by first | rfl | (simp [*, zaF, zaE] <;> rfl), by repeat (first | exact HB.out | apply zad | apply zac | apply zae)⟩
              ·rw [if_neg c27] at H
               exact absurd H (by simp)
             ·rw [if_neg c26] at H
              exact absurd H (by simp)
            ·rw [if_neg c25] at H
             exact absurd H (by simp)
         ·rw [if_neg c18] at H
          exact absurd H (by simp)
        ·rw [if_neg c17] at H
         have c17b0 : decide (x7_1 < (a0.size : Int)) = false := decide_eq_false c17; clear c17; by_cases c30 : 0 ≤ a1
         ·rw [if_pos c30] at H
          have c30b0 := eq_true c30; have c30b1 : decide (0 ≤ a1) = true := decide_eq_true c30; clear c30; by_cases c31 : a1 ≤ x7_1
          ·rw [if_pos c31] at H
           have c31b0 := eq_true c31; have c31b1 : decide (a1 ≤ x7_1) = true := decide_eq_true c31; clear c31; by_cases c32 : x7_1 ≤ (a0.size : Int)
           ·rw [if_pos c32] at H
            have c32b0 := eq_true c32; have c32b1 : decide (x7_1 ≤ (a0.size : Int)) = true := decide_eq_true c32; clear c32; replace H := Option.bind_eq_some_iff.mp H; obtain ⟨t254, A330, H⟩ := H; replace H : (some (t254, x7_1)) = some (r1, r2) := H; have A33 := zaa.mk A330; clear A330; simp only [Option.some.injEq, Prod.mk.injEq] at H; obtain ⟨rfl, rfl⟩ := H; go_wp2_with (first | ((with_reducible refine zaS (f := 29) rfl ?_); refine zbj (some 61) rfl rfl Try.func29 (by kernel_rfl) rfl #[.string (a0.extract (a1 : Int).toNat (x7_1 : Int).toNat)] rfl (by (try simp only [List.map_toArray, List.map_cons, List.map_nil]); first | done | rfl | (simp only [List.length_drop, List.length_take]; rfl)) ?_; (with_reducible refine (zaK.calls k1 (a0.extract (a1 : Int).toNat (x7_1 : Int).toNat) t254 _ A33.out).mono ?_); rintro e w34 ⟨rfl, hb⟩; refine ⟨_, rfl, ?_⟩; have n0_ := zaa.mk (zaG (by repeat (first | exact HB.out | apply zad | apply zac | apply zae)) hb); clear HB; have HB := n0_; clear n0_; (try clear hb); (try clear hb2); (try clear hk); (try clear hi)))
            go_ret2
            exact ⟨by first | rfl | (simp [*, zaF, zaE] <;> rfl), by repeat (first | exact HB.out | apply zad | apply zac | apply zae)⟩
           ·rw [if_neg c32] at H
            exact absurd H (by simp)
          ·rw [if_neg c31] at H
           exact absurd H (by simp)
         ·rw [if_neg c30] at H
          exact absurd H (by simp)
     ·replace c16 := Bool.eq_false_iff.mpr c16
      subst c16; have H1 : ((zaY.f (bt a0 a1)).bind fun t255 => (if t255 = true then (zao.l2 k a0 a1) else (if (bt a0 a1) = 34 then ((zat.f k a0 a1).bind fun bt257 => (some (bt257.1, bt257.2))) else ((zaz.f k a0 a1).bind fun bt259 => (some (bt259.1, bt259.2)))))) = some (r1, r2) := by rw [if_neg (show ¬ (false = true) by decide)] at H; exact H
      clear H; have H := H1; clear H1; replace H := Option.bind_eq_some_iff.mp H; obtain ⟨t255, A350, H⟩ := H; replace H : (if t255 = true then (zao.l2 k a0 a1) else (if (bt a0 a1) = 34 then ((zat.f k a0 a1).bind fun bt257 => (some (bt257.1, bt257.2))) else ((zaz.f k a0 a1).bind fun bt259 => (some (bt259.1, bt259.2))))) = some (r1, r2) := H
      have A35 := zaa.mk A350; clear A350; by_cases c36 : t255 = true
      ·subst c36
       have H1 : (zao.l2 k a0 a1) = some (r1, r2) := by rw [if_pos rfl] at H; exact H
       clear H; have H := H1; clear H1; have H' := zaa.mk H; clear H; have p5 : 0 ≤ (a1 : Int) := of_decide_eq_true (by assumption)
       have q5 : a1 < (a0.size : Int) := of_decide_eq_true (by assumption)
       have hx5 := bt_at a0 a1; replace p5 := eq_true p5; replace q5 := eq_true q5; go_enter Try.func16, Try.ntmps16
       go_wp2_with (first | ((with_reducible refine zaS (f := 25) rfl ?_); refine zbj (some 14) rfl rfl Try.func25 (by kernel_rfl) rfl #[.int .u8 (bt a0 a1)] rfl (by (try simp only [List.map_toArray, List.map_cons, List.map_nil]); first | done | rfl | (simp only [List.length_drop, List.length_take]; rfl)) ?_; (with_reducible refine (za6.calls (bt a0 a1) false _ A6.out).mono ?_); rintro e w' ⟨rfl, ⟨nd, rfl⟩⟩; refine ⟨_, rfl, ?_⟩) | ((with_reducible refine zaS (f := 27) rfl ?_); refine zbj (some 38) rfl rfl Try.func27 (by kernel_rfl) rfl #[.int .u8 (bt a0 a1)] rfl (by (try simp only [List.map_toArray, List.map_cons, List.map_nil]); first | done | rfl | (simp only [List.length_drop, List.length_take]; rfl)) ?_; (with_reducible refine (za1.calls (bt a0 a1) false _ A15.out).mono ?_); rintro e w' ⟨rfl, ⟨nd, rfl⟩⟩; refine ⟨_, rfl, ?_⟩) | ((with_reducible refine zaS (f := 28) rfl ?_); refine zbj (some 65) rfl rfl Try.func28 (by kernel_rfl) rfl #[.int .u8 (bt a0 a1)] rfl (by (try simp only [List.map_toArray, List.map_cons, List.map_nil]); first | done | rfl | (simp only [List.length_drop, List.length_take]; rfl)) ?_; (with_reducible refine (zaY.calls (bt a0 a1) true _ A35.out).mono ?_); rintro e w' ⟨rfl, ⟨nd, rfl⟩⟩; refine ⟨_, rfl, ?_⟩))
       go_loopg [7] k (fun kq v7 w' => ∃ (x7_1 : Int), v7 = .int .i64 x7_1 ∧ zaa (zao.l2 kq a0 x7_1 = some (r1, r2)) ∧ zaa (kq ≤ k) ∧ zaa (Below w.heap.size w w'))
       case atStart => exact ⟨(a1), (by first | rfl | (simp; done) | (simp [*]; done)), H', ⟨Nat.le_refl _⟩, ⟨by repeat (first | exact HB.out | apply zad | apply zac | apply zae)⟩⟩
       case round =>
        clear H'; try clear c1
        try clear p1
        try clear q1
        try clear hx1
        try clear c2
        try clear p2
        try clear q2
        try clear hx2
        try clear c3
        try clear c3b0
        try clear c4
        try clear c4b0
        try clear p5
        try clear q5
        try clear hx5
        try clear p6
        try clear c7
        try clear c8
        try clear c8b0
        try clear c9
        try clear c9b0
        try clear p10
        try clear q10
        try clear hx10
        try clear c12
        try clear c13
        try clear c13b0
        try clear c13b1
        try clear c16
        try clear c17
        try clear c17b0
        try clear c18
        try clear c18b0
        try clear p19
        try clear q19
        try clear hx19
        try clear c21
        try clear p22
        try clear q22
        try clear hx22
        try clear c24
        try clear c25
        try clear c25b0
        try clear c25b1
        try clear c26
        try clear c26b0
        try clear c26b1
        try clear c27
        try clear c27b0
        try clear c27b1
        try clear c28
        try clear c29
        try clear c30
        try clear c30b0
        try clear c30b1
        try clear c31
        try clear c31b0
        try clear c31b1
        try clear c32
        try clear c32b0
        try clear c32b1
        try clear c36
        try clear p1
        try clear p10
        try clear p19
        try clear p2
        try clear p22
        try clear p5
        try clear p6
        try clear q1
        try clear q10
        try clear q19
        try clear q22
        try clear q5
        obtain ⟨x7_1, rfl, HA, HK1, HB⟩ := hrel; cases gk with
        | zero => exact absurd HA.out (by simp [zao.l2])
        | succ k1 =>
         have H := HA.out; clear HA; simp only [zao.l2] at H; by_cases c37 : x7_1 < (a0.size : Int)
         ·rw [if_pos c37] at H
          have c37b0 : decide (x7_1 < (a0.size : Int)) = true := decide_eq_true c37; clear c37; by_cases c38 : 0 ≤ x7_1
          ·rw [if_pos c38] at H
           have c38b0 : decide (0 ≤ x7_1) = true := decide_eq_true c38; clear c38; replace H := Option.bind_eq_some_iff.mp H; obtain ⟨t256, A400, H⟩ := H; replace H : (if t256 = true then (zao.l2 k1 a0 (wrap64 (x7_1 + 1))) else (some (7, x7_1))) = some (r1, r2) := H
           have A40 := zaa.mk A400; clear A400; by_cases c41 : t256 = true
           ·subst c41
            have H1 : (zao.l2 k1 a0 (wrap64 (x7_1 + 1))) = some (r1, r2) := by rw [if_pos rfl] at H; exact H
            clear H; have H := H1; clear H1; have H' := zaa.mk H; clear H; have p39 : 0 ≤ (x7_1 : Int) := of_decide_eq_true (by assumption)
            have q39 : x7_1 < (a0.size : Int) := of_decide_eq_true (by assumption)
            have hx39 := bt_at a0 x7_1; replace p39 := eq_true p39; replace q39 := eq_true q39; go_wp2_with (first | (go_at_call 28; (with_reducible refine (zaY.calls (bt a0 x7_1) true _ A40.out).mono ?_); rintro e w' ⟨rfl, ⟨nd, rfl⟩⟩))
            go_roundg k1
            case measure => have := HK1.out; omega
            case rel => exact ⟨(wrap64 (x7_1 + 1)), (by first | rfl | (simp; done) | (simp [*]; done)), H', ⟨by have := HK1.out; omega⟩, ⟨by repeat (first | exact HB.out | apply zad | apply zac | apply zae)⟩⟩
           ·replace c41 := Bool.eq_false_iff.mpr c41
            subst c41; have H1 : (some (7, x7_1)) = some (r1, r2) := by rw [if_neg (show ¬ (false = true) by decide)] at H; exact H
            clear H; have H := H1; clear H1; simp only [Option.some.injEq, Prod.mk.injEq] at H; obtain ⟨rfl, rfl⟩ := H; have p39 : 0 ≤ (x7_1 : Int) := of_decide_eq_true (by assumption)
            have q39 : x7_1 < (a0.size : Int) := of_decide_eq_true (by assumption)
            have hx39 := bt_at a0 x7_1; replace p39 := eq_true p39; replace q39 := eq_true q39; go_wp2_with (first | (go_at_call 28; (with_reducible refine (zaY.calls (bt a0 x7_1) false _ A40.out).mono ?_); rintro e w' ⟨rfl, ⟨nd, rfl⟩⟩))
            go_ret2
            exact ⟨by first | rfl | (simp [*, zaF, zaE] <;> rfl), by repeat (first | exact HB.out | apply zad | apply zac | apply zae)⟩
          ·rw [if_neg c38] at H
           exact absurd H (by simp)
         ·rw [if_neg c37] at H
          have c37b0 : decide (x7_1 < (a0.size : Int)) = false := decide_eq_false c37; clear c37; simp only [Option.some.injEq, Prod.mk.injEq] at H; obtain ⟨rfl, rfl⟩ := H; go_wp2
          go_ret2
          exact ⟨by first | rfl | (simp [*, zaF, zaE] <;> rfl), by repeat (first | exact HB.out | apply zad | apply zac | apply zae)⟩
      ·replace c36 := Bool.eq_false_iff.mpr c36
       subst c36; have H1 : (if (bt a0 a1) = 34 then ((zat.f k a0 a1).bind fun bt257 => (some (bt257.1, bt257.2))) else ((zaz.f k a0 a1).bind fun bt259 => (some (bt259.1, bt259.2)))) = some (r1, r2) := by rw [if_neg (show ¬ (false = true) by decide)] at H; exact H
       clear H; have H := H1; clear H1; by_cases c42 : (bt a0 a1) = 34
       ·rw [if_pos c42] at H
        have c42b0 : ((bt a0 a1) == 34) = true := beq_iff_eq.mpr c42; have c42b1 : ((bt a0 a1) != 34) = false := bne_eq_false_iff_eq.mpr c42; clear c42; replace H := Option.bind_eq_some_iff.mp H; obtain ⟨⟨t257, t258⟩, A430, H⟩ := H; replace H : (some (t257, t258)) = some (r1, r2) := H; have A43 := zaa.mk A430; clear A430; simp only [Option.some.injEq, Prod.mk.injEq] at H; obtain ⟨rfl, rfl⟩ := H; have p5 : 0 ≤ (a1 : Int) := of_decide_eq_true (by assumption)
        have q5 : a1 < (a0.size : Int) := of_decide_eq_true (by assumption)
        have hx5 := bt_at a0 a1; replace p5 := eq_true p5; replace q5 := eq_true q5; go_enter Try.func16, Try.ntmps16
        go_wp2_with (first | ((with_reducible refine zaS (f := 25) rfl ?_); refine zbj (some 14) rfl rfl Try.func25 (by kernel_rfl) rfl #[.int .u8 (bt a0 a1)] rfl (by (try simp only [List.map_toArray, List.map_cons, List.map_nil]); first | done | rfl | (simp only [List.length_drop, List.length_take]; rfl)) ?_; (with_reducible refine (za6.calls (bt a0 a1) false _ A6.out).mono ?_); rintro e w' ⟨rfl, ⟨nd, rfl⟩⟩; refine ⟨_, rfl, ?_⟩) | ((with_reducible refine zaS (f := 27) rfl ?_); refine zbj (some 38) rfl rfl Try.func27 (by kernel_rfl) rfl #[.int .u8 (bt a0 a1)] rfl (by (try simp only [List.map_toArray, List.map_cons, List.map_nil]); first | done | rfl | (simp only [List.length_drop, List.length_take]; rfl)) ?_; (with_reducible refine (za1.calls (bt a0 a1) false _ A15.out).mono ?_); rintro e w' ⟨rfl, ⟨nd, rfl⟩⟩; refine ⟨_, rfl, ?_⟩) | ((with_reducible refine zaS (f := 28) rfl ?_); refine zbj (some 65) rfl rfl Try.func28 (by kernel_rfl) rfl #[.int .u8 (bt a0 a1)] rfl (by (try simp only [List.map_toArray, List.map_cons, List.map_nil]); first | done | rfl | (simp only [List.length_drop, List.length_take]; rfl)) ?_; (with_reducible refine (zaY.calls (bt a0 a1) false _ A35.out).mono ?_); rintro e w' ⟨rfl, ⟨nd, rfl⟩⟩; refine ⟨_, rfl, ?_⟩) | ((with_reducible refine zaS (f := 30) rfl ?_); refine zbj (some 84) rfl rfl Try.func30 (by kernel_rfl) rfl #[.string a0, .int .i64 a1] rfl (by (try simp only [List.map_toArray, List.map_cons, List.map_nil]); first | done | rfl | (simp only [List.length_drop, List.length_take]; rfl)) ?_; (with_reducible refine (zat.calls k a0 a1 t257 t258 _ A43.out).mono ?_); rintro e w44 ⟨rfl, hb⟩; refine ⟨_, rfl, ?_⟩; have n0_ := zaa.mk (zaG (by repeat (first | exact HB.out | apply zad | apply zac | apply zae)) hb); clear HB; have HB := n0_; clear n0_; (try clear hb); (try clear hb2); (try clear hk); (try clear hi)))
        go_ret2
        exact ⟨by first | rfl | (simp [*, zaF, zaE] <;> rfl), by repeat (first | exact HB.out | apply zad | apply zac | apply zae)⟩
       ·rw [if_neg c42] at H
        have c42b0 : ((bt a0 a1) == 34) = false := beq_eq_false_iff_ne.mpr c42; have c42b1 : ((bt a0 a1) != 34) = true := bne_iff_ne.mpr c42; replace H := Option.bind_eq_some_iff.mp H; obtain ⟨⟨t259, t260⟩, A450, H⟩ := H; replace H : (some (t259, t260)) = some (r1, r2) := H; have A45 := zaa.mk A450; clear A450; simp only [Option.some.injEq, Prod.mk.injEq] at H; obtain ⟨rfl, rfl⟩ := H; have p5 : 0 ≤ (a1 : Int) := of_decide_eq_true (by assumption)
        have q5 : a1 < (a0.size : Int) := of_decide_eq_true (by assumption)
        have hx5 := bt_at a0 a1; replace p5 := eq_true p5; replace q5 := eq_true q5; go_enter Try.func16, Try.ntmps16
        go_wp2_with (first | ((with_reducible refine zaS (f := 25) rfl ?_); refine zbj (some 14) rfl rfl Try.func25 (by kernel_rfl) rfl #[.int .u8 (bt a0 a1)] rfl (by (try simp only [List.map_toArray, List.map_cons, List.map_nil]); first | done | rfl | (simp only [List.length_drop, List.length_take]; rfl)) ?_; (with_reducible refine (za6.calls (bt a0 a1) false _ A6.out).mono ?_); rintro e w' ⟨rfl, ⟨nd, rfl⟩⟩; refine ⟨_, rfl, ?_⟩) | ((with_reducible refine zaS (f := 27) rfl ?_); refine zbj (some 38) rfl rfl Try.func27 (by kernel_rfl) rfl #[.int .u8 (bt a0 a1)] rfl (by (try simp only [List.map_toArray, List.map_cons, List.map_nil]); first | done | rfl | (simp only [List.length_drop, List.length_take]; rfl)) ?_; (with_reducible refine (za1.calls (bt a0 a1) false _ A15.out).mono ?_); rintro e w' ⟨rfl, ⟨nd, rfl⟩⟩; refine ⟨_, rfl, ?_⟩) | ((with_reducible refine zaS (f := 28) rfl ?_); refine zbj (some 65) rfl rfl Try.func28 (by kernel_rfl) rfl #[.int .u8 (bt a0 a1)] rfl (by (try simp only [List.map_toArray, List.map_cons, List.map_nil]); first | done | rfl | (simp only [List.length_drop, List.length_take]; rfl)) ?_; (with_reducible refine (zaY.calls (bt a0 a1) false _ A35.out).mono ?_); rintro e w' ⟨rfl, ⟨nd, rfl⟩⟩; refine ⟨_, rfl, ?_⟩) | ((with_reducible refine zaS (f := 31) rfl ?_); refine zbj (some 89) rfl rfl Try.func31 (by kernel_rfl) rfl #[.string a0, .int .i64 a1] rfl (by (try simp only [List.map_toArray, List.map_cons, List.map_nil]); first | done | rfl | (simp only [List.length_drop, List.length_take]; rfl)) ?_; (with_reducible refine (zaz.calls k a0 a1 t259 t260 _ A45.out).mono ?_); rintro e w46 ⟨rfl, hb⟩; refine ⟨_, rfl, ?_⟩; have n0_ := zaa.mk (zaG (by repeat (first | exact HB.out | apply zad | apply zac | apply zae)) hb); clear HB; have HB := n0_; clear n0_; (try clear hb); (try clear hb2); (try clear hk); (try clear hi)))
        go_ret2
        exact ⟨by first | rfl | (simp [*, zaF, zaE] <;> rfl), by repeat (first | exact HB.out | apply zad | apply zac | apply zae)⟩
  ·rw [if_neg c4] at H
   exact absurd H (by simp)
 ·rw [if_neg c3] at H
  exact absurd H (by simp)
mutual
def zam.j0 : Nat → Int → Int → Bool → Option (Int)
 | 0, _, _, _ => none
 | k + 1, x0, x1, x11 => if x11 = true then (some (-1)) else (if x0 = 0 then ((some (([34, 1, 1, 7, 8, 9, 34, 2, 32, 12, 14, 16, 18, 20, 22, 24, 25, 26, 27, 28, 29, 30, 31, 33] : List Int) : List Int)).bind fun y261 => (if 0 ≤ x1 then (if x1 < (y261.length : Int) then (some (rd y261 x1)) else (none)) else (none))) else (if x0 = 1 then (if x1 = 1 then (some 1) else (if x1 = 2 then (some 1) else (some (-1)))) else (if x0 = 2 then (if x1 = 7 then (some 3) else (if x1 = 8 then (some 4) else (some (-1)))) else (if x0 = 3 then (if x1 = 2 then (some (-1)) else (some 3)) else (if x0 = 4 then (zam.j1 k x0 x1 x0 (x0 == 4)) else (zam.j1 k x0 x1 x0 (x0 == 5)))))))
def zam.j1 : Nat → Int → Int → Int → Bool → Option (Int)
 | 0, _, _, _, _ => none
 | k + 1, x0, x1, x12, x38 => if x38 = true then (if x1 = 8 then (some 5) else (if x1 = 7 then (if x0 = 5 then (some 6) else (some 4)) else (some 4))) else (if x12 = 7 then (if x1 = 3 then (some 7) else (if x1 = 4 then (some 7) else (some (-1)))) else (if x12 = 8 then (if x1 = 4 then (some 8) else (some (-1))) else (if x12 = 9 then (if x1 = 5 then (some 11) else (if x1 = 6 then (some 10) else (if x1 = 2 then (some (-1)) else (some 9)))) else (if x12 = 10 then (if x1 = 2 then (some (-1)) else (some 9)) else (if x12 = 12 then (zam.j2 k x0 x1 x12 (x12 == 12)) else (if x12 = 14 then (zam.j2 k x0 x1 x12 (x12 == 14)) else (if x12 = 16 then (zam.j2 k x0 x1 x12 (x12 == 16)) else (zam.j2 k x0 x1 x12 (x12 == 18)))))))))
def zam.j2 : Nat → Int → Int → Int → Bool → Option (Int)
 | 0, _, _, _, _ => none
 | k + 1, x0, x1, x12, x73 => if x73 = true then (if x1 = 9 then (some (wrap64 (x0 + 1))) else (some (-1))) else (if x12 = 20 then (if x1 = 13 then (some 21) else (some (-1))) else (if x12 = 22 then (if x1 = 14 then (some 23) else (some (-1))) else (some (-1))))
end
def zam.f (k : Nat) (a0 : Int) (a1 : Int) : Option (Int) := if a1 < 0 then (zam.j0 k a0 a1 true) else (zam.j0 k a0 a1 (decide (a1 > 23)))
theorem zam.zbr : ∀ k, (∀ y0 y1 y2, LeO (zam.j0 k y0 y1 y2) (zam.j0 (k + 1) y0 y1 y2)) ∧ (∀ y0 y1 y2 y3, LeO (zam.j1 k y0 y1 y2 y3) (zam.j1 (k + 1) y0 y1 y2 y3)) ∧ (∀ y0 y1 y2 y3, LeO (zam.j2 k y0 y1 y2 y3) (zam.j2 (k + 1) y0 y1 y2 y3))
 | 0 => ⟨fun _ _ _ r h => by simp [zam.j0] at h, fun _ _ _ _ r h => by simp [zam.j1] at h, fun _ _ _ _ r h => by simp [zam.j2] at h⟩
 | k + 1 => by
  obtain ⟨ih0, ih1, ih2⟩ := zam.zbr k; refine ⟨?_, ?_, ?_⟩
  ·intro y0 y1 y2
   unfold zam.j0
   repeat' first
   | (with_reducible exact ih0 _ _ _)
   | (with_reducible exact ih1 _ _ _ _)
   | (with_reducible exact ih2 _ _ _ _)
   | (with_reducible exact LeO.refl _)
   | (with_reducible exact LeO.none _)
   | (with_reducible refine LeO.ite ?_ ?_)
   | (with_reducible refine LeO.bind ?_ (fun _ => ?_))
  ·intro y0 y1 y2 y3
   unfold zam.j1
   repeat' first
   | (with_reducible exact ih0 _ _ _)
   | (with_reducible exact ih1 _ _ _ _)
   | (with_reducible exact ih2 _ _ _ _)
   | (with_reducible exact LeO.refl _)
   | (with_reducible exact LeO.none _)
   | (with_reducible refine LeO.ite ?_ ?_)
   | (with_reducible refine LeO.bind ?_ (fun _ => ?_))
  ·intro y0 y1 y2 y3
   unfold zam.j2
   repeat' first
   | (with_reducible exact ih0 _ _ _)
   | (with_reducible exact ih1 _ _ _ _)
   | (with_reducible exact ih2 _ _ _ _)
   | (with_reducible exact LeO.refl _)
   | (with_reducible exact LeO.none _)
   | (with_reducible refine LeO.ite ?_ ?_)
   | (with_reducible refine LeO.bind ?_ (fun _ => ?_))
theorem zam.mono : ∀ a0 a1 k, LeO (zam.f k a0 a1) (zam.f (k + 1) a0 a1) := by
 intro a0 a1 k
 obtain ⟨ih0, ih1, ih2⟩ := zam.zbr k; unfold zam.f
 repeat' first
   | (with_reducible exact ih0 _ _ _)
   | (with_reducible exact ih1 _ _ _ _)
   | (with_reducible exact ih2 _ _ _ _)
   | (with_reducible exact LeO.refl _)
   | (with_reducible exact LeO.none _)
   | (with_reducible refine LeO.ite ?_ ?_)
   | (with_reducible refine LeO.bind ?_ (fun _ => ?_))
set_option maxHeartbeats 8000000 in
set_option maxRecDepth 100000 in
theorem zam.calls (k : Nat) (a0 : Int) (a1 : Int) (r : Int) (w : World) (h : zam.f k a0 a1 = some r) :
  Calls Try.prog 33 #[.int .i64 a0, .int .i64 a1] w fun e w' => e = .returned (.int .i64 r) ∧ Below w.heap.size w w' := by
 have HB := zaa.mk (Below.refl w.heap.size w); have H : (if a1 < 0 then (zam.j0 k a0 a1 true) else (zam.j0 k a0 a1 (decide (a1 > 23)))) = some r := h
 clear h; have HC3 := zaa.mk H; clear H; go_enter Try.func33, Try.ntmps33
 go_upto_region 1 with (fail)
 go_cut [11] (fun v11 wc => ∃ (kq : Nat) (x11_2 : Bool), v11 = .bool x11_2 ∧ zaa (zam.j0 kq a0 a1 x11_2 = some r) ∧ zaa (kq ≤ k) ∧ zaa (Below w.heap.size w wc))
 case first =>
  have H := HC3.out; clear HC3; by_cases c4 : a1 < 0
  ·rw [if_pos c4] at H
   have c4b0 : decide (a1 < 0) = true := decide_eq_true c4; clear c4
   (first | rw [c4b0] | (simp only [i64_w, i32_w]; rw [c4b0]) | skip)
   have H' := zaa.mk H; clear H; go_wp2
   go_meet
   case rel => exact ⟨_, (true), (by first | rfl | (simp; done) | (simp [*]; done)), H', ⟨by first | omega | exact Nat.le_refl _⟩, ⟨by repeat (first | exact HB.out | apply zad | apply zac | apply zae)⟩⟩
  ·rw [if_neg c4] at H
   have c4b0 : decide (a1 < 0) = false := decide_eq_false c4; clear c4
   (first | rw [c4b0] | (simp only [i64_w, i32_w]; rw [c4b0]) | skip)
   have H' := zaa.mk H; clear H; go_wp2
   go_meet
   case rel => exact ⟨_, (decide (a1 > 23)), (by first | rfl | (simp; done) | (simp [*]; done)), H', ⟨by first | omega | exact Nat.le_refl _⟩, ⟨by repeat (first | exact HB.out | apply zad | apply zac | apply zae)⟩⟩
 case rest =>
  clear HC3; try clear p2
  try clear c3
  try clear c4
  try clear c4b0
  obtain ⟨kq, x11_2, rfl, HA, HJ2, HB⟩ := hcut; cases kq with
  | zero => exact absurd HA.out (by simp [zam.j0])
  | succ kj2 =>
   have H := HA.out; clear HA; simp only [zam.j0] at H; by_cases c5 : x11_2 = true
   ·subst c5
    have H1 : (some (-1)) = some r := by rw [if_pos rfl] at H; exact H
    clear H; have H := H1; clear H1; obtain rfl := Option.some.inj H; go_wp2
    go_ret
    exact ⟨by first | rfl | (simp [*, zaF, zaE] <;> rfl), by repeat (first | exact HB.out | apply zad | apply zac | apply zae)⟩
   ·replace c5 := Bool.eq_false_iff.mpr c5
    subst c5; have H1 : (if a0 = 0 then ((some (([34, 1, 1, 7, 8, 9, 34, 2, 32, 12, 14, 16, 18, 20, 22, 24, 25, 26, 27, 28, 29, 30, 31, 33] : List Int) : List Int)).bind fun y261 => (if 0 ≤ a1 then (if a1 < (y261.length : Int) then (some (rd y261 a1)) else (none)) else (none))) else (if a0 = 1 then (if a1 = 1 then (some 1) else (if a1 = 2 then (some 1) else (some (-1)))) else (if a0 = 2 then (if a1 = 7 then (some 3) else (if a1 = 8 then (some 4) else (some (-1)))) else (if a0 = 3 then (if a1 = 2 then (some (-1)) else (some 3)) else (if a0 = 4 then (zam.j1 kj2 a0 a1 a0 (a0 == 4)) else (zam.j1 kj2 a0 a1 a0 (a0 == 5))))))) = some r := by rw [if_neg (show ¬ (false = true) by decide)] at H; exact H
    clear H; have H := H1; clear H1; by_cases c6 : a0 = 0
    ·rw [if_pos c6] at H
     have c6b0 : (a0 == 0) = true := beq_iff_eq.mpr c6; have c6b1 : (a0 != 0) = false := bne_eq_false_iff_eq.mpr c6; clear c6; obtain ⟨y261, hy261⟩ : ∃ y_ : List Int, y_ = (([34, 1, 1, 7, 8, 9, 34, 2, 32, 12, 14, 16, 18, 20, 22, 24, 25, 26, 27, 28, 29, 30, 31, 33] : List Int)) := ⟨_, rfl⟩; replace H : (if 0 ≤ a1 then (if a1 < (y261.length : Int) then (some (rd y261 a1)) else (none)) else (none)) = some r := by first | (rw [hy261]; with_reducible exact H) | (have H2_ := (Option.bind_some _ _).symm.trans H; rw [hy261]; with_reducible exact H2_) | (have H2_ := (Option.bind_some _ _).symm.trans H; with_reducible exact H2_) | with_reducible exact H | (rw [hy261]; exact H) | exact H
     have Ny261 := zaa.mk hy261; clear hy261; by_cases c7 : 0 ≤ a1
     ·rw [if_pos c7] at H
      have c7b0 : decide (0 ≤ a1) = true := decide_eq_true c7; clear c7; by_cases c8 : a1 < (y261.length : Int)
      ·rw [if_pos c8] at H
       have c8b0 : decide (a1 < (y261.length : Int)) = true := decide_eq_true c8; clear c8; obtain rfl := Option.some.inj H; go_wp2_with (first | ((with_reducible refine za7 (N := 15) rfl ?_); refine Kd.R_lit (Kd.int .i64) _ 3 ?hg (N := 15) ?hd (xs := ([34, 1, 1, 7, 8, 9, 34, 2, 32, 12, 14, 16, 18, 20, 22, 24, 25, 26, 27, 28, 29, 30, 31, 33] : List Int)) (inner := [.int .i64 34, .int .i64 1, .int .i64 1, .int .i64 7, .int .i64 8, .int .i64 9, .int .i64 34, .int .i64 2, .int .i64 32, .int .i64 12, .int .i64 14, .int .i64 16, .int .i64 18, .int .i64 20, .int .i64 22, .int .i64 24, .int .i64 25, .int .i64 26, .int .i64 27, .int .i64 28, .int .i64 29, .int .i64 30, .int .i64 31, .int .i64 33]) (ok := fun _ => True) (okp := fun _ => True) ?hr ?hp (fun _ hk => hk) trivial (Below.refl _ _) (Nat.le_refl _) (by simp) ?_; (case hd => rfl); (case hg => rfl); (case hr => first | (go_simp; done) | (go_simp; rfl)); (case hp => exact (Reps.one (show Kd.M (Kd.int .i64) _ _ _ 34 [.int .i64 34] from rfl) (Reps.one (show Kd.M (Kd.int .i64) _ _ _ 1 [.int .i64 1] from rfl) (Reps.one (show Kd.M (Kd.int .i64) _ _ _ 1 [.int .i64 1] from rfl) (Reps.one (show Kd.M (Kd.int .i64) _ _ _ 7 [.int .i64 7] from rfl) (Reps.one (show Kd.M (Kd.int .i64) _ _ _ 8 [.int .i64 8] from rfl) (Reps.one (show Kd.M (Kd.int .i64) _ _ _ 9 [.int .i64 9] from rfl) (Reps.one (show Kd.M (Kd.int .i64) _ _ _ 34 [.int .i64 34] from rfl) (Reps.one (show Kd.M (Kd.int .i64) _ _ _ 2 [.int .i64 2] from rfl) (Reps.one (show Kd.M (Kd.int .i64) _ _ _ 32 [.int .i64 32] from rfl) (Reps.one (show Kd.M (Kd.int .i64) _ _ _ 12 [.int .i64 12] from rfl) (Reps.one (show Kd.M (Kd.int .i64) _ _ _ 14 [.int .i64 14] from rfl) (Reps.one (show Kd.M (Kd.int .i64) _ _ _ 16 [.int .i64 16] from rfl) (Reps.one (show Kd.M (Kd.int .i64) _ _ _ 18 [.int .i64 18] from rfl) (Reps.one (show Kd.M (Kd.int .i64) _ _ _ 20 [.int .i64 20] from rfl) (Reps.one (show Kd.M (Kd.int .i64) _ _ _ 22 [.int .i64 22] from rfl) (Reps.one (show Kd.M (Kd.int .i64) _ _ _ 24 [.int .i64 24] from rfl) (Reps.one (show Kd.M (Kd.int .i64) _ _ _ 25 [.int .i64 25] from rfl) (Reps.one (show Kd.M (Kd.int .i64) _ _ _ 26 [.int .i64 26] from rfl) (Reps.one (show Kd.M (Kd.int .i64) _ _ _ 27 [.int .i64 27] from rfl) (Reps.one (show Kd.M (Kd.int .i64) _ _ _ 28 [.int .i64 28] from rfl) (Reps.one (show Kd.M (Kd.int .i64) _ _ _ 29 [.int .i64 29] from rfl) (Reps.one (show Kd.M (Kd.int .i64) _ _ _ 30 [.int .i64 30] from rfl) (Reps.one (show Kd.M (Kd.int .i64) _ _ _ 31 [.int .i64 31] from rfl) (Reps.one (show Kd.M (Kd.int .i64) _ _ _ 33 [.int .i64 33] from rfl) (Reps.none _ _)))))))))))))))))))))))))); intro v262 w9 ho10 hb hg_ hnew_; clear hg_ hnew_; (first | rw [← Ny261.out] at ho10 | (simp only [Int.reduceToNat] at ho10; rw [← Ny261.out] at ho10)); have n0_ := zaa.mk (Kd.zbG ho10 (zaB (by repeat (first | exact HB.out | apply zad | apply zac | apply zae)))); have n1_ := zaa.mk (zaG (by repeat (first | exact HB.out | apply zad | apply zac | apply zae)) hb); clear HB; have HO263 := n0_; have HB := n1_; clear n0_ n1_; clear hb ho10; obtain ⟨Ao11, co11, eo11⟩ := Kd.zbB HO263.out; subst eo11; have p264 : 0 ≤ (a1 : Int) := of_decide_eq_true (by assumption); have q264 : a1 < (y261.length : Int) := of_decide_eq_true (by assumption); obtain ⟨ad264, e264, hx264_0⟩ := Kd.at_int (Kd.zbt HO263.out).2.2 a1 p264 q264; cases e264; replace p264 := eq_true p264; replace q264 := eq_true q264))
       go_ret
       exact ⟨by first | rfl | (simp [*, zaF, zaE] <;> rfl), by repeat (first | exact HB.out | apply zad | apply zac | apply zae)⟩
      ·rw [if_neg c8] at H
       exact absurd H (by simp)
     ·rw [if_neg c7] at H
      exact absurd H (by simp)
    ·rw [if_neg c6] at H
     have c6b0 : (a0 == 0) = false := beq_eq_false_iff_ne.mpr c6; have c6b1 : (a0 != 0) = true := bne_iff_ne.mpr c6; by_cases c12 : a0 = 1
     ·rw [if_pos c12] at H
      have c12b0 : (a0 == 1) = true := beq_iff_eq.mpr c12; have c12b1 : (a0 != 1) = false := bne_eq_false_iff_eq.mpr c12; clear c12; by_cases c13 : a1 = 1
      ·rw [if_pos c13] at H
       have c13b0 : (a1 == 1) = true := beq_iff_eq.mpr c13; have c13b1 : (a1 != 1) = false := bne_eq_false_iff_eq.mpr c13; clear c13; obtain rfl := Option.some.inj H; go_wp2
       go_ret
       exact ⟨by first | rfl | (simp [*, zaF, zaE] <;> rfl), by repeat (first | exact HB.out | apply zad | apply zac | apply zae)⟩
      ·rw [if_neg c13] at H
       have c13b0 : (a1 == 1) = false := beq_eq_false_iff_ne.mpr c13; have c13b1 : (a1 != 1) = true := bne_iff_ne.mpr c13; by_cases c14 : a1 = 2
       ·rw [if_pos c14] at H
        have c14b0 : (a1 == 2) = true := beq_iff_eq.mpr c14; have c14b1 : (a1 != 2) = false := bne_eq_false_iff_eq.mpr c14; clear c14; obtain rfl := Option.some.inj H; go_wp2
        go_ret
        exact ⟨by first | rfl | (simp [*, zaF, zaE] <;> rfl), by repeat (first | exact HB.out | apply zad | apply zac | apply zae)⟩
       ·rw [if_neg c14] at H
        have c14b0 : (a1 == 2) = false := beq_eq_false_iff_ne.mpr c14; have c14b1 : (a1 != 2) = true := bne_iff_ne.mpr c14; obtain rfl := Option.some.inj H; go_wp2
        go_ret
        exact ⟨by first | rfl | (simp [*, zaF, zaE] <;> rfl), by repeat (first | exact HB.out | apply zad | apply zac | apply zae)⟩
     ·rw [if_neg c12] at H
      have c12b0 : (a0 == 1) = false := beq_eq_false_iff_ne.mpr c12; have c12b1 : (a0 != 1) = true := bne_iff_ne.mpr c12; by_cases c15 : a0 = 2
      ·rw [if_pos c15] at H
       have c15b0 : (a0 == 2) = true := beq_iff_eq.mpr c15; have c15b1 : (a0 != 2) = false := bne_eq_false_iff_eq.mpr c15; clear c15; by_cases c16 : a1 = 7
       ·rw [if_pos c16] at H
        have c16b0 : (a1 == 7) = true := beq_iff_eq.mpr c16; have c16b1 : (a1 != 7) = false := bne_eq_false_iff_eq.mpr c16; clear c16; obtain rfl := Option.some.inj H; go_wp2
        go_ret
        exact ⟨by first | rfl | (simp [*, zaF, zaE] <;> rfl), by repeat (first | exact HB.out | apply zad | apply zac | apply zae)⟩
       ·rw [if_neg c16] at H
        have c16b0 : (a1 == 7) = false := beq_eq_false_iff_ne.mpr c16; have c16b1 : (a1 != 7) = true := bne_iff_ne.mpr c16; by_cases c17 : a1 = 8
        ·rw [if_pos c17] at H
         have c17b0 : (a1 == 8) = true := beq_iff_eq.mpr c17; have c17b1 : (a1 != 8) = false := bne_eq_false_iff_eq.mpr c17; clear c17; obtain rfl := Option.some.inj H; go_wp2
         go_ret
         exact ⟨by first | rfl | (simp [*, zaF, zaE] <;> rfl), by repeat (first | exact HB.out | apply zad | apply zac | apply zae)⟩
        ·rw [if_neg c17] at H
         have c17b0 : (a1 == 8) = false := beq_eq_false_iff_ne.mpr c17; have c17b1 : (a1 != 8) = true := bne_iff_ne.mpr c17; obtain rfl := Option.some.inj H; go_wp2
         go_ret
         exact ⟨by first | rfl | (simp [*, zaF, zaE] <;> rfl), by repeat (first | exact HB.out | apply zad | apply zac | apply zae)⟩
      ·rw [if_neg c15] at H
       have c15b0 : (a0 == 2) = false := beq_eq_false_iff_ne.mpr c15; have c15b1 : (a0 != 2) = true := bne_iff_ne.mpr c15; by_cases c18 : a0 = 3
       ·rw [if_pos c18] at H
        have c18b0 : (a0 == 3) = true := beq_iff_eq.mpr c18; have c18b1 : (a0 != 3) = false := bne_eq_false_iff_eq.mpr c18; clear c18; by_cases c19 : a1 = 2
        ·rw [if_pos c19] at H
         have c19b0 : (a1 == 2) = true := beq_iff_eq.mpr c19; have c19b1 : (a1 != 2) = false := bne_eq_false_iff_eq.mpr c19; clear c19; obtain rfl := Option.some.inj H; go_wp2
         go_ret
         exact ⟨by first | rfl | (simp [*, zaF, zaE] <;> rfl), by repeat (first | exact HB.out | apply zad | apply zac | apply zae)⟩
        ·rw [if_neg c19] at H
         have c19b0 : (a1 == 2) = false := beq_eq_false_iff_ne.mpr c19; have c19b1 : (a1 != 2) = true := bne_iff_ne.mpr c19; obtain rfl := Option.some.inj H; go_wp2
         go_ret
         exact ⟨by first | rfl | (simp [*, zaF, zaE] <;> rfl), by repeat (first | exact HB.out | apply zad | apply zac | apply zae)⟩
       ·rw [if_neg c18] at H
        have c18b0 : (a0 == 3) = false := beq_eq_false_iff_ne.mpr c18; have c18b1 : (a0 != 3) = true := bne_iff_ne.mpr c18; have HC20 := zaa.mk H; clear H
        go_upto_if 38 with (fail)
        go_cut [38] (fun v38 wc => ∃ (kq : Nat) (x38_19 : Bool), v38 = .bool x38_19 ∧ zaa (zam.j1 kq a0 a1 a0 x38_19 = some r) ∧ zaa (kq ≤ kj2) ∧ zaa (Below w.heap.size w wc))
        case first =>
         have H := HC20.out; clear HC20; by_cases c21 : a0 = 4
         ·rw [if_pos c21] at H
          have c21b0 : (a0 == 4) = true := beq_iff_eq.mpr c21; have c21b1 : (a0 != 4) = false := bne_eq_false_iff_eq.mpr c21; clear c21
          (first | rw [c21b0] | (simp only [i64_w, i32_w]; rw [c21b0]) | skip)
          have H' := zaa.mk H; clear H; go_wp2
          go_meet
          case rel => exact ⟨_, ((a0 == 4)), (by first | rfl | (simp; done) | (simp [*]; done)), H', ⟨by have := HJ2.out; first | omega | exact Nat.le_refl _⟩, ⟨by repeat (first | exact HB.out | apply zad | apply zac | apply zae)⟩⟩
         ·rw [if_neg c21] at H
          have c21b0 : (a0 == 4) = false := beq_eq_false_iff_ne.mpr c21; have c21b1 : (a0 != 4) = true := bne_iff_ne.mpr c21
          (first | rw [c21b0] | (simp only [i64_w, i32_w]; rw [c21b0]) | skip)
          have H' := zaa.mk H; clear H; go_wp2
          go_meet
          case rel => exact ⟨_, ((a0 == 5)), (by first | rfl | (simp; done) | (simp [*]; done)), H', ⟨by have := HJ2.out; first | omega | exact Nat.le_refl _⟩, ⟨by repeat (first | exact HB.out | apply zad | apply zac | apply zae)⟩⟩
        case rest =>
         clear HC20; try clear c1
         try clear c2
         try clear p2
         try clear q2
         try clear hx2
         try clear c3
         try clear c4
         try clear c4b0
         try clear c5
         try clear c6
         try clear c6b0
         try clear c6b1
         try clear c7
         try clear c7b0
         try clear c8
         try clear c8b0
         try clear c12
         try clear c12b0
         try clear c12b1
         try clear c13
         try clear c13b0
         try clear c13b1
         try clear c14
         try clear c14b0
         try clear c14b1
         try clear c15
         try clear c15b0
         try clear c15b1
         try clear c16
         try clear c16b0
         try clear c16b1
         try clear c17
         try clear c17b0
         try clear c17b1
         try clear c18
         try clear c18b0
         try clear c18b1
         try clear c19
         try clear c19b0
         try clear c19b1
         try clear c21
         try clear c21b0
         try clear c21b1
         try clear hx264_0
         try clear p2
         try clear p264
         try clear q264
         obtain ⟨kq, x38_19, rfl, HA, HJ19, HB⟩ := hcut; cases kq with
         | zero => exact absurd HA.out (by simp [zam.j1])
         | succ kj19 =>
          have H := HA.out; clear HA; simp only [zam.j1] at H; by_cases c22 : x38_19 = true
          ·subst c22
           have H1 : (if a1 = 8 then (some 5) else (if a1 = 7 then (if a0 = 5 then (some 6) else (some 4)) else (some 4))) = some r := by rw [if_pos rfl] at H; exact H
           clear H; have H := H1; clear H1; by_cases c23 : a1 = 8
           ·rw [if_pos c23] at H
            have c23b0 : (a1 == 8) = true := beq_iff_eq.mpr c23; have c23b1 : (a1 != 8) = false := bne_eq_false_iff_eq.mpr c23; clear c23; obtain rfl := Option.some.inj H; go_wp2
            go_ret
            exact ⟨by first | rfl | (simp [*, zaF, zaE] <;> rfl), by repeat (first | exact HB.out | apply zad | apply zac | apply zae)⟩
           ·rw [if_neg c23] at H
            have c23b0 : (a1 == 8) = false := beq_eq_false_iff_ne.mpr c23; have c23b1 : (a1 != 8) = true := bne_iff_ne.mpr c23; by_cases c24 : a1 = 7
            ·rw [if_pos c24] at H
             have c24b0 : (a1 == 7) = true := beq_iff_eq.mpr c24; have c24b1 : (a1 != 7) = false := bne_eq_false_iff_eq.mpr c24; clear c24; by_cases c25 : a0 = 5
             ·rw [if_pos c25] at H
              have c25b0 : (a0 == 5) = true := beq_iff_eq.mpr c25; have c25b1 : (a0 != 5) = false := bne_eq_false_iff_eq.mpr c25; clear c25; obtain rfl := Option.some.inj H; go_wp2
              go_ret
              exact ⟨by first | rfl | (simp [*, zaF, zaE] <;> rfl), by repeat (first | exact HB.out | apply zad | apply zac | apply zae)⟩
             ·rw [if_neg c25] at H
              have c25b0 : (a0 == 5) = false := beq_eq_false_iff_ne.mpr c25; have c25b1 : (a0 != 5) = true := bne_iff_ne.mpr c25; obtain rfl := Option.some.inj H; go_wp2
              go_ret
              exact ⟨by first | rfl | (simp [*, zaF, zaE] <;> rfl), by repeat (first | exact HB.out | apply zad | apply zac | apply zae)⟩
            ·rw [if_neg c24] at H
             have c24b0 : (a1 == 7) = false := beq_eq_false_iff_ne.mpr c24; have c24b1 : (a1 != 7) = true := bne_iff_ne.mpr c24; obtain rfl := Option.some.inj H; go_wp2
             go_ret
             exact ⟨by first | rfl | (simp [*, zaF, zaE] <;> rfl), by repeat (first | exact HB.out | apply zad | apply zac | apply zae)⟩
          ·replace c22 := Bool.eq_false_iff.mpr c22
           subst c22; have H1 : (if a0 = 7 then (if a1 = 3 then (some 7) else (if a1 = 4 then (some 7) else (some (-1)))) else (if a0 = 8 then (if a1 = 4 then (some 8) else (some (-1))) else (if a0 = 9 then (if a1 = 5 then (some 11) else (if a1 = 6 then (some 10) else (if a1 = 2 then (some (-1)) else (some 9)))) else (if a0 = 10 then (if a1 = 2 then (some (-1)) else (some 9)) else (if a0 = 12 then (zam.j2 kj19 a0 a1 a0 (a0 == 12)) else (if a0 = 14 then (zam.j2 kj19 a0 a1 a0 (a0 == 14)) else (if a0 = 16 then (zam.j2 kj19 a0 a1 a0 (a0 == 16)) else (zam.j2 kj19 a0 a1 a0 (a0 == 18))))))))) = some r := by rw [if_neg (show ¬ (false = true) by decide)] at H; exact H
           clear H; have H := H1; clear H1; by_cases c26 : a0 = 7
           ·rw [if_pos c26] at H
            have c26b0 : (a0 == 7) = true := beq_iff_eq.mpr c26; have c26b1 : (a0 != 7) = false := bne_eq_false_iff_eq.mpr c26; clear c26; by_cases c27 : a1 = 3
            ·rw [if_pos c27] at H
             have c27b0 : (a1 == 3) = true := beq_iff_eq.mpr c27; have c27b1 : (a1 != 3) = false := bne_eq_false_iff_eq.mpr c27; clear c27; obtain rfl := Option.some.inj H; go_wp2
             go_ret
             exact ⟨by first | rfl | (simp [*, zaF, zaE] <;> rfl), by repeat (first | exact HB.out | apply zad | apply zac | apply zae)⟩
            ·rw [if_neg c27] at H
             have c27b0 : (a1 == 3) = false := beq_eq_false_iff_ne.mpr c27; have c27b1 : (a1 != 3) = true := bne_iff_ne.mpr c27; by_cases c28 : a1 = 4
             ·rw [if_pos c28] at H
              have c28b0 : (a1 == 4) = true := beq_iff_eq.mpr c28; have c28b1 : (a1 != 4) = false := bne_eq_false_iff_eq.mpr c28; clear c28; obtain rfl := Option.some.inj H; go_wp2
              go_ret
              exact ⟨by first | rfl | (simp [*, zaF, zaE] <;> rfl), by repeat (first | exact HB.out | apply zad | apply zac | apply zae)⟩
             ·rw [if_neg c28] at H
              have c28b0 : (a1 == 4) = false := beq_eq_false_iff_ne.mpr c28; have c28b1 : (a1 != 4) = true := bne_iff_ne.mpr c28; obtain rfl := Option.some.inj H; go_wp2
              go_ret
              exact ⟨by first | rfl | (simp [*, zaF, zaE] <;> rfl), by repeat (first | exact HB.out | apply zad | apply zac | apply zae)⟩
           ·rw [if_neg c26] at H
            have c26b0 : (a0 == 7) = false := beq_eq_false_iff_ne.mpr c26; have c26b1 : (a0 != 7) = true := bne_iff_ne.mpr c26; by_cases c29 : a0 = 8
            ·rw [if_pos c29] at H
             have c29b0 : (a0 == 8) = true := beq_iff_eq.mpr c29; have c29b1 : (a0 != 8) = false := bne_eq_false_iff_eq.mpr c29; clear c29; by_cases c30 : a1 = 4
             ·rw [if_pos c30] at H
              have c30b0 : (a1 == 4) = true := beq_iff_eq.mpr c30; have c30b1 : (a1 != 4) = false := bne_eq_false_iff_eq.mpr c30; clear c30; obtain rfl := Option.some.inj H; go_wp2
              go_ret
              exact ⟨by first | rfl | (simp [*, zaF, zaE] <;> rfl), by repeat (first | exact HB.out | apply zad | apply zac | apply zae)⟩
             ·rw [if_neg c30] at H
              have c30b0 : (a1 == 4) = false := beq_eq_false_iff_ne.mpr c30; have c30b1 : (a1 != 4) = true := bne_iff_ne.mpr c30; obtain rfl := Option.some.inj H; go_wp2
              go_ret
              exact ⟨by first | rfl | (simp [*, zaF, zaE] <;> rfl), by repeat (first | exact HB.out | apply zad | apply zac | apply zae)⟩
            ·rw [if_neg c29] at H
             have c29b0 : (a0 == 8) = false := beq_eq_false_iff_ne.mpr c29; have c29b1 : (a0 != 8) = true := bne_iff_ne.mpr c29; by_cases c31 : a0 = 9
             ·rw [if_pos c31] at H
              have c31b0 : (a0 == 9) = true := beq_iff_eq.mpr c31; have c31b1 : (a0 != 9) = false := bne_eq_false_iff_eq.mpr c31; clear c31; by_cases c32 : a1 = 5
              ·rw [if_pos c32] at H
               have c32b0 : (a1 == 5) = true := beq_iff_eq.mpr c32; have c32b1 : (a1 != 5) = false := bne_eq_false_iff_eq.mpr c32; clear c32; obtain rfl := Option.some.inj H; go_wp2
               go_ret
               exact ⟨by first | rfl | (simp [*, zaF, zaE] <;> rfl), by repeat (first | exact HB.out | apply zad | apply zac | apply zae)⟩
              ·rw [if_neg c32] at H
               have c32b0 : (a1 == 5) = false := beq_eq_false_iff_ne.mpr c32; have c32b1 : (a1 != 5) = true := bne_iff_ne.mpr c32; by_cases c33 : a1 = 6
               ·rw [if_pos c33] at H
                have c33b0 : (a1 == 6) = true := beq_iff_eq.mpr c33; have c33b1 : (a1 != 6) = false := bne_eq_false_iff_eq.mpr c33; clear c33; obtain rfl := Option.some.inj H; go_wp2
                go_ret
                exact ⟨by first | rfl | (simp [*, zaF, zaE] <;> rfl), by repeat (first | exact HB.out | apply zad | apply zac | apply zae)⟩
               ·rw [if_neg c33] at H
                have c33b0 : (a1 == 6) = false := beq_eq_false_iff_ne.mpr c33; have c33b1 : (a1 != 6) = true := bne_iff_ne.mpr c33; by_cases c34 : a1 = 2
                ·rw [if_pos c34] at H
                 have c34b0 : (a1 == 2) = true := beq_iff_eq.mpr c34; have c34b1 : (a1 != 2) = false := bne_eq_false_iff_eq.mpr c34; clear c34; obtain rfl := Option.some.inj H; go_wp2
                 go_ret
                 exact ⟨by first | rfl | (simp [*, zaF, zaE] <;> rfl), by repeat (first | exact HB.out | apply zad | apply zac | apply zae)⟩
                ·rw [if_neg c34] at H
                 have c34b0 : (a1 == 2) = false := beq_eq_false_iff_ne.mpr c34; have c34b1 : (a1 != 2) = true := bne_iff_ne.mpr c34; obtain rfl := Option.some.inj H; go_wp2
                 go_ret
                 exact ⟨by first | rfl | (simp [*, zaF, zaE] <;> rfl), by repeat (first | exact HB.out | apply zad | apply zac | apply zae)⟩
             ·rw [if_neg c31] at H
              have c31b0 : (a0 == 9) = false := beq_eq_false_iff_ne.mpr c31; have c31b1 : (a0 != 9) = true := bne_iff_ne.mpr c31; by_cases c35 : a0 = 10
              ·rw [if_pos c35] at H
               have c35b0 : (a0 == 10) = true := beq_iff_eq.mpr c35; have c35b1 : (a0 != 10) = false := bne_eq_false_iff_eq.mpr c35; clear c35; by_cases c36 : a1 = 2
               ·rw [if_pos c36] at H
                have c36b0 : (a1 == 2) = true := beq_iff_eq.mpr c36; have c36b1 : (a1 != 2) = false := bne_eq_false_iff_eq.mpr c36; clear c36; obtain rfl := Option.some.inj H; go_wp2
                go_ret
                exact ⟨by first | rfl | (simp [*, zaF, zaE] <;> rfl), by repeat (first | exact HB.out | apply zad | apply zac | apply zae)⟩
               ·rw [if_neg c36] at H
                have c36b0 : (a1 == 2) = false := beq_eq_false_iff_ne.mpr c36; have c36b1 : (a1 != 2) = true := bne_iff_ne.mpr c36; obtain rfl := Option.some.inj H; go_wp2
                go_ret
                exact ⟨by first | rfl | (simp [*, zaF, zaE] <;> rfl), by repeat (first | exact HB.out | apply zad | apply zac | apply zae)⟩
              ·rw [if_neg c35] at H
               have c35b0 : (a0 == 10) = false := beq_eq_false_iff_ne.mpr c35; have c35b1 : (a0 != 10) = true := bne_iff_ne.mpr c35; have HC37 := zaa.mk H; clear H
               go_upto_if 73 with (fail)
               go_cut [73] (fun v73 wc => ∃ (kq : Nat) (x73_36 : Bool), v73 = .bool x73_36 ∧ zaa (zam.j2 kq a0 a1 a0 x73_36 = some r) ∧ zaa (kq ≤ kj19) ∧ zaa (Below w.heap.size w wc))
               case first =>
                have H := HC37.out; clear HC37; by_cases c38 : a0 = 12
                ·rw [if_pos c38] at H
                 have c38b0 : (a0 == 12) = true := beq_iff_eq.mpr c38; have c38b1 : (a0 != 12) = false := bne_eq_false_iff_eq.mpr c38; clear c38
                 (first | rw [c38b0] | (simp only [i64_w, i32_w]; rw [c38b0]) | skip)
                 have H' := zaa.mk H; clear H; go_wp2
                 go_meet
                 case rel => exact ⟨_, ((a0 == 12)), (by first | rfl | (simp; done) | (simp [*]; done)), H', ⟨by have := HJ2.out; have := HJ19.out; first | omega | exact Nat.le_refl _⟩, ⟨by repeat (first | exact HB.out | apply zad | apply zac | apply zae)⟩⟩
                ·rw [if_neg c38] at H
                 have c38b0 : (a0 == 12) = false := beq_eq_false_iff_ne.mpr c38; have c38b1 : (a0 != 12) = true := bne_iff_ne.mpr c38
                 (first | rw [c38b0] | (simp only [i64_w, i32_w]; rw [c38b0]) | skip)
                 by_cases c39 : a0 = 14
                 ·rw [if_pos c39] at H
                  have c39b0 : (a0 == 14) = true := beq_iff_eq.mpr c39; have c39b1 : (a0 != 14) = false := bne_eq_false_iff_eq.mpr c39; clear c39; have H' := zaa.mk H; clear H; go_wp2
                  go_meet
                  case rel => exact ⟨_, ((a0 == 14)), (by first | rfl | (simp; done) | (simp [*]; done)), H', ⟨by have := HJ2.out; have := HJ19.out; first | omega | exact Nat.le_refl _⟩, ⟨by repeat (first | exact HB.out | apply zad | apply zac | apply zae)⟩⟩
                 ·rw [if_neg c39] at H
                  have c39b0 : (a0 == 14) = false := beq_eq_false_iff_ne.mpr c39; have c39b1 : (a0 != 14) = true := bne_iff_ne.mpr c39; by_cases c40 : a0 = 16
                  ·rw [if_pos c40] at H
                   have c40b0 : (a0 == 16) = true := beq_iff_eq.mpr c40; have c40b1 : (a0 != 16) = false := bne_eq_false_iff_eq.mpr c40; clear c40; have H' := zaa.mk H; clear H; go_wp2
                   go_meet
                   case rel => exact ⟨_, ((a0 == 16)), (by first | rfl | (simp; done) | (simp [*]; done)), H', ⟨by have := HJ2.out; have := HJ19.out; first | omega | exact Nat.le_refl _⟩, ⟨by repeat (first | exact HB.out | apply zad | apply zac | apply zae)⟩⟩
                  ·rw [if_neg c40] at H
                   have c40b0 : (a0 == 16) = false := beq_eq_false_iff_ne.mpr c40; have c40b1 : (a0 != 16) = true := bne_iff_ne.mpr c40; have H' := zaa.mk H; clear H; go_wp2
                   go_meet
                   case rel => exact ⟨_, ((a0 == 18)), (by first | rfl | (simp; done) | (simp [*]; done)), H', ⟨by have := HJ2.out; have := HJ19.out; first | omega | exact Nat.le_refl _⟩, ⟨by repeat (first | exact HB.out | apply zad | apply zac | apply zae)⟩⟩
               case rest =>
                clear HC37; try clear c1
                try clear c2
                try clear p2
                try clear q2
                try clear hx2
                try clear c3
                try clear c4
                try clear c4b0
                try clear c5
                try clear c6
                try clear c6b0
                try clear c6b1
                try clear c7
                try clear c7b0
                try clear c8
                try clear c8b0
                try clear c12
                try clear c12b0
                try clear c12b1
                try clear c13
                try clear c13b0
                try clear c13b1
                try clear c14
                try clear c14b0
                try clear c14b1
                try clear c15
                try clear c15b0
                try clear c15b1
                try clear c16
                try clear c16b0
                try clear c16b1
                try clear c17
                try clear c17b0
                try clear c17b1
                try clear c18
                try clear c18b0
                try clear c18b1
                try clear c19
                try clear c19b0
                try clear c19b1
                try clear c21
                try clear c21b0
                try clear c21b1
                try clear c22
                try clear c23
                try clear c23b0
                try clear c23b1
                try clear c24
                try clear c24b0
                try clear c24b1
                try clear c25
                try clear c25b0
                try clear c25b1
                try clear c26
                try clear c26b0
                try clear c26b1
                try clear p26
                try clear q26
                try clear hx26
                try clear c27
                try clear c27b0
                try clear c27b1
                try clear c28
                try clear c28b0
                try clear c28b1
                try clear c29
                try clear c29b0
                try clear c29b1
                try clear c30
                try clear c30b0
                try clear c30b1
                try clear c31
                try clear c31b0
                try clear c31b1
                try clear c32
                try clear c32b0
                try clear c32b1
                try clear c33
                try clear c33b0
                try clear c33b1
                try clear c34
                try clear c34b0
                try clear c34b1
                try clear c35
                try clear c35b0
                try clear c35b1
                try clear c36
                try clear c36b0
                try clear c36b1
                try clear c38
                try clear c38b0
                try clear c38b1
                try clear c39
                try clear c39b0
                try clear c39b1
                try clear c40
                try clear c40b0
                try clear c40b1
                try clear hx264_0
                try clear p2
                try clear p264
                try clear q2
                try clear q264
                obtain ⟨kq, x73_36, rfl, HA, HJ36, HB⟩ := hcut; cases kq with
                | zero => exact absurd HA.out (by simp [zam.j2])
                | succ kj36 =>
                 have H := HA.out; clear HA; simp only [zam.j2] at H; by_cases c41 : x73_36 = true
                 ·subst c41
                  have H1 : (if a1 = 9 then (some (wrap64 (a0 + 1))) else (some (-1))) = some r := by rw [if_pos rfl] at H; exact H
                  clear H; have H := H1; clear H1; by_cases c42 : a1 = 9
                  ·rw [if_pos c42] at H
                   have c42b0 : (a1 == 9) = true := beq_iff_eq.mpr c42; have c42b1 : (a1 != 9) = false := bne_eq_false_iff_eq.mpr c42; clear c42; obtain rfl := Option.some.inj H; go_wp2
                   go_ret
                   exact ⟨by first | rfl | (simp [*, zaF, zaE] <;> rfl), by repeat (first | exact HB.out | apply zad | apply zac | apply zae)⟩
                  ·rw [if_neg c42] at H
                   have c42b0 : (a1 == 9) = false := beq_eq_false_iff_ne.mpr c42; have c42b1 : (a1 != 9) = true := bne_iff_ne.mpr c42; obtain rfl := Option.some.inj H; go_wp2
                   go_ret
                   exact ⟨by first | rfl | (simp [*, zaF, zaE] <;> rfl), by repeat (first | exact HB.out | apply zad | apply zac | apply zae)⟩
                 ·replace c41 := Bool.eq_false_iff.mpr c41
                  subst c41; have H1 : (if a0 = 20 then (if a1 = 13 then (some 21) else (some (-1))) else (if a0 = 22 then (if a1 = 14 then (some 23) else (some (-1))) else (some (-1)))) = some r := by rw [if_neg (show ¬ (false = true) by decide)] at H; exact H
                  clear H; have H := H1; clear H1; by_cases c43 : a0 = 20
                  ·rw [if_pos c43] at H
                   have c43b0 : (a0 == 20) = true := beq_iff_eq.mpr c43; have c43b1 : (a0 != 20) = false := bne_eq_false_iff_eq.mpr c43; clear c43; by_cases c44 : a1 = 13
                   ·rw [if_pos c44] at H
                    have c44b0 : (a1 == 13) = true := beq_iff_eq.mpr c44; have c44b1 : (a1 != 13) = false := bne_eq_false_iff_eq.mpr c44; clear c44; obtain rfl := Option.some.inj H; go_wp2
                    go_ret
                    exact ⟨by first | rfl | (simp [*, zaF, zaE] <;> rfl), by repeat (first | exact HB.out | apply zad | apply zac | apply zae)⟩
                   ·rw [if_neg c44] at H
                    have c44b0 : (a1 == 13) = false := beq_eq_false_iff_ne.mpr c44; have c44b1 : (a1 != 13) = true := bne_iff_ne.mpr c44; obtain rfl := Option.some.inj H; go_wp2
                    go_ret
                    exact ⟨by first | rfl | (simp [*, zaF, zaE] <;> rfl), by repeat (first | exact HB.out | apply zad | apply zac | apply zae)⟩
                  ·rw [if_neg c43] at H
                   have c43b0 : (a0 == 20) = false := beq_eq_false_iff_ne.mpr c43; have c43b1 : (a0 != 20) = true := bne_iff_ne.mpr c43; by_cases c45 : a0 = 22
                   ·rw [if_pos c45] at H
                    have c45b0 : (a0 == 22) = true := beq_iff_eq.mpr c45; have c45b1 : (a0 != 22) = false := bne_eq_false_iff_eq.mpr c45; clear c45; by_cases c46 : a1 = 14
                    ·rw [if_pos c46] at H
                     have c46b0 : (a1 == 14) = true := beq_iff_eq.mpr c46; have c46b1 : (a1 != 14) = false := bne_eq_false_iff_eq.mpr c46; clear c46; obtain rfl := Option.some.inj H; go_wp2
                     go_ret
                     exact ⟨by first | rfl | (simp [*, zaF, zaE] <;> rfl), by repeat (first | exact HB.out | apply zad | apply zac | apply zae)⟩
                    ·rw [if_neg c46] at H
                     have c46b0 : (a1 == 14) = false := beq_eq_false_iff_ne.mpr c46; have c46b1 : (a1 != 14) = true := bne_iff_ne.mpr c46; obtain rfl := Option.some.inj H; go_wp2
                     go_ret
                     exact ⟨by first | rfl | (simp [*, zaF, zaE] <;> rfl), by repeat (first | exact HB.out | apply zad | apply zac | apply zae)⟩
                   ·rw [if_neg c45] at H
                    have c45b0 : (a0 == 22) = false := beq_eq_false_iff_ne.mpr c45; have c45b1 : (a0 != 22) = true := bne_iff_ne.mpr c45; obtain rfl := Option.some.inj H; go_wp2
                    go_ret
                    exact ⟨by first | rfl | (simp [*, zaF, zaE] <;> rfl), by repeat (first | exact HB.out | apply zad | apply zac | apply zae)⟩
mutual
def zah.l0 : Nat → Int → ByteArray → Int → Option (Int)
 | 0, _, _, _ => none
 | k + 1, x0, x3, x4 => if x4 < (x3.size : Int) then (if 0 ≤ x4 then (if x0 = (wrap32 (bt x3 x4)) then (some (wrap64 (5 + x4))) else (zah.l0 k x0 x3 (wrap64 (x4 + 1)))) else (none)) else (if x0 = 32 then (zah.j1 k x0 true) else (zah.j1 k x0 (x0 == 9)))
def zah.j1 : Nat → Int → Bool → Option (Int)
 | 0, _, _ => none
 | k + 1, x0, x19 => if x19 = true then (some 1) else (if x0 = 10 then (zah.j2 k x0 true) else (zah.j2 k x0 (x0 == 13)))
def zah.j2 : Nat → Int → Bool → Option (Int)
 | 0, _, _ => none
 | k + 1, x0, x26 => if x26 = true then (some 2) else (if x0 = 95 then (zah.j3 k x0 true) else (if x0 ≥ 97 then (if x0 ≤ 122 then (zah.j3 k x0 true) else (if x0 ≥ 65 then (zah.j3 k x0 (decide (x0 ≤ 90))) else (zah.j3 k x0 false))) else (if x0 ≥ 65 then (zah.j3 k x0 (decide (x0 ≤ 90))) else (zah.j3 k x0 false))))
def zah.j3 : Nat → Int → Bool → Option (Int)
 | 0, _, _ => none
 | k + 1, x0, x33 => if x33 = true then (some 3) else (if x0 ≥ 48 then (if x0 ≤ 57 then (some 4) else (some 0)) else (some 0))
end
def zah.f (k : Nat) (a0 : Int) : Option (Int) := zah.l0 k a0 (⟨#[34, 92, 47, 42, 61, 33, 60, 62, 38, 124, 40, 41, 123, 125, 44, 59, 43, 45, 37]⟩ : ByteArray) 0
theorem zah.zbr : ∀ k, (∀ y0 y1 y2, LeO (zah.l0 k y0 y1 y2) (zah.l0 (k + 1) y0 y1 y2)) ∧ (∀ y0 y1, LeO (zah.j1 k y0 y1) (zah.j1 (k + 1) y0 y1)) ∧ (∀ y0 y1, LeO (zah.j2 k y0 y1) (zah.j2 (k + 1) y0 y1)) ∧ (∀ y0 y1, LeO (zah.j3 k y0 y1) (zah.j3 (k + 1) y0 y1))
 | 0 => ⟨fun _ _ _ r h => by simp [zah.l0] at h, fun _ _ r h => by simp [zah.j1] at h, fun _ _ r h => by simp [zah.j2] at h, fun _ _ r h => by simp [zah.j3] at h⟩
 | k + 1 => by
  obtain ⟨ih0, ih1, ih2, ih3⟩ := zah.zbr k; refine ⟨?_, ?_, ?_, ?_⟩
  ·intro y0 y1 y2
   unfold zah.l0
   repeat' first
   | (with_reducible exact ih0 _ _ _)
   | (with_reducible exact ih1 _ _)
   | (with_reducible exact ih2 _ _)
   | (with_reducible exact ih3 _ _)
   | (with_reducible exact LeO.refl _)
   | (with_reducible exact LeO.none _)
   | (with_reducible refine LeO.ite ?_ ?_)
   | (with_reducible refine LeO.bind ?_ (fun _ => ?_))
  ·intro y0 y1
   unfold zah.j1
   repeat' first
   | (with_reducible exact ih0 _ _ _)
   | (with_reducible exact ih1 _ _)
   | (with_reducible exact ih2 _ _)
   | (with_reducible exact ih3 _ _)
   | (with_reducible exact LeO.refl _)
   | (with_reducible exact LeO.none _)
   | (with_reducible refine LeO.ite ?_ ?_)
   | (with_reducible refine LeO.bind ?_ (fun _ => ?_))
  ·intro y0 y1
   unfold zah.j2
   repeat' first
   | (with_reducible exact ih0 _ _ _)
   | (with_reducible exact ih1 _ _)
   | (with_reducible exact ih2 _ _)
   | (with_reducible exact ih3 _ _)
   | (with_reducible exact LeO.refl _)
   | (with_reducible exact LeO.none _)
   | (with_reducible refine LeO.ite ?_ ?_)
   | (with_reducible refine LeO.bind ?_ (fun _ => ?_))
  ·intro y0 y1
   unfold zah.j3
   repeat' first
   | (with_reducible exact ih0 _ _ _)
   | (with_reducible exact ih1 _ _)
   | (with_reducible exact ih2 _ _)
   | (with_reducible exact ih3 _ _)
   | (with_reducible exact LeO.refl _)
   | (with_reducible exact LeO.none _)
   | (with_reducible refine LeO.ite ?_ ?_)
   | (with_reducible refine LeO.bind ?_ (fun _ => ?_))
theorem zah.mono : ∀ a0 k, LeO (zah.f k a0) (zah.f (k + 1) a0) := by
 intro a0 k
 obtain ⟨ih0, ih1, ih2, ih3⟩ := zah.zbr k; unfold zah.f
 repeat' first
   | (with_reducible exact ih0 _ _ _)
   | (with_reducible exact ih1 _ _)
   | (with_reducible exact ih2 _ _)
   | (with_reducible exact ih3 _ _)
   | (with_reducible exact LeO.refl _)
   | (with_reducible exact LeO.none _)
   | (with_reducible refine LeO.ite ?_ ?_)
   | (with_reducible refine LeO.bind ?_ (fun _ => ?_))
set_option maxHeartbeats 8000000 in
set_option maxRecDepth 100000 in
theorem zah.calls (k : Nat) (a0 : Int) (r : Int) (w : World) (h : zah.f k a0 = some r) :
  Calls Try.prog 34 #[.int .i32 a0] w fun e w' => e = .returned (.int .i64 r) ∧ zaC w w' := by
 have H : (zah.l0 k a0 (⟨#[34, 92, 47, 42, 61, 33, 60, 62, 38, 124, 40, 41, 123, 125, 44, 59, 43, 45, 37]⟩ : ByteArray) 0) = some r := h; clear h; have H' := zaa.mk H; clear H; go_enter Try.func34, Try.ntmps34
 go_wp2
 go_loopg [4] k (fun kq v4 w' => ∃ (x4_1 : Int), v4 = .int .i64 x4_1 ∧ zaa (zah.l0 kq a0 (⟨#[34, 92, 47, 42, 61, 33, 60, 62, 38, 124, 40, 41, 123, 125, 44, 59, 43, 45, 37]⟩ : ByteArray) x4_1 = some r) ∧ zaa (kq ≤ k) ∧ zaC w w')
 case atStart => exact ⟨(0), (by first | rfl | (simp; done) | (simp [*]; done)), H', ⟨Nat.le_refl _⟩, by repeat (first | exact zaC.refl _ | apply zaC.step)⟩
 case round =>
  clear H'; obtain ⟨x4_1, rfl, HA, HK1, ⟨m1, rfl⟩⟩ := hrel; cases gk with
  | zero => exact absurd HA.out (by simp [zah.l0])
  | succ k1 =>
   have H := HA.out; clear HA; simp only [zah.l0] at H; by_cases c2 : x4_1 < ((⟨#[34, 92, 47, 42, 61, 33, 60, 62, 38, 124, 40, 41, 123, 125, 44, 59, 43, 45, 37]⟩ : ByteArray).size : Int)
   ·rw [if_pos c2] at H
    have c2b0 : decide (x4_1 < ((⟨#[34, 92, 47, 42, 61, 33, 60, 62, 38, 124, 40, 41, 123, 125, 44, 59, 43, 45, 37]⟩ : ByteArray).size : Int)) = true := decide_eq_true c2; have c2b0n : decide (x4_1 < 19) = true := c2b0; clear c2; by_cases c3 : 0 ≤ x4_1
    ·rw [if_pos c3] at H
     have c3b0 : decide (0 ≤ x4_1) = true := decide_eq_true c3; clear c3; by_cases c5 : a0 = (wrap32 (bt (⟨#[34, 92, 47, 42, 61, 33, 60, 62, 38, 124, 40, 41, 123, 125, 44, 59, 43, 45, 37]⟩ : ByteArray) x4_1))
     ·rw [if_pos c5] at H
      have c5b0 : (a0 == (wrap32 (bt (⟨#[34, 92, 47, 42, 61, 33, 60, 62, 38, 124, 40, 41, 123, 125, 44, 59, 43, 45, 37]⟩ : ByteArray) x4_1))) = true := beq_iff_eq.mpr c5; have c5b1 : (a0 != (wrap32 (bt (⟨#[34, 92, 47, 42, 61, 33, 60, 62, 38, 124, 40, 41, 123, 125, 44, 59, 43, 45, 37]⟩ : ByteArray) x4_1))) = false := bne_eq_false_iff_eq.mpr c5; clear c5; obtain rfl := Option.some.inj H; have p4 : 0 ≤ (x4_1 : Int) := of_decide_eq_true (by assumption)
      have q4 : x4_1 < (19 : Int) := of_decide_eq_true (by assumption)
      have hx4 := bt_at (⟨#[34, 92, 47, 42, 61, 33, 60, 62, 38, 124, 40, 41, 123, 125, 44, 59, 43, 45, 37]⟩ : ByteArray) x4_1; replace p4 := eq_true p4; replace q4 := eq_true q4; go_wp2
      go_ret
      exact ⟨by first | rfl | (simp; done) | (simp [*]; done), by repeat (first | exact zaC.refl _ | apply zaC.step)⟩
     ·rw [if_neg c5] at H
      have c5b0 : (a0 == (wrap32 (bt (⟨#[34, 92, 47, 42, 61, 33, 60, 62, 38, 124, 40, 41, 123, 125, 44, 59, 43, 45, 37]⟩ : ByteArray) x4_1))) = false := beq_eq_false_iff_ne.mpr c5; have c5b1 : (a0 != (wrap32 (bt (⟨#[34, 92, 47, 42, 61, 33, 60, 62, 38, 124, 40, 41, 123, 125, 44, 59, 43, 45, 37]⟩ : ByteArray) x4_1))) = true := bne_iff_ne.mpr c5; have H' := zaa.mk H; clear H; have p4 : 0 ≤ (x4_1 : Int) := of_decide_eq_true (by assumption)
      have q4 : x4_1 < (19 : Int) := of_decide_eq_true (by assumption)
      have hx4 := bt_at (⟨#[34, 92, 47, 42, 61, 33, 60, 62, 38, 124, 40, 41, 123, 125, 44, 59, 43, 45, 37]⟩ : ByteArray) x4_1; replace p4 := eq_true p4; replace q4 := eq_true q4; go_wp2
      go_roundg k1
      case measure => have := HK1.out; omega
      case rel => exact ⟨(wrap64 (x4_1 + 1)), (by first | rfl | (simp; done) | (simp [*]; done)), H', ⟨by have := HK1.out; omega⟩, by repeat (first | exact zaC.refl _ | apply zaC.step)⟩
    ·rw [if_neg c3] at H
     exact absurd H (by simp)
   ·rw [if_neg c2] at H
    have c2b0 : decide (x4_1 < ((⟨#[34, 92, 47, 42, 61, 33, 60, 62, 38, 124, 40, 41, 123, 125, 44, 59, 43, 45, 37]⟩ : ByteArray).size : Int)) = false := decide_eq_false c2; have c2b0n : decide (x4_1 < 19) = false := c2b0; clear c2; have HC6 := zaa.mk H; clear H; go_upto_region 7 with (fail)
    go_cut [19] (fun v19 wc => ∃ (kq : Nat) (x19_5 : Bool), v19 = .bool x19_5 ∧ zaa (zah.j1 kq a0 x19_5 = some r) ∧ zaa (kq ≤ k1) ∧ zaC w wc)
    case first =>
     have H := HC6.out; clear HC6; by_cases c7 : a0 = 32
     ·rw [if_pos c7] at H
      have c7b0 : (a0 == 32) = true := beq_iff_eq.mpr c7; have c7b1 : (a0 != 32) = false := bne_eq_false_iff_eq.mpr c7; clear c7
      (first | rw [c7b0] | (simp only [i64_w, i32_w]; rw [c7b0]) | skip)
      have H' := zaa.mk H; clear H; go_wp2
      go_meet
      case rel => exact ⟨_, (true), (by first | rfl | (simp; done) | (simp [*]; done)), H', ⟨by have := HK1.out; first | omega | exact Nat.le_refl _⟩, by repeat (first | exact zaC.refl _ | apply zaC.step)⟩
     ·rw [if_neg c7] at H
      have c7b0 : (a0 == 32) = false := beq_eq_false_iff_ne.mpr c7; have c7b1 : (a0 != 32) = true := bne_iff_ne.mpr c7
      (first | rw [c7b0] | (simp only [i64_w, i32_w]; rw [c7b0]) | skip)
      have H' := zaa.mk H; clear H; go_wp2
      go_meet
      case rel => exact ⟨_, ((a0 == 9)), (by first | rfl | (simp; done) | (simp [*]; done)), H', ⟨by have := HK1.out; first | omega | exact Nat.le_refl _⟩, by repeat (first | exact zaC.refl _ | apply zaC.step)⟩
    case rest =>
     clear HC6; try clear c2
     try clear c2b0
     try clear p2
     try clear c3
     try clear c3b0
     try clear p3
     try clear p4
     try clear q4
     try clear hx4
     try clear c5
     try clear c5b0
     try clear c5b1
     try clear p6
     try clear c7
     try clear c7b0
     try clear c7b1
     try clear p4
     try clear q4
     obtain ⟨kq, x19_5, rfl, HA, HJ5, ⟨mc5, rfl⟩⟩ := hcut; cases kq with
     | zero => exact absurd HA.out (by simp [zah.j1])
     | succ kj5 =>
      have H := HA.out; clear HA; simp only [zah.j1] at H; by_cases c8 : x19_5 = true
      ·subst c8
       have H1 : (some 1) = some r := by rw [if_pos rfl] at H; exact H
       clear H; have H := H1; clear H1; obtain rfl := Option.some.inj H; go_wp2
       go_ret
       exact ⟨by first | rfl | (simp; done) | (simp [*]; done), by repeat (first | exact zaC.refl _ | apply zaC.step)⟩
      ·replace c8 := Bool.eq_false_iff.mpr c8
       subst c8; have H1 : (if a0 = 10 then (zah.j2 kj5 a0 true) else (zah.j2 kj5 a0 (a0 == 13))) = some r := by rw [if_neg (show ¬ (false = true) by decide)] at H; exact H
       clear H; have H := H1; clear H1; have HC9 := zaa.mk H; clear H; go_upto_region 9 with (fail)
       go_cut [26] (fun v26 wc => ∃ (kq : Nat) (x26_8 : Bool), v26 = .bool x26_8 ∧ zaa (zah.j2 kq a0 x26_8 = some r) ∧ zaa (kq ≤ kj5) ∧ zaC w wc)
       case first =>
        have H := HC9.out; clear HC9; by_cases c10 : a0 = 10
        ·rw [if_pos c10] at H
         have c10b0 : (a0 == 10) = true := beq_iff_eq.mpr c10; have c10b1 : (a0 != 10) = false := bne_eq_false_iff_eq.mpr c10; clear c10
         (first | rw [c10b0] | (simp only [i64_w, i32_w]; rw [c10b0]) | skip)
         have H' := zaa.mk H; clear H; go_wp2
         go_meet
         case rel => exact ⟨_, (true), (by first | rfl | (simp; done) | (simp [*]; done)), H', ⟨by have := HK1.out; have := HJ5.out; first | omega | exact Nat.le_refl _⟩, by repeat (first | exact zaC.refl _ | apply zaC.step)⟩
        ·rw [if_neg c10] at H
         have c10b0 : (a0 == 10) = false := beq_eq_false_iff_ne.mpr c10; have c10b1 : (a0 != 10) = true := bne_iff_ne.mpr c10
         (first | rw [c10b0] | (simp only [i64_w, i32_w]; rw [c10b0]) | skip)
         have H' := zaa.mk H; clear H; go_wp2
         go_meet
         case rel => exact ⟨_, ((a0 == 13)), (by first | rfl | (simp; done) | (simp [*]; done)), H', ⟨by have := HK1.out; have := HJ5.out; first | omega | exact Nat.le_refl _⟩, by repeat (first | exact zaC.refl _ | apply zaC.step)⟩
       case rest =>
        clear HC9; try clear c1
        try clear c2
        try clear c2b0
        try clear p2
        try clear c3
        try clear c3b0
        try clear p3
        try clear p4
        try clear q4
        try clear hx4
        try clear c5
        try clear c5b0
        try clear c5b1
        try clear p6
        try clear c7
        try clear c7b0
        try clear c7b1
        try clear c8
        try clear c10
        try clear c10b0
        try clear c10b1
        try clear p2
        try clear p3
        try clear p4
        try clear p6
        try clear q4
        obtain ⟨kq, x26_8, rfl, HA, HJ8, ⟨mc8, rfl⟩⟩ := hcut; cases kq with
        | zero => exact absurd HA.out (by simp [zah.j2])
        | succ kj8 =>
         have H := HA.out; clear HA; simp only [zah.j2] at H; by_cases c11 : x26_8 = true
         ·subst c11
          have H1 : (some 2) = some r := by rw [if_pos rfl] at H; exact H
          clear H; have H := H1; clear H1; obtain rfl := Option.some.inj H; go_wp2
          go_ret
          exact ⟨by first | rfl | (simp; done) | (simp [*]; done), by repeat (first | exact zaC.refl _ | apply zaC.step)⟩
         ·replace c11 := Bool.eq_false_iff.mpr c11
          subst c11; have H1 : (if a0 = 95 then (zah.j3 kj8 a0 true) else (if a0 ≥ 97 then (if a0 ≤ 122 then (zah.j3 kj8 a0 true) else (if a0 ≥ 65 then (zah.j3 kj8 a0 (decide (a0 ≤ 90))) else (zah.j3 kj8 a0 false))) else (if a0 ≥ 65 then (zah.j3 kj8 a0 (decide (a0 ≤ 90))) else (zah.j3 kj8 a0 false)))) = some r := by rw [if_neg (show ¬ (false = true) by decide)] at H; exact H
          clear H; have H := H1; clear H1; have HC12 := zaa.mk H; clear H; go_upto_region 11 with (fail)
          go_cut [33] (fun v33 wc => ∃ (kq : Nat) (x33_11 : Bool), v33 = .bool x33_11 ∧ zaa (zah.j3 kq a0 x33_11 = some r) ∧ zaa (kq ≤ kj8) ∧ zaC w wc)
          case first =>
           have H := HC12.out; clear HC12; by_cases c13 : a0 = 95
           ·rw [if_pos c13] at H
            have c13b0 : (a0 == 95) = true := beq_iff_eq.mpr c13; have c13b1 : (a0 != 95) = false := bne_eq_false_iff_eq.mpr c13; clear c13
            (first | rw [c13b0] | (simp only [i64_w, i32_w]; rw [c13b0]) | skip)
            have H' := zaa.mk H; clear H; go_wp2
            go_meet
            case rel => exact ⟨_, (true), (by first | rfl | (simp; done) | (simp [*]; done)), H', ⟨by have := HK1.out; have := HJ5.out; have := HJ8.out; first | omega | exact Nat.le_refl _⟩, by repeat (first | exact zaC.refl _ | apply zaC.step)⟩
           ·rw [if_neg c13] at H
            have c13b0 : (a0 == 95) = false := beq_eq_false_iff_ne.mpr c13; have c13b1 : (a0 != 95) = true := bne_iff_ne.mpr c13
            (first | rw [c13b0] | (simp only [i64_w, i32_w]; rw [c13b0]) | skip)
            by_cases c14 : a0 ≥ 97
            ·rw [if_pos c14] at H
             have c14b0 : decide (97 ≤ a0) = true := decide_eq_true c14; clear c14; by_cases c15 : a0 ≤ 122
             ·rw [if_pos c15] at H
              have c15b0 : decide (a0 ≤ 122) = true := decide_eq_true c15; clear c15; have H' := zaa.mk H; clear H; go_wp2
              go_meet
              case rel => exact ⟨_, (true), (by first | rfl | (simp; done) | (simp [*]; done)), H', ⟨by have := HK1.out; have := HJ5.out; have := HJ8.out; first | omega | exact Nat.le_refl _⟩, by repeat (first | exact zaC.refl _ | apply zaC.step)⟩
             ·rw [if_neg c15] at H
              have c15b0 : decide (a0 ≤ 122) = false := decide_eq_false c15; clear c15; by_cases c16 : a0 ≥ 65
              ·rw [if_pos c16] at H
               have c16b0 : decide (65 ≤ a0) = true := decide_eq_true c16; clear c16; have H' := zaa.mk H; clear H; go_wp2
               go_meet
               case rel => exact ⟨_, (decide (a0 ≤ 90)), (by first | rfl | (simp; done) | (simp [*]; done)), H', ⟨by have := HK1.out; have := HJ5.out; have := HJ8.out; first | omega | exact Nat.le_refl _⟩, by repeat (first | exact zaC.refl _ | apply zaC.step)⟩
              ·rw [if_neg c16] at H
               have c16b0 : decide (65 ≤ a0) = false := decide_eq_false c16; clear c16; have H' := zaa.mk H; clear H; go_wp2
               go_meet
               case rel => exact ⟨_, (false), (by first | rfl | (simp; done) | (simp [*]; done)), H', ⟨by have := HK1.out; have := HJ5.out; have := HJ8.out; first | omega | exact Nat.le_refl _⟩, by repeat (first | exact zaC.refl _ | apply zaC.step)⟩
            ·rw [if_neg c14] at H
             have c14b0 : decide (97 ≤ a0) = false := decide_eq_false c14; clear c14; by_cases c17 : a0 ≥ 65
             ·rw [if_pos c17] at H
              have c17b0 : decide (65 ≤ a0) = true := decide_eq_true c17; clear c17; have H' := zaa.mk H; clear H; go_wp2
              go_meet
              case rel => exact ⟨_, (decide (a0 ≤ 90)), (by first | rfl | (simp; done) | (simp [*]; done)), H', ⟨by have := HK1.out; have := HJ5.out; have := HJ8.out; first | omega | exact Nat.le_refl _⟩, by repeat (first | exact zaC.refl _ | apply zaC.step)⟩
             ·rw [if_neg c17] at H
              have c17b0 : decide (65 ≤ a0) = false := decide_eq_false c17; clear c17; have H' := zaa.mk H; clear H; go_wp2
              go_meet
              case rel => exact ⟨_, (false), (by first | rfl | (simp; done) | (simp [*]; done)), H', ⟨by have := HK1.out; have := HJ5.out; have := HJ8.out; first | omega | exact Nat.le_refl _⟩, by repeat (first | exact zaC.refl _ | apply zaC.step)⟩
          case rest =>
           clear HC12; try clear c1
           try clear c2
           try clear c2b0
           try clear p2
           try clear c3
           try clear c3b0
           try clear p3
           try clear p4
           try clear q4
           try clear hx4
           try clear c5
           try clear c5b0
           try clear c5b1
           try clear p6
           try clear c7
           try clear c7b0
           try clear c7b1
           try clear c8
           try clear c10
           try clear c10b0
           try clear c10b1
           try clear c11
           try clear c13
           try clear c13b0
           try clear c13b1
           try clear c14
           try clear c14b0
           try clear c15
           try clear c15b0
           try clear c16
           try clear c16b0
           try clear c17
           try clear c17b0
           try clear p2
           try clear p3
           try clear p4
           try clear p6
           try clear q4
           obtain ⟨kq, x33_11, rfl, HA, HJ11, ⟨mc11, rfl⟩⟩ := hcut; cases kq with
           | zero => exact absurd HA.out (by simp [zah.j3])
           | succ kj11 =>
            have H := HA.out; clear HA; simp only [zah.j3] at H; by_cases c18 : x33_11 = true
            ·subst c18
             have H1 : (some 3) = some r := by rw [if_pos rfl] at H; exact H
             clear H; have H := H1; clear H1; obtain rfl := Option.some.inj H; go_wp2
             go_ret
             exact ⟨by first | rfl | (simp; done) | (simp [*]; done), by repeat (first | exact zaC.refl _ | apply zaC.step)⟩
            ·replace c18 := Bool.eq_false_iff.mpr c18
             subst c18; have H1 : (if a0 ≥ 48 then (if a0 ≤ 57 then (some 4) else (some 0)) else (some 0)) = some r := by rw [if_neg (show ¬ (false = true) by decide)] at H; exact H
             clear H; have H := H1; clear H1; by_cases c19 : a0 ≥ 48
             ·rw [if_pos c19] at H
              have c19b0 : decide (48 ≤ a0) = true := decide_eq_true c19; clear c19; by_cases c20 : a0 ≤ 57
              ·rw [if_pos c20] at H
               have c20b0 : decide (a0 ≤ 57) = true := decide_eq_true c20; clear c20; obtain rfl := Option.some.inj H; go_wp2
               go_ret
               exact ⟨by first | rfl | (simp; done) | (simp [*]; done), by repeat (first | exact zaC.refl _ | apply zaC.step)⟩
              ·rw [if_neg c20] at H
               have c20b0 : decide (a0 ≤ 57) = false := decide_eq_false c20; clear c20; obtain rfl := Option.some.inj H; go_wp2
               go_ret
               exact ⟨by first | rfl | (simp; done) | (simp [*]; done), by repeat (first | exact zaC.refl _ | apply zaC.step)⟩
             ·rw [if_neg c19] at H
              have c19b0 : decide (48 ≤ a0) = false := decide_eq_false c19; clear c19; obtain rfl := Option.some.inj H; go_wp2
              go_ret
              exact ⟨by first | rfl | (simp; done) | (simp [*]; done), by repeat (first | exact zaC.refl _ | apply zaC.step)⟩
def zbM.f (a0 : Int) : Option (Int) := (some (([0, 1, 36, 2, 4, 4, 3, 6, 7, 9, 9, 8, 26, 27, 38, 28, 29, 30, 31, 32, 5, 39, 5, 40, 20, 21, 22, 23, 24, 25, 33, 34, 35, 37, 5] : List Int) : List Int)).bind fun y265 => (if a0 < 0 then (some 0) else (if a0 ≥ (y265.length : Int) then (some 0) else (if 0 ≤ a0 then (if a0 < (y265.length : Int) then (some (rd y265 a0)) else (none)) else (none))))
set_option maxHeartbeats 8000000 in
set_option maxRecDepth 100000 in
theorem zbM.calls (a0 : Int) (r : Int) (w : World) (h : zbM.f a0 = some r) :
  Calls Try.prog 35 #[.int .i64 a0] w fun e w' => e = .returned (.int .u8 r) ∧ Below w.heap.size w w' := by
 have HB := zaa.mk (Below.refl w.heap.size w); have H : ((some (([0, 1, 36, 2, 4, 4, 3, 6, 7, 9, 9, 8, 26, 27, 38, 28, 29, 30, 31, 32, 5, 39, 5, 40, 20, 21, 22, 23, 24, 25, 33, 34, 35, 37, 5] : List Int) : List Int)).bind fun y265 => (if a0 < 0 then (some 0) else (if a0 ≥ (y265.length : Int) then (some 0) else (if 0 ≤ a0 then (if a0 < (y265.length : Int) then (some (rd y265 a0)) else (none)) else (none))))) = some r := h
 clear h; obtain ⟨y265, hy265⟩ : ∃ y_ : List Int, y_ = (([0, 1, 36, 2, 4, 4, 3, 6, 7, 9, 9, 8, 26, 27, 38, 28, 29, 30, 31, 32, 5, 39, 5, 40, 20, 21, 22, 23, 24, 25, 33, 34, 35, 37, 5] : List Int)) := ⟨_, rfl⟩; replace H : (if a0 < 0 then (some 0) else (if a0 ≥ (y265.length : Int) then (some 0) else (if 0 ≤ a0 then (if a0 < (y265.length : Int) then (some (rd y265 a0)) else (none)) else (none)))) = some r := by first | (rw [hy265]; with_reducible exact H) | (have H2_ := (Option.bind_some _ _).symm.trans H; rw [hy265]; with_reducible exact H2_) | (have H2_ := (Option.bind_some _ _).symm.trans H; with_reducible exact H2_) | with_reducible exact H | (rw [hy265]; exact H) | exact H
 have Ny265 := zaa.mk hy265; clear hy265; by_cases c2 : a0 < 0
 ·rw [if_pos c2] at H
  have c2b0 : decide (a0 < 0) = true := decide_eq_true c2; clear c2; obtain rfl := Option.some.inj H; go_enter Try.func35, Try.ntmps35
  go_wp2_with (first | ((with_reducible refine za7 (N := 4) rfl ?_); (try (refine zbW (by rfl) ?_; dsimp only)); refine Kd.R_lit (Kd.int .u8) _ 5 ?hg (N := 4) ?hd (xs := ([0, 1, 36, 2, 4, 4, 3, 6, 7, 9, 9, 8, 26, 27, 38, 28, 29, 30, 31, 32, 5, 39, 5, 40, 20, 21, 22, 23, 24, 25, 33, 34, 35, 37, 5] : List Int)) (inner := [.int .u8 0, .int .u8 1, .int .u8 36, .int .u8 2, .int .u8 4, .int .u8 4, .int .u8 3, .int .u8 6, .int .u8 7, .int .u8 9, .int .u8 9, .int .u8 8, .int .u8 26, .int .u8 27, .int .u8 38, .int .u8 28, .int .u8 29, .int .u8 30, .int .u8 31, .int .u8 32, .int .u8 5, .int .u8 39, .int .u8 5, .int .u8 40, .int .u8 20, .int .u8 21, .int .u8 22, .int .u8 23, .int .u8 24, .int .u8 25, .int .u8 33, .int .u8 34, .int .u8 35, .int .u8 37, .int .u8 5]) (ok := fun _ => True) (okp := fun _ => True) ?hr ?hp (fun _ hk => hk) trivial (Below.refl _ _) (Nat.le_refl _) (by simp) ?_; (case hd => rfl); (case hg => rfl); (case hr => first | (go_simp; done) | (go_simp; rfl)); (case hp => exact (Reps.one (show Kd.M (Kd.int .u8) _ _ _ 0 [.int .u8 0] from rfl) (Reps.one (show Kd.M (Kd.int .u8) _ _ _ 1 [.int .u8 1] from rfl) (Reps.one (show Kd.M (Kd.int .u8) _ _ _ 36 [.int .u8 36] from rfl) (Reps.one (show Kd.M (Kd.int .u8) _ _ _ 2 [.int .u8 2] from rfl) (Reps.one (show Kd.M (Kd.int .u8) _ _ _ 4 [.int .u8 4] from rfl) (Reps.one (show Kd.M (Kd.int .u8) _ _ _ 4 [.int .u8 4] from rfl) (Reps.one (show Kd.M (Kd.int .u8) _ _ _ 3 [.int .u8 3] from rfl) (Reps.one (show Kd.M (Kd.int .u8) _ _ _ 6 [.int .u8 6] from rfl) (Reps.one (show Kd.M (Kd.int .u8) _ _ _ 7 [.int .u8 7] from rfl) (Reps.one (show Kd.M (Kd.int .u8) _ _ _ 9 [.int .u8 9] from rfl) (Reps.one (show Kd.M (Kd.int .u8) _ _ _ 9 [.int .u8 9] from rfl) (Reps.one (show Kd.M (Kd.int .u8) _ _ _ 8 [.int .u8 8] from rfl) (Reps.one (show Kd.M (Kd.int .u8) _ _ _ 26 [.int .u8 26] from rfl) (Reps.one (show Kd.M (Kd.int .u8) _ _ _ 27 [.int .u8 27] from rfl) (Reps.one (show Kd.M (Kd.int .u8) _ _ _ 38 [.int .u8 38] from rfl) (Reps.one (show Kd.M (Kd.int .u8) _ _ _ 28 [.int .u8 28] from rfl) (Reps.one (show Kd.M (Kd.int .u8) _ _ _ 29 [.int .u8 29] from rfl) (Reps.one (show Kd.M (Kd.int .u8) _ _ _ 30 [.int .u8 30] from rfl) (Reps.one (show Kd.M (Kd.int .u8) _ _ _ 31 [.int .u8 31] from rfl) (Reps.one (show Kd.M (Kd.int .u8) _ _ _ 32 [.int .u8 32] from rfl) (Reps.one (show Kd.M (Kd.int .u8) _ _ _ 5 [.int .u8 5] from rfl) (Reps.one (show Kd.M (Kd.int .u8) _ _ _ 39 [.int .u8 39] from rfl) (Reps.one (show Kd.M (Kd.int .u8) _ _ _ 5 [.int .u8 5] from rfl) (Reps.one (show Kd.M (Kd.int .u8) _ _ _ 40 [.int .u8 40] from rfl) (Reps.one (show Kd.M (Kd.int .u8) _ _ _ 20 [.int .u8 20] from rfl) (Reps.one (show Kd.M (Kd.int .u8) _ _ _ 21 [.int .u8 21] from rfl) (Reps.one (show Kd.M (Kd.int .u8) _ _ _ 22 [.int .u8 22] from rfl) (Reps.one (show Kd.M (Kd.int .u8) _ _ _ 23 [.int .u8 23] from rfl) (Reps.one (show Kd.M (Kd.int .u8) _ _ _ 24 [.int .u8 24] from rfl) (Reps.one (show Kd.M (Kd.int .u8) _ _ _ 25 [.int .u8 25] from rfl) (Reps.one (show Kd.M (Kd.int .u8) _ _ _ 33 [.int .u8 33] from rfl) (Reps.one (show Kd.M (Kd.int .u8) _ _ _ 34 [.int .u8 34] from rfl) (Reps.one (show Kd.M (Kd.int .u8) _ _ _ 35 [.int .u8 35] from rfl) (Reps.one (show Kd.M (Kd.int .u8) _ _ _ 37 [.int .u8 37] from rfl) (Reps.one (show Kd.M (Kd.int .u8) _ _ _ 5 [.int .u8 5] from rfl) (Reps.none _ _))))))))))))))))))))))))))))))))))))); intro v266 w3 ho4 hb hg_ hnew_; clear hg_ hnew_; (first | rw [← Ny265.out] at ho4 | (simp only [Int.reduceToNat] at ho4; rw [← Ny265.out] at ho4)); have n0_ := zaa.mk (Kd.zbG ho4 (zaB (by repeat (first | exact HB.out | apply zad | apply zac | apply zae)))); have n1_ := zaa.mk (zaG (by repeat (first | exact HB.out | apply zad | apply zac | apply zae)) hb); clear HB; have HO267 := n0_; have HB := n1_; clear n0_ n1_; clear hb ho4))
  go_ret
  exact ⟨by first | rfl | (simp [*, zaF, zaE] <;> rfl), by repeat (first | exact HB.out | apply zad | apply zac | apply zae)⟩
 ·rw [if_neg c2] at H
  have c2b0 : decide (a0 < 0) = false := decide_eq_false c2; clear c2; by_cases c5 : a0 ≥ (y265.length : Int)
  ·rw [if_pos c5] at H
   have c5b0 : decide ((y265.length : Int) ≤ a0) = true := decide_eq_true c5; clear c5; obtain rfl := Option.some.inj H; go_enter Try.func35, Try.ntmps35
   go_wp2_with (first | ((with_reducible refine za7 (N := 4) rfl ?_); (try (refine zbW (by rfl) ?_; dsimp only)); refine Kd.R_lit (Kd.int .u8) _ 5 ?hg (N := 4) ?hd (xs := ([0, 1, 36, 2, 4, 4, 3, 6, 7, 9, 9, 8, 26, 27, 38, 28, 29, 30, 31, 32, 5, 39, 5, 40, 20, 21, 22, 23, 24, 25, 33, 34, 35, 37, 5] : List Int)) (inner := [.int .u8 0, .int .u8 1, .int .u8 36, .int .u8 2, .int .u8 4, .int .u8 4, .int .u8 3, .int .u8 6, .int .u8 7, .int .u8 9, .int .u8 9, .int .u8 8, .int .u8 26, .int .u8 27, .int .u8 38, .int .u8 28, .int .u8 29, .int .u8 30, .int .u8 31, .int .u8 32, .int .u8 5, .int .u8 39, .int .u8 5, .int .u8 40, .int .u8 20, .int .u8 21, .int .u8 22, .int .u8 23, .int .u8 24, .int .u8 25, .int .u8 33, .int .u8 34, .int .u8 35, .int .u8 37, .int .u8 5]) (ok := fun _ => True) (okp := fun _ => True) ?hr ?hp (fun _ hk => hk) trivial (Below.refl _ _) (Nat.le_refl _) (by simp) ?_; (case hd => rfl); (case hg => rfl); (case hr => first | (go_simp; done) | (go_simp; rfl)); (case hp => exact (Reps.one (show Kd.M (Kd.int .u8) _ _ _ 0 [.int .u8 0] from rfl) (Reps.one (show Kd.M (Kd.int .u8) _ _ _ 1 [.int .u8 1] from rfl) (Reps.one (show Kd.M (Kd.int .u8) _ _ _ 36 [.int .u8 36] from rfl) (Reps.one (show Kd.M (Kd.int .u8) _ _ _ 2 [.int .u8 2] from rfl) (Reps.one (show Kd.M (Kd.int .u8) _ _ _ 4 [.int .u8 4] from rfl) (Reps.one (show Kd.M (Kd.int .u8) _ _ _ 4 [.int .u8 4] from rfl) (Reps.one (show Kd.M (Kd.int .u8) _ _ _ 3 [.int .u8 3] from rfl) (Reps.one (show Kd.M (Kd.int .u8) _ _ _ 6 [.int .u8 6] from rfl) (Reps.one (show Kd.M (Kd.int .u8) _ _ _ 7 [.int .u8 7] from rfl) (Reps.one (show Kd.M (Kd.int .u8) _ _ _ 9 [.int .u8 9] from rfl) (Reps.one (show Kd.M (Kd.int .u8) _ _ _ 9 [.int .u8 9] from rfl) (Reps.one (show Kd.M (Kd.int .u8) _ _ _ 8 [.int .u8 8] from rfl) (Reps.one (show Kd.M (Kd.int .u8) _ _ _ 26 [.int .u8 26] from rfl) (Reps.one (show Kd.M (Kd.int .u8) _ _ _ 27 [.int .u8 27] from rfl) (Reps.one (show Kd.M (Kd.int .u8) _ _ _ 38 [.int .u8 38] from rfl) (Reps.one (show Kd.M (Kd.int .u8) _ _ _ 28 [.int .u8 28] from rfl) (Reps.one (show Kd.M (Kd.int .u8) _ _ _ 29 [.int .u8 29] from rfl) (Reps.one (show Kd.M (Kd.int .u8) _ _ _ 30 [.int .u8 30] from rfl) (Reps.one (show Kd.M (Kd.int .u8) _ _ _ 31 [.int .u8 31] from rfl) (Reps.one (show Kd.M (Kd.int .u8) _ _ _ 32 [.int .u8 32] from rfl) (Reps.one (show Kd.M (Kd.int .u8) _ _ _ 5 [.int .u8 5] from rfl) (Reps.one (show Kd.M (Kd.int .u8) _ _ _ 39 [.int .u8 39] from rfl) (Reps.one (show Kd.M (Kd.int .u8) _ _ _ 5 [.int .u8 5] from rfl) (Reps.one (show Kd.M (Kd.int .u8) _ _ _ 40 [.int .u8 40] from rfl) (Reps.one (show Kd.M (Kd.int .u8) _ _ _ 20 [.int .u8 20] from rfl) (Reps.one (show Kd.M (Kd.int .u8) _ _ _ 21 [.int .u8 21] from rfl) (Reps.one (show Kd.M (Kd.int .u8) _ _ _ 22 [.int .u8 22] from rfl) (Reps.one (show Kd.M (Kd.int .u8) _ _ _ 23 [.int .u8 23] from rfl) (Reps.one (show Kd.M (Kd.int .u8) _ _ _ 24 [.int .u8 24] from rfl) (Reps.one (show Kd.M (Kd.int .u8) _ _ _ 25 [.int .u8 25] from rfl) (Reps.one (show Kd.M (Kd.int .u8) _ _ _ 33 [.int .u8 33] from rfl) (Reps.one (show Kd.M (Kd.int .u8) _ _ _ 34 [.int .u8 34] from rfl) (Reps.one (show Kd.M (Kd.int .u8) _ _ _ 35 [.int .u8 35] from rfl) (Reps.one (show Kd.M (Kd.int .u8) _ _ _ 37 [.int .u8 37] from rfl) (Reps.one (show Kd.M (Kd.int .u8) _ _ _ 5 [.int .u8 5] from rfl) (Reps.none _ _))))))))))))))))))))))))))))))))))))); intro v266 w6 ho7 hb hg_ hnew_; clear hg_ hnew_; (first | rw [← Ny265.out] at ho7 | (simp only [Int.reduceToNat] at ho7; rw [← Ny265.out] at ho7)); have n0_ := zaa.mk (Kd.zbG ho7 (zaB (by repeat (first | exact HB.out | apply zad | apply zac | apply zae)))); have n1_ := zaa.mk (zaG (by repeat (first | exact HB.out | apply zad | apply zac | apply zae)) hb); clear HB; have HO267 := n0_; have HB := n1_; clear n0_ n1_; clear hb ho7; obtain ⟨Ao8, co8, eo8⟩ := Kd.zbB HO267.out; subst eo8))
   go_ret
   exact ⟨by first | rfl | (simp [*, zaF, zaE] <;> rfl), by repeat (first | exact HB.out | apply zad | apply zac | apply zae)⟩
  ·rw [if_neg c5] at H
   have c5b0 : decide ((y265.length : Int) ≤ a0) = false := decide_eq_false c5; clear c5; by_cases c9 : 0 ≤ a0
   ·rw [if_pos c9] at H
    have c9b0 : decide (0 ≤ a0) = true := decide_eq_true c9; clear c9; by_cases c10 : a0 < (y265.length : Int)
    ·rw [if_pos c10] at H
     have c10b0 : decide (a0 < (y265.length : Int)) = true := decide_eq_true c10; clear c10; obtain rfl := Option.some.inj H; go_enter Try.func35, Try.ntmps35
     go_wp2_with (first | ((with_reducible refine za7 (N := 4) rfl ?_); (try (refine zbW (by rfl) ?_; dsimp only)); refine Kd.R_lit (Kd.int .u8) _ 5 ?hg (N := 4) ?hd (xs := ([0, 1, 36, 2, 4, 4, 3, 6, 7, 9, 9, 8, 26, 27, 38, 28, 29, 30, 31, 32, 5, 39, 5, 40, 20, 21, 22, 23, 24, 25, 33, 34, 35, 37, 5] : List Int)) (inner := [.int .u8 0, .int .u8 1, .int .u8 36, .int .u8 2, .int .u8 4, .int .u8 4, .int .u8 3, .int .u8 6, .int .u8 7, .int .u8 9, .int .u8 9, .int .u8 8, .int .u8 26, .int .u8 27, .int .u8 38, .int .u8 28, .int .u8 29, .int .u8 30, .int .u8 31, .int .u8 32, .int .u8 5, .int .u8 39, .int .u8 5, .int .u8 40, .int .u8 20, .int .u8 21, .int .u8 22, .int .u8 23, .int .u8 24, .int .u8 25, .int .u8 33, .int .u8 34, .int .u8 35, .int .u8 37, .int .u8 5]) (ok := fun _ => True) (okp := fun _ => True) ?hr ?hp (fun _ hk => hk) trivial (Below.refl _ _) (Nat.le_refl _) (by simp) ?_; (case hd => rfl); (case hg => rfl); (case hr => first | (go_simp; done) | (go_simp; rfl)); (case hp => exact (Reps.one (show Kd.M (Kd.int .u8) _ _ _ 0 [.int .u8 0] from rfl) (Reps.one (show Kd.M (Kd.int .u8) _ _ _ 1 [.int .u8 1] from rfl) (Reps.one (show Kd.M (Kd.int .u8) _ _ _ 36 [.int .u8 36] from rfl) (Reps.one (show Kd.M (Kd.int .u8) _ _ _ 2 [.int .u8 2] from rfl) (Reps.one (show Kd.M (Kd.int .u8) _ _ _ 4 [.int .u8 4] from rfl) (Reps.one (show Kd.M (Kd.int .u8) _ _ _ 4 [.int .u8 4] from rfl) (Reps.one (show Kd.M (Kd.int .u8) _ _ _ 3 [.int .u8 3] from rfl) (Reps.one (show Kd.M (Kd.int .u8) _ _ _ 6 [.int .u8 6] from rfl) (Reps.one (show Kd.M (Kd.int .u8) _ _ _ 7 [.int .u8 7] from rfl) (Reps.one (show Kd.M (Kd.int .u8) _ _ _ 9 [.int .u8 9] from rfl) (Reps.one (show Kd.M (Kd.int .u8) _ _ _ 9 [.int .u8 9] from rfl) (Reps.one (show Kd.M (Kd.int .u8) _ _ _ 8 [.int .u8 8] from rfl) (Reps.one (show Kd.M (Kd.int .u8) _ _ _ 26 [.int .u8 26] from rfl) (Reps.one (show Kd.M (Kd.int .u8) _ _ _ 27 [.int .u8 27] from rfl) (Reps.one (show Kd.M (Kd.int .u8) _ _ _ 38 [.int .u8 38] from rfl) (Reps.one (show Kd.M (Kd.int .u8) _ _ _ 28 [.int .u8 28] from rfl) (Reps.one (show Kd.M (Kd.int .u8) _ _ _ 29 [.int .u8 29] from rfl) (Reps.one (show Kd.M (Kd.int .u8) _ _ _ 30 [.int .u8 30] from rfl) (Reps.one (show Kd.M (Kd.int .u8) _ _ _ 31 [.int .u8 31] from rfl) (Reps.one (show Kd.M (Kd.int .u8) _ _ _ 32 [.int .u8 32] from rfl) (Reps.one (show Kd.M (Kd.int .u8) _ _ _ 5 [.int .u8 5] from rfl) (Reps.one (show Kd.M (Kd.int .u8) _ _ _ 39 [.int .u8 39] from rfl) (Reps.one (show Kd.M (Kd.int .u8) _ _ _ 5 [.int .u8 5] from rfl) (Reps.one (show Kd.M (Kd.int .u8) _ _ _ 40 [.int .u8 40] from rfl) (Reps.one (show Kd.M (Kd.int .u8) _ _ _ 20 [.int .u8 20] from rfl) (Reps.one (show Kd.M (Kd.int .u8) _ _ _ 21 [.int .u8 21] from rfl) (Reps.one (show Kd.M (Kd.int .u8) _ _ _ 22 [.int .u8 22] from rfl) (Reps.one (show Kd.M (Kd.int .u8) _ _ _ 23 [.int .u8 23] from rfl) (Reps.one (show Kd.M (Kd.int .u8) _ _ _ 24 [.int .u8 24] from rfl) (Reps.one (show Kd.M (Kd.int .u8) _ _ _ 25 [.int .u8 25] from rfl) (Reps.one (show Kd.M (Kd.int .u8) _ _ _ 33 [.int .u8 33] from rfl) (Reps.one (show Kd.M (Kd.int .u8) _ _ _ 34 [.int .u8 34] from rfl) (Reps.one (show Kd.M (Kd.int .u8) _ _ _ 35 [.int .u8 35] from rfl) (Reps.one (show Kd.M (Kd.int .u8) _ _ _ 37 [.int .u8 37] from rfl) (Reps.one (show Kd.M (Kd.int .u8) _ _ _ 5 [.int .u8 5] from rfl) (Reps.none _ _))))))))))))))))))))))))))))))))))))); intro v266 w11 ho12 hb hg_ hnew_; clear hg_ hnew_; (first | rw [← Ny265.out] at ho12 | (simp only [Int.reduceToNat] at ho12; rw [← Ny265.out] at ho12)); have n0_ := zaa.mk (Kd.zbG ho12 (zaB (by repeat (first | exact HB.out | apply zad | apply zac | apply zae)))); have n1_ := zaa.mk (zaG (by repeat (first | exact HB.out | apply zad | apply zac | apply zae)) hb); clear HB; have HO267 := n0_; have HB := n1_; clear n0_ n1_; clear hb ho12; obtain ⟨Ao13, co13, eo13⟩ := Kd.zbB HO267.out; subst eo13; have p268 : 0 ≤ (a0 : Int) := of_decide_eq_true (by assumption); have q268 : a0 < (y265.length : Int) := of_decide_eq_true (by assumption); obtain ⟨ad268, e268, hx268_0⟩ := Kd.at_int (Kd.zbt HO267.out).2.2 a0 p268 q268; cases e268; replace p268 := eq_true p268; replace q268 := eq_true q268))
     go_ret
     exact ⟨by first | rfl | (simp [*, zaF, zaE] <;> rfl), by repeat (first | exact HB.out | apply zad | apply zac | apply zae)⟩
    ·rw [if_neg c10] at H
     exact absurd H (by simp)
   ·rw [if_neg c9] at H
    exact absurd H (by simp)
mutual
def zax.l0 : Nat → ByteArray → Int → Option (Int)
 | 0, _, _ => none
 | k + 1, x0, x3 => if x3 < (x0.size : Int) then (if 0 ≤ x3 then ((zah.f k (wrap32 (bt x0 x3))).bind fun t269 => (if t269 = 3 then (if x3 = 0 then (if t269 = 4 then (some 0) else (zax.l0 k x0 (wrap64 (x3 + 1)))) else (zax.l0 k x0 (wrap64 (x3 + 1)))) else (if t269 = 4 then (if x3 = 0 then (some 0) else (zax.l0 k x0 (wrap64 (x3 + 1)))) else (some 0)))) else (none)) else (zax.l1 k x0 (([(⟨#[108, 101, 116]⟩ : ByteArray), (⟨#[102, 110]⟩ : ByteArray), (⟨#[105, 102]⟩ : ByteArray), (⟨#[101, 108, 115, 101]⟩ : ByteArray), (⟨#[119, 104, 105, 108, 101]⟩ : ByteArray), (⟨#[114, 101, 116, 117, 114, 110]⟩ : ByteArray), (⟨#[116, 114, 117, 101]⟩ : ByteArray), (⟨#[102, 97, 108, 115, 101]⟩ : ByteArray)] : List ByteArray)) 0)
def zax.l1 : Nat → ByteArray → List ByteArray → Int → Option (Int)
 | 0, _, _, _ => none
 | k + 1, x0, x5, x6 => if x6 < (x5.length : Int) then (if 0 ≤ x6 then (if x0.toList = (rdOf ByteArray.empty x5 x6).toList then (some ((wrap64 (10 + x6)) % 256)) else (zax.l1 k x0 x5 (wrap64 (x6 + 1)))) else (none)) else (some 6)
end
def zax.f (k : Nat) (a0 : ByteArray) : Option (Int) := if a0.toList = ([] : List UInt8) then (some 0) else (zax.l0 k a0 0)
theorem zax.zbr : ∀ k, (∀ y0 y1, LeO (zax.l0 k y0 y1) (zax.l0 (k + 1) y0 y1)) ∧ (∀ y0 y1 y2, LeO (zax.l1 k y0 y1 y2) (zax.l1 (k + 1) y0 y1 y2))
 | 0 => ⟨fun _ _ r h => by simp [zax.l0] at h, fun _ _ _ r h => by simp [zax.l1] at h⟩
 | k + 1 => by
  obtain ⟨ih0, ih1⟩ := zax.zbr k; refine ⟨?_, ?_⟩
  ·intro y0 y1
   unfold zax.l0
   repeat' first
   | (with_reducible exact ih0 _ _)
   | (with_reducible exact ih1 _ _ _)
   | (with_reducible exact zah.mono _ _)
   | (with_reducible exact LeO.refl _)
   | (with_reducible exact LeO.none _)
   | (with_reducible refine LeO.ite ?_ ?_)
   | (with_reducible refine LeO.bind ?_ (fun _ => ?_))
   | exact ih0 _ _
   | exact ih1 _ _ _
   | exact zah.mono _ _
   | exact LeO.none _
   | refine LeO.ite ?_ ?_
   | refine LeO.bind ?_ (fun _ => ?_)
  ·intro y0 y1 y2
   unfold zax.l1
   repeat' first
   | (with_reducible exact ih0 _ _)
   | (with_reducible exact ih1 _ _ _)
   | (with_reducible exact zah.mono _ _)
   | (with_reducible exact LeO.refl _)
   | (with_reducible exact LeO.none _)
   | (with_reducible refine LeO.ite ?_ ?_)
   | (with_reducible refine LeO.bind ?_ (fun _ => ?_))
   | exact ih0 _ _
   | exact ih1 _ _ _
   | exact zah.mono _ _
   | exact LeO.none _
   | refine LeO.ite ?_ ?_
   | refine LeO.bind ?_ (fun _ => ?_)
theorem zax.mono : ∀ a0 k, LeO (zax.f k a0) (zax.f (k + 1) a0) := by
 intro a0 k
 obtain ⟨ih0, ih1⟩ := zax.zbr k; unfold zax.f
 repeat' first
   | (with_reducible exact ih0 _ _)
   | (with_reducible exact ih1 _ _ _)
   | (with_reducible exact zah.mono _ _)
   | (with_reducible exact LeO.refl _)
   | (with_reducible exact LeO.none _)
   | (with_reducible refine LeO.ite ?_ ?_)
   | (with_reducible refine LeO.bind ?_ (fun _ => ?_))
   | exact ih0 _ _
   | exact ih1 _ _ _
   | exact zah.mono _ _
   | exact LeO.none _
   | refine LeO.ite ?_ ?_
   | refine LeO.bind ?_ (fun _ => ?_)
set_option maxHeartbeats 8000000 in
set_option maxRecDepth 100000 in
theorem zax.calls (k : Nat) (a0 : ByteArray) (r : Int) (w : World) (h : zax.f k a0 = some r) :
  Calls Try.prog 36 #[.string a0] w fun e w' => e = .returned (.int .u8 r) ∧ Below w.heap.size w w' := by
 have HB := zaa.mk (Below.refl w.heap.size w); have H : (if a0.toList = ([] : List UInt8) then (some 0) else (zax.l0 k a0 0)) = some r := h
 clear h; by_cases c2 : a0.toList = ([] : List UInt8)
 ·rw [if_pos c2] at H
  have c2b0 : (a0.toList == ([] : List UInt8)) = true := beq_iff_eq.mpr c2; have c2b1 : (a0.toList != ([] : List UInt8)) = false := bne_eq_false_iff_eq.mpr c2; clear c2; obtain rfl := Option.some.inj H; go_enter Try.func36, Try.ntmps36
  go_wp2
  go_ret
  exact ⟨by first | rfl | (simp [*, zaF, zaE] <;> rfl), by repeat (first | exact HB.out | apply zad | apply zac | apply zae)⟩
 ·rw [if_neg c2] at H
  have c2b0 : (a0.toList == ([] : List UInt8)) = false := beq_eq_false_iff_ne.mpr c2; have c2b1 : (a0.toList != ([] : List UInt8)) = true := bne_iff_ne.mpr c2; have H' := zaa.mk H; clear H; go_enter Try.func36, Try.ntmps36
  go_wp2
  go_loopg [3] k (fun kq v3 w' => ∃ (x3_1 : Int), v3 = .int .i64 x3_1 ∧ zaa (zax.l0 kq a0 x3_1 = some r) ∧ zaa (kq ≤ k) ∧ zaa (Below w.heap.size w w'))
  case atStart => exact ⟨(0), (by first | rfl | (simp; done) | (simp [*]; done)), H', ⟨Nat.le_refl _⟩, ⟨by repeat (first | exact HB.out | apply zad | apply zac | apply zae)⟩⟩
  case round =>
   clear H'; try clear c2
   try clear c2b0
   try clear c2b1
   try clear p2
   obtain ⟨x3_1, rfl, HA, HK1, HB⟩ := hrel; cases gk with
   | zero => exact absurd HA.out (by simp [zax.l0])
   | succ k1 =>
    have H := HA.out; clear HA; simp only [zax.l0] at H; by_cases c3 : x3_1 < (a0.size : Int)
    ·rw [if_pos c3] at H
     have c3b0 : decide (x3_1 < (a0.size : Int)) = true := decide_eq_true c3; clear c3; by_cases c4 : 0 ≤ x3_1
     ·rw [if_pos c4] at H
      have c4b0 : decide (0 ≤ x3_1) = true := decide_eq_true c4; clear c4; replace H := Option.bind_eq_some_iff.mp H; obtain ⟨t269, A60, H⟩ := H; replace H : (if t269 = 3 then (if x3_1 = 0 then (if t269 = 4 then (some 0) else (zax.l0 k1 a0 (wrap64 (x3_1 + 1)))) else (zax.l0 k1 a0 (wrap64 (x3_1 + 1)))) else (if t269 = 4 then (if x3_1 = 0 then (some 0) else (zax.l0 k1 a0 (wrap64 (x3_1 + 1)))) else (some 0))) = some r := H
      have A6 := zaa.mk A60; clear A60; by_cases c7 : t269 = 3
      ·rw [if_pos c7] at H
       have c7b0 : (t269 == 3) = true := beq_iff_eq.mpr c7; have c7b1 : (t269 != 3) = false := bne_eq_false_iff_eq.mpr c7; clear c7; by_cases c8 : x3_1 = 0
       ·rw [if_pos c8] at H
        have c8b0 : (x3_1 == 0) = true := beq_iff_eq.mpr c8; have c8b1 : (x3_1 != 0) = false := bne_eq_false_iff_eq.mpr c8; clear c8; by_cases c9 : t269 = 4
        ·rw [if_pos c9] at H
         have c9b0 : (t269 == 4) = true := beq_iff_eq.mpr c9; have c9b1 : (t269 != 4) = false := bne_eq_false_iff_eq.mpr c9; clear c9; obtain rfl := Option.some.inj H; have p5 : 0 ≤ (x3_1 : Int) := of_decide_eq_true (by assumption)
         have q5 : x3_1 < (a0.size : Int) := of_decide_eq_true (by assumption)
         have hx5 := bt_at a0 x3_1; replace p5 := eq_true p5; replace q5 := eq_true q5; go_wp2_with (first | ((with_reducible refine zaS (f := 34) rfl ?_); refine zbj (some 19) rfl rfl Try.func34 (by kernel_rfl) rfl #[.int .i32 (wrap32 (bt a0 x3_1))] rfl (by (try simp only [List.map_toArray, List.map_cons, List.map_nil]); first | done | rfl | (simp only [List.length_drop, List.length_take]; rfl)) ?_; (with_reducible refine (zah.calls k1 (wrap32 (bt a0 x3_1)) t269 _ A6.out).mono ?_); rintro e w' ⟨rfl, ⟨nd, rfl⟩⟩; refine ⟨_, rfl, ?_⟩))
         go_ret
         exact ⟨by first | rfl | (simp [*, zaF, zaE] <;> rfl), by repeat (first | exact HB.out | apply zad | apply zac | apply zae)⟩
        ·rw [if_neg c9] at H
         have c9b0 : (t269 == 4) = false := beq_eq_false_iff_ne.mpr c9; have c9b1 : (t269 != 4) = true := bne_iff_ne.mpr c9; have H' := zaa.mk H; clear H; have p5 : 0 ≤ (x3_1 : Int) := of_decide_eq_true (by assumption)
         have q5 : x3_1 < (a0.size : Int) := of_decide_eq_true (by assumption)
         have hx5 := bt_at a0 x3_1; replace p5 := eq_true p5; replace q5 := eq_true q5; go_wp2_with (first | ((with_reducible refine zaS (f := 34) rfl ?_); refine zbj (some 19) rfl rfl Try.func34 (by kernel_rfl) rfl #[.int .i32 (wrap32 (bt a0 x3_1))] rfl (by (try simp only [List.map_toArray, List.map_cons, List.map_nil]); first | done | rfl | (simp only [List.length_drop, List.length_take]; rfl)) ?_; (with_reducible refine (zah.calls k1 (wrap32 (bt a0 x3_1)) t269 _ A6.out).mono ?_); rintro e w' ⟨rfl, ⟨nd, rfl⟩⟩; refine ⟨_, rfl, ?_⟩))
         go_roundg k1
         case measure => have := HK1.out; omega
         case rel => exact ⟨(wrap64 (x3_1 + 1)), (by first | rfl | (simp; done) | (simp [*]; done)), H', ⟨by have := HK1.out; omega⟩, ⟨by repeat (first | exact HB.out | apply zad | apply zac | apply zae)⟩⟩
       ·rw [if_neg c8] at H
        have c8b0 : (x3_1 == 0) = false := beq_eq_false_iff_ne.mpr c8; have c8b1 : (x3_1 != 0) = true := bne_iff_ne.mpr c8; have H' := zaa.mk H; clear H; have p5 : 0 ≤ (x3_1 : Int) := of_decide_eq_true (by assumption)
        have q5 : x3_1 < (a0.size : Int) := of_decide_eq_true (by assumption)
        have hx5 := bt_at a0 x3_1; replace p5 := eq_true p5; replace q5 := eq_true q5; go_wp2_with (first | ((with_reducible refine zaS (f := 34) rfl ?_); refine zbj (some 19) rfl rfl Try.func34 (by kernel_rfl) rfl #[.int .i32 (wrap32 (bt a0 x3_1))] rfl (by (try simp only [List.map_toArray, List.map_cons, List.map_nil]); first | done | rfl | (simp only [List.length_drop, List.length_take]; rfl)) ?_; (with_reducible refine (zah.calls k1 (wrap32 (bt a0 x3_1)) t269 _ A6.out).mono ?_); rintro e w' ⟨rfl, ⟨nd, rfl⟩⟩; refine ⟨_, rfl, ?_⟩))
        go_roundg k1
        case measure => have := HK1.out; omega
        case rel => exact ⟨(wrap64 (x3_1 + 1)), (by first | rfl | (simp; done) | (simp [*]; done)), H', ⟨by have := HK1.out; omega⟩, ⟨by repeat (first | exact HB.out | apply zad | apply zac | apply zae)⟩⟩
      ·rw [if_neg c7] at H
       have c7b0 : (t269 == 3) = false := beq_eq_false_iff_ne.mpr c7; have c7b1 : (t269 != 3) = true := bne_iff_ne.mpr c7; by_cases c10 : t269 = 4
       ·rw [if_pos c10] at H
        have c10b0 : (t269 == 4) = true := beq_iff_eq.mpr c10; have c10b1 : (t269 != 4) = false := bne_eq_false_iff_eq.mpr c10; clear c10; by_cases c11 : x3_1 = 0
        ·rw [if_pos c11] at H
         have c11b0 : (x3_1 == 0) = true := beq_iff_eq.mpr c11; have c11b1 : (x3_1 != 0) = false := bne_eq_false_iff_eq.mpr c11; clear c11; obtain rfl := Option.some.inj H; have p5 : 0 ≤ (x3_1 : Int) := of_decide_eq_true (by assumption)
         have q5 : x3_1 < (a0.size : Int) := of_decide_eq_true (by assumption)
         have hx5 := bt_at a0 x3_1; replace p5 := eq_true p5; replace q5 := eq_true q5; go_wp2_with (first | ((with_reducible refine zaS (f := 34) rfl ?_); refine zbj (some 19) rfl rfl Try.func34 (by kernel_rfl) rfl #[.int .i32 (wrap32 (bt a0 x3_1))] rfl (by (try simp only [List.map_toArray, List.map_cons, List.map_nil]); first | done | rfl | (simp only [List.length_drop, List.length_take]; rfl)) ?_; (with_reducible refine (zah.calls k1 (wrap32 (bt a0 x3_1)) t269 _ A6.out).mono ?_); rintro e w' ⟨rfl, ⟨nd, rfl⟩⟩; refine ⟨_, rfl, ?_⟩))
         go_ret
         exact ⟨by first | rfl | (simp [*, zaF, zaE] <;> rfl), by repeat (first | exact HB.out | apply zad | apply zac | apply zae)⟩
        ·rw [if_neg c11] at H
         have c11b0 : (x3_1 == 0) = false := beq_eq_false_iff_ne.mpr c11; have c11b1 : (x3_1 != 0) = true := bne_iff_ne.mpr c11; have H' := zaa.mk H; clear H; have p5 : 0 ≤ (x3_1 : Int) := of_decide_eq_true (by assumption)
         have q5 : x3_1 < (a0.size : Int) := of_decide_eq_true (by assumption)
         have hx5 := bt_at a0 x3_1; replace p5 := eq_true p5; replace q5 := eq_true q5; go_wp2_with (first | ((with_reducible refine zaS (f := 34) rfl ?_); refine zbj (some 19) rfl rfl Try.func34 (by kernel_rfl) rfl #[.int .i32 (wrap32 (bt a0 x3_1))] rfl (by (try simp only [List.map_toArray, List.map_cons, List.map_nil]); first | done | rfl | (simp only [List.length_drop, List.length_take]; rfl)) ?_; (with_reducible refine (zah.calls k1 (wrap32 (bt a0 x3_1)) t269 _ A6.out).mono ?_); rintro e w' ⟨rfl, ⟨nd, rfl⟩⟩; refine ⟨_, rfl, ?_⟩))
         go_roundg k1
         case measure => have := HK1.out; omega
         case rel => exact ⟨(wrap64 (x3_1 + 1)), (by first | rfl | (simp; done) | (simp [*]; done)), H', ⟨by have := HK1.out; omega⟩, ⟨by repeat (first | exact HB.out | apply zad | apply zac | apply zae)⟩⟩
       ·rw [if_neg c10] at H
        have c10b0 : (t269 == 4) = false := beq_eq_false_iff_ne.mpr c10; have c10b1 : (t269 != 4) = true := bne_iff_ne.mpr c10; obtain rfl := Option.some.inj H; have p5 : 0 ≤ (x3_1 : Int) := of_decide_eq_true (by assumption)
        have q5 : x3_1 < (a0.size : Int) := of_decide_eq_true (by assumption)
        have hx5 := bt_at a0 x3_1; replace p5 := eq_true p5; replace q5 := eq_true q5; go_wp2_with (first | ((with_reducible refine zaS (f := 34) rfl ?_); refine zbj (some 19) rfl rfl Try.func34 (by kernel_rfl) rfl #[.int .i32 (wrap32 (bt a0 x3_1))] rfl (by (try simp only [List.map_toArray, List.map_cons, List.map_nil]); first | done | rfl | (simp only [List.length_drop, List.length_take]; rfl)) ?_; (with_reducible refine (zah.calls k1 (wrap32 (bt a0 x3_1)) t269 _ A6.out).mono ?_); rintro e w' ⟨rfl, ⟨nd, rfl⟩⟩; refine ⟨_, rfl, ?_⟩))
        go_ret
        exact ⟨by first | rfl | (simp [*, zaF, zaE] <;> rfl), by repeat (first | exact HB.out | apply zad | apply zac | apply zae)⟩
     ·rw [if_neg c4] at H
      exact absurd H (by simp)
    ·rw [if_neg c3] at H
     have c3b0 : decide (x3_1 < (a0.size : Int)) = false := decide_eq_false c3; clear c3; obtain ⟨y270, hy270⟩ : ∃ y_ : List ByteArray, y_ = (([(⟨#[108, 101, 116]⟩ : ByteArray), (⟨#[102, 110]⟩ : ByteArray), (⟨#[105, 102]⟩ : ByteArray), (⟨#[101, 108, 115, 101]⟩ : ByteArray), (⟨#[119, 104, 105, 108, 101]⟩ : ByteArray), (⟨#[114, 101, 116, 117, 114, 110]⟩ : ByteArray), (⟨#[116, 114, 117, 101]⟩ : ByteArray), (⟨#[102, 97, 108, 115, 101]⟩ : ByteArray)] : List ByteArray)) := ⟨_, rfl⟩; replace H : (zax.l1 k1 a0 y270 0) = some r := by first | (rw [hy270]; with_reducible exact H) | (have H2_ := (Option.bind_some _ _).symm.trans H; rw [hy270]; with_reducible exact H2_) | (have H2_ := (Option.bind_some _ _).symm.trans H; with_reducible exact H2_) | with_reducible exact H | (rw [hy270]; exact H) | exact H
     have Ny270 := zaa.mk hy270; clear hy270; have H' := zaa.mk H; clear H; go_wp2_with (first | ((with_reducible refine za7 (N := 34) rfl ?_); refine Kd.R_lit Kd.string _ 9 ?hg (N := 34) ?hd (xs := ([(⟨#[108, 101, 116]⟩ : ByteArray), (⟨#[102, 110]⟩ : ByteArray), (⟨#[105, 102]⟩ : ByteArray), (⟨#[101, 108, 115, 101]⟩ : ByteArray), (⟨#[119, 104, 105, 108, 101]⟩ : ByteArray), (⟨#[114, 101, 116, 117, 114, 110]⟩ : ByteArray), (⟨#[116, 114, 117, 101]⟩ : ByteArray), (⟨#[102, 97, 108, 115, 101]⟩ : ByteArray)] : List ByteArray)) (inner := [.string (⟨#[108, 101, 116]⟩ : ByteArray), .string (⟨#[102, 110]⟩ : ByteArray), .string (⟨#[105, 102]⟩ : ByteArray), .string (⟨#[101, 108, 115, 101]⟩ : ByteArray), .string (⟨#[119, 104, 105, 108, 101]⟩ : ByteArray), .string (⟨#[114, 101, 116, 117, 114, 110]⟩ : ByteArray), .string (⟨#[116, 114, 117, 101]⟩ : ByteArray), .string (⟨#[102, 97, 108, 115, 101]⟩ : ByteArray)]) (ok := fun _ => True) (okp := fun _ => True) ?hr ?hp (fun _ hk => hk) trivial (Below.refl _ _) (Nat.le_refl _) (by simp) ?_; (case hd => rfl); (case hg => rfl); (case hr => first | (go_simp; done) | (go_simp; rfl)); (case hp => exact (Reps.one (show Kd.M Kd.string _ _ _ (⟨#[108, 101, 116]⟩ : ByteArray) [.string (⟨#[108, 101, 116]⟩ : ByteArray)] from rfl) (Reps.one (show Kd.M Kd.string _ _ _ (⟨#[102, 110]⟩ : ByteArray) [.string (⟨#[102, 110]⟩ : ByteArray)] from rfl) (Reps.one (show Kd.M Kd.string _ _ _ (⟨#[105, 102]⟩ : ByteArray) [.string (⟨#[105, 102]⟩ : ByteArray)] from rfl) (Reps.one (show Kd.M Kd.string _ _ _ (⟨#[101, 108, 115, 101]⟩ : ByteArray) [.string (⟨#[101, 108, 115, 101]⟩ : ByteArray)] from rfl) (Reps.one (show Kd.M Kd.string _ _ _ (⟨#[119, 104, 105, 108, 101]⟩ : ByteArray) [.string (⟨#[119, 104, 105, 108, 101]⟩ : ByteArray)] from rfl) (Reps.one (show Kd.M Kd.string _ _ _ (⟨#[114, 101, 116, 117, 114, 110]⟩ : ByteArray) [.string (⟨#[114, 101, 116, 117, 114, 110]⟩ : ByteArray)] from rfl) (Reps.one (show Kd.M Kd.string _ _ _ (⟨#[116, 114, 117, 101]⟩ : ByteArray) [.string (⟨#[116, 114, 117, 101]⟩ : ByteArray)] from rfl) (Reps.one (show Kd.M Kd.string _ _ _ (⟨#[102, 97, 108, 115, 101]⟩ : ByteArray) [.string (⟨#[102, 97, 108, 115, 101]⟩ : ByteArray)] from rfl) (Reps.none _ _)))))))))); intro v271 w12 ho13 hb hg_ hnew_; clear hg_ hnew_; (first | rw [← Ny270.out] at ho13 | (simp only [Int.reduceToNat] at ho13; rw [← Ny270.out] at ho13)); have n0_ := zaa.mk (Kd.zbG ho13 (zaB (by repeat (first | exact HB.out | apply zad | apply zac | apply zae)))); have n1_ := zaa.mk (zaG (by repeat (first | exact HB.out | apply zad | apply zac | apply zae)) hb); clear HB; have HO272 := n0_; have HB := n1_; clear n0_ n1_; clear hb ho13))
     go_loopg [6] k1 (fun kq v6 w' => ∃ (x6_2 : Int), v6 = .int .i64 x6_2 ∧ zaa (zax.l1 kq a0 y270 x6_2 = some r) ∧ zaa (kq ≤ k1) ∧ zaa (Kd.R Kd.string 9 w' w.heap.size (fun _ => True) v271 y270) ∧ zaa (Below w.heap.size w w'))
     case atStart => exact ⟨(0), (by first | rfl | (simp; done) | (simp [*]; done)), H', ⟨Nat.le_refl _⟩, ⟨by (with_reducible repeat (first | apply Kd.za3 | apply Kd.za2 | apply Kd.za8)); exact HO272.out⟩, ⟨by repeat (first | exact HB.out | apply zad | apply zac | apply zae)⟩⟩
     case round =>
      clear H'; try clear c1
      try clear c2
      try clear c2b0
      try clear c2b1
      try clear p2
      try clear c3
      try clear c3b0
      try clear p3
      try clear c4
      try clear c4b0
      try clear p5
      try clear q5
      try clear hx5
      try clear p6
      try clear c7
      try clear c7b0
      try clear c7b1
      try clear c8
      try clear c8b0
      try clear c8b1
      try clear c9
      try clear c9b0
      try clear c9b1
      try clear c10
      try clear c10b0
      try clear c10b1
      try clear c11
      try clear c11b0
      try clear c11b1
      try clear p2
      try clear p5
      try clear q5
      obtain ⟨x6_2, rfl, HA, HK2, HO_5, HB⟩ := hrel; cases gk with
      | zero => exact absurd HA.out (by simp [zax.l1])
      | succ k2 =>
       have H := HA.out; clear HA; simp only [zax.l1] at H; by_cases c14 : x6_2 < (y270.length : Int)
       ·rw [if_pos c14] at H
        have c14b0 : decide (x6_2 < (y270.length : Int)) = true := decide_eq_true c14; clear c14; by_cases c15 : 0 ≤ x6_2
        ·rw [if_pos c15] at H
         have c15b0 : decide (0 ≤ x6_2) = true := decide_eq_true c15; clear c15; by_cases c16 : a0.toList = (rdOf ByteArray.empty y270 x6_2).toList
         ·rw [if_pos c16] at H
          have c16b0 : (a0.toList == (rdOf ByteArray.empty y270 x6_2).toList) = true := beq_iff_eq.mpr c16; have c16b1 : (a0.toList != (rdOf ByteArray.empty y270 x6_2).toList) = false := bne_eq_false_iff_eq.mpr c16; clear c16; obtain rfl := Option.some.inj H; obtain ⟨Ao17, co17, eo17⟩ := Kd.zbB HO_5.out; subst eo17; have p273 : 0 ≤ (x6_2 : Int) := of_decide_eq_true (by assumption)
          have q273 : x6_2 < (y270.length : Int) := of_decide_eq_true (by assumption)
          obtain ⟨ad273, e273, hx273_0⟩ := Kd.at_string (Kd.zbt HO_5.out).2.2 x6_2 p273 q273; cases e273; replace p273 := eq_true p273; replace q273 := eq_true q273; go_wp2
          go_ret
          exact ⟨by first | rfl | (simp [*, zaF, zaE] <;> rfl), by repeat (first | exact HB.out | apply zad | apply zac | apply zae)⟩
         ·rw [if_neg c16] at H
          have c16b0 : (a0.toList == (rdOf ByteArray.empty y270 x6_2).toList) = false := beq_eq_false_iff_ne.mpr c16; have c16b1 : (a0.toList != (rdOf ByteArray.empty y270 x6_2).toList) = true := bne_iff_ne.mpr c16; have H' := zaa.mk H; clear H; obtain ⟨Ao18, co18, eo18⟩ := Kd.zbB HO_5.out; subst eo18; have p273 : 0 ≤ (x6_2 : Int) := of_decide_eq_true (by assumption)
          have q273 : x6_2 < (y270.length : Int) := of_decide_eq_true (by assumption)
          obtain ⟨ad273, e273, hx273_0⟩ := Kd.at_string (Kd.zbt HO_5.out).2.2 x6_2 p273 q273; cases e273; replace p273 := eq_true p273; replace q273 := eq_true q273; go_wp2
          go_roundg k2
          case measure => have := HK1.out; have := HK2.out; omega
          case rel => exact ⟨(wrap64 (x6_2 + 1)), (by first | rfl | (simp; done) | (simp [*]; done)), H', ⟨by have := HK1.out; have := HK2.out; omega⟩, ⟨by (with_reducible repeat (first | apply Kd.za3 | apply Kd.za2 | apply Kd.za8)); exact HO_5.out⟩, ⟨by repeat (first | exact HB.out | apply zad | apply zac | apply zae)⟩⟩
        ·rw [if_neg c15] at H
         exact absurd H (by simp)
       ·rw [if_neg c14] at H
        have c14b0 : decide (x6_2 < (y270.length : Int)) = false := decide_eq_false c14; clear c14; obtain rfl := Option.some.inj H; obtain ⟨Ao19, co19, eo19⟩ := Kd.zbB HO_5.out; subst eo19; go_wp2
        go_ret
        exact ⟨by first | rfl | (simp [*, zaF, zaE] <;> rfl), by repeat (first | exact HB.out | apply zad | apply zac | apply zae)⟩
def zaI.l0 : Nat → Int → Int → Option (Bool)
 | 0, _, _ => none
 | k + 1, x0, x3 => if x3 < 24 then ((zam.f k x0 x3).bind fun t274 => (if t274 ≥ 0 then (some false) else (zaI.l0 k x0 (wrap64 (x3 + 1))))) else (some true)
def zaI.f (k : Nat) (a0 : Int) : Option (Bool) := zaI.l0 k a0 0
theorem zaI.zbr : ∀ k, (∀ y0 y1, LeO (zaI.l0 k y0 y1) (zaI.l0 (k + 1) y0 y1))
 | 0 => fun _ _ r h => by simp [zaI.l0] at h
 | k + 1 => by
  have ih0 := zaI.zbr k
  ·intro y0 y1
   unfold zaI.l0
   repeat' first
   | (with_reducible exact ih0 _ _)
   | (with_reducible exact zam.mono _ _ _)
   | (with_reducible exact LeO.refl _)
   | (with_reducible exact LeO.none _)
   | (with_reducible refine LeO.ite ?_ ?_)
   | (with_reducible refine LeO.bind ?_ (fun _ => ?_))
   | exact ih0 _ _
   | exact zam.mono _ _ _
   | exact LeO.none _
   | refine LeO.ite ?_ ?_
   | refine LeO.bind ?_ (fun _ => ?_)
theorem zaI.mono : ∀ a0 k, LeO (zaI.f k a0) (zaI.f (k + 1) a0) := by
 intro a0 k
 have ih0 := zaI.zbr k; unfold zaI.f
 repeat' first
   | (with_reducible exact ih0 _ _)
   | (with_reducible exact zam.mono _ _ _)
   | (with_reducible exact LeO.refl _)
   | (with_reducible exact LeO.none _)
   | (with_reducible refine LeO.ite ?_ ?_)
   | (with_reducible refine LeO.bind ?_ (fun _ => ?_))
   | exact ih0 _ _
   | exact zam.mono _ _ _
   | exact LeO.none _
   | refine LeO.ite ?_ ?_
   | refine LeO.bind ?_ (fun _ => ?_)
set_option maxHeartbeats 8000000 in
set_option maxRecDepth 100000 in
theorem zaI.calls (k : Nat) (a0 : Int) (r : Bool) (w : World) (h : zaI.f k a0 = some r) :
  Calls Try.prog 37 #[.int .i64 a0] w fun e w' => e = .returned (.bool r) ∧ Below w.heap.size w w' := by
 have HB := zaa.mk (Below.refl w.heap.size w); have H : (zaI.l0 k a0 0) = some r := h; clear h; have H' := zaa.mk H; clear H; go_enter Try.func37, Try.ntmps37
 go_wp2
 go_loopg [3] k (fun kq v3 w' => ∃ (x3_1 : Int), v3 = .int .i64 x3_1 ∧ zaa (zaI.l0 kq a0 x3_1 = some r) ∧ zaa (kq ≤ k) ∧ zaa (Below w.heap.size w w'))
 case atStart => exact ⟨(0), (by first | rfl | (simp; done) | (simp [*]; done)), H', ⟨Nat.le_refl _⟩, ⟨by repeat (first | exact HB.out | apply zad | apply zac | apply zae)⟩⟩
 case round =>
  clear H'; obtain ⟨x3_1, rfl, HA, HK1, HB⟩ := hrel; cases gk with
  | zero => exact absurd HA.out (by simp [zaI.l0])
  | succ k1 =>
   have H := HA.out; clear HA; simp only [zaI.l0] at H; by_cases c2 : x3_1 < 24
   ·rw [if_pos c2] at H
    have c2b0 : decide (x3_1 < 24) = true := decide_eq_true c2; clear c2; replace H := Option.bind_eq_some_iff.mp H; obtain ⟨t274, A30, H⟩ := H; replace H : (if t274 ≥ 0 then (some false) else (zaI.l0 k1 a0 (wrap64 (x3_1 + 1)))) = some r := H
    have A3 := zaa.mk A30; clear A30; by_cases c4 : t274 ≥ 0
    ·rw [if_pos c4] at H
     have c4b0 : decide (0 ≤ t274) = true := decide_eq_true c4; clear c4; obtain rfl := Option.some.inj H; go_wp2_with (first | ((with_reducible refine zaS (f := 33) rfl ?_); refine zbj (some 10) rfl rfl Try.func33 (by kernel_rfl) rfl #[.int .i64 a0, .int .i64 x3_1] rfl (by (try simp only [List.map_toArray, List.map_cons, List.map_nil]); first | done | rfl | (simp only [List.length_drop, List.length_take]; rfl)) ?_; (with_reducible refine (zam.calls k1 a0 x3_1 t274 _ A3.out).mono ?_); rintro e w5 ⟨rfl, hb⟩; refine ⟨_, rfl, ?_⟩; have n0_ := zaa.mk (zaG (by repeat (first | exact HB.out | apply zad | apply zac | apply zae)) hb); clear HB; have HB := n0_; clear n0_; (try clear hb); (try clear hb2); (try clear hk); (try clear hi)))
     go_ret
     exact ⟨by first | rfl | (simp [*, zaF, zaE] <;> rfl), by repeat (first | exact HB.out | apply zad | apply zac | apply zae)⟩
    ·rw [if_neg c4] at H
     have c4b0 : decide (0 ≤ t274) = false := decide_eq_false c4; clear c4; have H' := zaa.mk H; clear H; go_wp2_with (first | ((with_reducible refine zaS (f := 33) rfl ?_); refine zbj (some 10) rfl rfl Try.func33 (by kernel_rfl) rfl #[.int .i64 a0, .int .i64 x3_1] rfl (by (try simp only [List.map_toArray, List.map_cons, List.map_nil]); first | done | rfl | (simp only [List.length_drop, List.length_take]; rfl)) ?_; (with_reducible refine (zam.calls k1 a0 x3_1 t274 _ A3.out).mono ?_); rintro e w6 ⟨rfl, hb⟩; refine ⟨_, rfl, ?_⟩; have n0_ := zaa.mk (zaG (by repeat (first | exact HB.out | apply zad | apply zac | apply zae)) hb); clear HB; have HB := n0_; clear n0_; (try clear hb); (try clear hb2); (try clear hk); (try clear hi)))
     go_roundg k1
     case measure => have := HK1.out; omega
     case rel => exact ⟨(wrap64 (x3_1 + 1)), (by first | rfl | (simp; done) | (simp [*]; done)), H', ⟨by have := HK1.out; omega⟩, ⟨by repeat (first | exact HB.out | apply zad | apply zac | apply zae)⟩⟩
   ·rw [if_neg c2] at H
    have c2b0 : decide (x3_1 < 24) = false := decide_eq_false c2; clear c2; obtain rfl := Option.some.inj H; go_wp2
    go_ret
    exact ⟨by first | rfl | (simp [*, zaF, zaE] <;> rfl), by repeat (first | exact HB.out | apply zad | apply zac | apply zae)⟩
mutual
def zak.j0 : Nat → ByteArray → Int → Bool → Option (Int × Int × Int × Bool)
 | 0, _, _, _ => none
 | k + 1, x0, x1, x21 => if x21 = true then (some (0, 0, 0, false)) else (zak.l0 k x0 x1 0 x1 false)
def zak.j3 : Nat → ByteArray → Int → Int → Int → Bool → Option (Int × Int × Int × Bool)
 | 0, _, _, _, _, _ => none
 | k + 1, x0, x1, x6, x7, x8 => (zbM.f x6).bind fun t281 => (if x6 = 7 then (if 0 ≤ x1 then (if x1 ≤ x7 then (if x7 ≤ (x0.size : Int) then ((zax.f k (x0.extract (x1 : Int).toNat (x7 : Int).toNat)).bind fun t283 => (zak.j4 k x0 x6 x7 x8 t283 (wrap64 (x7 - x1)) 0)) else (none)) else (none)) else (none)) else (zak.j4 k x0 x6 x7 x8 t281 (wrap64 (x7 - x1)) 0))
def zak.j4 : Nat → ByteArray → Int → Int → Bool → Int → Int → Int → Option (Int × Int × Int × Bool)
 | 0, _, _, _, _, _, _, _ => none
 | k + 1, x0, x6, x7, x8, x283000, x283001, x283002 => (zaI.f k x6).bind fun t284 => (if t284 = true then (if x8 = true then (if (wrap64 ((wrap64 ((x0.size : Int) - x7)) + 1)) > 3 then (some (x283000, x283001, 3, true)) else (some (x283000, x283001, wrap64 ((wrap64 ((x0.size : Int) - x7)) + 1), true))) else (some (x283000, x283001, x283002, true))) else (some (x283000, x283001, 1, true)))
def zak.l0 : Nat → ByteArray → Int → Int → Int → Bool → Option (Int × Int × Int × Bool)
 | 0, _, _, _, _, _ => none
 | k + 1, x0, x1, x6, x7, x8 => if x7 < (x0.size : Int) then ((zaj.f k x0 x7).bind fun bt276 => (if bt276.2.2 = true then (zak.j2 k x0 x1 x6 x7 x8 bt276.1 bt276.2.1 bt276.2.2) else (zak.j2 k x0 x1 x6 x7 x8 65533 1 bt276.2.2))) else (zak.j3 k x0 x1 x6 x7 x8)
def zak.j2 : Nat → ByteArray → Int → Int → Int → Bool → Int → Int → Bool → Option (Int × Int × Int × Bool)
 | 0, _, _, _, _, _, _, _, _ => none
 | k + 1, x0, x1, x6, x7, x8, x9, x10, x11 => (zah.f k x9).bind fun t279 => ((zam.f k x6 t279).bind fun t280 => (if t280 < 0 then (zak.j3 k x0 x1 x6 x7 x8) else (if x6 = 0 then (zak.l0 k x0 x1 t280 (wrap64 (x7 + x10)) (!x11)) else (zak.l0 k x0 x1 t280 (wrap64 (x7 + x10)) false))))
end
def zak.f (k : Nat) (a0 : ByteArray) (a1 : Int) : Option (Int × Int × Int × Bool) := if a1 < 0 then (zak.j0 k a0 a1 true) else (zak.j0 k a0 a1 (decide (a1 ≥ (a0.size : Int))))
theorem zak.zbr : ∀ k, (∀ y0 y1 y2, LeO (zak.j0 k y0 y1 y2) (zak.j0 (k + 1) y0 y1 y2)) ∧ (∀ y0 y1 y2 y3 y4, LeO (zak.j3 k y0 y1 y2 y3 y4) (zak.j3 (k + 1) y0 y1 y2 y3 y4)) ∧ (∀ y0 y1 y2 y3 y4 y5 y6, LeO (zak.j4 k y0 y1 y2 y3 y4 y5 y6) (zak.j4 (k + 1) y0 y1 y2 y3 y4 y5 y6)) ∧ (∀ y0 y1 y2 y3 y4, LeO (zak.l0 k y0 y1 y2 y3 y4) (zak.l0 (k + 1) y0 y1 y2 y3 y4)) ∧ (∀ y0 y1 y2 y3 y4 y5 y6 y7, LeO (zak.j2 k y0 y1 y2 y3 y4 y5 y6 y7) (zak.j2 (k + 1) y0 y1 y2 y3 y4 y5 y6 y7))
 | 0 => ⟨fun _ _ _ r h => by simp [zak.j0] at h, fun _ _ _ _ _ r h => by simp [zak.j3] at h, fun _ _ _ _ _ _ _ r h => by simp [zak.j4] at h, fun _ _ _ _ _ r h => by simp [zak.l0] at h, fun _ _ _ _ _ _ _ _ r h => by simp [zak.j2] at h⟩
 | k + 1 => by
  obtain ⟨ih0, ih1, ih2, ih3, ih4⟩ := zak.zbr k; refine ⟨?_, ?_, ?_, ?_, ?_⟩
  ·intro y0 y1 y2
   unfold zak.j0
   repeat' first
   | (with_reducible exact ih0 _ _ _)
   | (with_reducible exact ih1 _ _ _ _ _)
   | (with_reducible exact ih2 _ _ _ _ _ _ _)
   | (with_reducible exact ih3 _ _ _ _ _)
   | (with_reducible exact ih4 _ _ _ _ _ _ _ _)
   | (with_reducible exact zaj.mono _ _ _)
   | (with_reducible exact zah.mono _ _)
   | (with_reducible exact zam.mono _ _ _)
   | (with_reducible exact zax.mono _ _)
   | (with_reducible exact zaI.mono _ _)
   | (with_reducible exact LeO.refl _)
   | (with_reducible exact LeO.none _)
   | (with_reducible refine LeO.ite ?_ ?_)
   | (with_reducible refine LeO.bind ?_ (fun _ => ?_))
   | exact ih0 _ _ _
   | exact ih1 _ _ _ _ _
   | exact ih2 _ _ _ _ _ _ _
   | exact ih3 _ _ _ _ _
   | exact ih4 _ _ _ _ _ _ _ _
   | exact zaj.mono _ _ _
   | exact zah.mono _ _
   | exact zam.mono _ _ _
   | exact zax.mono _ _
   | exact zaI.mono _ _
   | exact LeO.none _
   | refine LeO.ite ?_ ?_
   | refine LeO.bind ?_ (fun _ => ?_)
  ·intro y0 y1 y2 y3 y4
   unfold zak.j3
   repeat' first
   | (with_reducible exact ih0 _ _ _)
   | (with_reducible exact ih1 _ _ _ _ _)
   | (with_reducible exact ih2 _ _ _ _ _ _ _)
   | (with_reducible exact ih3 _ _ _ _ _)
   | (with_reducible exact ih4 _ _ _ _ _ _ _ _)
   | (with_reducible exact zaj.mono _ _ _)
   | (with_reducible exact zah.mono _ _)
   | (with_reducible exact zam.mono _ _ _)
   | (with_reducible exact zax.mono _ _)
   | (with_reducible exact zaI.mono _ _)
   | (with_reducible exact LeO.refl _)
   | (with_reducible exact LeO.none _)
   | (with_reducible refine LeO.ite ?_ ?_)
   | (with_reducible refine LeO.bind ?_ (fun _ => ?_))
   | exact ih0 _ _ _
   | exact ih1 _ _ _ _ _
   | exact ih2 _ _ _ _ _ _ _
   | exact ih3 _ _ _ _ _
   | exact ih4 _ _ _ _ _ _ _ _
   | exact zaj.mono _ _ _
   | exact zah.mono _ _
   | exact zam.mono _ _ _
   | exact zax.mono _ _
   | exact zaI.mono _ _
   | exact LeO.none _
   | refine LeO.ite ?_ ?_
   | refine LeO.bind ?_ (fun _ => ?_)
  ·intro y0 y1 y2 y3 y4 y5 y6
   unfold zak.j4
   repeat' first
   | (with_reducible exact ih0 _ _ _)
   | (with_reducible exact ih1 _ _ _ _ _)
   | (with_reducible exact ih2 _ _ _ _ _ _ _)
   | (with_reducible exact ih3 _ _ _ _ _)
   | (with_reducible exact ih4 _ _ _ _ _ _ _ _)
   | (with_reducible exact zaj.mono _ _ _)
   | (with_reducible exact zah.mono _ _)
   | (with_reducible exact zam.mono _ _ _)
   | (with_reducible exact zax.mono _ _)
   | (with_reducible exact zaI.mono _ _)
   | (with_reducible exact LeO.refl _)
   | (with_reducible exact LeO.none _)
   | (with_reducible refine LeO.ite ?_ ?_)
   | (with_reducible refine LeO.bind ?_ (fun _ => ?_))
   | exact ih0 _ _ _
   | exact ih1 _ _ _ _ _
   | exact ih2 _ _ _ _ _ _ _
   | exact ih3 _ _ _ _ _
   | exact ih4 _ _ _ _ _ _ _ _
   | exact zaj.mono _ _ _
   | exact zah.mono _ _
   | exact zam.mono _ _ _
   | exact zax.mono _ _
   | exact zaI.mono _ _
   | exact LeO.none _
   | refine LeO.ite ?_ ?_
   | refine LeO.bind ?_ (fun _ => ?_)
  ·intro y0 y1 y2 y3 y4
   unfold zak.l0
   repeat' first
   | (with_reducible exact ih0 _ _ _)
   | (with_reducible exact ih1 _ _ _ _ _)
   | (with_reducible exact ih2 _ _ _ _ _ _ _)
   | (with_reducible exact ih3 _ _ _ _ _)
   | (with_reducible exact ih4 _ _ _ _ _ _ _ _)
   | (with_reducible exact zaj.mono _ _ _)
   | (with_reducible exact zah.mono _ _)
   | (with_reducible exact zam.mono _ _ _)
   | (with_reducible exact zax.mono _ _)
   | (with_reducible exact zaI.mono _ _)
   | (with_reducible exact LeO.refl _)
   | (with_reducible exact LeO.none _)
   | (with_reducible refine LeO.ite ?_ ?_)
   | (with_reducible refine LeO.bind ?_ (fun _ => ?_))
   | exact ih0 _ _ _
   | exact ih1 _ _ _ _ _
   | exact ih2 _ _ _ _ _ _ _
   | exact ih3 _ _ _ _ _
   | exact ih4 _ _ _ _ _ _ _ _
   | exact zaj.mono _ _ _
   | exact zah.mono _ _
   | exact zam.mono _ _ _
   | exact zax.mono _ _
   | exact zaI.mono _ _
   | exact LeO.none _
   | refine LeO.ite ?_ ?_
   | refine LeO.bind ?_ (fun _ => ?_)
  ·intro y0 y1 y2 y3 y4 y5 y6 y7
   unfold zak.j2
   repeat' first
   | (with_reducible exact ih0 _ _ _)
   | (with_reducible exact ih1 _ _ _ _ _)
   | (with_reducible exact ih2 _ _ _ _ _ _ _)
   | (with_reducible exact ih3 _ _ _ _ _)
   | (with_reducible exact ih4 _ _ _ _ _ _ _ _)
   | (with_reducible exact zaj.mono _ _ _)
   | (with_reducible exact zah.mono _ _)
   | (with_reducible exact zam.mono _ _ _)
   | (with_reducible exact zax.mono _ _)
   | (with_reducible exact zaI.mono _ _)
   | (with_reducible exact LeO.refl _)
   | (with_reducible exact LeO.none _)
   | (with_reducible refine LeO.ite ?_ ?_)
   | (with_reducible refine LeO.bind ?_ (fun _ => ?_))
   | exact ih0 _ _ _
   | exact ih1 _ _ _ _ _
   | exact ih2 _ _ _ _ _ _ _
   | exact ih3 _ _ _ _ _
   | exact ih4 _ _ _ _ _ _ _ _
   | exact zaj.mono _ _ _
   | exact zah.mono _ _
   | exact zam.mono _ _ _
   | exact zax.mono _ _
   | exact zaI.mono _ _
   | exact LeO.none _
   | refine LeO.ite ?_ ?_
   | refine LeO.bind ?_ (fun _ => ?_)
theorem zak.mono : ∀ a0 a1 k, LeO (zak.f k a0 a1) (zak.f (k + 1) a0 a1) := by
 intro a0 a1 k
 obtain ⟨ih0, ih1, ih2, ih3, ih4⟩ := zak.zbr k; unfold zak.f
 repeat' first
   | (with_reducible exact ih0 _ _ _)
   | (with_reducible exact ih1 _ _ _ _ _)
   | (with_reducible exact ih2 _ _ _ _ _ _ _)
   | (with_reducible exact ih3 _ _ _ _ _)
   | (with_reducible exact ih4 _ _ _ _ _ _ _ _)
   | (with_reducible exact zaj.mono _ _ _)
   | (with_reducible exact zah.mono _ _)
   | (with_reducible exact zam.mono _ _ _)
   | (with_reducible exact zax.mono _ _)
   | (with_reducible exact zaI.mono _ _)
   | (with_reducible exact LeO.refl _)
   | (with_reducible exact LeO.none _)
   | (with_reducible refine LeO.ite ?_ ?_)
   | (with_reducible refine LeO.bind ?_ (fun _ => ?_))
   | exact ih0 _ _ _
   | exact ih1 _ _ _ _ _
   | exact ih2 _ _ _ _ _ _ _
   | exact ih3 _ _ _ _ _
   | exact ih4 _ _ _ _ _ _ _ _
   | exact zaj.mono _ _ _
   | exact zah.mono _ _
   | exact zam.mono _ _ _
   | exact zax.mono _ _
   | exact zaI.mono _ _
   | exact LeO.none _
   | refine LeO.ite ?_ ?_
   | refine LeO.bind ?_ (fun _ => ?_)
set_option maxHeartbeats 8000000 in
set_option maxRecDepth 100000 in
theorem zak.calls (k : Nat) (a0 : ByteArray) (a1 : Int) (r1 : Int) (r2 : Int) (r3 : Int) (r4 : Bool) (w : World) (h : zak.f k a0 a1 = some (r1, r2, r3, r4)) :
  Calls Try.prog 17 #[.string a0, .int .i64 a1] w fun e w' => e = .returned (.tuple #[.agg #[.int .u8 r1, .int .i64 r2, .int .i64 r3], .bool r4]) ∧ Below w.heap.size w w' := by
 have hu50 := Try.underlying50; have HB := zaa.mk (Below.refl w.heap.size w); have H : (if a1 < 0 then (zak.j0 k a0 a1 true) else (zak.j0 k a0 a1 (decide (a1 ≥ (a0.size : Int))))) = some (r1, r2, r3, r4) := h
 clear h; have HC3 := zaa.mk H; clear H; go_enter Try.func17, Try.ntmps17
 go_upto_region 1 with (first | ((with_reducible refine za7 (N := 4) rfl ?_); (try (refine zbW (by rfl) ?_; dsimp only)); refine zbl ?hg (N := 4) ?hd (cs := #[.int .u8 0, .int .i64 0, .int .i64 0]) (t := 50) ?hr ?_; (case hd => rfl); (case hg => rfl); (case hr => first | (go_simp; done) | (go_simp; rfl)); intro gb275 hg w4 hbox hb; have n0_ := zaa.mk (zaG (by repeat (first | exact HB.out | apply zad | apply zac | apply zae)) hb); have n1_ := zaa.mk (hbox); have n2_ := zaa.mk ((by rw [hg]; exact (zaB (by repeat (first | exact HB.out | apply zad | apply zac | apply zae))) : w.heap.size ≤ gb275)); have n3_ := zaa.mk ((by rw [hg]; exact (zaB (by repeat (first | exact HB.out | apply zad | apply zac | apply zae))) : w.heap.size ≤ gb275)); clear HB; have HB := n0_; have BK275 := n1_; have GW275 := n2_; have GE275 := n3_; clear n0_ n1_ n2_ n3_; clear hb hbox hg))
 (try simp only [Act.put, zaw])
 go_cut [21] (fun v21 wc => ∃ (kq : Nat) (x21_2 : Bool), v21 = .bool x21_2 ∧ zaa (zak.j0 kq a0 a1 x21_2 = some (r1, r2, r3, r4)) ∧ zaa (kq ≤ k) ∧ zaa (wc.heap[gb275]? = some (.cells #[.int .u8 0, .int .i64 0, .int .i64 0] 50 (0, 0))) ∧ zaa (Below w.heap.size w wc))
 case first =>
  have H := HC3.out; clear HC3; by_cases c5 : a1 < 0
  ·rw [if_pos c5] at H
   have c5b0 : decide (a1 < 0) = true := decide_eq_true c5; clear c5
   (first | rw [c5b0] | (simp only [i64_w, i32_w]; rw [c5b0]) | skip)
   have H' := zaa.mk H; clear H; go_wp2
   go_meet
   case rel => exact ⟨_, (true), (by first | rfl | (simp; done) | (simp [*]; done)), H', ⟨by first | omega | exact Nat.le_refl _⟩, ⟨by (with_reducible repeat (first | refine zar ?_ _ | refine zav ?_ | refine zas ?_ _)); exact BK275.out⟩, ⟨by repeat (first | (with_reducible first | exact HB.out | apply zad | apply zac | apply zae | refine zaq ?_ GE275.out) | exact HB.out)⟩⟩
  ·rw [if_neg c5] at H
   have c5b0 : decide (a1 < 0) = false := decide_eq_false c5; clear c5
   (first | rw [c5b0] | (simp only [i64_w, i32_w]; rw [c5b0]) | skip)
   have H' := zaa.mk H; clear H; go_wp2
   go_meet
   case rel => exact ⟨_, (decide (a1 ≥ (a0.size : Int))), (by first | rfl | (simp; done) | (simp [*]; done)), H', ⟨by first | omega | exact Nat.le_refl _⟩, ⟨by (with_reducible repeat (first | refine zar ?_ _ | refine zav ?_ | refine zas ?_ _)); exact BK275.out⟩, ⟨by repeat (first | (with_reducible first | exact HB.out | apply zad | apply zac | apply zae | refine zaq ?_ GE275.out) | exact HB.out)⟩⟩
 case rest =>
  clear HC3; try clear c1
  try clear p2
  try clear c5
  try clear c5b0
  obtain ⟨kq, x21_2, rfl, HA, HJ2, BK275, HB⟩ := hcut; cases kq with
  | zero => exact absurd HA.out (by simp [zak.j0])
  | succ kj2 =>
   have H := HA.out; clear HA; simp only [zak.j0] at H; by_cases c6 : x21_2 = true
   ·subst c6
    have H1 : (some (0, 0, 0, false)) = some (r1, r2, r3, r4) := by rw [if_pos rfl] at H; exact H
    clear H; have H := H1; clear H1; simp only [Option.some.injEq, Prod.mk.injEq] at H; obtain ⟨rfl, rfl, rfl, rfl⟩ := H; have hcz7_0 : wc.cell? ⟨gb275, 0, none⟩ = some (.int .u8 0) := (zaf BK275.out 0).trans rfl; have hcz7_1 : wc.cell? ⟨gb275, 1, none⟩ = some (.int .i64 0) := (zaf BK275.out 1).trans rfl; have hcz7_2 : wc.cell? ⟨gb275, 2, none⟩ = some (.int .i64 0) := (zaf BK275.out 2).trans rfl; have hfz7_0 := zab BK275.out 0; have hfz7_1 := zab BK275.out 1; have hfz7_2 := zab BK275.out 2; go_wp2
    refine bodyPost_ret (results_ct rfl _ _ gb275 50 #[.int .u8 0, .int .i64 0, .int .i64 0] (0, 0) _ rfl (by (with_reducible repeat (first | refine zar ?_ _ | refine zav ?_ | refine zas ?_ _)); refine zbv (cs := #[.int .u8 0, .int .i64 0, .int .i64 0]) ?_ 2 _ rfl; (with_reducible repeat (first | refine zar ?_ _ | refine zav ?_ | refine zas ?_ _)); refine zbv (cs := #[.int .u8 0, .int .i64 0, .int .i64 0]) ?_ 1 _ rfl; (with_reducible repeat (first | refine zar ?_ _ | refine zav ?_ | refine zas ?_ _)); refine zbv (cs := #[.int .u8 0, .int .i64 0, .int .i64 0]) ?_ 0 _ rfl; (with_reducible repeat (first | refine zar ?_ _ | refine zav ?_ | refine zas ?_ _)); exact BK275.out) Try.underlying50 rfl (by kernel_rfl)) rfl ?_
    exact ⟨by first | rfl | (simp [*, zaF, zaE] <;> rfl), by repeat (first | (with_reducible first | exact HB.out | apply zad | apply zac | apply zae | refine zaq ?_ GE275.out) | exact HB.out)⟩
   ·replace c6 := Bool.eq_false_iff.mpr c6
    subst c6; have H1 : (zak.l0 kj2 a0 a1 0 a1 false) = some (r1, r2, r3, r4) := by rw [if_neg (show ¬ (false = true) by decide)] at H; exact H
    clear H; have H := H1; clear H1; have HC8 := zaa.mk H; clear H
    go_upto_block 0 with (fail)
    go_cut [6, 7, 8] (fun v6 v7 v8 wc => ∃ (kq : Nat) (x6_7 : Int) (x7_7 : Int) (x8_7 : Bool), v6 = .int .i64 x6_7 ∧ v7 = .int .i64 x7_7 ∧ v8 = .bool x8_7 ∧ zaa (zak.j3 kq a0 a1 x6_7 x7_7 x8_7 = some (r1, r2, r3, r4)) ∧ zaa (kq ≤ kj2) ∧ zaa (wc.heap[gb275]? = some (.cells #[.int .u8 0, .int .i64 0, .int .i64 0] 50 (0, 0))) ∧ zaa (Below w.heap.size w wc))
    case first =>
     have H := HC8.out; clear HC8; have H' := zaa.mk H; clear H; go_wp2
     go_loopg [6, 7, 8] kj2 (fun kq v6 v7 v8 w' => ∃ (x6_2 : Int) (x7_2 : Int) (x8_2 : Bool), v6 = .int .i64 x6_2 ∧ v7 = .int .i64 x7_2 ∧ v8 = .bool x8_2 ∧ zaa (zak.l0 kq a0 a1 x6_2 x7_2 x8_2 = some (r1, r2, r3, r4)) ∧ zaa (kq ≤ kj2) ∧ zaa (w'.heap[gb275]? = some (.cells #[.int .u8 0, .int .i64 0, .int .i64 0] 50 (0, 0))) ∧ zaa (Below w.heap.size w w'))
     case atStart => exact ⟨(0), (a1), (false), (by first | rfl | (simp; done) | (simp [*]; done)), (by first | rfl | (simp; done) | (simp [*]; done)), (by first | rfl | (simp; done) | (simp [*]; done)), H', ⟨Nat.le_refl _⟩, ⟨by (with_reducible repeat (first | refine zar ?_ _ | refine zav ?_ | refine zas ?_ _)); exact BK275.out⟩, ⟨by repeat (first | (with_reducible first | exact HB.out | apply zad | apply zac | apply zae | refine zaq ?_ GE275.out) | exact HB.out)⟩⟩
     case round =>
      clear H'; try clear c1
      try clear p2
      try clear c5
      try clear c5b0
      try clear c6
      try clear hcz7_0
      try clear hcz7_1
      try clear hcz7_2
      try clear hfz7_0
      try clear hfz7_1
      try clear hfz7_2
      try clear p2
      obtain ⟨x6_2, x7_2, x8_2, rfl, rfl, rfl, HA, HK2, BK275, HB⟩ := hrel; cases gk with
      | zero => exact absurd HA.out (by simp [zak.l0])
      | succ k2 =>
       have H := HA.out; clear HA; simp only [zak.l0] at H; by_cases c9 : x7_2 < (a0.size : Int)
       ·rw [if_pos c9] at H
        have c9b0 : decide (x7_2 < (a0.size : Int)) = true := decide_eq_true c9; clear c9
        (first | rw [c9b0] | (simp only [i64_w, i32_w]; rw [c9b0]) | skip)
        replace H := Option.bind_eq_some_iff.mp H; obtain ⟨⟨t276, t277, t278⟩, A100, H⟩ := H; replace H : (if t278 = true then (zak.j2 k2 a0 a1 x6_2 x7_2 x8_2 t276 t277 t278) else (zak.j2 k2 a0 a1 x6_2 x7_2 x8_2 65533 1 t278)) = some (r1, r2, r3, r4) := H
        have A10 := zaa.mk A100; clear A100; have HC11 := zaa.mk H; clear H
        go_upto_if 36 with (first | ((with_reducible refine zaS (f := 32) rfl ?_); refine zbj (some 31) rfl rfl Try.func32 (by kernel_rfl) rfl #[.string a0, .int .i64 x7_2] rfl (by (try simp only [List.map_toArray, List.map_cons, List.map_nil]); first | done | rfl | (simp only [List.length_drop, List.length_take]; rfl)) ?_; (with_reducible refine (zaj.calls k2 a0 x7_2 t276 t277 t278 _ A10.out).mono ?_); rintro e w12 ⟨rfl, hb⟩; refine ⟨_, rfl, ?_⟩; have n0_ := zaa.mk (zaX (g := gb275) (o := .cells #[.int .u8 0, .int .i64 0, .int .i64 0] 50 (0, 0)) (by (with_reducible repeat (first | refine zar ?_ _ | refine zav ?_ | refine zas ?_ _)); exact BK275.out) hb); have n1_ := zaa.mk (zaG (by repeat (first | (with_reducible first | exact HB.out | apply zad | apply zac | apply zae | refine zaq ?_ GE275.out) | exact HB.out)) hb); clear BK275; clear HB; have BK275 := n0_; have HB := n1_; clear n0_ n1_; (try clear hb); (try clear hb2); (try clear hk); (try clear hi)))
        (try simp only [Act.put, zaw])
        go_cut [9, 10] (fun v9 v10 wc => ∃ (kq : Nat) (x9_10 : Int) (x10_10 : Int), v9 = .int .i32 x9_10 ∧ v10 = .int .i64 x10_10 ∧ zaa (zak.j2 kq a0 a1 x6_2 x7_2 x8_2 x9_10 x10_10 t278 = some (r1, r2, r3, r4)) ∧ zaa (kq ≤ k2) ∧ zaa (wc.heap[gb275]? = some (.cells #[.int .u8 0, .int .i64 0, .int .i64 0] 50 (0, 0))) ∧ zaa (Below w.heap.size w wc))
        case first =>
         have H := HC11.out; clear HC11; by_cases c13 : t278 = true
         ·subst c13
          have H1 : (zak.j2 k2 a0 a1 x6_2 x7_2 x8_2 t276 t277 true) = some (r1, r2, r3, r4) := by rw [if_pos rfl] at H; exact H
          clear H; have H := H1; clear H1; have H' := zaa.mk H; clear H; go_wp2
          go_meet
          case rel => exact ⟨_, (t276), (t277), (by first | rfl | (simp; done) | (simp [*]; done)), (by first | rfl | (simp; done) | (simp [*]; done)), H', ⟨by have := HJ2.out; have := HK2.out; first | omega | exact Nat.le_refl _⟩, ⟨by (with_reducible repeat (first | refine zar ?_ _ | refine zav ?_ | refine zas ?_ _)); exact BK275.out⟩, ⟨by repeat (first | (with_reducible first | exact HB.out | apply zad | apply zac | apply zae | refine zaq ?_ GE275.out) | exact HB.out)⟩⟩
         ·replace c13 := Bool.eq_false_iff.mpr c13
          subst c13; have H1 : (zak.j2 k2 a0 a1 x6_2 x7_2 x8_2 65533 1 false) = some (r1, r2, r3, r4) := by rw [if_neg (show ¬ (false = true) by decide)] at H; exact H
          clear H; have H := H1; clear H1; have H' := zaa.mk H; clear H; go_wp2
          go_meet
          case rel => exact ⟨_, (65533), (1), (by first | rfl | (simp; done) | (simp [*]; done)), (by first | rfl | (simp; done) | (simp [*]; done)), H', ⟨by have := HJ2.out; have := HK2.out; first | omega | exact Nat.le_refl _⟩, ⟨by (with_reducible repeat (first | refine zar ?_ _ | refine zav ?_ | refine zas ?_ _)); exact BK275.out⟩, ⟨by repeat (first | (with_reducible first | exact HB.out | apply zad | apply zac | apply zae | refine zaq ?_ GE275.out) | exact HB.out)⟩⟩
        case rest =>
         clear HC11; try clear c1
         try clear p2
         try clear c3
         try clear c5
         try clear c5b0
         try clear c6
         try clear c9
         try clear c9b0
         try clear c13
         try clear hcz7_0
         try clear hcz7_1
         try clear hcz7_2
         try clear hfz7_0
         try clear hfz7_1
         try clear hfz7_2
         try clear p2
         obtain ⟨kq, x9_10, x10_10, rfl, rfl, HA, HJ10, BK275, HB⟩ := hcut; cases kq with
         | zero => exact absurd HA.out (by simp [zak.j2])
         | succ kj10 =>
          have H := HA.out; clear HA; simp only [zak.j2] at H; replace H := Option.bind_eq_some_iff.mp H; obtain ⟨t279, A140, H⟩ := H; replace H : ((zam.f kj10 x6_2 t279).bind fun t280 => (if t280 < 0 then (zak.j3 kj10 a0 a1 x6_2 x7_2 x8_2) else (if x6_2 = 0 then (zak.l0 kj10 a0 a1 t280 (wrap64 (x7_2 + x10_10)) (!t278)) else (zak.l0 kj10 a0 a1 t280 (wrap64 (x7_2 + x10_10)) false)))) = some (r1, r2, r3, r4) := H
          have A14 := zaa.mk A140; clear A140; replace H := Option.bind_eq_some_iff.mp H; obtain ⟨t280, A150, H⟩ := H; replace H : (if t280 < 0 then (zak.j3 kj10 a0 a1 x6_2 x7_2 x8_2) else (if x6_2 = 0 then (zak.l0 kj10 a0 a1 t280 (wrap64 (x7_2 + x10_10)) (!t278)) else (zak.l0 kj10 a0 a1 t280 (wrap64 (x7_2 + x10_10)) false))) = some (r1, r2, r3, r4) := H
          have A15 := zaa.mk A150; clear A150; by_cases c16 : t280 < 0
          ·rw [if_pos c16] at H
           have c16b0 : decide (t280 < 0) = true := decide_eq_true c16; clear c16; have H' := zaa.mk H; clear H; go_wp2_with (first | ((with_reducible refine zaS (f := 34) rfl ?_); refine zbj (some 39) rfl rfl Try.func34 (by kernel_rfl) rfl #[.int .i32 x9_10] rfl (by (try simp only [List.map_toArray, List.map_cons, List.map_nil]); first | done | rfl | (simp only [List.length_drop, List.length_take]; rfl)) ?_; (with_reducible refine (zah.calls kj10 x9_10 t279 _ A14.out).mono ?_); rintro e w' ⟨rfl, ⟨nd, rfl⟩⟩; refine ⟨_, rfl, ?_⟩) | ((with_reducible refine zaS (f := 33) rfl ?_); refine zbj (some 40) rfl rfl Try.func33 (by kernel_rfl) rfl #[.int .i64 x6_2, .int .i64 t279] rfl (by (try simp only [List.map_toArray, List.map_cons, List.map_nil]); first | done | rfl | (simp only [List.length_drop, List.length_take]; rfl)) ?_; (with_reducible refine (zam.calls kj10 x6_2 t279 t280 _ A15.out).mono ?_); rintro e w17 ⟨rfl, hb⟩; refine ⟨_, rfl, ?_⟩; have n0_ := zaa.mk (zaX (g := gb275) (o := .cells #[.int .u8 0, .int .i64 0, .int .i64 0] 50 (0, 0)) (by (with_reducible repeat (first | refine zar ?_ _ | refine zav ?_ | refine zas ?_ _)); exact BK275.out) hb); have n1_ := zaa.mk (zaG (by repeat (first | (with_reducible first | exact HB.out | apply zad | apply zac | apply zae | refine zaq ?_ GE275.out) | exact HB.out)) hb); clear BK275; clear HB; have BK275 := n0_; have HB := n1_; clear n0_ n1_; (try clear hb); (try clear hb2); (try clear hk); (try clear hi)))
           go_meet
           case rel => exact ⟨_, (x6_2), (x7_2), (x8_2), (by first | rfl | (simp; done) | (simp [*]; done)), (by first | rfl | (simp; done) | (simp [*]; done)), (by first | rfl | (simp; done) | (simp [*]; done)), H', ⟨by have := HJ2.out; have := HK2.out; have := HJ10.out; first | omega | exact Nat.le_refl _⟩, ⟨by (with_reducible repeat (first | refine zar ?_ _ | refine zav ?_ | refine zas ?_ _)); exact BK275.out⟩, ⟨by repeat (first | (with_reducible first | exact HB.out | apply zad | apply zac | apply zae | refine zaq ?_ GE275.out) | exact HB.out)⟩⟩
          ·rw [if_neg c16] at H
           have c16b0 : decide (t280 < 0) = false := decide_eq_false c16; clear c16; by_cases c18 : x6_2 = 0
           ·rw [if_pos c18] at H
            have c18b0 : (x6_2 == 0) = true := beq_iff_eq.mpr c18; have c18b1 : (x6_2 != 0) = false := bne_eq_false_iff_eq.mpr c18; clear c18; have H' := zaa.mk H; clear H; go_wp2_with (first | ((with_reducible refine zaS (f := 34) rfl ?_); refine zbj (some 39) rfl rfl Try.func34 (by kernel_rfl) rfl #[.int .i32 x9_10] rfl (by (try simp only [List.map_toArray, List.map_cons, List.map_nil]); first | done | rfl | (simp only [List.length_drop, List.length_take]; rfl)) ?_; (with_reducible refine (zah.calls kj10 x9_10 t279 _ A14.out).mono ?_); rintro e w' ⟨rfl, ⟨nd, rfl⟩⟩; refine ⟨_, rfl, ?_⟩) | ((with_reducible refine zaS (f := 33) rfl ?_); refine zbj (some 40) rfl rfl Try.func33 (by kernel_rfl) rfl #[.int .i64 x6_2, .int .i64 t279] rfl (by (try simp only [List.map_toArray, List.map_cons, List.map_nil]); first | done | rfl | (simp only [List.length_drop, List.length_take]; rfl)) ?_; (with_reducible refine (zam.calls kj10 x6_2 t279 t280 _ A15.out).mono ?_); rintro e w19 ⟨rfl, hb⟩; refine ⟨_, rfl, ?_⟩; have n0_ := zaa.mk (zaX (g := gb275) (o := .cells #[.int .u8 0, .int .i64 0, .int .i64 0] 50 (0, 0)) (by (with_reducible repeat (first | refine zar ?_ _ | refine zav ?_ | refine zas ?_ _)); exact BK275.out) hb); have n1_ := zaa.mk (zaG (by repeat (first | (with_reducible first | exact HB.out | apply zad | apply zac | apply zae | refine zaq ?_ GE275.out) | exact HB.out)) hb); clear BK275; clear HB; have BK275 := n0_; have HB := n1_; clear n0_ n1_; (try clear hb); (try clear hb2); (try clear hk); (try clear hi)))
            go_roundg kj10
            case measure => have := HJ2.out; have := HK2.out; have := HJ10.out; omega
            case rel => exact ⟨(t280), (wrap64 (x7_2 + x10_10)), (!t278), (by first | rfl | (simp; done) | (simp [*]; done)), (by first | rfl | (simp; done) | (simp [*]; done)), (by first | rfl | (simp; done) | (simp [*]; done)), H', ⟨by have := HJ2.out; have := HK2.out; have := HJ10.out; omega⟩, ⟨by (with_reducible repeat (first | refine zar ?_ _ | refine zav ?_ | refine zas ?_ _)); exact BK275.out⟩, ⟨by repeat (first | (with_reducible first | exact HB.out | apply zad | apply zac | apply zae | refine zaq ?_ GE275.out) | exact HB.out)⟩⟩
           ·rw [if_neg c18] at H
            have c18b0 : (x6_2 == 0) = false := beq_eq_false_iff_ne.mpr c18; have c18b1 : (x6_2 != 0) = true := bne_iff_ne.mpr c18; have H' := zaa.mk H; clear H; go_wp2_with (first | ((with_reducible refine zaS (f := 34) rfl ?_); refine zbj (some 39) rfl rfl Try.func34 (by kernel_rfl) rfl #[.int .i32 x9_10] rfl (by (try simp only [List.map_toArray, List.map_cons, List.map_nil]); first | done | rfl | (simp only [List.length_drop, List.length_take]; rfl)) ?_; (with_reducible refine (zah.calls kj10 x9_10 t279 _ A14.out).mono ?_); rintro e w' ⟨rfl, ⟨nd, rfl⟩⟩; refine ⟨_, rfl, ?_⟩) | ((with_reducible refine zaS (f := 33) rfl ?_); refine zbj (some 40) rfl rfl Try.func33 (by kernel_rfl) rfl #[.int .i64 x6_2, .int .i64 t279] rfl (by (try simp only [List.map_toArray, List.map_cons, List.map_nil]); first | done | rfl | (simp only [List.length_drop, List.length_take]; rfl)) ?_; (with_reducible refine (zam.calls kj10 x6_2 t279 t280 _ A15.out).mono ?_); rintro e w20 ⟨rfl, hb⟩; refine ⟨_, rfl, ?_⟩; have n0_ := zaa.mk (zaX (g := gb275) (o := .cells #[.int .u8 0, .int .i64 0, .int .i64 0] 50 (0, 0)) (by (with_reducible repeat (first | refine zar ?_ _ | refine zav ?_ | refine zas ?_ _)); exact BK275.out) hb); have n1_ := zaa.mk (zaG (by repeat (first | (with_reducible first | exact HB.out | apply zad | apply zac | apply zae | refine zaq ?_ GE275.out) | exact HB.out)) hb); clear BK275; clear HB; have BK275 := n0_; have HB := n1_; clear n0_ n1_; (try clear hb); (try clear hb2); (try clear hk); (try clear hi)))
            go_roundg kj10
            case measure => have := HJ2.out; have := HK2.out; have := HJ10.out; omega
            case rel => exact ⟨(t280), (wrap64 (x7_2 + x10_10)), (false), (by first | rfl | (simp; done) | (simp [*]; done)), (by first | rfl | (simp; done) | (simp [*]; done)), (by first | rfl | (simp; done) | (simp [*]; done)), H', ⟨by have := HJ2.out; have := HK2.out; have := HJ10.out; omega⟩, ⟨by (with_reducible repeat (first | refine zar ?_ _ | refine zav ?_ | refine zas ?_ _)); exact BK275.out⟩, ⟨by repeat (first | (with_reducible first | exact HB.out | apply zad | apply zac | apply zae | refine zaq ?_ GE275.out) | exact HB.out)⟩⟩
       ·rw [if_neg c9] at H
        have c9b0 : decide (x7_2 < (a0.size : Int)) = false := decide_eq_false c9; clear c9
        (first | rw [c9b0] | (simp only [i64_w, i32_w]; rw [c9b0]) | skip)
        have H' := zaa.mk H; clear H; go_wp2
        go_meet
        case rel => exact ⟨_, (x6_2), (x7_2), (x8_2), (by first | rfl | (simp; done) | (simp [*]; done)), (by first | rfl | (simp; done) | (simp [*]; done)), (by first | rfl | (simp; done) | (simp [*]; done)), H', ⟨by have := HJ2.out; have := HK2.out; first | omega | exact Nat.le_refl _⟩, ⟨by (with_reducible repeat (first | refine zar ?_ _ | refine zav ?_ | refine zas ?_ _)); exact BK275.out⟩, ⟨by repeat (first | (with_reducible first | exact HB.out | apply zad | apply zac | apply zae | refine zaq ?_ GE275.out) | exact HB.out)⟩⟩
    case rest =>
     clear HC8; try clear c1
     try clear p2
     try clear c3
     try clear c5
     try clear c5b0
     try clear c6
     try clear p6
     try clear c9
     try clear c9b0
     try clear c13
     try clear c16
     try clear c16b0
     try clear c17
     try clear c18
     try clear c18b0
     try clear c18b1
     try clear hcz7_0
     try clear hcz7_1
     try clear hcz7_2
     try clear hfz7_0
     try clear hfz7_1
     try clear hfz7_2
     try clear p2
     obtain ⟨kq, x6_7, x7_7, x8_7, rfl, rfl, rfl, HA, HJ7, BK275, HB⟩ := hcut; cases kq with
     | zero => exact absurd HA.out (by simp [zak.j3])
     | succ kj7 =>
      have H := HA.out; clear HA; simp only [zak.j3] at H; replace H := Option.bind_eq_some_iff.mp H; obtain ⟨t281, A210, H⟩ := H; replace H : (if x6_7 = 7 then (if 0 ≤ a1 then (if a1 ≤ x7_7 then (if x7_7 ≤ (a0.size : Int) then ((zax.f kj7 (a0.extract (a1 : Int).toNat (x7_7 : Int).toNat)).bind fun t283 => (zak.j4 kj7 a0 x6_7 x7_7 x8_7 t283 (wrap64 (x7_7 - a1)) 0)) else (none)) else (none)) else (none)) else (zak.j4 kj7 a0 x6_7 x7_7 x8_7 t281 (wrap64 (x7_7 - a1)) 0)) = some (r1, r2, r3, r4) := H
      have A21 := zaa.mk A210; clear A210; have HC22 := zaa.mk H; clear H
      go_upto_if 60 with (first | ((with_reducible refine zaS (f := 35) rfl ?_); refine zbj (some 54) rfl rfl Try.func35 (by kernel_rfl) rfl #[.int .i64 x6_7] rfl (by (try simp only [List.map_toArray, List.map_cons, List.map_nil]); first | done | rfl | (simp only [List.length_drop, List.length_take]; rfl)) ?_; (with_reducible refine (zbM.calls x6_7 t281 _ A21.out).mono ?_); rintro e w23 ⟨rfl, hb⟩; refine ⟨_, rfl, ?_⟩; have n0_ := zaa.mk (zaX (g := gb275) (o := .cells #[.int .u8 0, .int .i64 0, .int .i64 0] 50 (0, 0)) (by (with_reducible repeat (first | refine zar ?_ _ | refine zav ?_ | refine zas ?_ _)); exact BK275.out) hb); have n1_ := zaa.mk (zaG (by repeat (first | (with_reducible first | exact HB.out | apply zad | apply zac | apply zae | refine zaq ?_ GE275.out) | exact HB.out)) hb); clear BK275; clear HB; have BK275 := n0_; have HB := n1_; clear n0_ n1_; (try clear hb); (try clear hb2); (try clear hk); (try clear hi)) | ((with_reducible refine za7 (N := 13) rfl ?_); (try (refine zbW (by rfl) ?_; dsimp only)); refine zbl ?hg (N := 13) ?hd (cs := #[.int .u8 0, .int .i64 0, .int .i64 0]) (t := 50) ?hr ?_; (case hd => rfl); (case hg => rfl); (case hr => first | (go_simp; done) | (go_simp; rfl)); intro gb282 hg w24 hbox hb; have n0_ := zaa.mk (zaX (g := gb275) (o := .cells #[.int .u8 0, .int .i64 0, .int .i64 0] 50 (0, 0)) (by (with_reducible repeat (first | refine zar ?_ _ | refine zav ?_ | refine zas ?_ _)); exact BK275.out) hb); have n1_ := zaa.mk (zaG (by repeat (first | (with_reducible first | exact HB.out | apply zad | apply zac | apply zae | refine zaq ?_ GE275.out) | exact HB.out)) hb); have n2_ := zaa.mk (hbox); have n3_ := zaa.mk ((by rw [hg]; exact (zaB (by repeat (first | (with_reducible first | exact HB.out | apply zad | apply zac | apply zae | refine zaq ?_ GE275.out) | exact HB.out))) : w.heap.size ≤ gb282)); have n4_ := zaa.mk ((by rw [hg]; exact (zaB (by repeat (first | (with_reducible first | exact HB.out | apply zad | apply zac | apply zae | refine zaq ?_ GE275.out) | exact HB.out))) : w.heap.size ≤ gb282)); have n5_ := zaa.mk ((by rw [hg]; exact Nat.ne_of_lt (za9 (g := gb275) (o := .cells #[.int .u8 0, .int .i64 0, .int .i64 0] 50 (0, 0)) (by (with_reducible repeat (first | refine zar ?_ _ | refine zav ?_ | refine zas ?_ _)); exact BK275.out)) : gb275 ≠ gb282)); have n6_ := zaa.mk ((by rw [hg]; exact Nat.ne_of_gt (za9 (g := gb275) (o := .cells #[.int .u8 0, .int .i64 0, .int .i64 0] 50 (0, 0)) (by (with_reducible repeat (first | refine zar ?_ _ | refine zav ?_ | refine zas ?_ _)); exact BK275.out)) : gb282 ≠ gb275)); clear BK275; clear HB; have BK275 := n0_; have HB := n1_; have BK282 := n2_; have GW282 := n3_; have GE282 := n4_; have NB275_282 := n5_; have NB282_275 := n6_; clear n0_ n1_ n2_ n3_ n4_ n5_ n6_; clear hb hbox hg; have hnb25 := NB282_275.out; have hnc25 := NB275_282.out; have hcz26_0 : w24.cell? ⟨gb282, 0, none⟩ = some (.int .u8 0) := (zaf BK282.out 0).trans rfl; have hcz26_1 : w24.cell? ⟨gb282, 1, none⟩ = some (.int .i64 0) := (zaf BK282.out 1).trans rfl; have hcz26_2 : w24.cell? ⟨gb282, 2, none⟩ = some (.int .i64 0) := (zaf BK282.out 2).trans rfl; have hfz26_0 := zab BK282.out 0; have hfz26_1 := zab BK282.out 1; have hfz26_2 := zab BK282.out 2))
      (try simp only [Act.put, zaw])
      go_cut [] (fun wc => ∃ (kq : Nat) (x283000_21 : Int), zaa (zak.j4 kq a0 x6_7 x7_7 x8_7 x283000_21 (wrap64 (x7_7 - a1)) 0 = some (r1, r2, r3, r4)) ∧ zaa (kq ≤ kj7) ∧ zaa (wc.heap[gb275]? = some (.cells #[.int .u8 0, .int .i64 0, .int .i64 0] 50 (0, 0))) ∧ zaa (wc.heap[gb282]? = some (.cells #[.int .u8 x283000_21, .int .i64 (wrap64 (x7_7 - a1)), .int .i64 0] 50 (0, 0))) ∧ zaa (Below w.heap.size w wc))
      case first =>
       have H := HC22.out; clear HC22; by_cases c27 : x6_7 = 7
       ·rw [if_pos c27] at H
        have c27b0 : (x6_7 == 7) = true := beq_iff_eq.mpr c27; have c27b1 : (x6_7 != 7) = false := bne_eq_false_iff_eq.mpr c27; clear c27
        (first | rw [c27b0] | (simp only [i64_w, i32_w]; rw [c27b0]) | skip)
        by_cases c28 : 0 ≤ a1
        ·rw [if_pos c28] at H
         have c28b0 := eq_true c28; have c28b1 : decide (0 ≤ a1) = true := decide_eq_true c28; clear c28; by_cases c29 : a1 ≤ x7_7
         ·rw [if_pos c29] at H
          have c29b0 := eq_true c29; have c29b1 : decide (a1 ≤ x7_7) = true := decide_eq_true c29; clear c29; by_cases c30 : x7_7 ≤ (a0.size : Int)
          ·rw [if_pos c30] at H
           have c30b0 := eq_true c30; have c30b1 : decide (x7_7 ≤ (a0.size : Int)) = true := decide_eq_true c30; clear c30; replace H := Option.bind_eq_some_iff.mp H; obtain ⟨t283, A310, H⟩ := H; replace H : (zak.j4 kj7 a0 x6_7 x7_7 x8_7 t283 (wrap64 (x7_7 - a1)) 0) = some (r1, r2, r3, r4) := H; have A31 := zaa.mk A310; clear A310; have H' := zaa.mk H; clear H; go_wp2_with (first | ((with_reducible refine zaS (f := 36) rfl ?_); refine zbj (some 65) rfl rfl Try.func36 (by kernel_rfl) rfl #[.string (a0.extract (a1 : Int).toNat (x7_7 : Int).toNat)] rfl (by (try simp only [List.map_toArray, List.map_cons, List.map_nil]); first | done | rfl | (simp only [List.length_drop, List.length_take]; rfl)) ?_; (with_reducible refine (zax.calls kj7 (a0.extract (a1 : Int).toNat (x7_7 : Int).toNat) t283 _ A31.out).mono ?_); rintro e w32 ⟨rfl, hb⟩; refine ⟨_, rfl, ?_⟩; have n0_ := zaa.mk (zaX (g := gb275) (o := .cells #[.int .u8 0, .int .i64 0, .int .i64 0] 50 (0, 0)) (by (with_reducible repeat (first | refine zar ?_ _ | refine zav ?_ | refine zas ?_ _)); refine zb7 ?_ NB275_282.out _; (with_reducible repeat (first | refine zar ?_ _ | refine zav ?_ | refine zas ?_ _)); refine zb7 ?_ NB275_282.out _; (with_reducible repeat (first | refine zar ?_ _ | refine zav ?_ | refine zas ?_ _)); refine zb7 ?_ NB275_282.out _; (with_reducible repeat (first | refine zar ?_ _ | refine zav ?_ | refine zas ?_ _)); exact BK275.out) hb); have n1_ := zaa.mk (zaX (g := gb282) (o := .cells #[.int .u8 t281, .int .i64 (wrap64 (x7_7 - a1)), .int .i64 0] 50 (0, 0)) (by (with_reducible repeat (first | refine zar ?_ _ | refine zav ?_ | refine zas ?_ _)); refine zbv (cs := #[.int .u8 t281, .int .i64 (wrap64 (x7_7 - a1)), .int .i64 0]) ?_ 2 _ rfl; (with_reducible repeat (first | refine zar ?_ _ | refine zav ?_ | refine zas ?_ _)); refine zbv (cs := #[.int .u8 t281, .int .i64 0, .int .i64 0]) ?_ 1 _ rfl; (with_reducible repeat (first | refine zar ?_ _ | refine zav ?_ | refine zas ?_ _)); refine zbv (cs := #[.int .u8 0, .int .i64 0, .int .i64 0]) ?_ 0 _ rfl; (with_reducible repeat (first | refine zar ?_ _ | refine zav ?_ | refine zas ?_ _)); exact BK282.out) hb); have n2_ := zaa.mk (zaG (by repeat (first | (with_reducible first | exact HB.out | apply zad | apply zac | apply zae | refine zaq ?_ GE275.out | refine zaq ?_ GE282.out) | exact HB.out)) hb); clear BK275; clear BK282; clear HB; have BK275 := n0_; have BK282 := n1_; have HB := n2_; clear n0_ n1_ n2_; (try clear hb); (try clear hb2); (try clear hk); (try clear hi); have hnb33 := NB282_275.out; have hnc33 := NB275_282.out; have hcz34_0 : w32.cell? ⟨gb282, 0, none⟩ = some (.int .u8 t281) := (zaf BK282.out 0).trans rfl; have hcz34_1 : w32.cell? ⟨gb282, 1, none⟩ = some (.int .i64 (wrap64 (x7_7 - a1))) := (zaf BK282.out 1).trans rfl; have hcz34_2 : w32.cell? ⟨gb282, 2, none⟩ = some (.int .i64 0) := (zaf BK282.out 2).trans rfl; have hfz34_0 := zab BK282.out 0; have hfz34_1 := zab BK282.out 1; have hfz34_2 := zab BK282.out 2))
           go_meet
           case rel => exact ⟨_, (t283), H', ⟨by have := HJ2.out; have := HJ7.out; first | omega | exact Nat.le_refl _⟩, ⟨by (with_reducible repeat (first | refine zar ?_ _ | refine zav ?_ | refine zas ?_ _)); refine zb7 ?_ NB275_282.out _; (with_reducible repeat (first | refine zar ?_ _ | refine zav ?_ | refine zas ?_ _)); exact BK275.out⟩, ⟨by (with_reducible repeat (first | refine zar ?_ _ | refine zav ?_ | refine zas ?_ _)); refine zbv (cs := #[.int .u8 t281, .int .i64 (wrap64 (x7_7 - a1)), .int .i64 0]) ?_ 0 _ rfl; (with_reducible repeat (first | refine zar ?_ _ | refine zav ?_ | refine zas ?_ _)); exact BK282.out⟩, ⟨by repeat (first | (with_reducible first | exact HB.out | apply zad | apply zac | apply zae | refine zaq ?_ GE275.out | refine zaq ?_ GE282.out) | exact HB.out)⟩⟩
          ·rw [if_neg c30] at H
           exact absurd H (by simp)
         ·rw [if_neg c29] at H
          exact absurd H (by simp)
        ·rw [if_neg c28] at H
         exact absurd H (by simp)
       ·rw [if_neg c27] at H
        have c27b0 : (x6_7 == 7) = false := beq_eq_false_iff_ne.mpr c27; have c27b1 : (x6_7 != 7) = true := bne_iff_ne.mpr c27
        (first | rw [c27b0] | (simp only [i64_w, i32_w]; rw [c27b0]) | skip)
        have H' := zaa.mk H; clear H; go_wp2
        go_meet
        case rel => exact ⟨_, (t281), H', ⟨by have := HJ2.out; have := HJ7.out; first | omega | exact Nat.le_refl _⟩, ⟨by (with_reducible repeat (first | refine zar ?_ _ | refine zav ?_ | refine zas ?_ _)); refine zb7 ?_ NB275_282.out _; (with_reducible repeat (first | refine zar ?_ _ | refine zav ?_ | refine zas ?_ _)); refine zb7 ?_ NB275_282.out _; (with_reducible repeat (first | refine zar ?_ _ | refine zav ?_ | refine zas ?_ _)); refine zb7 ?_ NB275_282.out _; (with_reducible repeat (first | refine zar ?_ _ | refine zav ?_ | refine zas ?_ _)); exact BK275.out⟩, ⟨by (with_reducible repeat (first | refine zar ?_ _ | refine zav ?_ | refine zas ?_ _)); refine zbv (cs := #[.int .u8 t281, .int .i64 (wrap64 (x7_7 - a1)), .int .i64 0]) ?_ 2 _ rfl; (with_reducible repeat (first | refine zar ?_ _ | refine zav ?_ | refine zas ?_ _)); refine zbv (cs := #[.int .u8 t281, .int .i64 0, .int .i64 0]) ?_ 1 _ rfl; (with_reducible repeat (first | refine zar ?_ _ | refine zav ?_ | refine zas ?_ _)); refine zbv (cs := #[.int .u8 0, .int .i64 0, .int .i64 0]) ?_ 0 _ rfl; (with_reducible repeat (first | refine zar ?_ _ | refine zav ?_ | refine zas ?_ _)); exact BK282.out⟩, ⟨by repeat (first | (with_reducible first | exact HB.out | apply zad | apply zac | apply zae | refine zaq ?_ GE275.out | refine zaq ?_ GE282.out) | exact HB.out)⟩⟩
      case rest =>
       clear HC22; try clear c1
       try clear c2
       try clear p2
       try clear c3
       try clear c5
       try clear c5b0
       try clear c6
       try clear p6
       try clear c9
       try clear c9b0
       try clear c13
       try clear c16
       try clear c16b0
       try clear c17
       try clear c18
       try clear c18b0
       try clear c18b1
       try clear c25
       try clear c27
       try clear c27b0
       try clear c27b1
       try clear c28
       try clear c28b0
       try clear c28b1
       try clear c29
       try clear c29b0
       try clear c29b1
       try clear c30
       try clear c30b0
       try clear c30b1
       try clear c32
       try clear c33
       try clear c34
       try clear hcz26_0
       try clear hcz26_1
       try clear hcz26_2
       try clear hcz34_0
       try clear hcz34_1
       try clear hcz34_2
       try clear hcz7_0
       try clear hcz7_1
       try clear hcz7_2
       try clear hfz26_0
       try clear hfz26_1
       try clear hfz26_2
       try clear hfz34_0
       try clear hfz34_1
       try clear hfz34_2
       try clear hfz7_0
       try clear hfz7_1
       try clear hfz7_2
       try clear p2
       try clear p6
       obtain ⟨kq, x283000_21, HA, HJ21, BK275, BK282, HB⟩ := hcut; cases kq with
       | zero => exact absurd HA.out (by simp [zak.j4])
       | succ kj21 =>
        have H := HA.out; clear HA; simp only [zak.j4] at H; replace H := Option.bind_eq_some_iff.mp H; obtain ⟨t284, A350, H⟩ := H; replace H : (if t284 = true then (if x8_7 = true then (if (wrap64 ((wrap64 ((a0.size : Int) - x7_7)) + 1)) > 3 then (some (x283000_21, (wrap64 (x7_7 - a1)), 3, true)) else (some (x283000_21, (wrap64 (x7_7 - a1)), wrap64 ((wrap64 ((a0.size : Int) - x7_7)) + 1), true))) else (some (x283000_21, (wrap64 (x7_7 - a1)), 0, true))) else (some (x283000_21, (wrap64 (x7_7 - a1)), 1, true))) = some (r1, r2, r3, r4) := H
        have A35 := zaa.mk A350; clear A350; by_cases c36 : t284 = true
        ·subst c36
         have H1 : (if x8_7 = true then (if (wrap64 ((wrap64 ((a0.size : Int) - x7_7)) + 1)) > 3 then (some (x283000_21, (wrap64 (x7_7 - a1)), 3, true)) else (some (x283000_21, (wrap64 (x7_7 - a1)), wrap64 ((wrap64 ((a0.size : Int) - x7_7)) + 1), true))) else (some (x283000_21, (wrap64 (x7_7 - a1)), 0, true))) = some (r1, r2, r3, r4) := by rw [if_pos rfl] at H; exact H
         clear H; have H := H1; clear H1; by_cases c37 : x8_7 = true
         ·subst c37
          have H1 : (if (wrap64 ((wrap64 ((a0.size : Int) - x7_7)) + 1)) > 3 then (some (x283000_21, (wrap64 (x7_7 - a1)), 3, true)) else (some (x283000_21, (wrap64 (x7_7 - a1)), wrap64 ((wrap64 ((a0.size : Int) - x7_7)) + 1), true))) = some (r1, r2, r3, r4) := by rw [if_pos rfl] at H; exact H
          clear H; have H := H1; clear H1; by_cases c38 : (wrap64 ((wrap64 ((a0.size : Int) - x7_7)) + 1)) > 3
          ·rw [if_pos c38] at H
           have c38b0 : decide (3 < (wrap64 ((wrap64 ((a0.size : Int) - x7_7)) + 1))) = true := decide_eq_true c38; clear c38; simp only [Option.some.injEq, Prod.mk.injEq] at H; obtain ⟨rfl, rfl, rfl, rfl⟩ := H; go_wp2_with (first | ((with_reducible refine zaS (f := 37) rfl ?_); refine zbj (some 68) rfl rfl Try.func37 (by kernel_rfl) rfl #[.int .i64 x6_7] rfl (by (try simp only [List.map_toArray, List.map_cons, List.map_nil]); first | done | rfl | (simp only [List.length_drop, List.length_take]; rfl)) ?_; (with_reducible refine (zaI.calls kj21 x6_7 true _ A35.out).mono ?_); rintro e w39 ⟨rfl, hb⟩; refine ⟨_, rfl, ?_⟩; have n0_ := zaa.mk (zaX (g := gb275) (o := .cells #[.int .u8 0, .int .i64 0, .int .i64 0] 50 (0, 0)) (by (with_reducible repeat (first | refine zar ?_ _ | refine zav ?_ | refine zas ?_ _)); exact BK275.out) hb); have n1_ := zaa.mk (zaX (g := gb282) (o := .cells #[.int .u8 x283000_21, .int .i64 (wrap64 (x7_7 - a1)), .int .i64 0] 50 (0, 0)) (by (with_reducible repeat (first | refine zar ?_ _ | refine zav ?_ | refine zas ?_ _)); exact BK282.out) hb); have n2_ := zaa.mk (zaG (by repeat (first | (with_reducible first | exact HB.out | apply zad | apply zac | apply zae | refine zaq ?_ GE275.out | refine zaq ?_ GE282.out) | exact HB.out)) hb); clear BK275; clear BK282; clear HB; have BK275 := n0_; have BK282 := n1_; have HB := n2_; clear n0_ n1_ n2_; (try clear hb); (try clear hb2); (try clear hk); (try clear hi); have hnb40 := NB282_275.out; have hnc40 := NB275_282.out; have hcz41_0 : w39.cell? ⟨gb282, 0, none⟩ = some (.int .u8 x283000_21) := (zaf BK282.out 0).trans rfl; have hcz41_1 : w39.cell? ⟨gb282, 1, none⟩ = some (.int .i64 (wrap64 (x7_7 - a1))) := (zaf BK282.out 1).trans rfl; have hcz41_2 : w39.cell? ⟨gb282, 2, none⟩ = some (.int .i64 0) := (zaf BK282.out 2).trans rfl; have hfz41_0 := zab BK282.out 0; have hfz41_1 := zab BK282.out 1; have hfz41_2 := zab BK282.out 2; have hcz42_0 : w39.cell? ⟨gb275, 0, none⟩ = some (.int .u8 0) := (zaf BK275.out 0).trans rfl; have hcz42_1 : w39.cell? ⟨gb275, 1, none⟩ = some (.int .i64 0) := (zaf BK275.out 1).trans rfl; have hcz42_2 : w39.cell? ⟨gb275, 2, none⟩ = some (.int .i64 0) := (zaf BK275.out 2).trans rfl; have hfz42_0 := zab BK275.out 0; have hfz42_1 := zab BK275.out 1; have hfz42_2 := zab BK275.out 2))
           refine bodyPost_ret (results_ct rfl _ _ gb275 50 #[.int .u8 x283000_21, .int .i64 (wrap64 (x7_7 - a1)), .int .i64 3] (0, 0) _ rfl (by (with_reducible repeat (first | refine zar ?_ _ | refine zav ?_ | refine zas ?_ _)); refine zbv (cs := #[.int .u8 x283000_21, .int .i64 (wrap64 (x7_7 - a1)), .int .i64 0]) ?_ 2 _ rfl; (with_reducible repeat (first | refine zar ?_ _ | refine zav ?_ | refine zas ?_ _)); refine zbv (cs := #[.int .u8 x283000_21, .int .i64 0, .int .i64 0]) ?_ 1 _ rfl; (with_reducible repeat (first | refine zar ?_ _ | refine zav ?_ | refine zas ?_ _)); refine zbv (cs := #[.int .u8 0, .int .i64 0, .int .i64 0]) ?_ 0 _ rfl; (with_reducible repeat (first | refine zar ?_ _ | refine zav ?_ | refine zas ?_ _)); refine zb7 ?_ NB275_282.out _; (with_reducible repeat (first | refine zar ?_ _ | refine zav ?_ | refine zas ?_ _)); refine zb7 ?_ NB275_282.out _; (with_reducible repeat (first | refine zar ?_ _ | refine zav ?_ | refine zas ?_ _)); exact BK275.out) Try.underlying50 rfl (by kernel_rfl)) rfl ?_
           exact ⟨by first | rfl | (simp [*, zaF, zaE] <;> rfl), by repeat (first | (with_reducible first | exact HB.out | apply zad | apply zac | apply zae | refine zaq ?_ GE275.out | refine zaq ?_ GE282.out) | exact HB.out)⟩
          ·rw [if_neg c38] at H
           have c38b0 : decide (3 < (wrap64 ((wrap64 ((a0.size : Int) - x7_7)) + 1))) = false := decide_eq_false c38; clear c38; simp only [Option.some.injEq, Prod.mk.injEq] at H; obtain ⟨rfl, rfl, rfl, rfl⟩ := H; go_wp2_with (first | ((with_reducible refine zaS (f := 37) rfl ?_); refine zbj (some 68) rfl rfl Try.func37 (by kernel_rfl) rfl #[.int .i64 x6_7] rfl (by (try simp only [List.map_toArray, List.map_cons, List.map_nil]); first | done | rfl | (simp only [List.length_drop, List.length_take]; rfl)) ?_; (with_reducible refine (zaI.calls kj21 x6_7 true _ A35.out).mono ?_); rintro e w43 ⟨rfl, hb⟩; refine ⟨_, rfl, ?_⟩; have n0_ := zaa.mk (zaX (g := gb275) (o := .cells #[.int .u8 0, .int .i64 0, .int .i64 0] 50 (0, 0)) (by (with_reducible repeat (first | refine zar ?_ _ | refine zav ?_ | refine zas ?_ _)); exact BK275.out) hb); have n1_ := zaa.mk (zaX (g := gb282) (o := .cells #[.int .u8 x283000_21, .int .i64 (wrap64 (x7_7 - a1)), .int .i64 0] 50 (0, 0)) (by (with_reducible repeat (first | refine zar ?_ _ | refine zav ?_ | refine zas ?_ _)); exact BK282.out) hb); have n2_ := zaa.mk (zaG (by repeat (first | (with_reducible first | exact HB.out | apply zad | apply zac | apply zae | refine zaq ?_ GE275.out | refine zaq ?_ GE282.out) | exact HB.out)) hb); clear BK275; clear BK282; clear HB; have BK275 := n0_; have BK282 := n1_; have HB := n2_; clear n0_ n1_ n2_; (try clear hb); (try clear hb2); (try clear hk); (try clear hi); have hnb44 := NB282_275.out; have hnc44 := NB275_282.out; have hcz45_0 : w43.cell? ⟨gb282, 0, none⟩ = some (.int .u8 x283000_21) := (zaf BK282.out 0).trans rfl; have hcz45_1 : w43.cell? ⟨gb282, 1, none⟩ = some (.int .i64 (wrap64 (x7_7 - a1))) := (zaf BK282.out 1).trans rfl; have hcz45_2 : w43.cell? ⟨gb282, 2, none⟩ = some (.int .i64 0) := (zaf BK282.out 2).trans rfl; have hfz45_0 := zab BK282.out 0; have hfz45_1 := zab BK282.out 1; have hfz45_2 := zab BK282.out 2; have hcz46_0 : w43.cell? ⟨gb275, 0, none⟩ = some (.int .u8 0) := (zaf BK275.out 0).trans rfl; have hcz46_1 : w43.cell? ⟨gb275, 1, none⟩ = some (.int .i64 0) := (zaf BK275.out 1).trans rfl; have hcz46_2 : w43.cell? ⟨gb275, 2, none⟩ = some (.int .i64 0) := (zaf BK275.out 2).trans rfl; have hfz46_0 := zab BK275.out 0; have hfz46_1 := zab BK275.out 1; have hfz46_2 := zab BK275.out 2))
           refine bodyPost_ret (results_ct rfl _ _ gb275 50 #[.int .u8 x283000_21, .int .i64 (wrap64 (x7_7 - a1)), .int .i64 (wrap64 ((wrap64 ((a0.size : Int) - x7_7)) + 1))] (0, 0) _ rfl (by (with_reducible repeat (first | refine zar ?_ _ | refine zav ?_ | refine zas ?_ _)); refine zbv (cs := #[.int .u8 x283000_21, .int .i64 (wrap64 (x7_7 - a1)), .int .i64 0]) ?_ 2 _ rfl; (with_reducible repeat (first | refine zar ?_ _ | refine zav ?_ | refine zas ?_ _)); refine zbv (cs := #[.int .u8 x283000_21, .int .i64 0, .int .i64 0]) ?_ 1 _ rfl; (with_reducible repeat (first | refine zar ?_ _ | refine zav ?_ | refine zas ?_ _)); refine zbv (cs := #[.int .u8 0, .int .i64 0, .int .i64 0]) ?_ 0 _ rfl; (with_reducible repeat (first | refine zar ?_ _ | refine zav ?_ | refine zas ?_ _)); refine zb7 ?_ NB275_282.out _; (with_reducible repeat (first | refine zar ?_ _ | refine zav ?_ | refine zas ?_ _)); exact BK275.out) Try.underlying50 rfl (by kernel_rfl)) rfl ?_
           exact ⟨by first | rfl | (simp [*, zaF, zaE] <;> rfl), by repeat (first | (with_reducible first | exact HB.out | apply zad | apply zac | apply zae | refine zaq ?_ GE275.out | refine zaq ?_ GE282.out) | exact HB.out)⟩
         ·replace c37 := Bool.eq_false_iff.mpr c37
          subst c37; have H1 : (some (x283000_21, (wrap64 (x7_7 - a1)), 0, true)) = some (r1, r2, r3, r4) := by rw [if_neg (show ¬ (false = true) by decide)] at H; exact H
          clear H; have H := H1; clear H1; simp only [Option.some.injEq, Prod.mk.injEq] at H; obtain ⟨rfl, rfl, rfl, rfl⟩ := H; go_wp2_with (first | ((with_reducible refine zaS (f := 37) rfl ?_); refine zbj (some 68) rfl rfl Try.func37 (by kernel_rfl) rfl #[.int .i64 x6_7] rfl (by (try simp only [List.map_toArray, List.map_cons, List.map_nil]); first | done | rfl | (simp only [List.length_drop, List.length_take]; rfl)) ?_; (with_reducible refine (zaI.calls kj21 x6_7 true _ A35.out).mono ?_); rintro e w47 ⟨rfl, hb⟩; refine ⟨_, rfl, ?_⟩; have n0_ := zaa.mk (zaX (g := gb275) (o := .cells #[.int .u8 0, .int .i64 0, .int .i64 0] 50 (0, 0)) (by (with_reducible repeat (first | refine zar ?_ _ | refine zav ?_ | refine zas ?_ _)); exact BK275.out) hb); have n1_ := zaa.mk (zaX (g := gb282) (o := .cells #[.int .u8 x283000_21, .int .i64 (wrap64 (x7_7 - a1)), .int .i64 0] 50 (0, 0)) (by (with_reducible repeat (first | refine zar ?_ _ | refine zav ?_ | refine zas ?_ _)); exact BK282.out) hb); have n2_ := zaa.mk (zaG (by repeat (first | (with_reducible first | exact HB.out | apply zad | apply zac | apply zae | refine zaq ?_ GE275.out | refine zaq ?_ GE282.out) | exact HB.out)) hb); clear BK275; clear BK282; clear HB; have BK275 := n0_; have BK282 := n1_; have HB := n2_; clear n0_ n1_ n2_; (try clear hb); (try clear hb2); (try clear hk); (try clear hi); have hnb48 := NB282_275.out; have hnc48 := NB275_282.out; have hcz49_0 : w47.cell? ⟨gb282, 0, none⟩ = some (.int .u8 x283000_21) := (zaf BK282.out 0).trans rfl; have hcz49_1 : w47.cell? ⟨gb282, 1, none⟩ = some (.int .i64 (wrap64 (x7_7 - a1))) := (zaf BK282.out 1).trans rfl; have hcz49_2 : w47.cell? ⟨gb282, 2, none⟩ = some (.int .i64 0) := (zaf BK282.out 2).trans rfl; have hfz49_0 := zab BK282.out 0; have hfz49_1 := zab BK282.out 1; have hfz49_2 := zab BK282.out 2; have hcz50_0 : w47.cell? ⟨gb275, 0, none⟩ = some (.int .u8 0) := (zaf BK275.out 0).trans rfl; have hcz50_1 : w47.cell? ⟨gb275, 1, none⟩ = some (.int .i64 0) := (zaf BK275.out 1).trans rfl; have hcz50_2 : w47.cell? ⟨gb275, 2, none⟩ = some (.int .i64 0) := (zaf BK275.out 2).trans rfl; have hfz50_0 := zab BK275.out 0; have hfz50_1 := zab BK275.out 1; have hfz50_2 := zab BK275.out 2))
          refine bodyPost_ret (results_ct rfl _ _ gb275 50 #[.int .u8 x283000_21, .int .i64 (wrap64 (x7_7 - a1)), .int .i64 0] (0, 0) _ rfl (by (with_reducible repeat (first | refine zar ?_ _ | refine zav ?_ | refine zas ?_ _)); refine zbv (cs := #[.int .u8 x283000_21, .int .i64 (wrap64 (x7_7 - a1)), .int .i64 0]) ?_ 2 _ rfl; (with_reducible repeat (first | refine zar ?_ _ | refine zav ?_ | refine zas ?_ _)); refine zbv (cs := #[.int .u8 x283000_21, .int .i64 0, .int .i64 0]) ?_ 1 _ rfl; (with_reducible repeat (first | refine zar ?_ _ | refine zav ?_ | refine zas ?_ _)); refine zbv (cs := #[.int .u8 0, .int .i64 0, .int .i64 0]) ?_ 0 _ rfl; (with_reducible repeat (first | refine zar ?_ _ | refine zav ?_ | refine zas ?_ _)); exact BK275.out) Try.underlying50 rfl (by kernel_rfl)) rfl ?_
          exact ⟨by first | rfl | (simp [*, zaF, zaE] <;> rfl), by repeat (first | (with_reducible first | exact HB.out | apply zad | apply zac | apply zae | refine zaq ?_ GE275.out | refine zaq ?_ GE282.out) | exact HB.out)⟩
        ·replace c36 := Bool.eq_false_iff.mpr c36
         subst c36; have H1 : (some (x283000_21, (wrap64 (x7_7 - a1)), 1, true)) = some (r1, r2, r3, r4) := by rw [if_neg (show ¬ (false = true) by decide)] at H; exact H
         clear H; have H := H1; clear H1; simp only [Option.some.injEq, Prod.mk.injEq] at H; obtain ⟨rfl, rfl, rfl, rfl⟩ := H; go_wp2_with (first | ((with_reducible refine zaS (f := 37) rfl ?_); refine zbj (some 68) rfl rfl Try.func37 (by kernel_rfl) rfl #[.int .i64 x6_7] rfl (by (try simp only [List.map_toArray, List.map_cons, List.map_nil]); first | done | rfl | (simp only [List.length_drop, List.length_take]; rfl)) ?_; (with_reducible refine (zaI.calls kj21 x6_7 false _ A35.out).mono ?_); rintro e w51 ⟨rfl, hb⟩; refine ⟨_, rfl, ?_⟩; have n0_ := zaa.mk (zaX (g := gb275) (o := .cells #[.int .u8 0, .int .i64 0, .int .i64 0] 50 (0, 0)) (by (with_reducible repeat (first | refine zar ?_ _ | refine zav ?_ | refine zas ?_ _)); exact BK275.out) hb); have n1_ := zaa.mk (zaX (g := gb282) (o := .cells #[.int .u8 x283000_21, .int .i64 (wrap64 (x7_7 - a1)), .int .i64 0] 50 (0, 0)) (by (with_reducible repeat (first | refine zar ?_ _ | refine zav ?_ | refine zas ?_ _)); exact BK282.out) hb); have n2_ := zaa.mk (zaG (by repeat (first | (with_reducible first | exact HB.out | apply zad | apply zac | apply zae | refine zaq ?_ GE275.out | refine zaq ?_ GE282.out) | exact HB.out)) hb); clear BK275; clear BK282; clear HB; have BK275 := n0_; have BK282 := n1_; have HB := n2_; clear n0_ n1_ n2_; (try clear hb); (try clear hb2); (try clear hk); (try clear hi); have hnb52 := NB282_275.out; have hnc52 := NB275_282.out; have hcz53_0 : w51.cell? ⟨gb282, 0, none⟩ = some (.int .u8 x283000_21) := (zaf BK282.out 0).trans rfl; have hcz53_1 : w51.cell? ⟨gb282, 1, none⟩ = some (.int .i64 (wrap64 (x7_7 - a1))) := (zaf BK282.out 1).trans rfl; have hcz53_2 : w51.cell? ⟨gb282, 2, none⟩ = some (.int .i64 0) := (zaf BK282.out 2).trans rfl; have hfz53_0 := zab BK282.out 0; have hfz53_1 := zab BK282.out 1; have hfz53_2 := zab BK282.out 2; have hcz54_0 : w51.cell? ⟨gb275, 0, none⟩ = some (.int .u8 0) := (zaf BK275.out 0).trans rfl; have hcz54_1 : w51.cell? ⟨gb275, 1, none⟩ = some (.int .i64 0) := (zaf BK275.out 1).trans rfl; have hcz54_2 : w51.cell? ⟨gb275, 2, none⟩ = some (.int .i64 0) := (zaf BK275.out 2).trans rfl; have hfz54_0 := zab BK275.out 0; have hfz54_1 := zab BK275.out 1; have hfz54_2 := zab BK275.out 2))
         refine bodyPost_ret (results_ct rfl _ _ gb275 50 #[.int .u8 x283000_21, .int .i64 (wrap64 (x7_7 - a1)), .int .i64 1] (0, 0) _ rfl (by (with_reducible repeat (first | refine zar ?_ _ | refine zav ?_ | refine zas ?_ _)); refine zbv (cs := #[.int .u8 x283000_21, .int .i64 (wrap64 (x7_7 - a1)), .int .i64 0]) ?_ 2 _ rfl; (with_reducible repeat (first | refine zar ?_ _ | refine zav ?_ | refine zas ?_ _)); refine zbv (cs := #[.int .u8 x283000_21, .int .i64 0, .int .i64 0]) ?_ 1 _ rfl; (with_reducible repeat (first | refine zar ?_ _ | refine zav ?_ | refine zas ?_ _)); refine zbv (cs := #[.int .u8 0, .int .i64 0, .int .i64 0]) ?_ 0 _ rfl; (with_reducible repeat (first | refine zar ?_ _ | refine zav ?_ | refine zas ?_ _)); refine zb7 ?_ NB275_282.out _; (with_reducible repeat (first | refine zar ?_ _ | refine zav ?_ | refine zas ?_ _)); exact BK275.out) Try.underlying50 rfl (by kernel_rfl)) rfl ?_
         exact ⟨by first | rfl | (simp [*, zaF, zaE] <;> rfl), by repeat (first | (with_reducible first | exact HB.out | apply zad | apply zac | apply zae | refine zaq ?_ GE275.out | refine zaq ?_ GE282.out) | exact HB.out)⟩
def zaW.l0 : Nat → ByteArray → List (S50) → Int → Option ((List (S50)))
 | 0, _, _, _ => none
 | k + 1, x0, x3, x4 => if x4 < (x0.size : Int) then ((zao.f k x0 x4).bind fun bt285 => ((zak.f k x0 x4).bind fun bt287 => (if x3.length < 5864062014805 then (zaW.l0 k x0 (x3 ++ [(⟨bt285.1, wrap64 (bt285.2 - x4), bt287.2.2.1⟩ : S50)]) bt285.2) else (none)))) else (some x3)
def zaW.f (k : Nat) (a0 : ByteArray) : Option ((List (S50))) := zaW.l0 k a0 ([] : List (S50)) 0
theorem zaW.zbr : ∀ k, (∀ y0 y1 y2, LeO (zaW.l0 k y0 y1 y2) (zaW.l0 (k + 1) y0 y1 y2))
 | 0 => fun _ _ _ r h => by simp [zaW.l0] at h
 | k + 1 => by
  have ih0 := zaW.zbr k
  ·intro y0 y1 y2
   unfold zaW.l0
   repeat' first
   | (with_reducible exact ih0 _ _ _)
   | (with_reducible exact zak.mono _ _ _)
   | (with_reducible exact zao.mono _ _ _)
   | (with_reducible exact LeO.refl _)
   | (with_reducible exact LeO.none _)
   | (with_reducible refine LeO.ite ?_ ?_)
   | (with_reducible refine LeO.bind ?_ (fun _ => ?_))
   | exact ih0 _ _ _
   | exact zak.mono _ _ _
   | exact zao.mono _ _ _
   | exact LeO.none _
   | refine LeO.ite ?_ ?_
   | refine LeO.bind ?_ (fun _ => ?_)
theorem zaW.mono : ∀ a0 k, LeO (zaW.f k a0) (zaW.f (k + 1) a0) := by
 intro a0 k
 have ih0 := zaW.zbr k; unfold zaW.f
 repeat' first
   | (with_reducible exact ih0 _ _ _)
   | (with_reducible exact zak.mono _ _ _)
   | (with_reducible exact zao.mono _ _ _)
   | (with_reducible exact LeO.refl _)
   | (with_reducible exact LeO.none _)
   | (with_reducible refine LeO.ite ?_ ?_)
   | (with_reducible refine LeO.bind ?_ (fun _ => ?_))
   | exact ih0 _ _ _
   | exact zak.mono _ _ _
   | exact zao.mono _ _ _
   | exact LeO.none _
   | refine LeO.ite ?_ ?_
   | refine LeO.bind ?_ (fun _ => ?_)
set_option maxHeartbeats 8000000 in
set_option maxRecDepth 100000 in
theorem zaW.calls (k : Nat) (a0 : ByteArray) (r : List (S50)) (w : World) (h : zaW.f k a0 = some r) :
  Calls Try.prog 8 #[.string a0] w fun e w' => ∃ v0_ : Value, e = .returned (v0_) ∧ Kd.R k50 50 w' w.heap.size (fun _ => True) v0_ r ∧ Below w.heap.size w w' := by
 have hu50 := Try.underlying50; have HB := zaa.mk (Below.refl w.heap.size w); have H : (zaW.l0 k a0 ([] : List (S50)) 0) = some r := h; clear h; have H' := zaa.mk H; clear H; go_enter Try.func8, Try.ntmps8
 go_wp2
 go_loopg [3, 4] k (fun kq v3 v4 w' => ∃ (x3_1 : List (S50)) (x4_1 : Int), v4 = .int .i64 x4_1 ∧ zaa (zaW.l0 kq a0 x3_1 x4_1 = some r) ∧ zaa (kq ≤ k) ∧ zaa (Kd.R k50 50 w' w.heap.size (fun _ => True) v3 x3_1) ∧ zaa (Below w.heap.size w w'))
 case atStart => exact ⟨(([] : List (S50))), (0), (by first | rfl | (simp; done) | (simp [*]; done)), H', ⟨Nat.le_refl _⟩, ⟨by first | exact Kd.R_nil _ _ _ _ _ | exact Kd.N_nil _ _ _ _ _ | exact Kd.V_nil _ _ _ _ _ | exact Kd.Q_nil _ _ _ _ _ | exact Kd.S_nil _ _ _ _ _⟩, ⟨by repeat (first | exact HB.out | apply zad | apply zac | apply zae)⟩⟩
 case round =>
  clear H'; obtain ⟨x3_1, x4_1, rfl, HA, HK1, HO_3, HB⟩ := hrel; cases gk with
  | zero => exact absurd HA.out (by simp [zaW.l0])
  | succ k1 =>
   have H := HA.out; clear HA; simp only [zaW.l0] at H; by_cases c2 : x4_1 < (a0.size : Int)
   ·rw [if_pos c2] at H
    have c2b0 : decide (x4_1 < (a0.size : Int)) = true := decide_eq_true c2; clear c2; replace H := Option.bind_eq_some_iff.mp H; obtain ⟨⟨t285, t286⟩, A30, H⟩ := H; replace H : ((zak.f k1 a0 x4_1).bind fun bt287 => (if x3_1.length < 5864062014805 then (zaW.l0 k1 a0 (x3_1 ++ [(⟨t285, wrap64 (t286 - x4_1), bt287.2.2.1⟩ : S50)]) t286) else (none))) = some r := H
    have A3 := zaa.mk A30; clear A30; replace H := Option.bind_eq_some_iff.mp H; obtain ⟨⟨t287, t288, t289, t290⟩, A40, H⟩ := H; replace H : (if x3_1.length < 5864062014805 then (zaW.l0 k1 a0 (x3_1 ++ [(⟨t285, wrap64 (t286 - x4_1), t289⟩ : S50)]) t286) else (none)) = some r := H
    have A4 := zaa.mk A40; clear A40; by_cases c5 : x3_1.length < 5864062014805
    ·rw [if_pos c5] at H
     have LMc5 := zaa.mk c5; clear c5; obtain ⟨y292, hy292⟩ : ∃ y_ : List (S50), y_ = (x3_1 ++ [(⟨t285, wrap64 (t286 - x4_1), t289⟩ : S50)]) := ⟨_, rfl⟩; replace H : (zaW.l0 k1 a0 y292 t286) = some r := by first | (rw [hy292]; with_reducible exact H) | (have H2_ := (Option.bind_some _ _).symm.trans H; rw [hy292]; with_reducible exact H2_) | (have H2_ := (Option.bind_some _ _).symm.trans H; with_reducible exact H2_) | with_reducible exact H | (rw [hy292]; exact H) | exact H
     have Ny292 := zaa.mk hy292; clear hy292; have H' := zaa.mk H; clear H; go_wp2_with (first | ((with_reducible refine zaS (f := 16) rfl ?_); refine zbj (some 16) rfl rfl Try.func16 (by kernel_rfl) rfl #[.string a0, .int .i64 x4_1] rfl (by (try simp only [List.map_toArray, List.map_cons, List.map_nil]); first | done | rfl | (simp only [List.length_drop, List.length_take]; rfl)) ?_; (with_reducible refine (zao.calls k1 a0 x4_1 t285 t286 _ A3.out).mono ?_); rintro e w6 ⟨rfl, hb⟩; refine ⟨_, rfl, ?_⟩; have n0_ := zaa.mk (Kd.zbT (by (with_reducible repeat (first | apply Kd.za3 | apply Kd.za2 | apply Kd.za8)); exact HO_3.out) hb); have n1_ := zaa.mk (zaG (by repeat (first | exact HB.out | apply zad | apply zac | apply zae)) hb); clear HO_3; clear HB; have HO_3 := n0_; have HB := n1_; clear n0_ n1_; (try clear hb); (try clear hb2); (try clear hk); (try clear hi)) | ((with_reducible refine zaS (f := 17) rfl ?_); refine zbj (some 22) rfl rfl Try.func17 (by kernel_rfl) rfl #[.string a0, .int .i64 x4_1] rfl (by (try simp only [List.map_toArray, List.map_cons, List.map_nil]); first | done | rfl | (simp only [List.length_drop, List.length_take]; rfl)) ?_; (with_reducible refine (zak.calls k1 a0 x4_1 t287 t288 t289 t290 _ A4.out).mono ?_); rintro e w7 ⟨rfl, hb⟩; refine ⟨_, rfl, ?_⟩; have n0_ := zaa.mk (Kd.zbT (by (with_reducible repeat (first | apply Kd.za3 | apply Kd.za2 | apply Kd.za8)); exact HO_3.out) hb); have n1_ := zaa.mk (zaG (by repeat (first | exact HB.out | apply zad | apply zac | apply zae)) hb); clear HO_3; clear HB; have HO_3 := n0_; have HB := n1_; clear n0_ n1_; (try clear hb); (try clear hb2); (try clear hk); (try clear hi)) | ((with_reducible refine za7 (N := 7) rfl ?_); refine zbl ?hg (N := 7) ?hd (cs := #[.int .u8 0, .int .i64 0, .int .i64 0]) (t := 50) ?hr ?_; (case hd => rfl); (case hg => rfl); (case hr => first | (go_simp; done) | (go_simp; rfl)); intro gb291 hg w8 hbox hb; have n0_ := zaa.mk (Kd.zbT (Kd.R_elderB (by (with_reducible repeat (first | apply Kd.za3 | apply Kd.za2 | apply Kd.za8)); exact HO_3.out) gb291 (Nat.le_of_eq hg.symm)) hb); have n1_ := zaa.mk (zaG (by repeat (first | exact HB.out | apply zad | apply zac | apply zae)) hb); have n2_ := zaa.mk (hbox); have n3_ := zaa.mk ((by rw [hg]; exact (zaB (by repeat (first | exact HB.out | apply zad | apply zac | apply zae))) : w.heap.size ≤ gb291)); have n4_ := zaa.mk ((by rw [hg]; exact (zaB (by repeat (first | exact HB.out | apply zad | apply zac | apply zae))) : w.heap.size ≤ gb291)); clear HO_3; clear HB; have HO_3 := n0_; have HB := n1_; have BK291 := n2_; have GW291 := n3_; have GE291 := n4_; clear n0_ n1_ n2_ n3_ n4_; clear hb hbox hg; have hcz9_0 : w8.cell? ⟨gb291, 0, none⟩ = some (.int .u8 0) := (zaf BK291.out 0).trans rfl; have hcz9_1 : w8.cell? ⟨gb291, 1, none⟩ = some (.int .i64 0) := (zaf BK291.out 1).trans rfl; have hcz9_2 : w8.cell? ⟨gb291, 2, none⟩ = some (.int .i64 0) := (zaf BK291.out 2).trans rfl; have hfz9_0 := zab BK291.out 0; have hfz9_1 := zab BK291.out 1; have hfz9_2 := zab BK291.out 2) | ((with_reducible refine gate_builtin (b := .append) (xs := #[.tmp 25, .tmp 33]) rfl ?_); at_builtin; refine Kd.R_append k50 (w0 := w) w.heap.size rfl (.tmp 25) (.tmp 33) 32 50 (.agg #[(.int .u8 0), (.int .i64 0), (.int .i64 0)]) 24 rfl Try.underlying32 info50 rfl (by decide) (by omega) u3 x3_1 (⟨t285, wrap64 (t286 - x4_1), t289⟩ : S50) [.int .u8 t285, .int .i64 (wrap64 (t286 - x4_1)), .int .i64 t289] (fun k_ => k_ ≠ gb291) (fun _ => False) rfl (by first | (go_simp; done) | (go_simp; rfl)) ?aP (fun _ hk => hk.elim) ?aF ?aO ?aB ?aS ?aL ?_; (case aP => exact k50_mkM _ _ _ (⟨t285, wrap64 (t286 - x4_1), t289⟩ : S50)); (case aB => exact (by repeat (first | (with_reducible first | exact HB.out | apply zad | apply zac | apply zae | refine zaq ?_ GE291.out) | exact HB.out))); (case aF => exact (fun k_ hk => Kd.freshB (g := gb291) (o := .cells #[.int .u8 t287, .int .i64 t288, .int .i64 t289] 50 (0, 0)) (by (with_reducible repeat (first | refine zar ?_ _ | refine zav ?_ | refine zas ?_ _)); refine zbv (cs := #[.int .u8 t287, .int .i64 t288, .int .i64 0]) ?_ 2 _ rfl; (with_reducible repeat (first | refine zar ?_ _ | refine zav ?_ | refine zas ?_ _)); refine zbv (cs := #[.int .u8 t287, .int .i64 0, .int .i64 0]) ?_ 1 _ rfl; (with_reducible repeat (first | refine zar ?_ _ | refine zav ?_ | refine zas ?_ _)); refine zbv (cs := #[.int .u8 0, .int .i64 0, .int .i64 0]) ?_ 0 _ rfl; (with_reducible repeat (first | refine zar ?_ _ | refine zav ?_ | refine zas ?_ _)); exact BK291.out) k_ hk)); (case aO => exact (by (with_reducible repeat (first | apply Kd.za3 | apply Kd.za2 | apply Kd.za8)); exact Kd.zbV (Kd.R_far (p := ⟨gb291, 2, none⟩) (Kd.R_far (p := ⟨gb291, 1, none⟩) (Kd.R_far (p := ⟨gb291, 0, none⟩) (Kd.zbV HO_3.out (fun k_ hk => (⟨hk, hk.2⟩ : _ ∧ k_ ≠ gb291))) (fun _ hk => hk.2) (.int .u8 t287)) (fun _ hk => hk.2) (.int .i64 t288)) (fun _ hk => hk.2) (.int .i64 t289)) (fun _ hk => hk.1.2))); (case aS => exact (zaB (by repeat (first | (with_reducible first | exact HB.out | apply zad | apply zac | apply zae | refine zaq ?_ GE291.out) | exact HB.out)))); (case aL => have := LMc5.out; omega); intro v293 w10 ho hb hg hat; rw [← Ny292.out] at ho; have n0_ := zaa.mk (zcb (g := gb291) (o := .cells #[.int .u8 t287, .int .i64 t288, .int .i64 t289] 50 (0, 0)) (by (with_reducible repeat (first | refine zar ?_ _ | refine zav ?_ | refine zas ?_ _)); refine zbv (cs := #[.int .u8 t287, .int .i64 t288, .int .i64 0]) ?_ 2 _ rfl; (with_reducible repeat (first | refine zar ?_ _ | refine zav ?_ | refine zas ?_ _)); refine zbv (cs := #[.int .u8 t287, .int .i64 0, .int .i64 0]) ?_ 1 _ rfl; (with_reducible repeat (first | refine zar ?_ _ | refine zav ?_ | refine zas ?_ _)); refine zbv (cs := #[.int .u8 0, .int .i64 0, .int .i64 0]) ?_ 0 _ rfl; (with_reducible repeat (first | refine zar ?_ _ | refine zav ?_ | refine zas ?_ _)); exact BK291.out) hg (Kd.R_away HO_3.out (fun _ hk => hk.2))); have n1_ := zaa.mk (hb); have n2_ := zaa.mk (ho); clear BK291; clear HB; clear HO_3; have BK291 := n0_; have HB := n1_; have HO294 := n2_; clear n0_ n1_ n2_; clear ho hb hg hat))
     go_roundg k1
     case measure => have := HK1.out; omega
     case rel => exact ⟨(y292), (t286), (by first | rfl | (simp; done) | (simp [*]; done)), H', ⟨by have := HK1.out; omega⟩, ⟨by (with_reducible repeat (first | apply Kd.za3 | apply Kd.za2 | apply Kd.za8)); exact Kd.zbV HO294.out (fun _ hk => trivial)⟩, ⟨by repeat (first | (with_reducible first | exact HB.out | apply zad | apply zac | apply zae | refine zaq ?_ GE291.out) | exact HB.out)⟩⟩
    ·rw [if_neg c5] at H
     exact absurd H (by simp)
   ·rw [if_neg c2] at H
    have c2b0 : decide (x4_1 < (a0.size : Int)) = false := decide_eq_false c2; clear c2; obtain rfl := Option.some.inj H; go_wp2
    go_ret
    exact ⟨_, by first | rfl | (simp [*, zaF, zaE] <;> rfl), by (with_reducible repeat (first | apply Kd.za3 | apply Kd.za2 | apply Kd.za8)); exact HO_3.out, by repeat (first | exact HB.out | apply zad | apply zac | apply zae)⟩
end
end Go.Proofs.Ytceddikbmbadlaa.H
