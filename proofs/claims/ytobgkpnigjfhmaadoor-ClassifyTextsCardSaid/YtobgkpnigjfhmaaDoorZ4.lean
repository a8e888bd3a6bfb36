/- Texts of this claim, merged. -/
import Derived.Test.YtobgkpnigjfhmaaDoorZ3
import Derived.Outline
set_option maxRecDepth 100000
set_option maxHeartbeats 8000000
set_option linter.unusedVariables false
set_option linter.unusedSimpArgs false
namespace Go.Proofs.YtobgkpnigjfhmaaDoor.H
open Go.RowKit Go.Proofs.YtobgkpnigjfhmaaDoorW.PrintWords Go.Proofs.YtobgkpnigjfhmaaDoorW.PrintLast Go.Proofs.YtobgkpnigjfhmaaDoorW.PrintMore
section
attribute [local go_sem] zbi zbg zbs zbr za8 za7 zbh zbf
def zaE.f (a0 : Int) : Option (Int) := if a0 = 10 then (some 53) else (if a0 = 11 then (some 54) else (if a0 = 12 then (some 56) else (if a0 = 14 then (some 57) else (if a0 = 15 then (some 58) else (if a0 = 22 then (some 52) else ((zaG.f a0).bind fun t343 => (if t343 = true then (some 59) else (some 0))))))))
theorem zaE.calls (a0 : Int) (r : Int) (w : World) (h : zaE.f a0 = some r) :
  Calls Tryd.prog 60 #[.int .u8 a0] w fun e w' => e = .returned (.int .u8 r) ∧ zaq w w' := by
 have H : (if a0 = 10 then (some 53) else (if a0 = 11 then (some 54) else (if a0 = 12 then (some 56) else (if a0 = 14 then (some 57) else (if a0 = 15 then (some 58) else (if a0 = 22 then (some 52) else ((zaG.f a0).bind fun t343 => (if t343 = true then (some 59) else (some 0))))))))) = some r := h
 clear h; by_cases c2 : a0 = 10
 ·rw [if_pos c2] at H
  have c2b0 : (a0 == 10) = true := beq_iff_eq.mpr c2; have c2b1 : (a0 != 10) = false := bne_eq_false_iff_eq.mpr c2; clear c2; obtain rfl := Option.some.inj H; go_enter Tryd.func60, Tryd.ntmps60
  go_wp2
  go_ret
  exact ⟨by first | rfl | (simp; done) | simp [*], by repeat (first | exact zaq.refl _ | apply zaq.step)⟩
 ·rw [if_neg c2] at H
  have c2b0 : (a0 == 10) = false := beq_eq_false_iff_ne.mpr c2; have c2b1 : (a0 != 10) = true := bne_iff_ne.mpr c2; by_cases c3 : a0 = 11
  ·rw [if_pos c3] at H
   have c3b0 : (a0 == 11) = true := beq_iff_eq.mpr c3; have c3b1 : (a0 != 11) = false := bne_eq_false_iff_eq.mpr c3; clear c3; obtain rfl := Option.some.inj H; go_enter Tryd.func60, Tryd.ntmps60
   go_wp2
   go_ret
   exact ⟨by first | rfl | (simp; done) | simp [*], by repeat (first | exact zaq.refl _ | apply zaq.step)⟩
  ·rw [if_neg c3] at H
   have c3b0 : (a0 == 11) = false := beq_eq_false_iff_ne.mpr c3; have c3b1 : (a0 != 11) = true := bne_iff_ne.mpr c3; by_cases c4 : a0 = 12
   ·rw [if_pos c4] at H
    have c4b0 : (a0 == 12) = true := beq_iff_eq.mpr c4; have c4b1 : (a0 != 12) = false := bne_eq_false_iff_eq.mpr c4; clear c4; obtain rfl := Option.some.inj H; go_enter Tryd.func60, Tryd.ntmps60
    go_wp2
    go_ret
    exact ⟨by first | rfl | (simp; done) | simp [*], by repeat (first | exact zaq.refl _ | apply zaq.step)⟩
   ·rw [if_neg c4] at H
    have c4b0 : (a0 == 12) = false := beq_eq_false_iff_ne.mpr c4; have c4b1 : (a0 != 12) = true := bne_iff_ne.mpr c4; by_cases c5 : a0 = 14
    ·rw [if_pos c5] at H
     have c5b0 : (a0 == 14) = true := beq_iff_eq.mpr c5; have c5b1 : (a0 != 14) = false := bne_eq_false_iff_eq.mpr c5; clear c5; obtain rfl := Option.some.inj H; go_enter Tryd.func60, Tryd.ntmps60
     go_wp2
     go_ret
     exact ⟨by first | rfl | (simp; done) | simp [*], by repeat (first | exact zaq.refl _ | apply zaq.step)⟩
    ·rw [if_neg c5] at H
     have c5b0 : (a0 == 14) = false := beq_eq_false_iff_ne.mpr c5; have c5b1 : (a0 != 14) = true := bne_iff_ne.mpr c5; by_cases c6 : a0 = 15
     ·rw [if_pos c6] at H
      have c6b0 : (a0 == 15) = true := beq_iff_eq.mpr c6; have c6b1 : (a0 != 15) = false := bne_eq_false_iff_eq.mpr c6; clear c6; obtain rfl := Option.some.inj H; go_enter Tryd.func60, Tryd.ntmps60
      go_wp2
      go_ret
      exact ⟨by first | rfl | (simp; done) | simp [*], by repeat (first | exact zaq.refl _ | apply zaq.step)⟩
     ·rw [if_neg c6] at H
      have c6b0 : (a0 == 15) = false := beq_eq_false_iff_ne.mpr c6; have c6b1 : (a0 != 15) = true := bne_iff_ne.mpr c6; by_cases c7 : a0 = 22
      ·rw [if_pos c7] at H
       have c7b0 : (a0 == 22) = true := beq_iff_eq.mpr c7; have c7b1 : (a0 != 22) = false := bne_eq_false_iff_eq.mpr c7; clear c7; obtain rfl := Option.some.inj H; go_enter Tryd.func60, Tryd.ntmps60
       go_wp2
       go_ret
       exact ⟨by first | rfl | (simp; done) | simp [*], by repeat (first | exact zaq.refl _ | apply zaq.step)⟩
      ·rw [if_neg c7] at H
       have c7b0 : (a0 == 22) = false := beq_eq_false_iff_ne.mpr c7; have c7b1 : (a0 != 22) = true := bne_iff_ne.mpr c7; replace H := Option.bind_eq_some_iff.mp H; obtain ⟨t343, A80, H⟩ := H; replace H : (if t343 = true then (some 59) else (some 0)) = some r := H
       have A8 := zaa.mk A80; clear A80; by_cases c9 : t343 = true
       ·subst c9
        have H1 : (some 59) = some r := by rw [if_pos rfl] at H; exact H
        clear H; have H := H1; clear H1; obtain rfl := Option.some.inj H; go_enter Tryd.func60, Tryd.ntmps60
        go_wp2_with (first | ((with_reducible refine zaK (f := 72) rfl ?_); refine zbk (some 17) rfl rfl Tryd.func72 (by kernel_rfl) rfl #[.int .u8 a0] rfl (by (try simp only [List.map_toArray, List.map_cons, List.map_nil]); first | done | rfl | (simp only [List.length_drop, List.length_take]; rfl)) ?_; (with_reducible refine (zaG.calls a0 true _ A8.out).mono ?_); rintro e w' ⟨rfl, ⟨nd, rfl⟩⟩; refine ⟨_, rfl, ?_⟩))
        go_ret
        exact ⟨by first | rfl | (simp; done) | simp [*], by repeat (first | exact zaq.refl _ | apply zaq.step)⟩
       ·replace c9 := Bool.eq_false_iff.mpr c9
        subst c9; have H1 : (some 0) = some r := by rw [if_neg (show ¬ (false = true) by decide)] at H; exact H
        clear H; have H := H1; clear H1; obtain rfl := Option.some.inj H; go_enter Tryd.func60, Tryd.ntmps60
        go_wp2_with (first | ((with_reducible refine zaK (f := 72) rfl ?_); refine zbk (some 17) rfl rfl Tryd.func72 (by kernel_rfl) rfl #[.int .u8 a0] rfl (by (try simp only [List.map_toArray, List.map_cons, List.map_nil]); first | done | rfl | (simp only [List.length_drop, List.length_take]; rfl)) ?_; (with_reducible refine (zaG.calls a0 false _ A8.out).mono ?_); rintro e w' ⟨rfl, ⟨nd, rfl⟩⟩; refine ⟨_, rfl, ?_⟩))
        go_ret
        exact ⟨by first | rfl | (simp; done) | simp [*], by repeat (first | exact zaq.refl _ | apply zaq.step)⟩
mutual
def zaD.j0 : Nat → Int → Bool → Option (Int)
 | 0, _, _ => none
 | k + 1, x3, x8 => if x8 = true then (some 3) else (if x3 = 33 then (zaD.j1 k x3 (x3 == 33)) else (zaD.j1 k x3 (x3 == 34)))
def zaD.j1 : Nat → Int → Bool → Option (Int)
 | 0, _, _ => none
 | k + 1, x3, x15 => if x15 = true then (some 4) else (if x3 = 35 then (some 5) else (if x3 = 36 then (some 5) else (if x3 = 37 then (some 5) else (some 0))))
end
def zaD.f (k : Nat) (a0 : Int) : Option (Int) := if a0 = 40 then (some 1) else (if a0 = 39 then (some 2) else (if a0 = 27 then (zaD.j0 k a0 (a0 == 27)) else (if a0 = 28 then (zaD.j0 k a0 (a0 == 28)) else (if a0 = 29 then (zaD.j0 k a0 (a0 == 29)) else (if a0 = 30 then (zaD.j0 k a0 (a0 == 30)) else (if a0 = 31 then (zaD.j0 k a0 (a0 == 31)) else (zaD.j0 k a0 (a0 == 32))))))))
theorem zaD.calls (k : Nat) (a0 : Int) (r : Int) (w : World) (h : zaD.f k a0 = some r) :
  Calls Tryd.prog 85 #[.int .u8 a0] w fun e w' => e = .returned (.int .i64 r) ∧ zaq w w' := by
 have H : (if a0 = 40 then (some 1) else (if a0 = 39 then (some 2) else (if a0 = 27 then (zaD.j0 k a0 (a0 == 27)) else (if a0 = 28 then (zaD.j0 k a0 (a0 == 28)) else (if a0 = 29 then (zaD.j0 k a0 (a0 == 29)) else (if a0 = 30 then (zaD.j0 k a0 (a0 == 30)) else (if a0 = 31 then (zaD.j0 k a0 (a0 == 31)) else (zaD.j0 k a0 (a0 == 32))))))))) = some r := h
 clear h; by_cases c2 : a0 = 40
 ·rw [if_pos c2] at H
  have c2b0 : (a0 == 40) = true := beq_iff_eq.mpr c2; have c2b1 : (a0 != 40) = false := bne_eq_false_iff_eq.mpr c2; clear c2; obtain rfl := Option.some.inj H; go_enter Tryd.func85, Tryd.ntmps85
  go_wp2
  go_ret
  exact ⟨by first | rfl | (simp; done) | simp [*], by repeat (first | exact zaq.refl _ | apply zaq.step)⟩
 ·rw [if_neg c2] at H
  have c2b0 : (a0 == 40) = false := beq_eq_false_iff_ne.mpr c2; have c2b1 : (a0 != 40) = true := bne_iff_ne.mpr c2; by_cases c3 : a0 = 39
  ·rw [if_pos c3] at H
   have c3b0 : (a0 == 39) = true := beq_iff_eq.mpr c3; have c3b1 : (a0 != 39) = false := bne_eq_false_iff_eq.mpr c3; clear c3; obtain rfl := Option.some.inj H; go_enter Tryd.func85, Tryd.ntmps85
   go_wp2
   go_ret
   exact ⟨by first | rfl | (simp; done) | simp [*], by repeat (first | exact zaq.refl _ | apply zaq.step)⟩
  ·rw [if_neg c3] at H
   have c3b0 : (a0 == 39) = false := beq_eq_false_iff_ne.mpr c3; have c3b1 : (a0 != 39) = true := bne_iff_ne.mpr c3; have HC4 := zaa.mk H; clear H; go_enter Tryd.func85, Tryd.ntmps85
   go_upto_if 8 with (fail)
   go_cut [8] (fun v8 wc => ∃ (kq : Nat) (x8_3 : Bool), v8 = .bool x8_3 ∧ zaa (zaD.j0 kq a0 x8_3 = some r) ∧ zaa (kq ≤ k) ∧ zaq w wc)
   case first =>
    have H := HC4.out; clear HC4; by_cases c5 : a0 = 27
    ·rw [if_pos c5] at H
     have c5b0 : (a0 == 27) = true := beq_iff_eq.mpr c5; have c5b1 : (a0 != 27) = false := bne_eq_false_iff_eq.mpr c5; clear c5
     (first | rw [c5b0] | (simp only [i64_w, i32_w]; rw [c5b0]) | skip)
     have H' := zaa.mk H; clear H; go_wp2
     go_meet
     case rel => exact ⟨_, ((a0 == 27)), (by first | rfl | (simp; done) | simp [*]), H', ⟨by first | omega | exact Nat.le_refl _⟩, by repeat (first | exact zaq.refl _ | apply zaq.step)⟩
    ·rw [if_neg c5] at H
     have c5b0 : (a0 == 27) = false := beq_eq_false_iff_ne.mpr c5; have c5b1 : (a0 != 27) = true := bne_iff_ne.mpr c5
     (first | rw [c5b0] | (simp only [i64_w, i32_w]; rw [c5b0]) | skip)
     by_cases c6 : a0 = 28
     ·rw [if_pos c6] at H
      have c6b0 : (a0 == 28) = true := beq_iff_eq.mpr c6; have c6b1 : (a0 != 28) = false := bne_eq_false_iff_eq.mpr c6; clear c6; have H' := zaa.mk H; clear H; go_wp2
      go_meet
      case rel => exact ⟨_, ((a0 == 28)), (by first | rfl | (simp; done) | simp [*]), H', ⟨by first | omega | exact Nat.le_refl _⟩, by repeat (first | exact zaq.refl _ | apply zaq.step)⟩
     ·rw [if_neg c6] at H
      have c6b0 : (a0 == 28) = false := beq_eq_false_iff_ne.mpr c6; have c6b1 : (a0 != 28) = true := bne_iff_ne.mpr c6; by_cases c7 : a0 = 29
      ·rw [if_pos c7] at H
       have c7b0 : (a0 == 29) = true := beq_iff_eq.mpr c7; have c7b1 : (a0 != 29) = false := bne_eq_false_iff_eq.mpr c7; clear c7; have H' := zaa.mk H; clear H; go_wp2
       go_meet
       case rel => exact ⟨_, ((a0 == 29)), (by first | rfl | (simp; done) | simp [*]), H', ⟨by first | omega | exact Nat.le_refl _⟩, by repeat (first | exact zaq.refl _ | apply zaq.step)⟩
      ·rw [if_neg c7] at H
       have c7b0 : (a0 == 29) = false := beq_eq_false_iff_ne.mpr c7; have c7b1 : (a0 != 29) = true := bne_iff_ne.mpr c7; by_cases c8 : a0 = 30
       ·rw [if_pos c8] at H
        have c8b0 : (a0 == 30) = true := beq_iff_eq.mpr c8; have c8b1 : (a0 != 30) = false := bne_eq_false_iff_eq.mpr c8; clear c8; have H' := zaa.mk H; clear H; go_wp2
        go_meet
        case rel => exact ⟨_, ((a0 == 30)), (by first | rfl | (simp; done) | simp [*]), H', ⟨by first | omega | exact Nat.le_refl _⟩, by repeat (first | exact zaq.refl _ | apply zaq.step)⟩
       ·rw [if_neg c8] at H
        have c8b0 : (a0 == 30) = false := beq_eq_false_iff_ne.mpr c8; have c8b1 : (a0 != 30) = true := bne_iff_ne.mpr c8; by_cases c9 : a0 = 31
        ·rw [if_pos c9] at H
         have c9b0 : (a0 == 31) = true := beq_iff_eq.mpr c9; have c9b1 : (a0 != 31) = false := bne_eq_false_iff_eq.mpr c9; clear c9; have H' := zaa.mk H; clear H; go_wp2
         go_meet
         case rel => exact ⟨_, ((a0 == 31)), (by first | rfl | (simp; done) | simp [*]), H', ⟨by first | omega | exact Nat.le_refl _⟩, by repeat (first | exact zaq.refl _ | apply zaq.step)⟩
        ·rw [if_neg c9] at H
         have c9b0 : (a0 == 31) = false := beq_eq_false_iff_ne.mpr c9; have c9b1 : (a0 != 31) = true := bne_iff_ne.mpr c9; have H' := zaa.mk H; clear H; go_wp2
         go_meet
         case rel => exact ⟨_, ((a0 == 32)), (by first | rfl | (simp; done) | simp [*]), H', ⟨by first | omega | exact Nat.le_refl _⟩, by repeat (first | exact zaq.refl _ | apply zaq.step)⟩
   case rest =>
    clear HC4; try clear c2
    try clear c2b0
    try clear c2b1
    try clear p2
    try clear c3
    try clear c3b0
    try clear c3b1
    try clear c5
    try clear c5b0
    try clear c5b1
    try clear c6
    try clear c6b0
    try clear c6b1
    try clear c7
    try clear c7b0
    try clear c7b1
    try clear c8
    try clear c8b0
    try clear c8b1
    try clear c9
    try clear c9b0
    try clear c9b1
    obtain ⟨kq, x8_3, rfl, HA, HJ3, ⟨mc3, rfl⟩⟩ := hcut; cases kq with
    | zero => exact absurd HA.out (by simp [zaD.j0])
    | succ kj3 =>
     have H := HA.out; clear HA; simp only [zaD.j0] at H; by_cases c10 : x8_3 = true
     ·subst c10
      have H1 : (some 3) = some r := by rw [if_pos rfl] at H; exact H
      clear H; have H := H1; clear H1; obtain rfl := Option.some.inj H; go_wp2
      go_ret
      exact ⟨by first | rfl | (simp; done) | simp [*], by repeat (first | exact zaq.refl _ | apply zaq.step)⟩
     ·replace c10 := Bool.eq_false_iff.mpr c10
      subst c10; have H1 : (if a0 = 33 then (zaD.j1 kj3 a0 (a0 == 33)) else (zaD.j1 kj3 a0 (a0 == 34))) = some r := by rw [if_neg (show ¬ (false = true) by decide)] at H; exact H
      clear H; have H := H1; clear H1; have HC11 := zaa.mk H; clear H
      go_upto_if 15 with (fail)
      go_cut [15] (fun v15 wc => ∃ (kq : Nat) (x15_10 : Bool), v15 = .bool x15_10 ∧ zaa (zaD.j1 kq a0 x15_10 = some r) ∧ zaa (kq ≤ kj3) ∧ zaq w wc)
      case first =>
       have H := HC11.out; clear HC11; by_cases c12 : a0 = 33
       ·rw [if_pos c12] at H
        have c12b0 : (a0 == 33) = true := beq_iff_eq.mpr c12; have c12b1 : (a0 != 33) = false := bne_eq_false_iff_eq.mpr c12; clear c12
        (first | rw [c12b0] | (simp only [i64_w, i32_w]; rw [c12b0]) | skip)
        have H' := zaa.mk H; clear H; go_wp2
        go_meet
        case rel => exact ⟨_, ((a0 == 33)), (by first | rfl | (simp; done) | simp [*]), H', ⟨by have := HJ3.out; first | omega | exact Nat.le_refl _⟩, by repeat (first | exact zaq.refl _ | apply zaq.step)⟩
       ·rw [if_neg c12] at H
        have c12b0 : (a0 == 33) = false := beq_eq_false_iff_ne.mpr c12; have c12b1 : (a0 != 33) = true := bne_iff_ne.mpr c12
        (first | rw [c12b0] | (simp only [i64_w, i32_w]; rw [c12b0]) | skip)
        have H' := zaa.mk H; clear H; go_wp2
        go_meet
        case rel => exact ⟨_, ((a0 == 34)), (by first | rfl | (simp; done) | simp [*]), H', ⟨by have := HJ3.out; first | omega | exact Nat.le_refl _⟩, by repeat (first | exact zaq.refl _ | apply zaq.step)⟩
      case rest =>
       clear HC11; try clear c1
       try clear c2
       try clear c2b0
       try clear c2b1
       try clear p2
       try clear c3
       try clear c3b0
       try clear c3b1
       try clear c5
       try clear c5b0
       try clear c5b1
       try clear c6
       try clear c6b0
       try clear c6b1
       try clear c7
       try clear c7b0
       try clear c7b1
       try clear c8
       try clear c8b0
       try clear c8b1
       try clear c9
       try clear c9b0
       try clear c9b1
       try clear c10
       try clear c12
       try clear c12b0
       try clear c12b1
       try clear p2
       obtain ⟨kq, x15_10, rfl, HA, HJ10, ⟨mc10, rfl⟩⟩ := hcut; cases kq with
       | zero => exact absurd HA.out (by simp [zaD.j1])
       | succ kj10 =>
        have H := HA.out; clear HA; simp only [zaD.j1] at H; by_cases c13 : x15_10 = true
        ·subst c13
         have H1 : (some 4) = some r := by rw [if_pos rfl] at H; exact H
         clear H; have H := H1; clear H1; obtain rfl := Option.some.inj H; go_wp2
         go_ret
         exact ⟨by first | rfl | (simp; done) | simp [*], by repeat (first | exact zaq.refl _ | apply zaq.step)⟩
        ·replace c13 := Bool.eq_false_iff.mpr c13
         subst c13; have H1 : (if a0 = 35 then (some 5) else (if a0 = 36 then (some 5) else (if a0 = 37 then (some 5) else (some 0)))) = some r := by rw [if_neg (show ¬ (false = true) by decide)] at H; exact H
         clear H; have H := H1; clear H1; by_cases c14 : a0 = 35
         ·rw [if_pos c14] at H
          have c14b0 : (a0 == 35) = true := beq_iff_eq.mpr c14; have c14b1 : (a0 != 35) = false := bne_eq_false_iff_eq.mpr c14; clear c14; obtain rfl := Option.some.inj H; go_wp2
          go_ret
          exact ⟨by first | rfl | (simp; done) | simp [*], by repeat (first | exact zaq.refl _ | apply zaq.step)⟩
         ·rw [if_neg c14] at H
          have c14b0 : (a0 == 35) = false := beq_eq_false_iff_ne.mpr c14; have c14b1 : (a0 != 35) = true := bne_iff_ne.mpr c14; by_cases c15 : a0 = 36
          ·rw [if_pos c15] at H
           have c15b0 : (a0 == 36) = true := beq_iff_eq.mpr c15; have c15b1 : (a0 != 36) = false := bne_eq_false_iff_eq.mpr c15; clear c15; obtain rfl := Option.some.inj H; go_wp2
           go_ret
           exact ⟨by first | rfl | (simp; done) | simp [*], by repeat (first | exact zaq.refl _ | apply zaq.step)⟩
          ·rw [if_neg c15] at H
           have c15b0 : (a0 == 36) = false := beq_eq_false_iff_ne.mpr c15; have c15b1 : (a0 != 36) = true := bne_iff_ne.mpr c15; by_cases c16 : a0 = 37
           ·rw [if_pos c16] at H
            have c16b0 : (a0 == 37) = true := beq_iff_eq.mpr c16; have c16b1 : (a0 != 37) = false := bne_eq_false_iff_eq.mpr c16; clear c16; obtain rfl := Option.some.inj H; go_wp2
            go_ret
            exact ⟨by first | rfl | (simp; done) | simp [*], by repeat (first | exact zaq.refl _ | apply zaq.step)⟩
           ·rw [if_neg c16] at H
            have c16b0 : (a0 == 37) = false := beq_eq_false_iff_ne.mpr c16; have c16b1 : (a0 != 37) = true := bne_iff_ne.mpr c16; obtain rfl := Option.some.inj H; go_wp2
            go_ret
            exact ⟨by first | rfl | (simp; done) | simp [*], by repeat (first | exact zaq.refl _ | apply zaq.step)⟩
end
def triviaL : List Int := [0, 1, 2, 3, 4, 5, 9]
def countsB (k : Int) : Bool := decide (k ≤ 40) && (decide (k ≤ 17) || decide (20 ≤ k)) && !(triviaL.contains k)
def zb4.f (a0 : Int) : Option Bool := some (countsB a0)
def triviaV : Value := .agg #[.int .u8 0, .int .u8 1, .int .u8 2, .int .u8 3, .int .u8 4, .int .u8 5, .int .u8 9]
theorem trivia_calls (w : World) : Calls Tryd.prog 79 #[] w fun e w' => e = .returned (.agg #[.int .u8 0, .int .u8 1, .int .u8 2, .int .u8 3, .int .u8 4, .int .u8 5, .int .u8 9]) ∧ Below w.heap.size w w' := by
 go_enter Tryd.func79, Tryd.ntmps79
 go_wp2
 exact bodyPost_ret (v := .agg #[.int .u8 0, .int .u8 1, .int .u8 2, .int .u8 3, .int .u8 4, .int .u8 5, .int .u8 9]) (by simp [results, Tryd.results79, go_sem]) rfl ⟨rfl, zad (Below.refl _ _) _⟩
theorem index_trivia (k : Nat) (hk : 8 < k) (x : Int) : ∃ i, zaV.f k triviaL x = some i ∧ decide (i ≥ 0) = triviaL.contains x := by
 obtain ⟨k, rfl⟩ : ∃ m, k = m + 1 + 1 + 1 + 1 + 1 + 1 + 1 + 1 := ⟨k - 8, by omega⟩
 unfold zaV.f triviaL
 have hw : ∀ x : Int, 0 ≤ x → x ≤ 100 → wrap64 x = x := fun x h0 h1 => by unfold wrap64; omega
 have e1 : wrap64 (0 + 1) = 1 := hw 1 (by omega) (by omega)
 have e2 : wrap64 (1 + 1) = 2 := hw 2 (by omega) (by omega)
 have e3 : wrap64 (2 + 1) = 3 := hw 3 (by omega) (by omega)
 have e4 : wrap64 (3 + 1) = 4 := hw 4 (by omega) (by omega)
 have e5 : wrap64 (4 + 1) = 5 := hw 5 (by omega) (by omega)
 have e6 : wrap64 (5 + 1) = 6 := hw 6 (by omega) (by omega)
 have e7 : wrap64 (6 + 1) = 7 := hw 7 (by omega) (by omega)
 simp only [zaV.l0, e1, e2, e3, e4, e5, e6, e7, List.length_cons, List.length_nil]; simp [rd]; by_cases h0 : x = 0
 ·simp [h0]
 by_cases h1 : x = 1
 ·simp [h1]
 by_cases h2 : x = 2
 ·simp [h2]
 by_cases h3 : x = 3
 ·simp [h3]
 by_cases h4 : x = 4
 ·simp [h4]
 by_cases h5 : x = 5
 ·simp [h5]
 by_cases h9 : x = 9
 ·simp [h9]
 ·simp [h0, h1, h2, h3, h4, h5, h9]
theorem contains_trivia (k : Nat) (hk : 8 < k) (x : Int) : zbx.f k triviaL x = some (triviaL.contains x) := by
 obtain ⟨i, h1, h2⟩ := index_trivia k hk x; unfold zbx.f
 rw [h1, Option.bind_some, h2]
theorem trivia_reads (W : World) : Kd.C (Kd.int .u8) (W.alloc (.cells #[.int .u8 0, .int .u8 1, .int .u8 2, .int .u8 3, .int .u8 4, .int .u8 5, .int .u8 9] 142)) (some ⟨W.heap.size, 0, none⟩) triviaL.length triviaL := by
 refine Kd.C_of_reads (d := (0 : Int)) (h1 := fun _ => rfl) ⟨rfl, by decide, fun _ => ⟨_, rfl, fun j hj => ?_⟩⟩
 rw [add_plain]; rw [zaf (heap_alloc_new W _) j]; have hj : j < 7 := hj
 match j, hj with
 | 0, _ => rfl
 | 1, _ => rfl
 | 2, _ => rfl
 | 3, _ => rfl
 | 4, _ => rfl
 | 5, _ => rfl
 | 6, _ => rfl
theorem zb4.calls (a0 : Int) (r : Bool) (w : World) (h : zb4.f a0 = some r) : Calls Tryd.prog 67 #[.int .u8 a0] w fun e w' => e = .returned (.bool r) ∧ Below w.heap.size w w' := by
 have hr : countsB a0 = r := Option.some.inj h; clear h; have HR := zaa.mk hr; clear hr; by_cases h40 : a0 ≤ 40
 case neg =>
  have b40 : decide (a0 ≤ 40) = false := decide_eq_false h40; have HF := zaa.mk (show r = false by rw [← HR.out]; simp [countsB, h40])
  clear h40 HR; go_enter Tryd.func67, Tryd.ntmps67
  go_wp2_with (go_at_call 79; refine (trivia_calls _).mono ?_; rintro e w1 ⟨rfl, hb⟩)
  go_ret
  exact ⟨by rw [HF.out]; rfl, zad hb _⟩
 have b40 : decide (a0 ≤ 40) = true := decide_eq_true h40; by_cases hm : a0 ≤ 17 ∨ 20 ≤ a0
 case neg =>
  have b17 : decide (a0 ≤ 17) = false := decide_eq_false (fun h => hm (.inl h))
  have b20 : decide (20 ≤ a0) = false := decide_eq_false (fun h => hm (.inr h))
  have HF := zaa.mk (show r = false by rw [← HR.out]; simp [countsB, b17, b20])
  clear h40 HR hm; go_enter Tryd.func67, Tryd.ntmps67
  go_wp2_with (go_at_call 79; refine (trivia_calls _).mono ?_; rintro e w1 ⟨rfl, hb⟩)
  go_ret
  exact ⟨by rw [HF.out]; rfl, zad hb _⟩
 have HF := zaa.mk (show r = !(triviaL.contains a0) by
  rw [← HR.out]; unfold countsB
  rw [b40]; rcases hm with h | h <;> simp [h])
 have HC := fun (w1 : World) => zaa.mk (zbx.calls 9 (some ⟨w1.heap.size, 0, none⟩) 7 triviaL a0 _ _ (trivia_reads w1) (Nat.le_refl 7) (contains_trivia 9 (by omega) a0))
 obtain ⟨q, hq⟩ : ∃ q, q = triviaL.contains a0 := ⟨_, rfl⟩; rw [← hq] at HF; have HC2 : ∀ w1 : World, zaa (Calls Tryd.prog 80 #[.slice (some ⟨w1.heap.size, 0, none⟩) 7 7, .int .u8 a0] (w1.alloc (.cells #[.int .u8 0, .int .u8 1, .int .u8 2, .int .u8 3, .int .u8 4, .int .u8 5, .int .u8 9] 142)) fun e w' => e = .returned (.bool q) ∧ zaq (w1.alloc (.cells #[.int .u8 0, .int .u8 1, .int .u8 2, .int .u8 3, .int .u8 4, .int .u8 5, .int .u8 9] 142)) w') := fun w1 => by rw [hq]; exact HC w1
 clear HR HC hq; by_cases h17 : a0 ≤ 17
 ·have b17 : decide (a0 ≤ 17) = true := decide_eq_true h17
  clear h17 h40 hm; go_enter Tryd.func67, Tryd.ntmps67
  go_wp2_with (first | (go_at_call 79; refine (trivia_calls _).mono ?_; rintro e w1 ⟨rfl, hb⟩) | (go_at_call 80; refine (HC2 w1).out.mono ?_; rintro e w2 ⟨rfl, ⟨nd, rfl⟩⟩))
  go_ret
  exact ⟨by rw [HF.out]; rfl, zac (zad hb _) _⟩
 ·have b17 : decide (a0 ≤ 17) = false := decide_eq_false h17
  have b20 : decide (20 ≤ a0) = true := decide_eq_true (by omega)
  clear h17 h40 hm; go_enter Tryd.func67, Tryd.ntmps67
  go_wp2_with (first | (go_at_call 79; refine (trivia_calls _).mono ?_; rintro e w1 ⟨rfl, hb⟩) | (go_at_call 80; refine (HC2 w1).out.mono ?_; rintro e w2 ⟨rfl, ⟨nd, rfl⟩⟩))
  go_ret
  exact ⟨by rw [HF.out]; rfl, zac (zad hb _) _⟩
section
attribute [local go_sem] zbi zbg zbs zbr za8 za7 zbh zbf
def tree_leaf.f (a0_0 : Int) (a0_1 : Int) (a0_2 : Int) (l0_3 : List (S29)) : Option (Bool) := if (l0_3.length : Int) > 0 then (some false) else (if a0_0 = 50 then (if a0_2 = 0 then ((zb4.f a0_1).bind fun t244 => (if t244 = true then (some true) else (if a0_1 = 60 then (some true) else (some (a0_1 == 52))))) else (some false)) else ((zbD.f a0_0).bind fun t245 => (if t245 = true then (if a0_2 ≥ 1 then (if a0_2 ≤ 1099511627776 then (some (a0_1 == 0)) else (some false)) else (some false)) else (some false))))
theorem tree_leaf.calls (a0_0 : Int) (a0_1 : Int) (a0_2 : Int) (A0_3 : Option Addr) (c0_3 : Nat) (l0_3 : List (S29)) (r : Bool) (w : World) (hr0_3 : Kd.C k29 w A0_3 l0_3.length l0_3) (hc0_3 : l0_3.length ≤ c0_3) (h : tree_leaf.f a0_0 a0_1 a0_2 l0_3 = some r) :
  Calls Tryd.prog 54 #[.agg #[.int .u8 a0_0, .int .u8 a0_1, .int .i64 a0_2, .slice A0_3 l0_3.length c0_3]] w fun e w' => e = .returned (.bool r) ∧ Below w.heap.size w w' := by
 have hu29 := Tryd.underlying29; have HR0_3 := zaa.mk hr0_3; have HC0_3 := zaa.mk hc0_3; clear hr0_3 hc0_3; have HB := zaa.mk (Below.refl w.heap.size w); have H : (if (l0_3.length : Int) > 0 then (some false) else (if a0_0 = 50 then (if a0_2 = 0 then ((zb4.f a0_1).bind fun t244 => (if t244 = true then (some true) else (if a0_1 = 60 then (some true) else (some (a0_1 == 52))))) else (some false)) else ((zbD.f a0_0).bind fun t245 => (if t245 = true then (if a0_2 ≥ 1 then (if a0_2 ≤ 1099511627776 then (some (a0_1 == 0)) else (some false)) else (some false)) else (some false))))) = some r := h
 clear h; by_cases c2 : (l0_3.length : Int) > 0
 ·rw [if_pos c2] at H
  have c2b0 : decide (0 < (l0_3.length : Int)) = true := decide_eq_true c2; have c2b1 : decide (0 < l0_3.length) = true := decide_eq_true (by omega)
  clear c2; obtain rfl := Option.some.inj H; go_enter Tryd.func54, Tryd.ntmps54
  go_wp2_with (first | ((with_reducible refine za6 (N := 1) rfl ?_); refine zbl ?hg (N := 1) ?hd (cs := #[.int .u8 a0_0, .int .u8 a0_1, .int .i64 a0_2, .slice A0_3 l0_3.length c0_3]) (t := 29) ?hr ?_; (case hd => rfl); (case hg => rfl); (case hr => first | (go_simp; done) | (go_simp; rfl)); intro gb243 hg w3 hbox hb; have n0_ := zaa.mk (zai (by repeat (first | exact HB.out | apply zad | apply zac | apply zae)) hb); have n1_ := zaa.mk (hbox); have n2_ := zaa.mk ((by rw [hg]; exact (zax (by repeat (first | exact HB.out | apply zad | apply zac | apply zae))) : w.heap.size ≤ gb243)); have n3_ := zaa.mk ((by rw [hg]; exact (zax (by repeat (first | exact HB.out | apply zad | apply zac | apply zae))) : w.heap.size ≤ gb243)); clear HB; have HB := n0_; have BK243 := n1_; have GW243 := n2_; have GE243 := n3_; clear n0_ n1_ n2_ n3_; clear hb hbox hg; have hcz4_0 : w3.cell? ⟨gb243, 0, none⟩ = some (.int .u8 a0_0) := (zaf BK243.out 0).trans rfl; have hcz4_1 : w3.cell? ⟨gb243, 1, none⟩ = some (.int .u8 a0_1) := (zaf BK243.out 1).trans rfl; have hcz4_2 : w3.cell? ⟨gb243, 2, none⟩ = some (.int .i64 a0_2) := (zaf BK243.out 2).trans rfl; have hcz4_3 : w3.cell? ⟨gb243, 3, none⟩ = some (.slice A0_3 l0_3.length c0_3) := (zaf BK243.out 3).trans rfl; have hfz4_0 := zab BK243.out 0; have hfz4_1 := zab BK243.out 1; have hfz4_2 := zab BK243.out 2; have hfz4_3 := zab BK243.out 3))
  go_ret
  exact ⟨by first | rfl | (simp [*, zaz, zay] <;> rfl), by repeat (first | (with_reducible first | exact HB.out | apply zad | apply zac | apply zae | refine zaB ?_ GE243.out) | exact HB.out)⟩
 ·rw [if_neg c2] at H
  have c2b0 : decide (0 < (l0_3.length : Int)) = false := decide_eq_false c2; have c2b1 : decide (0 < l0_3.length) = false := decide_eq_false (by omega)
  clear c2; by_cases c5 : a0_0 = 50
  ·rw [if_pos c5] at H
   have c5b0 : (a0_0 == 50) = true := beq_iff_eq.mpr c5; have c5b1 : (a0_0 != 50) = false := bne_eq_false_iff_eq.mpr c5; clear c5; by_cases c6 : a0_2 = 0
   ·rw [if_pos c6] at H
    have c6b0 : (a0_2 == 0) = true := beq_iff_eq.mpr c6; have c6b1 : (a0_2 != 0) = false := bne_eq_false_iff_eq.mpr c6; clear c6; replace H := Option.bind_eq_some_iff.mp H; obtain ⟨t244, A70, H⟩ := H; replace H : (if t244 = true then (some true) else (if a0_1 = 60 then (some true) else (some (a0_1 == 52)))) = some r := H
    have A7 := zaa.mk A70; clear A70; by_cases c8 : t244 = true
    ·subst c8
     have H1 : (some true) = some r := by rw [if_pos rfl] at H; exact H
     clear H; have H := H1; clear H1; obtain rfl := Option.some.inj H; go_enter Tryd.func54, Tryd.ntmps54
     go_wp2_with (first | ((with_reducible refine za6 (N := 1) rfl ?_); refine zbl ?hg (N := 1) ?hd (cs := #[.int .u8 a0_0, .int .u8 a0_1, .int .i64 a0_2, .slice A0_3 l0_3.length c0_3]) (t := 29) ?hr ?_; (case hd => rfl); (case hg => rfl); (case hr => first | (go_simp; done) | (go_simp; rfl)); intro gb243 hg w9 hbox hb; have n0_ := zaa.mk (zai (by repeat (first | exact HB.out | apply zad | apply zac | apply zae)) hb); have n1_ := zaa.mk (hbox); have n2_ := zaa.mk ((by rw [hg]; exact (zax (by repeat (first | exact HB.out | apply zad | apply zac | apply zae))) : w.heap.size ≤ gb243)); have n3_ := zaa.mk ((by rw [hg]; exact (zax (by repeat (first | exact HB.out | apply zad | apply zac | apply zae))) : w.heap.size ≤ gb243)); clear HB; have HB := n0_; have BK243 := n1_; have GW243 := n2_; have GE243 := n3_; clear n0_ n1_ n2_ n3_; clear hb hbox hg; have hcz10_0 : w9.cell? ⟨gb243, 0, none⟩ = some (.int .u8 a0_0) := (zaf BK243.out 0).trans rfl; have hcz10_1 : w9.cell? ⟨gb243, 1, none⟩ = some (.int .u8 a0_1) := (zaf BK243.out 1).trans rfl; have hcz10_2 : w9.cell? ⟨gb243, 2, none⟩ = some (.int .i64 a0_2) := (zaf BK243.out 2).trans rfl; have hcz10_3 : w9.cell? ⟨gb243, 3, none⟩ = some (.slice A0_3 l0_3.length c0_3) := (zaf BK243.out 3).trans rfl; have hfz10_0 := zab BK243.out 0; have hfz10_1 := zab BK243.out 1; have hfz10_2 := zab BK243.out 2; have hfz10_3 := zab BK243.out 3) | (go_at_call 67; (with_reducible refine (zb4.calls a0_1 true _ A7.out).mono ?_); rintro e w11 ⟨rfl, hb⟩; have n0_ := zaa.mk (zat (g := gb243) (o := .cells #[.int .u8 a0_0, .int .u8 a0_1, .int .i64 a0_2, .slice A0_3 l0_3.length c0_3] 29 (0, 0)) (by (with_reducible repeat (first | refine zau ?_ _ | refine zaF ?_ | refine zav ?_ _)); exact BK243.out) hb); have n1_ := zaa.mk (zai (by repeat (first | (with_reducible first | exact HB.out | apply zad | apply zac | apply zae | refine zaB ?_ GE243.out) | exact HB.out)) hb); clear BK243; clear HB; have BK243 := n0_; have HB := n1_; clear n0_ n1_; (try clear hb); (try clear hb2); (try clear hk); (try clear hi)))
     go_ret
     exact ⟨by first | rfl | (simp [*, zaz, zay] <;> rfl), by repeat (first | (with_reducible first | exact HB.out | apply zad | apply zac | apply zae | refine zaB ?_ GE243.out) | exact HB.out)⟩
    ·replace c8 := Bool.eq_false_iff.mpr c8
     subst c8; have H1 : (if a0_1 = 60 then (some true) else (some (a0_1 == 52))) = some r := by rw [if_neg (show ¬ (false = true) by decide)] at H; exact H
     clear H; have H := H1; clear H1; by_cases c12 : a0_1 = 60
     ·rw [if_pos c12] at H
      have c12b0 : (a0_1 == 60) = true := beq_iff_eq.mpr c12; have c12b1 : (a0_1 != 60) = false := bne_eq_false_iff_eq.mpr c12; clear c12; obtain rfl := Option.some.inj H; go_enter Tryd.func54, Tryd.ntmps54
      go_wp2_with (first | ((with_reducible refine za6 (N := 1) rfl ?_); refine zbl ?hg (N := 1) ?hd (cs := #[.int .u8 a0_0, .int .u8 a0_1, .int .i64 a0_2, .slice A0_3 l0_3.length c0_3]) (t := 29) ?hr ?_; (case hd => rfl); (case hg => rfl); (case hr => first | (go_simp; done) | (go_simp; rfl)); intro gb243 hg w13 hbox hb; have n0_ := zaa.mk (zai (by repeat (first | exact HB.out | apply zad | apply zac | apply zae)) hb); have n1_ := zaa.mk (hbox); have n2_ := zaa.mk ((by rw [hg]; exact (zax (by repeat (first | exact HB.out | apply zad | apply zac | apply zae))) : w.heap.size ≤ gb243)); have n3_ := zaa.mk ((by rw [hg]; exact (zax (by repeat (first | exact HB.out | apply zad | apply zac | apply zae))) : w.heap.size ≤ gb243)); clear HB; have HB := n0_; have BK243 := n1_; have GW243 := n2_; have GE243 := n3_; clear n0_ n1_ n2_ n3_; clear hb hbox hg; have hcz14_0 : w13.cell? ⟨gb243, 0, none⟩ = some (.int .u8 a0_0) := (zaf BK243.out 0).trans rfl; have hcz14_1 : w13.cell? ⟨gb243, 1, none⟩ = some (.int .u8 a0_1) := (zaf BK243.out 1).trans rfl; have hcz14_2 : w13.cell? ⟨gb243, 2, none⟩ = some (.int .i64 a0_2) := (zaf BK243.out 2).trans rfl; have hcz14_3 : w13.cell? ⟨gb243, 3, none⟩ = some (.slice A0_3 l0_3.length c0_3) := (zaf BK243.out 3).trans rfl; have hfz14_0 := zab BK243.out 0; have hfz14_1 := zab BK243.out 1; have hfz14_2 := zab BK243.out 2; have hfz14_3 := zab BK243.out 3) | (go_at_call 67; (with_reducible refine (zb4.calls a0_1 false _ A7.out).mono ?_); rintro e w15 ⟨rfl, hb⟩; have n0_ := zaa.mk (zat (g := gb243) (o := .cells #[.int .u8 a0_0, .int .u8 a0_1, .int .i64 a0_2, .slice A0_3 l0_3.length c0_3] 29 (0, 0)) (by (with_reducible repeat (first | refine zau ?_ _ | refine zaF ?_ | refine zav ?_ _)); exact BK243.out) hb); have n1_ := zaa.mk (zai (by repeat (first | (with_reducible first | exact HB.out | apply zad | apply zac | apply zae | refine zaB ?_ GE243.out) | exact HB.out)) hb); clear BK243; clear HB; have BK243 := n0_; have HB := n1_; clear n0_ n1_; (try clear hb); (try clear hb2); (try clear hk); (try clear hi); have hcz16_0 : w15.cell? ⟨gb243, 0, none⟩ = some (.int .u8 a0_0) := (zaf BK243.out 0).trans rfl; have hcz16_1 : w15.cell? ⟨gb243, 1, none⟩ = some (.int .u8 a0_1) := (zaf BK243.out 1).trans rfl; have hcz16_2 : w15.cell? ⟨gb243, 2, none⟩ = some (.int .i64 a0_2) := (zaf BK243.out 2).trans rfl; have hcz16_3 : w15.cell? ⟨gb243, 3, none⟩ = some (.slice A0_3 l0_3.length c0_3) := (zaf BK243.out 3).trans rfl; have hfz16_0 := zab BK243.out 0; have hfz16_1 := zab BK243.out 1; have hfz16_2 := zab BK243.out 2; have hfz16_3 := zab BK243.out 3))
      go_ret
      exact ⟨by first | rfl | (simp [*, zaz, zay] <;> rfl), by repeat (first | (with_reducible first | exact HB.out | apply zad | apply zac | apply zae | refine zaB ?_ GE243.out) | exact HB.out)⟩
     ·rw [if_neg c12] at H
      have c12b0 : (a0_1 == 60) = false := beq_eq_false_iff_ne.mpr c12; have c12b1 : (a0_1 != 60) = true := bne_iff_ne.mpr c12; obtain rfl := Option.some.inj H; go_enter Tryd.func54, Tryd.ntmps54
      go_wp2_with (first | ((with_reducible refine za6 (N := 1) rfl ?_); refine zbl ?hg (N := 1) ?hd (cs := #[.int .u8 a0_0, .int .u8 a0_1, .int .i64 a0_2, .slice A0_3 l0_3.length c0_3]) (t := 29) ?hr ?_; (case hd => rfl); (case hg => rfl); (case hr => first | (go_simp; done) | (go_simp; rfl)); intro gb243 hg w17 hbox hb; have n0_ := zaa.mk (zai (by repeat (first | exact HB.out | apply zad | apply zac | apply zae)) hb); have n1_ := zaa.mk (hbox); have n2_ := zaa.mk ((by rw [hg]; exact (zax (by repeat (first | exact HB.out | apply zad | apply zac | apply zae))) : w.heap.size ≤ gb243)); have n3_ := zaa.mk ((by rw [hg]; exact (zax (by repeat (first | exact HB.out | apply zad | apply zac | apply zae))) : w.heap.size ≤ gb243)); clear HB; have HB := n0_; have BK243 := n1_; have GW243 := n2_; have GE243 := n3_; clear n0_ n1_ n2_ n3_; clear hb hbox hg; have hcz18_0 : w17.cell? ⟨gb243, 0, none⟩ = some (.int .u8 a0_0) := (zaf BK243.out 0).trans rfl; have hcz18_1 : w17.cell? ⟨gb243, 1, none⟩ = some (.int .u8 a0_1) := (zaf BK243.out 1).trans rfl; have hcz18_2 : w17.cell? ⟨gb243, 2, none⟩ = some (.int .i64 a0_2) := (zaf BK243.out 2).trans rfl; have hcz18_3 : w17.cell? ⟨gb243, 3, none⟩ = some (.slice A0_3 l0_3.length c0_3) := (zaf BK243.out 3).trans rfl; have hfz18_0 := zab BK243.out 0; have hfz18_1 := zab BK243.out 1; have hfz18_2 := zab BK243.out 2; have hfz18_3 := zab BK243.out 3) | (go_at_call 67; (with_reducible refine (zb4.calls a0_1 false _ A7.out).mono ?_); rintro e w19 ⟨rfl, hb⟩; have n0_ := zaa.mk (zat (g := gb243) (o := .cells #[.int .u8 a0_0, .int .u8 a0_1, .int .i64 a0_2, .slice A0_3 l0_3.length c0_3] 29 (0, 0)) (by (with_reducible repeat (first | refine zau ?_ _ | refine zaF ?_ | refine zav ?_ _)); exact BK243.out) hb); have n1_ := zaa.mk (zai (by repeat (first | (with_reducible first | exact HB.out | apply zad | apply zac | apply zae | refine zaB ?_ GE243.out) | exact HB.out)) hb); clear BK243; clear HB; have BK243 := n0_; have HB := n1_; clear n0_ n1_; (try clear hb); (try clear hb2); (try clear hk); (try clear hi); have hcz20_0 : w19.cell? ⟨gb243, 0, none⟩ = some (.int .u8 a0_0) := (zaf BK243.out 0).trans rfl; have hcz20_1 : w19.cell? ⟨gb243, 1, none⟩ = some (.int .u8 a0_1) := (zaf BK243.out 1).trans rfl; have hcz20_2 : w19.cell? ⟨gb243, 2, none⟩ = some (.int .i64 a0_2) := (zaf BK243.out 2).trans rfl; have hcz20_3 : w19.cell? ⟨gb243, 3, none⟩ = some (.slice A0_3 l0_3.length c0_3) := (zaf BK243.out 3).trans rfl; have hfz20_0 := zab BK243.out 0; have hfz20_1 := zab BK243.out 1; have hfz20_2 := zab BK243.out 2; have hfz20_3 := zab BK243.out 3))
      go_ret
      exact ⟨by first | rfl | (simp [*, zaz, zay] <;> rfl), by repeat (first | (with_reducible first | exact HB.out | apply zad | apply zac | apply zae | refine zaB ?_ GE243.out) | exact HB.out)⟩
   ·rw [if_neg c6] at H
    have c6b0 : (a0_2 == 0) = false := beq_eq_false_iff_ne.mpr c6; have c6b1 : (a0_2 != 0) = true := bne_iff_ne.mpr c6; obtain rfl := Option.some.inj H; go_enter Tryd.func54, Tryd.ntmps54
    go_wp2_with (first | ((with_reducible refine za6 (N := 1) rfl ?_); refine zbl ?hg (N := 1) ?hd (cs := #[.int .u8 a0_0, .int .u8 a0_1, .int .i64 a0_2, .slice A0_3 l0_3.length c0_3]) (t := 29) ?hr ?_; (case hd => rfl); (case hg => rfl); (case hr => first | (go_simp; done) | (go_simp; rfl)); intro gb243 hg w21 hbox hb; have n0_ := zaa.mk (zai (by repeat (first | exact HB.out | apply zad | apply zac | apply zae)) hb); have n1_ := zaa.mk (hbox); have n2_ := zaa.mk ((by rw [hg]; exact (zax (by repeat (first | exact HB.out | apply zad | apply zac | apply zae))) : w.heap.size ≤ gb243)); have n3_ := zaa.mk ((by rw [hg]; exact (zax (by repeat (first | exact HB.out | apply zad | apply zac | apply zae))) : w.heap.size ≤ gb243)); clear HB; have HB := n0_; have BK243 := n1_; have GW243 := n2_; have GE243 := n3_; clear n0_ n1_ n2_ n3_; clear hb hbox hg; have hcz22_0 : w21.cell? ⟨gb243, 0, none⟩ = some (.int .u8 a0_0) := (zaf BK243.out 0).trans rfl; have hcz22_1 : w21.cell? ⟨gb243, 1, none⟩ = some (.int .u8 a0_1) := (zaf BK243.out 1).trans rfl; have hcz22_2 : w21.cell? ⟨gb243, 2, none⟩ = some (.int .i64 a0_2) := (zaf BK243.out 2).trans rfl; have hcz22_3 : w21.cell? ⟨gb243, 3, none⟩ = some (.slice A0_3 l0_3.length c0_3) := (zaf BK243.out 3).trans rfl; have hfz22_0 := zab BK243.out 0; have hfz22_1 := zab BK243.out 1; have hfz22_2 := zab BK243.out 2; have hfz22_3 := zab BK243.out 3))
    go_ret
    exact ⟨by first | rfl | (simp [*, zaz, zay] <;> rfl), by repeat (first | (with_reducible first | exact HB.out | apply zad | apply zac | apply zae | refine zaB ?_ GE243.out) | exact HB.out)⟩
  ·rw [if_neg c5] at H
   have c5b0 : (a0_0 == 50) = false := beq_eq_false_iff_ne.mpr c5; have c5b1 : (a0_0 != 50) = true := bne_iff_ne.mpr c5; replace H := Option.bind_eq_some_iff.mp H; obtain ⟨t245, A230, H⟩ := H; replace H : (if t245 = true then (if a0_2 ≥ 1 then (if a0_2 ≤ 1099511627776 then (some (a0_1 == 0)) else (some false)) else (some false)) else (some false)) = some r := H
   have A23 := zaa.mk A230; clear A230; by_cases c24 : t245 = true
   ·subst c24
    have H1 : (if a0_2 ≥ 1 then (if a0_2 ≤ 1099511627776 then (some (a0_1 == 0)) else (some false)) else (some false)) = some r := by rw [if_pos rfl] at H; exact H
    clear H; have H := H1; clear H1; by_cases c25 : a0_2 ≥ 1
    ·rw [if_pos c25] at H
     have c25b0 : decide (1 ≤ a0_2) = true := decide_eq_true c25; clear c25; by_cases c26 : a0_2 ≤ 1099511627776
     ·rw [if_pos c26] at H
      have c26b0 : decide (a0_2 ≤ 1099511627776) = true := decide_eq_true c26; clear c26; obtain rfl := Option.some.inj H; go_enter Tryd.func54, Tryd.ntmps54
      go_wp2_with (first | ((with_reducible refine za6 (N := 1) rfl ?_); refine zbl ?hg (N := 1) ?hd (cs := #[.int .u8 a0_0, .int .u8 a0_1, .int .i64 a0_2, .slice A0_3 l0_3.length c0_3]) (t := 29) ?hr ?_; (case hd => rfl); (case hg => rfl); (case hr => first | (go_simp; done) | (go_simp; rfl)); intro gb243 hg w27 hbox hb; have n0_ := zaa.mk (zai (by repeat (first | exact HB.out | apply zad | apply zac | apply zae)) hb); have n1_ := zaa.mk (hbox); have n2_ := zaa.mk ((by rw [hg]; exact (zax (by repeat (first | exact HB.out | apply zad | apply zac | apply zae))) : w.heap.size ≤ gb243)); have n3_ := zaa.mk ((by rw [hg]; exact (zax (by repeat (first | exact HB.out | apply zad | apply zac | apply zae))) : w.heap.size ≤ gb243)); clear HB; have HB := n0_; have BK243 := n1_; have GW243 := n2_; have GE243 := n3_; clear n0_ n1_ n2_ n3_; clear hb hbox hg; have hcz28_0 : w27.cell? ⟨gb243, 0, none⟩ = some (.int .u8 a0_0) := (zaf BK243.out 0).trans rfl; have hcz28_1 : w27.cell? ⟨gb243, 1, none⟩ = some (.int .u8 a0_1) := (zaf BK243.out 1).trans rfl; have hcz28_2 : w27.cell? ⟨gb243, 2, none⟩ = some (.int .i64 a0_2) := (zaf BK243.out 2).trans rfl; have hcz28_3 : w27.cell? ⟨gb243, 3, none⟩ = some (.slice A0_3 l0_3.length c0_3) := (zaf BK243.out 3).trans rfl; have hfz28_0 := zab BK243.out 0; have hfz28_1 := zab BK243.out 1; have hfz28_2 := zab BK243.out 2; have hfz28_3 := zab BK243.out 3) | ((with_reducible refine zaK (f := 68) rfl ?_); refine zbk (some 30) rfl rfl Tryd.func68 (by kernel_rfl) rfl #[.int .u8 a0_0] rfl (by (try simp only [List.map_toArray, List.map_cons, List.map_nil]); first | done | rfl | (simp only [List.length_drop, List.length_take]; rfl)) ?_; (with_reducible refine (zbD.calls a0_0 true _ A23.out).mono ?_); rintro e w' ⟨rfl, ⟨nd, rfl⟩⟩; refine ⟨_, rfl, ?_⟩))
      go_ret
      exact ⟨by first | rfl | (simp [*, zaz, zay] <;> rfl), by repeat (first | (with_reducible first | exact HB.out | apply zad | apply zac | apply zae | refine zaB ?_ GE243.out) | exact HB.out)⟩
     ·rw [if_neg c26] at H
      have c26b0 : decide (a0_2 ≤ 1099511627776) = false := decide_eq_false c26; clear c26; obtain rfl := Option.some.inj H; go_enter Tryd.func54, Tryd.ntmps54
      go_wp2_with (first | ((with_reducible refine za6 (N := 1) rfl ?_); refine zbl ?hg (N := 1) ?hd (cs := #[.int .u8 a0_0, .int .u8 a0_1, .int .i64 a0_2, .slice A0_3 l0_3.length c0_3]) (t := 29) ?hr ?_; (case hd => rfl); (case hg => rfl); (case hr => first | (go_simp; done) | (go_simp; rfl)); intro gb243 hg w29 hbox hb; have n0_ := zaa.mk (zai (by repeat (first | exact HB.out | apply zad | apply zac | apply zae)) hb); have n1_ := zaa.mk (hbox); have n2_ := zaa.mk ((by rw [hg]; exact (zax (by repeat (first | exact HB.out | apply zad | apply zac | apply zae))) : w.heap.size ≤ gb243)); have n3_ := zaa.mk ((by rw [hg]; exact (zax (by repeat (first | exact HB.out | apply zad | apply zac | apply zae))) : w.heap.size ≤ gb243)); clear HB; have HB := n0_; have BK243 := n1_; have GW243 := n2_; have GE243 := n3_; clear n0_ n1_ n2_ n3_; clear hb hbox hg; have hcz30_0 : w29.cell? ⟨gb243, 0, none⟩ = some (.int .u8 a0_0) := (zaf BK243.out 0).trans rfl; have hcz30_1 : w29.cell? ⟨gb243, 1, none⟩ = some (.int .u8 a0_1) := (zaf BK243.out 1).trans rfl; have hcz30_2 : w29.cell? ⟨gb243, 2, none⟩ = some (.int .i64 a0_2) := (zaf BK243.out 2).trans rfl; have hcz30_3 : w29.cell? ⟨gb243, 3, none⟩ = some (.slice A0_3 l0_3.length c0_3) := (zaf BK243.out 3).trans rfl; have hfz30_0 := zab BK243.out 0; have hfz30_1 := zab BK243.out 1; have hfz30_2 := zab BK243.out 2; have hfz30_3 := zab BK243.out 3) | ((with_reducible refine zaK (f := 68) rfl ?_); refine zbk (some 30) rfl rfl Tryd.func68 (by kernel_rfl) rfl #[.int .u8 a0_0] rfl (by (try simp only [List.map_toArray, List.map_cons, List.map_nil]); first | done | rfl | (simp only [List.length_drop, List.length_take]; rfl)) ?_; (with_reducible refine (zbD.calls a0_0 true _ A23.out).mono ?_); rintro e w' ⟨rfl, ⟨nd, rfl⟩⟩; refine ⟨_, rfl, ?_⟩))
      go_ret
      exact ⟨by first | rfl | (simp [*, zaz, zay] <;> rfl), by repeat (first | (with_reducible first | exact HB.out | apply zad | apply zac | apply zae | refine zaB ?_ GE243.out) | exact HB.out)⟩
    ·rw [if_neg c25] at H
     have c25b0 : decide (1 ≤ a0_2) = false := decide_eq_false c25; clear c25; obtain rfl := Option.some.inj H; go_enter Tryd.func54, Tryd.ntmps54
     go_wp2_with (first | ((with_reducible refine za6 (N := 1) rfl ?_); refine zbl ?hg (N := 1) ?hd (cs := #[.int .u8 a0_0, .int .u8 a0_1, .int .i64 a0_2, .slice A0_3 l0_3.length c0_3]) (t := 29) ?hr ?_; (case hd => rfl); (case hg => rfl); (case hr => first | (go_simp; done) | (go_simp; rfl)); intro gb243 hg w31 hbox hb; have n0_ := zaa.mk (zai (by repeat (first | exact HB.out | apply zad | apply zac | apply zae)) hb); have n1_ := zaa.mk (hbox); have n2_ := zaa.mk ((by rw [hg]; exact (zax (by repeat (first | exact HB.out | apply zad | apply zac | apply zae))) : w.heap.size ≤ gb243)); have n3_ := zaa.mk ((by rw [hg]; exact (zax (by repeat (first | exact HB.out | apply zad | apply zac | apply zae))) : w.heap.size ≤ gb243)); clear HB; have HB := n0_; have BK243 := n1_; have GW243 := n2_; have GE243 := n3_; clear n0_ n1_ n2_ n3_; clear hb hbox hg; have hcz32_0 : w31.cell? ⟨gb243, 0, none⟩ = some (.int .u8 a0_0) := (zaf BK243.out 0).trans rfl; have hcz32_1 : w31.cell? ⟨gb243, 1, none⟩ = some (.int .u8 a0_1) := (zaf BK243.out 1).trans rfl; have hcz32_2 : w31.cell? ⟨gb243, 2, none⟩ = some (.int .i64 a0_2) := (zaf BK243.out 2).trans rfl; have hcz32_3 : w31.cell? ⟨gb243, 3, none⟩ = some (.slice A0_3 l0_3.length c0_3) := (zaf BK243.out 3).trans rfl; have hfz32_0 := zab BK243.out 0; have hfz32_1 := zab BK243.out 1; have hfz32_2 := zab BK243.out 2; have hfz32_3 := zab BK243.out 3) | ((with_reducible refine zaK (f := 68) rfl ?_); refine zbk (some 30) rfl rfl Tryd.func68 (by kernel_rfl) rfl #[.int .u8 a0_0] rfl (by (try simp only [List.map_toArray, List.map_cons, List.map_nil]); first | done | rfl | (simp only [List.length_drop, List.length_take]; rfl)) ?_; (with_reducible refine (zbD.calls a0_0 true _ A23.out).mono ?_); rintro e w' ⟨rfl, ⟨nd, rfl⟩⟩; refine ⟨_, rfl, ?_⟩))
     go_ret
     exact ⟨by first | rfl | (simp [*, zaz, zay] <;> rfl), by repeat (first | (with_reducible first | exact HB.out | apply zad | apply zac | apply zae | refine zaB ?_ GE243.out) | exact HB.out)⟩
   ·replace c24 := Bool.eq_false_iff.mpr c24
    subst c24; have H1 : (some false) = some r := by rw [if_neg (show ¬ (false = true) by decide)] at H; exact H
    clear H; have H := H1; clear H1; obtain rfl := Option.some.inj H; go_enter Tryd.func54, Tryd.ntmps54
    go_wp2_with (first | ((with_reducible refine za6 (N := 1) rfl ?_); refine zbl ?hg (N := 1) ?hd (cs := #[.int .u8 a0_0, .int .u8 a0_1, .int .i64 a0_2, .slice A0_3 l0_3.length c0_3]) (t := 29) ?hr ?_; (case hd => rfl); (case hg => rfl); (case hr => first | (go_simp; done) | (go_simp; rfl)); intro gb243 hg w33 hbox hb; have n0_ := zaa.mk (zai (by repeat (first | exact HB.out | apply zad | apply zac | apply zae)) hb); have n1_ := zaa.mk (hbox); have n2_ := zaa.mk ((by rw [hg]; exact (zax (by repeat (first | exact HB.out | apply zad | apply zac | apply zae))) : w.heap.size ≤ gb243)); have n3_ := zaa.mk ((by rw [hg]; exact (zax (by repeat (first | exact HB.out | apply zad | apply zac | apply zae))) : w.heap.size ≤ gb243)); clear HB; have HB := n0_; have BK243 := n1_; have GW243 := n2_; have GE243 := n3_; clear n0_ n1_ n2_ n3_; clear hb hbox hg; have hcz34_0 : w33.cell? ⟨gb243, 0, none⟩ = some (.int .u8 a0_0) := (zaf BK243.out 0).trans rfl; have hcz34_1 : w33.cell? ⟨gb243, 1, none⟩ = some (.int .u8 a0_1) := (zaf BK243.out 1).trans rfl; have hcz34_2 : w33.cell? ⟨gb243, 2, none⟩ = some (.int .i64 a0_2) := (zaf BK243.out 2).trans rfl; have hcz34_3 : w33.cell? ⟨gb243, 3, none⟩ = some (.slice A0_3 l0_3.length c0_3) := (zaf BK243.out 3).trans rfl; have hfz34_0 := zab BK243.out 0; have hfz34_1 := zab BK243.out 1; have hfz34_2 := zab BK243.out 2; have hfz34_3 := zab BK243.out 3) | ((with_reducible refine zaK (f := 68) rfl ?_); refine zbk (some 30) rfl rfl Tryd.func68 (by kernel_rfl) rfl #[.int .u8 a0_0] rfl (by (try simp only [List.map_toArray, List.map_cons, List.map_nil]); first | done | rfl | (simp only [List.length_drop, List.length_take]; rfl)) ?_; (with_reducible refine (zbD.calls a0_0 false _ A23.out).mono ?_); rintro e w' ⟨rfl, ⟨nd, rfl⟩⟩; refine ⟨_, rfl, ?_⟩))
    go_ret
    exact ⟨by first | rfl | (simp [*, zaz, zay] <;> rfl), by repeat (first | (with_reducible first | exact HB.out | apply zad | apply zac | apply zae | refine zaB ?_ GE243.out) | exact HB.out)⟩
end
def leafB (k w wd : Int) (kids : List S29) : Bool := (tree_leaf.f k w wd kids).getD false
theorem ite_some {α : Type} {c : Prop} [Decidable c] {p q : Option α} (hp : ∃ b, p = some b) (hq : ∃ b, q = some b) : ∃ b, (if c then p else q) = some b := by
 split <;> assumption
theorem leaf_some (k w wd : Int) (kids : List S29) : tree_leaf.f k w wd kids = some (leafB k w wd kids) := by
 have ht : ∀ x, ∃ b, zbD.f x = some b := fun x => by
  unfold zbD.f
  repeat' (first | exact ⟨_, rfl⟩ | refine ite_some ?_ ?_)
 have : ∃ b, tree_leaf.f k w wd kids = some b := by
  unfold tree_leaf.f zb4.f
  obtain ⟨b, hb⟩ := ht k; rw [hb]; simp only [Option.bind_some]; repeat' (first | exact ⟨_, rfl⟩ | refine ite_some ?_ ?_)
 obtain ⟨b, hb⟩ := this; unfold leafB
 rw [hb]
 rfl
mutual
def mayN : S29 → Int → Int → Int × Bool
 | ⟨k, w, wd, kids⟩, at_, c =>
  if wrap64 (c + 1) > 1048576 then (wrap64 (c + 1), false)
  else if at_ > 65536 then (wrap64 (c + 1), false)
  else if k ≤ 50 then (wrap64 (c + 1), leafB k w wd kids)
  else if k > 68 then (wrap64 (c + 1), false)
  else if w ≠ 0 then (wrap64 (c + 1), false)
  else if k = 51 ∧ at_ > 1 then (wrap64 (c + 1), false)
  else match mayL kids at_ (wrap64 (c + 1)) 0 with
   | (c', none) => (c', false)
   | (c', some sum) => (c', decide (sum = wd) && decide (sum ≤ 1099511627776))
def mayL : List S29 → Int → Int → Int → Int × Option Int
 | [], _, c, sum => (c, some sum)
 | t :: r, at_, c, sum => match mayN t (wrap64 (at_ + 1)) c with
  | (c', false) => (c', none)
  | (c', true) => mayL r at_ c' (wrap64 (sum + t.f2))
end
def tree_Right.f (k w wd : Int) (kids : List S29) : Option Bool := some (mayN ⟨k, w, wd, kids⟩ 1 0).2
theorem heap29 : Kd.Heap k29 := Kd.heap_fix (fun d hd => Kd.heap_iso _ (Kd.heap_pair (Kd.heap_int _) (Kd.heap_pair (Kd.heap_int _) (Kd.heap_pair (Kd.heap_int _) (Kd.heap_slice _ hd)))))
theorem at_T29F {w : World} {ok : Nat → Prop} {A : Option Addr} {n : Nat} {xs : List S29} (h : Kd.F k29 w ok A n xs) (i : Nat) (h1 : i < n) : ∃ ad A3 c3, A = some ad ∧ w.cell? (ad.add (i * 4)) = some (.int .u8 (zbc xs i).f0) ∧ w.cell? ⟨(ad.add (i * 4)).block, (ad.add (i * 4)).off + 1, none⟩ = some (.int .u8 (zbc xs i).f1) ∧ w.cell? ⟨(ad.add (i * 4)).block, (ad.add (i * 4)).off + 2, none⟩ = some (.int .i64 (zbc xs i).f2) ∧ w.cell? ⟨(ad.add (i * 4)).block, (ad.add (i * 4)).off + 3, none⟩ = some (.slice A3 (zbc xs i).f3.length c3) ∧ (zbc xs i).f3.length ≤ c3 ∧ Kd.F k29 w ok A3 (zbc xs i).f3.length (zbc xs i).f3 := by
 obtain ⟨ad, cs, he, _, hK, hc0, _⟩ := Kd.F_get h z29 (i : Int) (by omega) (by omega)
 have hc : ∀ j u, cs[j]? = some u → w.cell? (ad.add (i * 4 + j)) = some u := hc0; have hK' : Kd.FK k29 w ok (zbc xs i) cs := hK; obtain ⟨A3, c3, rfl, l3, g3⟩ := k29_openF hK'; exact ⟨ad, A3, c3, he, hc 0 _ rfl, by rw [← zba _ _ 1 (by omega)]; exact hc 1 _ rfl, by rw [← zba _ _ 2 (by omega)]; exact hc 2 _ rfl, by rw [← zba _ _ 3 (by omega)]; exact hc 3 _ rfl, l3, g3⟩
theorem rd_at29 (xs : List S29) (i : Nat) (h : i < xs.length) : zbc xs i = xs[i] := by
 simp [zbc, List.getD_eq_getElem?_getD, List.getElem?_eq_getElem h]
theorem grown_alloc {W W1 : World} {row : Option Nat} (h : W.grownBy W1 row) (o : Obj) : W.grownBy (W1.alloc o) row := World.grownBy.trans h (World.grownBy_alloc _ _ _)
abbrev one1 (v : Value) (t : Nat) : Obj := .cells #[v] t (0, 0)
abbrev mayV (g3 g4 : Nat) : Value := .func (.func 53) #[] #[.pointer (some ⟨g3, 0, none⟩), .pointer (some ⟨g4, 0, none⟩)]
def MayPost (t : S29) (at_ c : Int) (g3 : Nat) (W : World) (e : Ending) (W' : World) : Prop :=
 e = .returned (.bool (mayN t at_ c).2) ∧ W.grownBy W' (some g3) ∧ W'.heap[g3]? = some (one1 (.int .i64 (mayN t at_ c).1) 3)
theorem may_calls (n : Nat) : ∀ (t : S29), SizeOf.sizeOf t < n → ∀ (at_ c : Int) (A : Option Addr) (cp : Nat) (W : World) (g3 g4 : Nat), g3 ≠ g4 → W.heap[g3]? = some (one1 (.int .i64 c) 3) → W.heap[g4]? = some (one1 (mayV g3 g4) 118) →
  Kd.F k29 W (fun k => k ≠ g3) A t.f3.length t.f3 → t.f3.length ≤ cp →
  Calls Tryd.prog 53 #[.agg #[.int .u8 t.f0, .int .u8 t.f1, .int .i64 t.f2, .slice A t.f3.length cp], .int .i64 at_, .pointer (some ⟨g3, 0, none⟩), .pointer (some ⟨g4, 0, none⟩)] W (MayPost t at_ c g3 W) := by
 induction n with
 | zero => intro t h; exact absurd h (Nat.not_lt_zero _)
 | succ n ih =>
 rintro ⟨k, w, wd, kids⟩ ht at_ c A cp W g3 g4 hne h3 h4 hF hcp
 simp only at hF hcp ⊢; have hl3 : g3 < W.heap.size := zaO h3; have hl4 : g4 < W.heap.size := zaO h4; have HT := zaa.mk ht; have IH := zaa.mk ih; have HF := zaa.mk hF; have HCP := zaa.mk hcp; have H3 := zaa.mk h3; have H4 := zaa.mk h4; have hk3 := zaf h3 0; have hf3 := zab h3 0; simp at hk3; clear ht ih hF hcp h4 h3; have hu := Tryd.underlying29; go_enter Tryd.func53, Tryd.ntmps53
 go_upto_region 2 with (fail)
 obtain ⟨c1, hc1⟩ : ∃ c1, c1 = wrap64 (c + 1) := ⟨_, rfl⟩; rw [← hc1]; obtain ⟨W1, hW1⟩ : ∃ W1, W1 = (W.setCell ⟨g3, 0, none⟩ (.int .i64 c1)).alloc (.cells #[.int .u8 k, .int .u8 w, .int .i64 wd, .slice A kids.length cp] 29) := ⟨_, rfl⟩; rw [← hW1]; have hs : (W.setCell ⟨g3, 0, none⟩ (.int .i64 c1)).heap.size = W.heap.size := by simp
 have HX := zaa.mk (show W1.heap[W.heap.size]? = some (.cells #[.int .u8 k, .int .u8 w, .int .i64 wd, .slice A kids.length cp] 29 (0, 0)) by rw [hW1, ← hs]; exact heap_alloc_new _ _)
 have HY3 := zaa.mk (show W1.heap[g3]? = some (one1 (.int .i64 c1) 3) by rw [hW1, Below.heap_alloc _ _ _ (by rw [hs]; exact hl3)]; exact zbt H3.out 0 _)
 have HG := zaa.mk (show W.grownBy W1 (some g3) by
  rw [hW1]; refine ⟨rfl, rfl, rfl, by simp, fun q hq hne' => ?_⟩
  rw [Below.heap_alloc _ _ _ (by rw [hs]; exact hq)]
  exact Below.heap_setCell _ _ _ _ (fun e => hne' (by rw [e])))
 have HY4 := zaa.mk ((HG.out.block g4 hl4 (fun e => hne (Option.some.inj e).symm)).trans H4.out)
 have HF1 := zaa.mk (Kd.F_grown HF.out HG.out (fun q hq e => hq (Option.some.inj e)))
 have hlb : W.heap.size < W1.heap.size := zaO HX.out; have hneb : g3 ≠ W.heap.size := by omega
 have hkb0 := zaf HX.out 0; have hkb1 := zaf HX.out 1; have hkb2 := zaf HX.out 2; have hkb3 := zaf HX.out 3; have hk3' := zaf HY3.out 0; simp at hkb0 hkb1 hkb2 hkb3 hk3'; clear hW1 hs hk3 hf3 H3 H4 HF; have HM := zaa.mk (show mayN ⟨k, w, wd, kids⟩ at_ c = if c1 > 1048576 then (c1, false) else if at_ > 65536 then (c1, false) else if k ≤ 50 then (c1, leafB k w wd kids) else if k > 68 then (c1, false) else if w ≠ 0 then (c1, false) else if k = 51 ∧ at_ > 1 then (c1, false)
   else match mayL kids at_ c1 0 with | (c', none) => (c', false) | (c', some sum) => (c', decide (sum = wd) && decide (sum ≤ 1099511627776)) by rw [hc1]; simp only [mayN])
 clear hc1; have fin : ∀ (b : Bool) (W' : World) (c' : Int), mayN ⟨k, w, wd, kids⟩ at_ c = (c', b) → W1.grownBy W' (some g3) → W'.heap[g3]? = some (one1 (.int .i64 c') 3) → MayPost ⟨k, w, wd, kids⟩ at_ c g3 W (.returned (.bool b)) W' := by
  intro b W' c' e g h
  refine ⟨by rw [e], World.grownBy.trans HG.out g, by rw [e]; exact h⟩
 have FIN := zaa.mk fin; clear fin; by_cases t1 : c1 > 1048576
 ·have HM2 := zaa.mk (show mayN ⟨k, w, wd, kids⟩ at_ c = (c1, false) by rw [HM.out, if_pos t1])
  have b1 : decide (1048576 < c1) = true := decide_eq_true t1; clear HM t1; go_wp2
  go_ret
  exact FIN.out _ _ _ HM2.out (World.grownBy.refl _ _) HY3.out
 have b1 : decide (1048576 < c1) = false := decide_eq_false t1; by_cases t2 : at_ > 65536
 ·have HM2 := zaa.mk (show mayN ⟨k, w, wd, kids⟩ at_ c = (c1, false) by rw [HM.out, if_neg t1, if_pos t2])
  have b2 : decide (65536 < at_) = true := decide_eq_true t2; clear HM t1 t2; go_wp2
  go_ret
  exact FIN.out _ _ _ HM2.out (World.grownBy.refl _ _) HY3.out
 have b2 : decide (65536 < at_) = false := decide_eq_false t2; by_cases t3 : k ≤ 50
 ·have HM2 := zaa.mk (show mayN ⟨k, w, wd, kids⟩ at_ c = (c1, leafB k w wd kids) by rw [HM.out, if_neg t1, if_neg t2, if_pos t3])
  have b3 : decide (k ≤ 50) = true := decide_eq_true t3; have HL := zaa.mk (leaf_some k w wd kids); obtain ⟨q, hq⟩ : ∃ q, q = leafB k w wd kids := ⟨_, rfl⟩; rw [← hq] at HM2 HL; clear HM t1 t2 t3 hq; go_wp2_with (go_at_call 54; refine (tree_leaf.calls k w wd A cp kids q _ (Kd.F_now HF1.out) HCP.out HL.out).mono ?_; rintro e w1 ⟨rfl, hb⟩; have HB := zaa.mk hb; clear hb)
  go_ret
  exact FIN.out _ _ _ HM2.out (zbP HB.out _) ((HB.out.block _ (zaO HY3.out)).trans HY3.out)
 have b3 : decide (k ≤ 50) = false := decide_eq_false t3; by_cases t4 : k > 68
 ·have HM2 := zaa.mk (show mayN ⟨k, w, wd, kids⟩ at_ c = (c1, false) by rw [HM.out, if_neg t1, if_neg t2, if_neg t3, if_pos t4])
  have b4 : decide (68 < k) = true := decide_eq_true t4; clear HM t1 t2 t3 t4; go_wp2
  go_ret
  exact FIN.out _ _ _ HM2.out (World.grownBy.refl _ _) HY3.out
 have b4 : decide (68 < k) = false := decide_eq_false t4; by_cases t5 : w = 0
 case neg =>
  have HM2 := zaa.mk (show mayN ⟨k, w, wd, kids⟩ at_ c = (c1, false) by rw [HM.out, if_neg t1, if_neg t2, if_neg t3, if_neg t4, if_pos t5])
  have b5 : (w != 0) = true := bne_iff_ne.mpr t5; have b5' : (w == 0) = false := beq_eq_false_iff_ne.mpr t5; clear HM t1 t2 t3 t4 t5; go_wp2
  go_ret
  exact FIN.out _ _ _ HM2.out (World.grownBy.refl _ _) HY3.out
 have b5 : (w != 0) = false := bne_eq_false_iff_eq.mpr t5; have b5' : (w == 0) = true := beq_iff_eq.mpr t5; by_cases t6 : k = 51 ∧ at_ > 1
 ·have HM2 := zaa.mk (show mayN ⟨k, w, wd, kids⟩ at_ c = (c1, false) by rw [HM.out, if_neg t1, if_neg t2, if_neg t3, if_neg t4, if_neg (by simpa using t5), if_pos t6])
  have b6 : (k == 51) = true := beq_iff_eq.mpr t6.1; have b7 : decide (1 < at_) = true := decide_eq_true t6.2; clear HM t1 t2 t3 t4 t5 t6; go_wp2
  go_ret
  exact FIN.out _ _ _ HM2.out (World.grownBy.refl _ _) HY3.out
 have HM2 := zaa.mk (show mayN ⟨k, w, wd, kids⟩ at_ c = _ by rw [HM.out, if_neg t1, if_neg t2, if_neg t3, if_neg t4, if_neg (by simpa using t5), if_neg t6])
 have hm : kids.length ≤ 9223372036854775807 := Kd.F_max HF1.out; obtain ⟨q6, hq6⟩ : ∃ q6, q6 = (k == 51) := ⟨_, rfl⟩; have b67 : (q6 = true ∧ (k == 51) = true ∧ decide (1 < at_) = false) ∨ (q6 = false ∧ (k == 51) = false) := by
  rw [hq6]; by_cases e : k = 51
  ·exact .inl ⟨beq_iff_eq.mpr e, beq_iff_eq.mpr e, decide_eq_false (fun h => t6 ⟨e, h⟩)⟩
  ·exact .inr ⟨beq_eq_false_iff_ne.mpr e, beq_eq_false_iff_ne.mpr e⟩
 clear HM t1 t2 t3 t4 t5 t6 hq6; have hq := fun (t : S29) (h : t ∈ kids) => (show SizeOf.sizeOf t < n by
  have h1 := List.sizeOf_lt_of_mem h; have h2 := HT.out; simp only [S29.mk.sizeOf_spec] at h2; omega)
 have HQ := zaa.mk hq; clear hq HT; rcases b67 with ⟨_, b6, b7⟩ | ⟨_, b6⟩
 all_goals
  go_wp2
  go_loopg [7, 43] kids.length (fun kq v7 v43 w' => ∃ (i : Nat) (c' sum : Int), v43 = .int .i64 i ∧ v7 = .int .i64 sum ∧ i ≤ kids.length ∧ zaa (kq = kids.length - i) ∧ zaa (W1.grownBy w' (some g3)) ∧ zaa (w'.heap[g3]? = some (one1 (.int .i64 c') 3)) ∧ zaa (mayL kids at_ c1 0 = mayL (kids.drop i) at_ c' sum))
  case atStart => exact ⟨0, c1, 0, rfl, rfl, Nat.zero_le _, ⟨rfl⟩, ⟨World.grownBy.refl _ _⟩, HY3, ⟨rfl⟩⟩
  case round =>
   clear hkb0 hkb1 hkb2 hkb3 hk3'; obtain ⟨i, c', sum, rfl, rfl, hi, HK, HGR, HC3, HL⟩ := hrel; have hX' := (HGR.out.block _ hlb (fun e => hneb (Option.some.inj e).symm)).trans HX.out
   have hkb0 := zaf hX' 0; have hkb1 := zaf hX' 1; have hkb2 := zaf hX' 2; have hkb3 := zaf hX' 3; have hY4' := (HGR.out.block g4 (zaO HY4.out) (fun e => hne (Option.some.inj e).symm)).trans HY4.out
   have hk4 := zaf hY4' 0; simp at hkb0 hkb1 hkb2 hkb3 hk4; have HX' := zaa.mk hX'; have HY4' := zaa.mk hY4'; clear hX' hY4'; have HF' := zaa.mk (Kd.F_grown HF1.out HGR.out (fun q hq e => hq (Option.some.inj e)))
   by_cases hlt : i < kids.length
   ·obtain ⟨ad, A3, c3, e, g0, g1, g2, gg3, gl, gF⟩ := at_T29F HF'.out i hlt
    subst e; obtain ⟨t, hts⟩ : ∃ t, t = zbc kids i := ⟨_, rfl⟩; rw [← hts] at g0 g1 g2 gg3 gl gF; have HMEM := zaa.mk (show t ∈ kids by rw [hts, rd_at29 kids i hlt]; exact List.getElem_mem hlt)
    have HL2 := zaa.mk (show mayL kids at_ c1 0 = match mayN t (wrap64 (at_ + 1)) c' with | (c', false) => (c', none) | (c', true) => mayL (kids.drop (i + 1)) at_ c' (wrap64 (sum + t.f2)) by
     rw [HL.out, List.drop_eq_getElem_cons hlt, mayL, hts, rd_at29 kids i hlt])
    have GF := zaa.mk gF; have GL := zaa.mk gl; clear HL hts gF gl; obtain ⟨tk, tw, twd, tks⟩ := t; simp only at g0 g1 g2 gg3; obtain ⟨r, hr⟩ : ∃ r, r = mayN ⟨tk, tw, twd, tks⟩ (wrap64 (at_ + 1)) c' := ⟨_, rfl⟩; obtain ⟨rc, rb⟩ := r; rw [← hr] at HL2; have HR := zaa.mk hr.symm; clear hr; have hlw : wr.heap.size < wr.heap.size + 1 := Nat.lt_succ_self _; have hg3w : g3 < wr.heap.size := zaO HC3.out; have hg3ne : g3 ≠ wr.heap.size := by omega
    have hg4w : g4 < wr.heap.size := zaO HY4'.out; have hcall := fun (W2 : World) (hW2 : Below wr.heap.size wr W2) (cp : Nat) (hcp : tks.length ≤ cp) (hA : Kd.F k29 wr (fun k => k ≠ g3) A3 tks.length tks) => IH.out ⟨tk, tw, twd, tks⟩ (HQ.out _ HMEM.out) (wrap64 (at_ + 1)) c' A3 cp W2 g3 g4 hne ((hW2.block _ (zaO HC3.out)).trans HC3.out) ((hW2.block _ (zaO HY4'.out)).trans HY4'.out) (Kd.F_below hA hW2) hcp
    have HCALL := zaa.mk hcall; clear hcall; cases rb with
    | true =>
     go_wp2_with (go_at_call 53; refine (HCALL.out _ (zad (Below.refl _ _) _) _ GL.out GF.out).mono ?_; rintro e w1 ⟨rfl, hg, h3⟩; rw [HR.out] at h3 ⊢; have HG1 := zaa.mk hg; have H31 := zaa.mk h3; have hbx := (hg.block wr.heap.size (by simp) (fun e => hg3ne (Option.some.inj e).symm)).trans (heap_alloc_new wr _); have hb2 := zaf hbx 2; simp at hb2; clear hg h3 hbx)
     go_roundg (kids.length - (i + 1))
     case measure => have := HK.out; omega
     case rel => exact ⟨i + 1, rc, wrap64 (sum + twd), by go_num, rfl, by omega, ⟨rfl⟩, ⟨World.grownBy.trans (grown_alloc HGR.out _) HG1.out⟩, H31, ⟨HL2.out⟩⟩
    | false =>
     have HM3 := zaa.mk (show mayN ⟨k, w, wd, kids⟩ at_ c = (rc, false) by rw [HM2.out, HL2.out])
     go_wp2_with (go_at_call 53; refine (HCALL.out _ (zad (Below.refl _ _) _) _ GL.out GF.out).mono ?_; rintro e w1 ⟨rfl, hg, h3⟩; rw [HR.out] at h3 ⊢; have HG1 := zaa.mk hg; have H31 := zaa.mk h3; clear hg h3)
     go_ret
     exact FIN.out _ _ _ HM3.out (World.grownBy.trans (grown_alloc HGR.out _) HG1.out) H31.out
   ·have hi2 : kids.length ≤ i := Nat.not_lt.1 hlt
    have HM3 := zaa.mk (show mayN ⟨k, w, wd, kids⟩ at_ c = (c', decide (sum = wd) && decide (sum ≤ 1099511627776)) by
     rw [HM2.out, HL.out, List.drop_eq_nil_of_le hi2, mayL])
    by_cases s1 : sum = wd
    ·have d1 : (sum == wd) = true := beq_iff_eq.mpr s1
     have HM4 := zaa.mk (show mayN ⟨k, w, wd, kids⟩ at_ c = (c', decide (sum ≤ 1099511627776)) by rw [HM3.out, decide_eq_true s1, Bool.true_and])
     clear s1 HM3; go_wp2
     go_ret
     exact FIN.out _ _ _ HM4.out HGR.out HC3.out
    ·have d1 : (sum == wd) = false := beq_eq_false_iff_ne.mpr s1
     have HM4 := zaa.mk (show mayN ⟨k, w, wd, kids⟩ at_ c = (c', false) by rw [HM3.out, decide_eq_false s1, Bool.false_and])
     clear s1 HM3; go_wp2
     go_ret
     exact FIN.out _ _ _ HM4.out HGR.out HC3.out
theorem wrap_id {x : Int} (h0 : -9223372036854775808 ≤ x) (h1 : x ≤ 9223372036854775807) : wrap64 x = x := by unfold wrap64; omega
theorem Ev.const {α : Type} {o : Option α} {r : α} (h : o = some r) : Ev (fun _ => o) r := ⟨0, fun _ _ => h⟩
mutual
def tsize : S29 → Nat
 | ⟨_, _, _, kids⟩ => 1 + lsize kids
def lsize : List S29 → Nat
 | [] => 0
 | t :: r => tsize t + lsize r
end
mutual
def byteT : S29 → Prop
 | ⟨k, w, wd, kids⟩ => (0 ≤ k ∧ k ≤ 255) ∧ (0 ≤ w ∧ w ≤ 255) ∧ byteL kids
def byteL : List S29 → Prop
 | [] => True
 | t :: r => byteT t ∧ byteL r
end
theorem counts_byte (a : Int) (h0 : 0 ≤ a) : zaY.f a = some (countsB a) := by
 unfold zaY.f zaQ.f countsB triviaL
 by_cases h1 : a = 1
 ·subst h1; rfl
 by_cases h2 : a = 2
 ·subst h2; rfl
 by_cases h3 : a = 3
 ·subst h3; rfl
 by_cases h4 : a = 4
 ·subst h4; rfl
 by_cases h5 : a = 5
 ·subst h5; rfl
 by_cases h9 : a = 9
 ·subst h9; rfl
 by_cases h00 : a = 0
 ·subst h00; rfl
 rw [if_neg h1, if_neg h2, if_neg h3, if_neg h4, if_neg h5, if_neg h9, if_pos (by omega)]
 have hc : ([0, 1, 2, 3, 4, 5, 9] : List Int).contains a = false := by simp [h1, h2, h3, h4, h5, h9, h00]
 rw [hc]; by_cases g1 : a ≤ 17
 ·rw [if_pos g1]
  simp [g1]; omega
 ·rw [if_neg g1]
  by_cases g2 : a ≥ 20
  ·rw [if_pos g2]
   simp [g1, g2]
  ·rw [if_neg g2]
   simp [g1]; omega
theorem leaf_same (k w wd : Int) (kids : List S29) (hk : 0 ≤ k) (hw : 0 ≤ w) : zby.f k w wd kids = some (leafB k w wd kids) := by
 rw [← leaf_some]; unfold zby.f tree_leaf.f
 rw [counts_byte w hw]; have ht : zaQ.f k = zbD.f k := by
  unfold zaQ.f zbD.f
  rfl
 rw [ht]
 rfl
theorem leafB_facts {k w wd : Int} {kids : List S29} (h : leafB k w wd kids = true) : kids = [] ∧ 0 ≤ wd ∧ wd ≤ 1099511627776 ∧ (k = 50 → wd = 0) ∧ (k ≠ 50 → 1 ≤ wd ∧ w = 0) ∧ (k = 50 ∨ (1 ≤ k ∧ k ≤ 17) ∨ (20 ≤ k ∧ k ≤ 40)) := by
 have h1 := leaf_some k w wd kids; rw [h] at h1; unfold tree_leaf.f at h1
 split at h1
 ·cases h1
 ·rename_i hl
  have hk : kids = [] := List.eq_nil_of_length_eq_zero (by omega)
  split at h1
  ·rename_i h50
   split at h1
   ·rename_i h0
    exact ⟨hk, by omega, by omega, fun _ => h0, fun h => absurd h50 h, .inl h50⟩
   ·cases h1
  ·rename_i h50
   have htok : ∀ b, zbD.f k = some b → b = true → (1 ≤ k ∧ k ≤ 17) ∨ (20 ≤ k ∧ k ≤ 40) := by
    intro b hb hbt
    subst hbt; unfold zbD.f at hb
    split at hb
    ·split at hb
     ·omega
     ·split at hb
      ·simp at hb; omega
      ·cases hb
    ·split at hb
     ·simp at hb; omega
     ·cases hb
   cases ht : zbD.f k with
   | none => rw [ht] at h1; cases h1
   | some b =>
    rw [ht, Option.bind_some] at h1
    split at h1
    ·rename_i hbt
     split at h1
     ·split at h1
      ·simp at h1
       exact ⟨hk, by omega, by omega, fun h => absurd h h50, fun _ => ⟨by omega, h1⟩, .inr (htok b ht hbt)⟩
      ·cases h1
     ·cases h1
    ·cases h1
section
variable (k w wd at_ c : Int) (kids : List S29)
theorem j2_true : Ev (fun n => zak.j2 n at_ (1048576 - c) true k w wd kids) 0 :=
 Ev.step (f := fun _ => some 0) (fun n => by rw [zak.j2, if_pos rfl]) (Ev.now 0)
theorem j2_false {r : Int} (h : Ev (fun n => zak.l0 n at_ (1048576 - c) 1 0 0 k w wd kids) r) : Ev (fun n => zak.j2 n at_ (1048576 - c) false k w wd kids) r :=
 Ev.step (f := fun n => zak.l0 n at_ (1048576 - c) 1 0 0 k w wd kids) (fun n => by rw [zak.j2, if_neg (by simp)]) h
theorem j1_true (hk : 0 ≤ k) (hw : 0 ≤ w) : Ev (fun n => zak.j1 n at_ (1048576 - c) true k w wd kids) (if leafB k w wd kids then 1 else 0) :=
 Ev.step (f := fun _ => some (if leafB k w wd kids then 1 else 0)) (fun n => by
  rw [zak.j1, if_pos rfl, leaf_same k w wd kids hk hw, Option.bind_some]; cases leafB k w wd kids <;> simp) (Ev.now _)
theorem j1_bad (hw : w ≠ 0) : Ev (fun n => zak.j1 n at_ (1048576 - c) false k w wd kids) 0 :=
 Ev.step (f := fun n => zak.j2 n at_ (1048576 - c) true k w wd kids) (fun n => by rw [zak.j1, if_neg (by simp), if_neg hw]) (j2_true k w wd at_ c kids)
theorem j1_file (hw : w = 0) (h51 : k = 51) (ha : at_ > 1) : Ev (fun n => zak.j1 n at_ (1048576 - c) false k w wd kids) 0 :=
 Ev.step (f := fun n => zak.j2 n at_ (1048576 - c) true k w wd kids) (fun n => by rw [zak.j1, if_neg (by simp), if_pos hw, if_pos h51, decide_eq_true ha]) (j2_true k w wd at_ c kids)
theorem j1_inner (hw : w = 0) (h51 : ¬ (k = 51 ∧ at_ > 1)) {r : Int} (h : Ev (fun n => zak.l0 n at_ (1048576 - c) 1 0 0 k w wd kids) r) : Ev (fun n => zak.j1 n at_ (1048576 - c) false k w wd kids) r :=
 Ev.step (f := fun n => zak.j2 n at_ (1048576 - c) false k w wd kids) (fun n => by
  rw [zak.j1, if_neg (by simp), if_pos hw]
  by_cases e : k = 51
  ·rw [if_pos e, decide_eq_false (fun h => h51 ⟨e, h⟩)]
  ·rw [if_neg e]) (j2_false k w wd at_ c kids h)
theorem may_none (h : at_ > 65536 ∨ 1048576 - c < 1) : Ev (fun n => zak.f n k w wd kids at_ (1048576 - c)) 0 := by
 have hj : Ev (fun n => zak.j0 n at_ (1048576 - c) true k w wd kids) 0 := Ev.step (f := fun _ => some 0) (fun n => by rw [zak.j0, if_pos rfl]) (Ev.now 0)
 refine Ev.step (f := fun n => zak.j0 n at_ (1048576 - c) true k w wd kids) (fun n => ?_) hj
 rw [zak.f]; by_cases ha : at_ > 65536
 ·rw [if_pos ha]
 ·rw [if_neg ha, decide_eq_true (by omega)]
theorem may_some (h1 : ¬ at_ > 65536) (h2 : ¬ 1048576 - c < 1) {r : Int} (h : if k < 51 then Ev (fun n => zak.j1 n at_ (1048576 - c) true k w wd kids) r else if k > 68 then Ev (fun n => zak.j1 n at_ (1048576 - c) true k w wd kids) r else Ev (fun n => zak.j1 n at_ (1048576 - c) false k w wd kids) r) :
  Ev (fun n => zak.f n k w wd kids at_ (1048576 - c)) r := by
 refine Ev.step (f := fun n => zak.j0 n at_ (1048576 - c) false k w wd kids) (fun n => by rw [zak.f, if_neg h1, decide_eq_false h2]) ?_
 by_cases hk : k < 51
 ·rw [if_pos hk] at h
  exact Ev.step (fun n => by rw [zak.j0, if_neg (by simp), if_pos hk]) h
 ·rw [if_neg hk] at h
  by_cases hk2 : k > 68
  ·rw [if_pos hk2] at h
   exact Ev.step (fun n => by rw [zak.j0, if_neg (by simp), if_neg hk, decide_eq_true hk2]) h
  ·rw [if_neg hk2] at h
   exact Ev.step (fun n => by rw [zak.j0, if_neg (by simp), if_neg hk, decide_eq_false hk2]) h
end
theorem rd_mid29 (p : List S29) (t : S29) (r : List S29) : zbc (p ++ t :: r) (p.length : Int) = t := by
 simp [zbc, List.getD_eq_getElem?_getD]
def kidsR (c0 wd : Int) : Int × Option Int → Int
 | (_, none) => 0
 | (c', some s) => if s = wd then (if s > 1099511627776 then 0 else c' - c0) else 0
mutual
theorem may_ref : ∀ (t : S29) (at_ c : Int), byteT t → 1 ≤ at_ → at_ ≤ 65537 → 0 ≤ c → c ≤ 1048576 →
  Ev (fun n => zak.f n t.f0 t.f1 t.f2 t.f3 at_ (1048576 - c)) (if (mayN t at_ c).2 then (mayN t at_ c).1 - c else 0) ∧
  ((mayN t at_ c).2 = true → (mayN t at_ c).1 ≤ 1048576 ∧ (mayN t at_ c).1 = c + tsize t)
 | ⟨k, w, wd, kids⟩, at_, c, hb, ha, ha2, hc, hc2 => by
  obtain ⟨⟨hk0, _⟩, ⟨hw0, _⟩, hkids⟩ := (by simpa only [byteT] using hb : (0 ≤ k ∧ k ≤ 255) ∧ (0 ≤ w ∧ w ≤ 255) ∧ byteL kids)
  have hcw : wrap64 (c + 1) = c + 1 := wrap_id (by omega) (by omega)
  simp only [mayN, hcw]; by_cases t1 : c + 1 > 1048576
  ·rw [if_pos t1]
   exact ⟨may_none k w wd at_ c kids (.inr (by omega)), fun h => by cases h⟩
  rw [if_neg t1]; by_cases t2 : at_ > 65536
  ·rw [if_pos t2]
   exact ⟨may_none k w wd at_ c kids (.inl t2), fun h => by cases h⟩
  rw [if_neg t2]; by_cases t3 : k ≤ 50
  ·rw [if_pos t3]
   refine ⟨may_some k w wd at_ c kids t2 (by omega) ?_, fun h => ?_⟩
   ·rw [if_pos (by omega)]
    have := j1_true k w wd at_ c kids hk0 hw0; simp only; rw [show c + 1 - c = 1 by omega]
    exact this
   ·obtain ⟨rfl, _⟩ := leafB_facts h
    simp only [tsize, lsize]; omega
  rw [if_neg t3]; by_cases t4 : k > 68
  ·rw [if_pos t4]
   refine ⟨may_some k w wd at_ c kids t2 (by omega) ?_, fun h => by cases h⟩
   rw [if_neg (by omega), if_pos t4]
   have := j1_true k w wd at_ c kids hk0 hw0; cases hL : leafB k w wd kids with
   | false => rw [hL] at this; exact this
   | true => obtain ⟨_, _, _, _, _, h6⟩ := leafB_facts hL; omega
  rw [if_neg t4]; by_cases t5 : w = 0
  case neg =>
   rw [if_pos (show w ≠ 0 from t5)]
   refine ⟨may_some k w wd at_ c kids t2 (by omega) ?_, fun h => by cases h⟩
   rw [if_neg (by omega), if_neg t4]
   exact j1_bad k w wd at_ c kids t5
  rw [if_neg (show ¬ (w ≠ 0) from fun h => h t5)]
  by_cases t6 : k = 51 ∧ at_ > 1
  ·rw [if_pos t6]
   refine ⟨may_some k w wd at_ c kids t2 (by omega) ?_, fun h => by cases h⟩
   rw [if_neg (by omega), if_neg t4]
   exact j1_file k w wd at_ c kids t5 t6.1 t6.2
  rw [if_neg t6]; obtain ⟨h1, h2⟩ := mayL_ref kids [] at_ (c + 1) c 0 k w wd hkids ha (by omega) hc (by omega) (by omega) (by simp; omega)
  rw [show c + 1 - c = 1 by omega] at h1
  refine ⟨may_some k w wd at_ c kids t2 (by omega) ?_, ?_⟩
  ·rw [if_neg (by omega), if_neg t4]
   have h3 := j1_inner k w wd at_ c kids t5 t6 h1
   revert h3 h2
   cases hm : mayL kids at_ (c + 1) 0 with
   | mk c' o =>
    cases o with
    | none => intro _ h3; exact h3
    | some s =>
     intro _ h3
     simp only [kidsR] at h3 ⊢; by_cases e : s = wd
     ·rw [if_pos e] at h3
      by_cases g : s > 1099511627776
      ·rw [if_pos g] at h3
       rw [if_neg (by simp [e]; omega)]
       exact h3
      ·rw [if_neg g] at h3
       rw [if_pos (by simp [e]; omega)]
       exact h3
     ·rw [if_neg e] at h3
      rw [if_neg (by simp [e])]
      exact h3
  ·revert h2
   cases hm : mayL kids at_ (c + 1) 0 with
   | mk c' o =>
    cases o with
    | none => intro _ h; cases h
    | some s =>
     intro h2 _
     obtain ⟨g1, g2⟩ := h2 c' s rfl; simp only [tsize]; omega
theorem mayL_ref : ∀ (l p : List S29) (at_ c c0 sum k w wd : Int), byteL l → 1 ≤ at_ → at_ ≤ 65536 → 0 ≤ c0 → c0 < c → c ≤ 1048576 → (p.length : Int) ≤ c →
  Ev (fun n => zak.l0 n at_ (1048576 - c0) (c - c0) sum (p.length : Int) k w wd (p ++ l)) (kidsR c0 wd (mayL l at_ c sum)) ∧
  ∀ c' s, mayL l at_ c sum = (c', some s) → c' ≤ 1048576 ∧ c' = c + lsize l
 | [], p, at_, c, c0, sum, k, w, wd, _, _, _, _, _, hc, _ => by
  refine ⟨Ev.step (f := fun _ => some (kidsR c0 wd (mayL [] at_ c sum))) (fun n => ?_) (Ev.now _), fun c' s h => ?_⟩
  ·rw [zak.l0, if_neg (by simp)]
   simp only [mayL, kidsR]
   split
   ·split <;> rfl
   ·rfl
  ·simp only [mayL, Prod.mk.injEq] at h
   simp only [lsize]; omega
 | t :: r, p, at_, c, c0, sum, k, w, wd, hb, ha, ha2, hc0, hcc, hc, hp => by
  obtain ⟨hbt, hbr⟩ := (by simpa only [byteL] using hb : byteT t ∧ byteL r)
  have haw : wrap64 (at_ + 1) = at_ + 1 := wrap_id (by omega) (by omega)
  obtain ⟨h1, h2⟩ := may_ref t (at_ + 1) c hbt (by omega) (by omega) (by omega) hc
  have step : ∀ n, zak.l0 (n + 1) at_ (1048576 - c0) (c - c0) sum (p.length : Int) k w wd (p ++ t :: r) = (zak.f n t.f0 t.f1 t.f2 t.f3 (at_ + 1) (1048576 - c)).bind fun t160 => if t160 = 0 then some 0 else zak.l0 n at_ (1048576 - c0) (wrap64 (c - c0 + t160)) (wrap64 (sum + t.f2)) ((p.length : Int) + 1) k w wd (p ++ t :: r) := by
   intro n
   rw [zak.l0, if_pos (by simp; omega), if_pos (by omega), rd_mid29, haw, wrap_id (x := 1048576 - c0 - (c - c0)) (by omega) (by omega), show 1048576 - c0 - (c - c0) = 1048576 - c by omega, wrap_id (x := (p.length : Int) + 1) (by omega) (by omega)]
  simp only [mayL, haw]; cases hm : mayN t (at_ + 1) c with
  | mk c' b =>
   rw [hm] at h1 h2; cases b with
   | false =>
    refine ⟨Ev.step step (Ev.bind (f := fun n t160 => if t160 = 0 then some 0 else _) h1 (Ev.const (by simp [kidsR]))), fun c' s h => by simp at h⟩
   | true =>
    obtain ⟨g1, g2⟩ := h2 rfl; simp only at g1 g2; have hts : 1 ≤ tsize t := by cases t; simp only [tsize]; omega
    obtain ⟨k1, k2⟩ := mayL_ref r (p ++ [t]) at_ c' c0 (wrap64 (sum + t.f2)) k w wd hbr ha ha2 hc0 (by omega) g1 (by simp; omega)
    have h1' : Ev (fun n => zak.f n t.f0 t.f1 t.f2 t.f3 (at_ + 1) (1048576 - c)) (c' - c) := h1
    refine ⟨Ev.step step (Ev.bind (f := fun n t160 => if t160 = 0 then some 0 else _) h1' ?_), fun c2 s h => ?_⟩
    ·have hne : ¬ (c' - c = 0) := by omega
     simp only [if_neg hne]; rw [wrap_id (x := c - c0 + (c' - c)) (by omega) (by omega), show c - c0 + (c' - c) = c' - c0 by omega]
     rw [List.length_append, List.length_singleton, List.append_assoc, List.singleton_append] at k1; exact k1
    ·obtain ⟨q1, q2⟩ := k2 c2 s h
     simp only [lsize]; omega
end
def nx : List S63 → Nat
 | [] => 0
 | t :: r => if zaY.f t.f0 = some true then 0 else nx r + 1
theorem nx_le : ∀ l : List S63, nx l ≤ l.length
 | [] => Nat.le_refl _
 | t :: r => by
  simp only [nx, List.length_cons]; have := nx_le r
  split <;> omega
theorem nx_drop : ∀ l : List S63, nx (l.drop (nx l)) = 0
 | [] => rfl
 | t :: r => by
  by_cases h : zaY.f t.f0 = some true
  ·have e : nx (t :: r) = 0 := by rw [nx, if_pos h]
   rw [e, List.drop_zero, e]
  ·have e : nx (t :: r) = nx r + 1 := by rw [nx, if_neg h]
   rw [e, List.drop_succ_cons, nx_drop r]
theorem next_ev (l : List S63) (hl : l.length ≤ 3000) : Ev (fun k => zaS.f k l 0) (nx l : Int) := by
 have hgo : ∀ (r p : List S63), p ++ r = l → Ev (fun k => zaS.l0 k l 0 (p.length : Int)) ((p.length + nx r : Nat) : Int) := by
  intro r
  induction r with
  | nil =>
   intro p hp
   rw [List.append_nil] at hp; subst hp; exact Ev.step (f := fun _ => some (p.length : Int)) (fun k => by rw [zaS.l0, if_neg (by omega)]) (by simpa [nx] using Ev.now (p.length : Int))
  | cons t r ih =>
   intro p hp
   have hlen : p.length + (r.length + 1) = l.length := by rw [← hp]; simp
   have hrd : zbI l (p.length : Int) = t := by rw [← hp]; simp [zbI]
   have h2 := ih (p ++ [t]) (by rw [← hp]; simp)
   rw [List.length_append, List.length_singleton, show ((p.length + 1 : Nat) : Int) = (p.length : Int) + 1 by omega] at h2
   obtain ⟨b, hb⟩ := counts12_tot t.f0; cases b with
   | true =>
    have e : nx (t :: r) = 0 := by rw [nx, if_pos hb]
    rw [e, Nat.add_zero]; exact Ev.step (f := fun _ => some (p.length : Int)) (fun k => by rw [zaS.l0, if_pos (by omega), if_pos (by omega), if_pos (by omega), hrd, hb, Option.bind_some, if_pos rfl]) (Ev.now _)
   | false =>
    have e : nx (t :: r) = nx r + 1 := by rw [nx, if_neg (by rw [hb]; simp)]
    rw [e, show p.length + (nx r + 1) = p.length + 1 + nx r by omega]
    refine Ev.step (fun k => ?_) h2
    rw [zaS.l0, if_pos (by omega), if_pos (by omega), if_pos (by omega), hrd, hb, Option.bind_some, if_neg (by simp), zbj (x := (p.length : Int) + 1) (by omega) (by omega)]
 have := hgo l [] rfl
 simpa [zaS.f] using this
def hd (l : List S63) (a : Nat) : Nat := a + nx (l.drop a)
theorem hd_ge (l : List S63) (a : Nat) : a ≤ hd l a := Nat.le_add_right _ _
theorem hd_le {l : List S63} {a : Nat} (h : a ≤ l.length) : hd l a ≤ l.length := by
 have := nx_le (l.drop a); rw [List.length_drop] at this; unfold hd
 omega
theorem hd_hd (l : List S63) (a : Nat) : hd l (hd l a) = hd l a := by
 have := nx_drop (l.drop a); rw [List.drop_drop] at this; show hd l a + nx (l.drop (hd l a)) = hd l a
 rw [show hd l a = a + nx (l.drop a) from rfl, this, Nat.add_zero]
def cu (l : List S63) (a : Nat) : Int := if hd l a < l.length then (zbI l (hd l a : Int)).f0 else 0
theorem cu_hd (l : List S63) (a : Nat) : cu l (hd l a) = cu l a := by unfold cu; rw [hd_hd]
theorem cu_lt {l : List S63} {a : Nat} (h : cu l a ≠ 0) : hd l a < l.length := by
 unfold cu at h
 split at h
 ·assumption
 ·exact absurd rfl h
end Go.Proofs.YtobgkpnigjfhmaaDoor.H
