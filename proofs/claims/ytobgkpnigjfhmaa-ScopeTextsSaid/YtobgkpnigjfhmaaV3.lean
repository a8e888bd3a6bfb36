/- Texts of this claim, merged. -/
import Derived.Test.YtobgkpnigjfhmaaV2
set_option maxRecDepth 100000
set_option maxHeartbeats 8000000
set_option linter.unusedVariables false
set_option linter.unusedSimpArgs false
namespace Go.Proofs.Ytobgkpnigjfhmaa.H
open Go.RowKit Go.Proofs.YtobgkpnigjfhmaaW.PrintWords Go.Proofs.YtobgkpnigjfhmaaW.PrintLast Go.Proofs.YtobgkpnigjfhmaaW.PrintMore
section
attribute [local go_sem] zbi zbg zbu zbv za9 za8 zbh zbf
mutual
def zaq.l0 : Nat → ByteArray → Int → Option (Int × Int)
 | 0, _, _ => none
 | k + 1, x0, x7 => if x7 < (x0.size : Int) then (if 0 ≤ x7 then ((zaY.f (bt x0 x7)).bind fun t250 => (if t250 = true then (zaq.l0 k x0 (wrap64 (x7 + 1))) else (some (1, x7)))) else (none)) else (some (1, x7))
def zaq.l1 : Nat → ByteArray → Int → Int → Option (Int × Int)
 | 0, _, _, _ => none
 | k + 1, x0, x1, x7 => if x7 < (x0.size : Int) then (if 0 ≤ x7 then ((zaV.f (bt x0 x7)).bind fun t254 => (if t254 = true then (zaq.l1 k x0 x1 (wrap64 (x7 + 1))) else ((zaO.f (bt x0 x7)).bind fun t255 => (if t255 = true then (zaq.l1 k x0 x1 (wrap64 (x7 + 1))) else (if 0 ≤ x1 then (if x1 ≤ x7 then (if x7 ≤ (x0.size : Int) then ((zaS.f k (x0.extract (x1 : Int).toNat (x7 : Int).toNat)).bind fun t256 => (some (t256, x7))) else (none)) else (none)) else (none)))))) else (none)) else (if 0 ≤ x1 then (if x1 ≤ x7 then (if x7 ≤ (x0.size : Int) then ((zaS.f k (x0.extract (x1 : Int).toNat (x7 : Int).toNat)).bind fun t257 => (some (t257, x7))) else (none)) else (none)) else (none))
def zaq.l2 : Nat → ByteArray → Int → Option (Int × Int)
 | 0, _, _ => none
 | k + 1, x0, x7 => if x7 < (x0.size : Int) then (if 0 ≤ x7 then ((zaO.f (bt x0 x7)).bind fun t259 => (if t259 = true then (zaq.l2 k x0 (wrap64 (x7 + 1))) else (some (7, x7)))) else (none)) else (some (7, x7))
end
def zaq.f (k : Nat) (a0 : ByteArray) (a1 : Int) : Option (Int × Int) := if 0 ≤ a1 then (if a1 < (a0.size : Int) then ((zaY.f (bt a0 a1)).bind fun t249 => (if t249 = true then (zaq.l0 k a0 a1) else (if (bt a0 a1) = 47 then ((zao.f k a0 a1).bind fun bt251 => (some (bt251.1, bt251.2))) else ((zaV.f (bt a0 a1)).bind fun t253 => (if t253 = true then (zaq.l1 k a0 a1 a1) else ((zaO.f (bt a0 a1)).bind fun t258 => (if t258 = true then (zaq.l2 k a0 a1) else (if (bt a0 a1) = 34 then ((zay.f k a0 a1).bind fun bt260 => (some (bt260.1, bt260.2))) else ((zaH.f k a0 a1).bind fun bt262 => (some (bt262.1, bt262.2))))))))))) else (none)) else (none)
theorem zaq.calls (k : Nat) (a0 : ByteArray) (a1 : Int) (r1 : Int) (r2 : Int) (w : World) (h : zaq.f k a0 a1 = some (r1, r2)) :
  Calls Try.prog 10 #[.string a0, .int .i64 a1] w fun e w' => e = .returned (.tuple #[.int .u8 r1, .int .i64 r2]) ∧ Below w.heap.size w w' := by
 have HB := J (Below.refl w.heap.size w); have H : (if 0 ≤ a1 then (if a1 < (a0.size : Int) then ((zaY.f (bt a0 a1)).bind fun t249 => (if t249 = true then (zaq.l0 k a0 a1) else (if (bt a0 a1) = 47 then ((zao.f k a0 a1).bind fun bt251 => (some (bt251.1, bt251.2))) else ((zaV.f (bt a0 a1)).bind fun t253 => (if t253 = true then (zaq.l1 k a0 a1 a1) else ((zaO.f (bt a0 a1)).bind fun t258 => (if t258 = true then (zaq.l2 k a0 a1) else (if (bt a0 a1) = 34 then ((zay.f k a0 a1).bind fun bt260 => (some (bt260.1, bt260.2))) else ((zaH.f k a0 a1).bind fun bt262 => (some (bt262.1, bt262.2))))))))))) else (none)) else (none)) = some (r1, r2) := h
 clear h; by_cases c3 : 0 ≤ a1
 ·rw [if_pos c3] at H
  have c3b0 : decide (0 ≤ a1) = true := decide_eq_true c3; clear c3; by_cases c4 : a1 < (a0.size : Int)
  ·rw [if_pos c4] at H
   have c4b0 : decide (a1 < (a0.size : Int)) = true := decide_eq_true c4; clear c4; replace H := Option.bind_eq_some_iff.mp H; obtain ⟨t249, A60, H⟩ := H; replace H : (if t249 = true then (zaq.l0 k a0 a1) else (if (bt a0 a1) = 47 then ((zao.f k a0 a1).bind fun bt251 => (some (bt251.1, bt251.2))) else ((zaV.f (bt a0 a1)).bind fun t253 => (if t253 = true then (zaq.l1 k a0 a1 a1) else ((zaO.f (bt a0 a1)).bind fun t258 => (if t258 = true then (zaq.l2 k a0 a1) else (if (bt a0 a1) = 34 then ((zay.f k a0 a1).bind fun bt260 => (some (bt260.1, bt260.2))) else ((zaH.f k a0 a1).bind fun bt262 => (some (bt262.1, bt262.2)))))))))) = some (r1, r2) := H
   have A6 := J A60; clear A60; by_cases c7 : t249 = true
   ·subst c7
    have H1 : (zaq.l0 k a0 a1) = some (r1, r2) := by rw [if_pos rfl] at H; exact H
    clear H; have H := H1; clear H1; have H' := J H; clear H; have p5 : 0 ≤ (a1 : Int) := of_decide_eq_true qd
    have q5 : a1 < (a0.size : Int) := of_decide_eq_true qd
    have hx5 := bt_at a0 a1; replace p5 := eq_true p5; replace q5 := eq_true q5; go_enter Try.func10, Try.ntmps10
    go_wp2_with (first | ((with_reducible refine zaK (f := 24) rfl ?_); refine zbc (some 14) rfl rfl Try.func24 qb rfl #[.int .u8 (bt a0 a1)] rfl qi ?_; (with_reducible refine (zaY.calls (bt a0 a1) true _ A6.out).mono ?_); rintro e w' ⟨rfl, ⟨nd, rfl⟩⟩; refine ⟨_, rfl, ?_⟩))
    go_loopg [7] k (fun kq v7 w' => ∃ (x7_1 : Int), v7 = .int .i64 x7_1 ∧ zaa (zaq.l0 kq a0 x7_1 = some (r1, r2)) ∧ zaa (kq ≤ k) ∧ zaa (Below w.heap.size w w'))
    case atStart => exact ⟨(a1), qc, H', ⟨Nat.le_refl _⟩, ⟨qa⟩⟩
    case round =>
     clear H'; try clear c1
     try clear c2
     try clear p2
     try clear c3
     try clear c3b0
     try clear c4
     try clear c4b0
     try clear p5
     try clear q5
     try clear hx5
     try clear c7
     try clear p5
     try clear q5
     obtain ⟨x7_1, rfl, HA, HK1, HB⟩ := hrel; cases gk with
     | zero => exact absurd HA.out (by simp [zaq.l0])
     | succ k1 =>
      have H := HA.out; clear HA; simp only [zaq.l0] at H; by_cases c8 : x7_1 < (a0.size : Int)
      ·rw [if_pos c8] at H
       have c8b0 : decide (x7_1 < (a0.size : Int)) = true := decide_eq_true c8; clear c8; by_cases c9 : 0 ≤ x7_1
       ·rw [if_pos c9] at H
        have c9b0 : decide (0 ≤ x7_1) = true := decide_eq_true c9; clear c9; replace H := Option.bind_eq_some_iff.mp H; obtain ⟨t250, A110, H⟩ := H; replace H : (if t250 = true then (zaq.l0 k1 a0 (wrap64 (x7_1 + 1))) else (some (1, x7_1))) = some (r1, r2) := H
        have A11 := J A110; clear A110; by_cases c12 : t250 = true
        ·subst c12
         have H1 : (zaq.l0 k1 a0 (wrap64 (x7_1 + 1))) = some (r1, r2) := by rw [if_pos rfl] at H; exact H
         clear H; have H := H1; clear H1; have H' := J H; clear H; have p10 : 0 ≤ (x7_1 : Int) := of_decide_eq_true qd
         have q10 : x7_1 < (a0.size : Int) := of_decide_eq_true qd
         have hx10 := bt_at a0 x7_1; replace p10 := eq_true p10; replace q10 := eq_true q10; go_wp2_with (first | (go_at_call 24; (with_reducible refine (zaY.calls (bt a0 x7_1) true _ A11.out).mono ?_); rintro e w' ⟨rfl, ⟨nd, rfl⟩⟩))
         go_roundg k1
         case measure => have := HK1.out; omega
         case rel => exact ⟨(wrap64 (x7_1 + 1)), qc, H', ⟨qx⟩, ⟨qa⟩⟩
        ·replace c12 := Bool.eq_false_iff.mpr c12
         subst c12; have H1 : (some (1, x7_1)) = some (r1, r2) := by rw [if_neg (show ¬ (false = true) by decide)] at H; exact H
         clear H; have H := H1; clear H1; simp only [Option.some.injEq, Prod.mk.injEq] at H; obtain ⟨rfl, rfl⟩ := H; have p10 : 0 ≤ (x7_1 : Int) := of_decide_eq_true qd
         have q10 : x7_1 < (a0.size : Int) := of_decide_eq_true qd
         have hx10 := bt_at a0 x7_1; replace p10 := eq_true p10; replace q10 := eq_true q10; go_wp2_with (first | (go_at_call 24; (with_reducible refine (zaY.calls (bt a0 x7_1) false _ A11.out).mono ?_); rintro e w' ⟨rfl, ⟨nd, rfl⟩⟩))
         go_ret2
         exact ⟨qg, qa⟩
       ·rw [if_neg c9] at H
        exact absurd H qf
      ·rw [if_neg c8] at H
       have c8b0 : decide (x7_1 < (a0.size : Int)) = false := decide_eq_false c8; clear c8; simp only [Option.some.injEq, Prod.mk.injEq] at H; obtain ⟨rfl, rfl⟩ := H; go_wp2
       go_ret2
       exact ⟨qg, qa⟩
   ·replace c7 := Bool.eq_false_iff.mpr c7
    subst c7; have H1 : (if (bt a0 a1) = 47 then ((zao.f k a0 a1).bind fun bt251 => (some (bt251.1, bt251.2))) else ((zaV.f (bt a0 a1)).bind fun t253 => (if t253 = true then (zaq.l1 k a0 a1 a1) else ((zaO.f (bt a0 a1)).bind fun t258 => (if t258 = true then (zaq.l2 k a0 a1) else (if (bt a0 a1) = 34 then ((zay.f k a0 a1).bind fun bt260 => (some (bt260.1, bt260.2))) else ((zaH.f k a0 a1).bind fun bt262 => (some (bt262.1, bt262.2))))))))) = some (r1, r2) := by rw [if_neg (show ¬ (false = true) by decide)] at H; exact H
    clear H; have H := H1; clear H1; by_cases c13 : (bt a0 a1) = 47
    ·rw [if_pos c13] at H
     have c13b0 : ((bt a0 a1) == 47) = true := beq_iff_eq.mpr c13; have c13b1 : ((bt a0 a1) != 47) = false := bne_eq_false_iff_eq.mpr c13; clear c13; replace H := Option.bind_eq_some_iff.mp H; obtain ⟨⟨t251, t252⟩, A140, H⟩ := H; replace H : (some (t251, t252)) = some (r1, r2) := H; have A14 := J A140; clear A140; simp only [Option.some.injEq, Prod.mk.injEq] at H; obtain ⟨rfl, rfl⟩ := H; have p5 : 0 ≤ (a1 : Int) := of_decide_eq_true qd
     have q5 : a1 < (a0.size : Int) := of_decide_eq_true qd
     have hx5 := bt_at a0 a1; replace p5 := eq_true p5; replace q5 := eq_true q5; go_enter Try.func10, Try.ntmps10
     go_wp2_with (first | ((with_reducible refine zaK (f := 24) rfl ?_); refine zbc (some 14) rfl rfl Try.func24 qb rfl #[.int .u8 (bt a0 a1)] rfl qi ?_; (with_reducible refine (zaY.calls (bt a0 a1) false _ A6.out).mono ?_); rintro e w' ⟨rfl, ⟨nd, rfl⟩⟩; refine ⟨_, rfl, ?_⟩) | ((with_reducible refine zaK (f := 25) rfl ?_); refine zbc (some 33) rfl rfl Try.func25 qb rfl #[.string a0, .int .i64 a1] rfl qi ?_; (with_reducible refine (zao.calls k a0 a1 t251 t252 _ A14.out).mono ?_); rintro e w' ⟨rfl, ⟨nd, rfl⟩⟩; refine ⟨_, rfl, ?_⟩))
     go_ret2
     exact ⟨qg, qa⟩
    ·rw [if_neg c13] at H
     have c13b0 : ((bt a0 a1) == 47) = false := beq_eq_false_iff_ne.mpr c13; have c13b1 : ((bt a0 a1) != 47) = true := bne_iff_ne.mpr c13; replace H := Option.bind_eq_some_iff.mp H; obtain ⟨t253, A150, H⟩ := H; replace H : (if t253 = true then (zaq.l1 k a0 a1 a1) else ((zaO.f (bt a0 a1)).bind fun t258 => (if t258 = true then (zaq.l2 k a0 a1) else (if (bt a0 a1) = 34 then ((zay.f k a0 a1).bind fun bt260 => (some (bt260.1, bt260.2))) else ((zaH.f k a0 a1).bind fun bt262 => (some (bt262.1, bt262.2))))))) = some (r1, r2) := H
     have A15 := J A150; clear A150; by_cases c16 : t253 = true
     ·subst c16
      have H1 : (zaq.l1 k a0 a1 a1) = some (r1, r2) := by rw [if_pos rfl] at H; exact H
      clear H; have H := H1; clear H1; have H' := J H; clear H; have p5 : 0 ≤ (a1 : Int) := of_decide_eq_true qd
      have q5 : a1 < (a0.size : Int) := of_decide_eq_true qd
      have hx5 := bt_at a0 a1; replace p5 := eq_true p5; replace q5 := eq_true q5; go_enter Try.func10, Try.ntmps10
      go_wp2_with (first | ((with_reducible refine zaK (f := 24) rfl ?_); refine zbc (some 14) rfl rfl Try.func24 qb rfl #[.int .u8 (bt a0 a1)] rfl qi ?_; (with_reducible refine (zaY.calls (bt a0 a1) false _ A6.out).mono ?_); rintro e w' ⟨rfl, ⟨nd, rfl⟩⟩; refine ⟨_, rfl, ?_⟩) | ((with_reducible refine zaK (f := 26) rfl ?_); refine zbc (some 38) rfl rfl Try.func26 qb rfl #[.int .u8 (bt a0 a1)] rfl qi ?_; (with_reducible refine (zaV.calls (bt a0 a1) true _ A15.out).mono ?_); rintro e w' ⟨rfl, ⟨nd, rfl⟩⟩; refine ⟨_, rfl, ?_⟩))
      go_loopg [7] k (fun kq v7 w' => ∃ (x7_1 : Int), v7 = .int .i64 x7_1 ∧ zaa (zaq.l1 kq a0 a1 x7_1 = some (r1, r2)) ∧ zaa (kq ≤ k) ∧ zaa (Below w.heap.size w w'))
      case atStart => exact ⟨(a1), qc, H', ⟨Nat.le_refl _⟩, ⟨qa⟩⟩
      case round =>
       clear H'; try clear c1
       try clear p1
       try clear q1
       try clear hx1
       try clear c2
       try clear p2
       try clear c3
       try clear c3b0
       try clear c4
       try clear c4b0
       try clear p5
       try clear q5
       try clear hx5
       try clear p6
       try clear c7
       try clear c8
       try clear c8b0
       try clear c9
       try clear c9b0
       try clear c10
       try clear p10
       try clear q10
       try clear hx10
       try clear c12
       try clear c13
       try clear c13b0
       try clear c13b1
       try clear c16
       try clear p10
       try clear p2
       try clear p5
       try clear q10
       try clear q5
       obtain ⟨x7_1, rfl, HA, HK1, HB⟩ := hrel; cases gk with
       | zero => exact absurd HA.out (by simp [zaq.l1])
       | succ k1 =>
        have H := HA.out; clear HA; simp only [zaq.l1] at H; by_cases c17 : x7_1 < (a0.size : Int)
        ·rw [if_pos c17] at H
         have c17b0 : decide (x7_1 < (a0.size : Int)) = true := decide_eq_true c17; clear c17; by_cases c18 : 0 ≤ x7_1
         ·rw [if_pos c18] at H
          have c18b0 : decide (0 ≤ x7_1) = true := decide_eq_true c18; clear c18; replace H := Option.bind_eq_some_iff.mp H; obtain ⟨t254, A200, H⟩ := H; replace H : (if t254 = true then (zaq.l1 k1 a0 a1 (wrap64 (x7_1 + 1))) else ((zaO.f (bt a0 x7_1)).bind fun t255 => (if t255 = true then (zaq.l1 k1 a0 a1 (wrap64 (x7_1 + 1))) else (if 0 ≤ a1 then (if a1 ≤ x7_1 then (if x7_1 ≤ (a0.size : Int) then ((zaS.f k1 (a0.extract (a1 : Int).toNat (x7_1 : Int).toNat)).bind fun t256 => (some (t256, x7_1))) else (none)) else (none)) else (none))))) = some (r1, r2) := H
          have A20 := J A200; clear A200; by_cases c21 : t254 = true
          ·subst c21
           have H1 : (zaq.l1 k1 a0 a1 (wrap64 (x7_1 + 1))) = some (r1, r2) := by rw [if_pos rfl] at H; exact H
           clear H; have H := H1; clear H1; have H' := J H; clear H; have p19 : 0 ≤ (x7_1 : Int) := of_decide_eq_true qd
           have q19 : x7_1 < (a0.size : Int) := of_decide_eq_true qd
           have hx19 := bt_at a0 x7_1; replace p19 := eq_true p19; replace q19 := eq_true q19; go_wp2_with (first | (go_at_call 26; (with_reducible refine (zaV.calls (bt a0 x7_1) true _ A20.out).mono ?_); rintro e w' ⟨rfl, ⟨nd, rfl⟩⟩))
           go_roundg k1
           case measure => have := HK1.out; omega
           case rel => exact ⟨(wrap64 (x7_1 + 1)), qc, H', ⟨qx⟩, ⟨qa⟩⟩
          ·replace c21 := Bool.eq_false_iff.mpr c21
           subst c21; have H1 : ((zaO.f (bt a0 x7_1)).bind fun t255 => (if t255 = true then (zaq.l1 k1 a0 a1 (wrap64 (x7_1 + 1))) else (if 0 ≤ a1 then (if a1 ≤ x7_1 then (if x7_1 ≤ (a0.size : Int) then ((zaS.f k1 (a0.extract (a1 : Int).toNat (x7_1 : Int).toNat)).bind fun t256 => (some (t256, x7_1))) else (none)) else (none)) else (none)))) = some (r1, r2) := by rw [if_neg (show ¬ (false = true) by decide)] at H; exact H
           clear H; have H := H1; clear H1; replace H := Option.bind_eq_some_iff.mp H; obtain ⟨t255, A230, H⟩ := H; replace H : (if t255 = true then (zaq.l1 k1 a0 a1 (wrap64 (x7_1 + 1))) else (if 0 ≤ a1 then (if a1 ≤ x7_1 then (if x7_1 ≤ (a0.size : Int) then ((zaS.f k1 (a0.extract (a1 : Int).toNat (x7_1 : Int).toNat)).bind fun t256 => (some (t256, x7_1))) else (none)) else (none)) else (none))) = some (r1, r2) := H
           have A23 := J A230; clear A230; by_cases c24 : t255 = true
           ·subst c24
            have H1 : (zaq.l1 k1 a0 a1 (wrap64 (x7_1 + 1))) = some (r1, r2) := by rw [if_pos rfl] at H; exact H
            clear H; have H := H1; clear H1; have H' := J H; clear H; have p19 : 0 ≤ (x7_1 : Int) := of_decide_eq_true qd
            have q19 : x7_1 < (a0.size : Int) := of_decide_eq_true qd
            have hx19 := bt_at a0 x7_1; replace p19 := eq_true p19; replace q19 := eq_true q19; go_wp2_with (first | (go_at_call 26; (with_reducible refine (zaV.calls (bt a0 x7_1) false _ A20.out).mono ?_); rintro e w' ⟨rfl, ⟨nd, rfl⟩⟩; have p22 : 0 ≤ (x7_1 : Int) := of_decide_eq_true qd; have q22 : x7_1 < (a0.size : Int) := of_decide_eq_true qd; have hx22 := bt_at a0 x7_1; replace p22 := eq_true p22; replace q22 := eq_true q22) | (go_at_call 27; (with_reducible refine (zaO.calls (bt a0 x7_1) true _ A23.out).mono ?_); rintro e w' ⟨rfl, ⟨nd, rfl⟩⟩))
            go_roundg k1
            case measure => have := HK1.out; omega
            case rel => exact ⟨(wrap64 (x7_1 + 1)), qc, H', ⟨qx⟩, ⟨qa⟩⟩
           ·replace c24 := Bool.eq_false_iff.mpr c24
            subst c24; have H1 : (if 0 ≤ a1 then (if a1 ≤ x7_1 then (if x7_1 ≤ (a0.size : Int) then ((zaS.f k1 (a0.extract (a1 : Int).toNat (x7_1 : Int).toNat)).bind fun t256 => (some (t256, x7_1))) else (none)) else (none)) else (none)) = some (r1, r2) := by rw [if_neg (show ¬ (false = true) by decide)] at H; exact H
            clear H; have H := H1; clear H1; by_cases c25 : 0 ≤ a1
            ·rw [if_pos c25] at H
             have c25b0 := eq_true c25; have c25b1 : decide (0 ≤ a1) = true := decide_eq_true c25; clear c25; by_cases c26 : a1 ≤ x7_1
             ·rw [if_pos c26] at H
              have c26b0 := eq_true c26; have c26b1 : decide (a1 ≤ x7_1) = true := decide_eq_true c26; clear c26; by_cases c27 : x7_1 ≤ (a0.size : Int)
              ·rw [if_pos c27] at H
               have c27b0 := eq_true c27; have c27b1 : decide (x7_1 ≤ (a0.size : Int)) = true := decide_eq_true c27; clear c27; replace H := Option.bind_eq_some_iff.mp H; obtain ⟨t256, A280, H⟩ := H; replace H : (some (t256, x7_1)) = some (r1, r2) := H; have A28 := J A280; clear A280; simp only [Option.some.injEq, Prod.mk.injEq] at H; obtain ⟨rfl, rfl⟩ := H; have p19 : 0 ≤ (x7_1 : Int) := of_decide_eq_true qd
               have q19 : x7_1 < (a0.size : Int) := of_decide_eq_true qd
               have hx19 := bt_at a0 x7_1; replace p19 := eq_true p19; replace q19 := eq_true q19; go_wp2_with (first | (go_at_call 26; (with_reducible refine (zaV.calls (bt a0 x7_1) false _ A20.out).mono ?_); rintro e w' ⟨rfl, ⟨nd, rfl⟩⟩; have p22 : 0 ≤ (x7_1 : Int) := of_decide_eq_true qd; have q22 : x7_1 < (a0.size : Int) := of_decide_eq_true qd; have hx22 := bt_at a0 x7_1; replace p22 := eq_true p22; replace q22 := eq_true q22) | (go_at_call 27; (with_reducible refine (zaO.calls (bt a0 x7_1) false _ A23.out).mono ?_); rintro e w' ⟨rfl, ⟨nd, rfl⟩⟩) | ((with_reducible refine zaK (f := 28) rfl ?_); refine zbc (some 61) rfl rfl Try.func28 qb rfl #[.string (a0.extract (a1 : Int).toNat (x7_1 : Int).toNat)] rfl qi ?_; (with_reducible refine (zaS.calls k1 (a0.extract (a1 : Int).toNat (x7_1 : Int).toNat) t256 _ A28.out).mono ?_); rintro e w29 ⟨rfl, hb⟩; refine ⟨_, rfl, ?_⟩; have n0_ := J (zak qa hb); clear HB; have HB := n0_; clear n0_; (try clear hb); (try clear hb2); (try clear hk); (try clear hi)))
               go_ret2
               exact ⟨qg, qa⟩
              ·rw [if_neg c27] at H
               exact absurd H qf
             ·rw [if_neg c26] at H
              exact absurd H qf
            ·rw [if_neg c25] at H
             exact absurd H qf
         ·rw [if_neg c18] at H
          exact absurd H qf
        ·rw [if_neg c17] at H
         have c17b0 : decide (x7_1 < (a0.size : Int)) = false := decide_eq_false c17; clear c17; by_cases c30 : 0 ≤ a1
         ·rw [if_pos c30] at H
          have c30b0 := eq_true c30; have c30b1 : decide (0 ≤ a1) = true := decide_eq_true c30; clear c30; by_cases c31 : a1 ≤ x7_1
          ·rw [if_pos c31] at H
           have c31b0 := eq_true c31; have c31b1 : decide (a1 ≤ x7_1) = true := decide_eq_true c31; clear c31; by_cases c32 : x7_1 ≤ (a0.size : Int)
           ·rw [if_pos c32] at H
            have c32b0 := eq_true c32; have c32b1 : decide (x7_1 ≤ (a0.size : Int)) = true := decide_eq_true c32; clear c32; replace H := Option.bind_eq_some_iff.mp H; obtain ⟨t257, A330, H⟩ := H; replace H : (some (t257, x7_1)) = some (r1, r2) := H; have A33 := J A330; clear A330; simp only [Option.some.injEq, Prod.mk.injEq] at H; obtain ⟨rfl, rfl⟩ := H; go_wp2_with (first | ((with_reducible refine zaK (f := 28) rfl ?_); refine zbc (some 61) rfl rfl Try.func28 qb rfl #[.string (a0.extract (a1 : Int).toNat (x7_1 : Int).toNat)] rfl qi ?_; (with_reducible refine (zaS.calls k1 (a0.extract (a1 : Int).toNat (x7_1 : Int).toNat) t257 _ A33.out).mono ?_); rintro e w34 ⟨rfl, hb⟩; refine ⟨_, rfl, ?_⟩; have n0_ := J (zak qa hb); clear HB; have HB := n0_; clear n0_; (try clear hb); (try clear hb2); (try clear hk); (try clear hi)))
            go_ret2
            exact ⟨qg, qa⟩
           ·rw [if_neg c32] at H
            exact absurd H qf
          ·rw [if_neg c31] at H
           exact absurd H qf
         ·rw [if_neg c30] at H
          exact absurd H qf
     ·replace c16 := Bool.eq_false_iff.mpr c16
      subst c16; have H1 : ((zaO.f (bt a0 a1)).bind fun t258 => (if t258 = true then (zaq.l2 k a0 a1) else (if (bt a0 a1) = 34 then ((zay.f k a0 a1).bind fun bt260 => (some (bt260.1, bt260.2))) else ((zaH.f k a0 a1).bind fun bt262 => (some (bt262.1, bt262.2)))))) = some (r1, r2) := by rw [if_neg (show ¬ (false = true) by decide)] at H; exact H
      clear H; have H := H1; clear H1; replace H := Option.bind_eq_some_iff.mp H; obtain ⟨t258, A350, H⟩ := H; replace H : (if t258 = true then (zaq.l2 k a0 a1) else (if (bt a0 a1) = 34 then ((zay.f k a0 a1).bind fun bt260 => (some (bt260.1, bt260.2))) else ((zaH.f k a0 a1).bind fun bt262 => (some (bt262.1, bt262.2))))) = some (r1, r2) := H
      have A35 := J A350; clear A350; by_cases c36 : t258 = true
      ·subst c36
       have H1 : (zaq.l2 k a0 a1) = some (r1, r2) := by rw [if_pos rfl] at H; exact H
       clear H; have H := H1; clear H1; have H' := J H; clear H; have p5 : 0 ≤ (a1 : Int) := of_decide_eq_true qd
       have q5 : a1 < (a0.size : Int) := of_decide_eq_true qd
       have hx5 := bt_at a0 a1; replace p5 := eq_true p5; replace q5 := eq_true q5; go_enter Try.func10, Try.ntmps10
       go_wp2_with (first | ((with_reducible refine zaK (f := 24) rfl ?_); refine zbc (some 14) rfl rfl Try.func24 qb rfl #[.int .u8 (bt a0 a1)] rfl qi ?_; (with_reducible refine (zaY.calls (bt a0 a1) false _ A6.out).mono ?_); rintro e w' ⟨rfl, ⟨nd, rfl⟩⟩; refine ⟨_, rfl, ?_⟩) | ((with_reducible refine zaK (f := 26) rfl ?_); refine zbc (some 38) rfl rfl Try.func26 qb rfl #[.int .u8 (bt a0 a1)] rfl qi ?_; (with_reducible refine (zaV.calls (bt a0 a1) false _ A15.out).mono ?_); rintro e w' ⟨rfl, ⟨nd, rfl⟩⟩; refine ⟨_, rfl, ?_⟩) | ((with_reducible refine zaK (f := 27) rfl ?_); refine zbc (some 65) rfl rfl Try.func27 qb rfl #[.int .u8 (bt a0 a1)] rfl qi ?_; (with_reducible refine (zaO.calls (bt a0 a1) true _ A35.out).mono ?_); rintro e w' ⟨rfl, ⟨nd, rfl⟩⟩; refine ⟨_, rfl, ?_⟩))
       go_loopg [7] k (fun kq v7 w' => ∃ (x7_1 : Int), v7 = .int .i64 x7_1 ∧ zaa (zaq.l2 kq a0 x7_1 = some (r1, r2)) ∧ zaa (kq ≤ k) ∧ zaa (Below w.heap.size w w'))
       case atStart => exact ⟨(a1), qc, H', ⟨Nat.le_refl _⟩, ⟨qa⟩⟩
       case round =>
        clear H'; try clear c1
        try clear p1
        try clear q1
        try clear hx1
        try clear c2
        try clear p2
        try clear q2
        try clear hx2
        try clear c3
        try clear c3b0
        try clear c4
        try clear c4b0
        try clear p5
        try clear q5
        try clear hx5
        try clear p6
        try clear c7
        try clear c8
        try clear c8b0
        try clear c9
        try clear c9b0
        try clear c10
        try clear p10
        try clear q10
        try clear hx10
        try clear c12
        try clear c13
        try clear c13b0
        try clear c13b1
        try clear c16
        try clear c17
        try clear c17b0
        try clear c18
        try clear c18b0
        try clear p19
        try clear q19
        try clear hx19
        try clear c21
        try clear p22
        try clear q22
        try clear hx22
        try clear c24
        try clear c25
        try clear c25b0
        try clear c25b1
        try clear c26
        try clear c26b0
        try clear c26b1
        try clear c27
        try clear c27b0
        try clear c27b1
        try clear c28
        try clear c30
        try clear c30b0
        try clear c30b1
        try clear c31
        try clear c31b0
        try clear c31b1
        try clear c32
        try clear c32b0
        try clear c32b1
        try clear c36
        try clear p1
        try clear p10
        try clear p19
        try clear p2
        try clear p22
        try clear p5
        try clear p6
        try clear q1
        try clear q10
        try clear q19
        try clear q22
        try clear q5
        obtain ⟨x7_1, rfl, HA, HK1, HB⟩ := hrel; cases gk with
        | zero => exact absurd HA.out (by simp [zaq.l2])
        | succ k1 =>
         have H := HA.out; clear HA; simp only [zaq.l2] at H; by_cases c37 : x7_1 < (a0.size : Int)
         ·rw [if_pos c37] at H
          have c37b0 : decide (x7_1 < (a0.size : Int)) = true := decide_eq_true c37; clear c37; by_cases c38 : 0 ≤ x7_1
          ·rw [if_pos c38] at H
           have c38b0 : decide (0 ≤ x7_1) = true := decide_eq_true c38; clear c38; replace H := Option.bind_eq_some_iff.mp H; obtain ⟨t259, A400, H⟩ := H; replace H : (if t259 = true then (zaq.l2 k1 a0 (wrap64 (x7_1 + 1))) else (some (7, x7_1))) = some (r1, r2) := H
           have A40 := J A400; clear A400; by_cases c41 : t259 = true
           ·subst c41
            have H1 : (zaq.l2 k1 a0 (wrap64 (x7_1 + 1))) = some (r1, r2) := by rw [if_pos rfl] at H; exact H
            clear H; have H := H1; clear H1; have H' := J H; clear H; have p39 : 0 ≤ (x7_1 : Int) := of_decide_eq_true qd
            have q39 : x7_1 < (a0.size : Int) := of_decide_eq_true qd
            have hx39 := bt_at a0 x7_1; replace p39 := eq_true p39; replace q39 := eq_true q39; go_wp2_with (first | (go_at_call 27; (with_reducible refine (zaO.calls (bt a0 x7_1) true _ A40.out).mono ?_); rintro e w' ⟨rfl, ⟨nd, rfl⟩⟩))
            go_roundg k1
            case measure => have := HK1.out; omega
            case rel => exact ⟨(wrap64 (x7_1 + 1)), qc, H', ⟨qx⟩, ⟨qa⟩⟩
           ·replace c41 := Bool.eq_false_iff.mpr c41
            subst c41; have H1 : (some (7, x7_1)) = some (r1, r2) := by rw [if_neg (show ¬ (false = true) by decide)] at H; exact H
            clear H; have H := H1; clear H1; simp only [Option.some.injEq, Prod.mk.injEq] at H; obtain ⟨rfl, rfl⟩ := H; have p39 : 0 ≤ (x7_1 : Int) := of_decide_eq_true qd
            have q39 : x7_1 < (a0.size : Int) := of_decide_eq_true qd
            have hx39 := bt_at a0 x7_1; replace p39 := eq_true p39; replace q39 := eq_true q39; go_wp2_with (first | (go_at_call 27; (with_reducible refine (zaO.calls (bt a0 x7_1) false _ A40.out).mono ?_); rintro e w' ⟨rfl, ⟨nd, rfl⟩⟩))
            go_ret2
            exact ⟨qg, qa⟩
          ·rw [if_neg c38] at H
           exact absurd H qf
         ·rw [if_neg c37] at H
          have c37b0 : decide (x7_1 < (a0.size : Int)) = false := decide_eq_false c37; clear c37; simp only [Option.some.injEq, Prod.mk.injEq] at H; obtain ⟨rfl, rfl⟩ := H; go_wp2
          go_ret2
          exact ⟨qg, qa⟩
      ·replace c36 := Bool.eq_false_iff.mpr c36
       subst c36; have H1 : (if (bt a0 a1) = 34 then ((zay.f k a0 a1).bind fun bt260 => (some (bt260.1, bt260.2))) else ((zaH.f k a0 a1).bind fun bt262 => (some (bt262.1, bt262.2)))) = some (r1, r2) := by rw [if_neg (show ¬ (false = true) by decide)] at H; exact H
       clear H; have H := H1; clear H1; by_cases c42 : (bt a0 a1) = 34
       ·rw [if_pos c42] at H
        have c42b0 : ((bt a0 a1) == 34) = true := beq_iff_eq.mpr c42; have c42b1 : ((bt a0 a1) != 34) = false := bne_eq_false_iff_eq.mpr c42; clear c42; replace H := Option.bind_eq_some_iff.mp H; obtain ⟨⟨t260, t261⟩, A430, H⟩ := H; replace H : (some (t260, t261)) = some (r1, r2) := H; have A43 := J A430; clear A430; simp only [Option.some.injEq, Prod.mk.injEq] at H; obtain ⟨rfl, rfl⟩ := H; have p5 : 0 ≤ (a1 : Int) := of_decide_eq_true qd
        have q5 : a1 < (a0.size : Int) := of_decide_eq_true qd
        have hx5 := bt_at a0 a1; replace p5 := eq_true p5; replace q5 := eq_true q5; go_enter Try.func10, Try.ntmps10
        go_wp2_with (first | ((with_reducible refine zaK (f := 24) rfl ?_); refine zbc (some 14) rfl rfl Try.func24 qb rfl #[.int .u8 (bt a0 a1)] rfl qi ?_; (with_reducible refine (zaY.calls (bt a0 a1) false _ A6.out).mono ?_); rintro e w' ⟨rfl, ⟨nd, rfl⟩⟩; refine ⟨_, rfl, ?_⟩) | ((with_reducible refine zaK (f := 26) rfl ?_); refine zbc (some 38) rfl rfl Try.func26 qb rfl #[.int .u8 (bt a0 a1)] rfl qi ?_; (with_reducible refine (zaV.calls (bt a0 a1) false _ A15.out).mono ?_); rintro e w' ⟨rfl, ⟨nd, rfl⟩⟩; refine ⟨_, rfl, ?_⟩) | ((with_reducible refine zaK (f := 27) rfl ?_); refine zbc (some 65) rfl rfl Try.func27 qb rfl #[.int .u8 (bt a0 a1)] rfl qi ?_; (with_reducible refine (zaO.calls (bt a0 a1) false _ A35.out).mono ?_); rintro e w' ⟨rfl, ⟨nd, rfl⟩⟩; refine ⟨_, rfl, ?_⟩) | ((with_reducible refine zaK (f := 29) rfl ?_); refine zbc (some 84) rfl rfl Try.func29 qb rfl #[.string a0, .int .i64 a1] rfl qi ?_; (with_reducible refine (zay.calls k a0 a1 t260 t261 _ A43.out).mono ?_); rintro e w44 ⟨rfl, hb⟩; refine ⟨_, rfl, ?_⟩; have n0_ := J (zak qa hb); clear HB; have HB := n0_; clear n0_; (try clear hb); (try clear hb2); (try clear hk); (try clear hi)))
        go_ret2
        exact ⟨qg, qa⟩
       ·rw [if_neg c42] at H
        have c42b0 : ((bt a0 a1) == 34) = false := beq_eq_false_iff_ne.mpr c42; have c42b1 : ((bt a0 a1) != 34) = true := bne_iff_ne.mpr c42; replace H := Option.bind_eq_some_iff.mp H; obtain ⟨⟨t262, t263⟩, A450, H⟩ := H; replace H : (some (t262, t263)) = some (r1, r2) := H; have A45 := J A450; clear A450; simp only [Option.some.injEq, Prod.mk.injEq] at H; obtain ⟨rfl, rfl⟩ := H; have p5 : 0 ≤ (a1 : Int) := of_decide_eq_true qd
        have q5 : a1 < (a0.size : Int) := of_decide_eq_true qd
        have hx5 := bt_at a0 a1; replace p5 := eq_true p5; replace q5 := eq_true q5; go_enter Try.func10, Try.ntmps10
        go_wp2_with (first | ((with_reducible refine zaK (f := 24) rfl ?_); refine zbc (some 14) rfl rfl Try.func24 qb rfl #[.int .u8 (bt a0 a1)] rfl qi ?_; (with_reducible refine (zaY.calls (bt a0 a1) false _ A6.out).mono ?_); rintro e w' ⟨rfl, ⟨nd, rfl⟩⟩; refine ⟨_, rfl, ?_⟩) | ((with_reducible refine zaK (f := 26) rfl ?_); refine zbc (some 38) rfl rfl Try.func26 qb rfl #[.int .u8 (bt a0 a1)] rfl qi ?_; (with_reducible refine (zaV.calls (bt a0 a1) false _ A15.out).mono ?_); rintro e w' ⟨rfl, ⟨nd, rfl⟩⟩; refine ⟨_, rfl, ?_⟩) | ((with_reducible refine zaK (f := 27) rfl ?_); refine zbc (some 65) rfl rfl Try.func27 qb rfl #[.int .u8 (bt a0 a1)] rfl qi ?_; (with_reducible refine (zaO.calls (bt a0 a1) false _ A35.out).mono ?_); rintro e w' ⟨rfl, ⟨nd, rfl⟩⟩; refine ⟨_, rfl, ?_⟩) | ((with_reducible refine zaK (f := 30) rfl ?_); refine zbc (some 89) rfl rfl Try.func30 qb rfl #[.string a0, .int .i64 a1] rfl qi ?_; (with_reducible refine (zaH.calls k a0 a1 t262 t263 _ A45.out).mono ?_); rintro e w46 ⟨rfl, hb⟩; refine ⟨_, rfl, ?_⟩; have n0_ := J (zak qa hb); clear HB; have HB := n0_; clear n0_; (try clear hb); (try clear hb2); (try clear hk); (try clear hi)))
        go_ret2
        exact ⟨qg, qa⟩
  ·rw [if_neg c4] at H
   exact absurd H qf
 ·rw [if_neg c3] at H
  exact absurd H qf
mutual
def zau.j0 : Nat → Int → Int → Bool → Option (Int)
 | 0, _, _, _ => none
 | k + 1, x0, x1, x11 => if x11 = true then (some (-1)) else (if x0 = 0 then ((some (([34, 1, 1, 7, 8, 9, 34, 2, 32, 12, 14, 16, 18, 20, 22, 24, 25, 26, 27, 28, 29, 30, 31, 33] : List Int) : List Int)).bind fun y264 => (if 0 ≤ x1 then (if x1 < (y264.length : Int) then (some (rd y264 x1)) else (none)) else (none))) else (if x0 = 1 then (if x1 = 1 then (some 1) else (if x1 = 2 then (some 1) else (some (-1)))) else (if x0 = 2 then (if x1 = 7 then (some 3) else (if x1 = 8 then (some 4) else (some (-1)))) else (if x0 = 3 then (if x1 = 2 then (some (-1)) else (some 3)) else (if x0 = 4 then (zau.j1 k x0 x1 x0 (x0 == 4)) else (zau.j1 k x0 x1 x0 (x0 == 5)))))))
def zau.j1 : Nat → Int → Int → Int → Bool → Option (Int)
 | 0, _, _, _, _ => none
 | k + 1, x0, x1, x12, x38 => if x38 = true then (if x1 = 8 then (some 5) else (if x1 = 7 then (if x0 = 5 then (some 6) else (some 4)) else (some 4))) else (if x12 = 7 then (if x1 = 3 then (some 7) else (if x1 = 4 then (some 7) else (some (-1)))) else (if x12 = 8 then (if x1 = 4 then (some 8) else (some (-1))) else (if x12 = 9 then (if x1 = 5 then (some 11) else (if x1 = 6 then (some 10) else (if x1 = 2 then (some (-1)) else (some 9)))) else (if x12 = 10 then (if x1 = 2 then (some (-1)) else (some 9)) else (if x12 = 12 then (zau.j2 k x0 x1 x12 (x12 == 12)) else (if x12 = 14 then (zau.j2 k x0 x1 x12 (x12 == 14)) else (if x12 = 16 then (zau.j2 k x0 x1 x12 (x12 == 16)) else (zau.j2 k x0 x1 x12 (x12 == 18)))))))))
def zau.j2 : Nat → Int → Int → Int → Bool → Option (Int)
 | 0, _, _, _, _ => none
 | k + 1, x0, x1, x12, x73 => if x73 = true then (if x1 = 9 then (some (wrap64 (x0 + 1))) else (some (-1))) else (if x12 = 20 then (if x1 = 13 then (some 21) else (some (-1))) else (if x12 = 22 then (if x1 = 14 then (some 23) else (some (-1))) else (some (-1))))
end
def zau.f (k : Nat) (a0 : Int) (a1 : Int) : Option (Int) := if a1 < 0 then (zau.j0 k a0 a1 true) else (zau.j0 k a0 a1 (decide (a1 > 23)))
theorem zau.calls (k : Nat) (a0 : Int) (a1 : Int) (r : Int) (w : World) (h : zau.f k a0 a1 = some r) :
  Calls Try.prog 32 #[.int .i64 a0, .int .i64 a1] w fun e w' => e = .returned (.int .i64 r) ∧ Below w.heap.size w w' := by
 have HB := J (Below.refl w.heap.size w); have H : (if a1 < 0 then (zau.j0 k a0 a1 true) else (zau.j0 k a0 a1 (decide (a1 > 23)))) = some r := h
 clear h; have HC3 := J H; clear H; go_enter Try.func32, Try.ntmps32
 go_upto_region 1 with (fail)
 go_cut [11] (fun v11 wc => ∃ (kq : Nat) (x11_2 : Bool), v11 = .bool x11_2 ∧ zaa (zau.j0 kq a0 a1 x11_2 = some r) ∧ zaa (kq ≤ k) ∧ zaa (Below w.heap.size w wc))
 case first =>
  have H := HC3.out; clear HC3; by_cases c4 : a1 < 0
  ·rw [if_pos c4] at H
   have c4b0 : decide (a1 < 0) = true := decide_eq_true c4; clear c4
   (first | rw [c4b0] | (simp only [i64_w, i32_w]; rw [c4b0]) | skip)
   have H' := J H; clear H; go_wp2
   go_meet
   case rel => exact ⟨_, (true), qc, H', ⟨qA⟩, ⟨qa⟩⟩
  ·rw [if_neg c4] at H
   have c4b0 : decide (a1 < 0) = false := decide_eq_false c4; clear c4
   (first | rw [c4b0] | (simp only [i64_w, i32_w]; rw [c4b0]) | skip)
   have H' := J H; clear H; go_wp2
   go_meet
   case rel => exact ⟨_, (decide (a1 > 23)), qc, H', ⟨qA⟩, ⟨qa⟩⟩
 case rest =>
  clear HC3; try clear p2
  try clear c3
  try clear c4
  try clear c4b0
  obtain ⟨kq, x11_2, rfl, HA, HJ2, HB⟩ := hcut; cases kq with
  | zero => exact absurd HA.out (by simp [zau.j0])
  | succ kj2 =>
   have H := HA.out; clear HA; simp only [zau.j0] at H; by_cases c5 : x11_2 = true
   ·subst c5
    have H1 : (some (-1)) = some r := by rw [if_pos rfl] at H; exact H
    clear H; have H := H1; clear H1; obtain rfl := Option.some.inj H; go_wp2
    go_ret
    exact ⟨qg, qa⟩
   ·replace c5 := Bool.eq_false_iff.mpr c5
    subst c5; have H1 : (if a0 = 0 then ((some (([34, 1, 1, 7, 8, 9, 34, 2, 32, 12, 14, 16, 18, 20, 22, 24, 25, 26, 27, 28, 29, 30, 31, 33] : List Int) : List Int)).bind fun y264 => (if 0 ≤ a1 then (if a1 < (y264.length : Int) then (some (rd y264 a1)) else (none)) else (none))) else (if a0 = 1 then (if a1 = 1 then (some 1) else (if a1 = 2 then (some 1) else (some (-1)))) else (if a0 = 2 then (if a1 = 7 then (some 3) else (if a1 = 8 then (some 4) else (some (-1)))) else (if a0 = 3 then (if a1 = 2 then (some (-1)) else (some 3)) else (if a0 = 4 then (zau.j1 kj2 a0 a1 a0 (a0 == 4)) else (zau.j1 kj2 a0 a1 a0 (a0 == 5))))))) = some r := by rw [if_neg (show ¬ (false = true) by decide)] at H; exact H
    clear H; have H := H1; clear H1; by_cases c6 : a0 = 0
    ·rw [if_pos c6] at H
     have c6b0 : (a0 == 0) = true := beq_iff_eq.mpr c6; have c6b1 : (a0 != 0) = false := bne_eq_false_iff_eq.mpr c6; clear c6; obtain ⟨y264, hy264⟩ : ∃ y_ : List Int, y_ = (([34, 1, 1, 7, 8, 9, 34, 2, 32, 12, 14, 16, 18, 20, 22, 24, 25, 26, 27, 28, 29, 30, 31, 33] : List Int)) := ⟨_, rfl⟩; replace H : (if 0 ≤ a1 then (if a1 < (y264.length : Int) then (some (rd y264 a1)) else (none)) else (none)) = some r := by first | (rw [hy264]; with_reducible exact H) | (have H2_ := (Option.bind_some _ _).symm.trans H; rw [hy264]; with_reducible exact H2_) | (have H2_ := (Option.bind_some _ _).symm.trans H; with_reducible exact H2_) | with_reducible exact H | (rw [hy264]; exact H) | exact H
     have Ny264 := J hy264; clear hy264; by_cases c7 : 0 ≤ a1
     ·rw [if_pos c7] at H
      have c7b0 : decide (0 ≤ a1) = true := decide_eq_true c7; clear c7; by_cases c8 : a1 < (y264.length : Int)
      ·rw [if_pos c8] at H
       have c8b0 : decide (a1 < (y264.length : Int)) = true := decide_eq_true c8; clear c8; obtain rfl := Option.some.inj H; go_wp2_with (first | ((with_reducible refine za2 (N := 15) rfl ?_); refine Kd.R_lit (Kd.int .i64) _ 3 ?hg (N := 15) ?hd (xs := ([34, 1, 1, 7, 8, 9, 34, 2, 32, 12, 14, 16, 18, 20, 22, 24, 25, 26, 27, 28, 29, 30, 31, 33] : List Int)) (inner := [.int .i64 34, .int .i64 1, .int .i64 1, .int .i64 7, .int .i64 8, .int .i64 9, .int .i64 34, .int .i64 2, .int .i64 32, .int .i64 12, .int .i64 14, .int .i64 16, .int .i64 18, .int .i64 20, .int .i64 22, .int .i64 24, .int .i64 25, .int .i64 26, .int .i64 27, .int .i64 28, .int .i64 29, .int .i64 30, .int .i64 31, .int .i64 33]) (ok := fun _ => True) (okp := fun _ => True) ?hr ?hp (fun _ hk => hk) trivial (Below.refl _ _) (Nat.le_refl _) qf ?_; (case hd => rfl); (case hg => rfl); (case hr => first | (go_simp; done) | (go_simp; rfl)); (case hp => exact (Reps.one (show Kd.M (Kd.int .i64) _ _ _ 34 [.int .i64 34] from rfl) (Reps.one (show Kd.M (Kd.int .i64) _ _ _ 1 [.int .i64 1] from rfl) (Reps.one (show Kd.M (Kd.int .i64) _ _ _ 1 [.int .i64 1] from rfl) (Reps.one (show Kd.M (Kd.int .i64) _ _ _ 7 [.int .i64 7] from rfl) (Reps.one (show Kd.M (Kd.int .i64) _ _ _ 8 [.int .i64 8] from rfl) (Reps.one (show Kd.M (Kd.int .i64) _ _ _ 9 [.int .i64 9] from rfl) (Reps.one (show Kd.M (Kd.int .i64) _ _ _ 34 [.int .i64 34] from rfl) (Reps.one (show Kd.M (Kd.int .i64) _ _ _ 2 [.int .i64 2] from rfl) (Reps.one (show Kd.M (Kd.int .i64) _ _ _ 32 [.int .i64 32] from rfl) (Reps.one (show Kd.M (Kd.int .i64) _ _ _ 12 [.int .i64 12] from rfl) (Reps.one (show Kd.M (Kd.int .i64) _ _ _ 14 [.int .i64 14] from rfl) (Reps.one (show Kd.M (Kd.int .i64) _ _ _ 16 [.int .i64 16] from rfl) (Reps.one (show Kd.M (Kd.int .i64) _ _ _ 18 [.int .i64 18] from rfl) (Reps.one (show Kd.M (Kd.int .i64) _ _ _ 20 [.int .i64 20] from rfl) (Reps.one (show Kd.M (Kd.int .i64) _ _ _ 22 [.int .i64 22] from rfl) (Reps.one (show Kd.M (Kd.int .i64) _ _ _ 24 [.int .i64 24] from rfl) (Reps.one (show Kd.M (Kd.int .i64) _ _ _ 25 [.int .i64 25] from rfl) (Reps.one (show Kd.M (Kd.int .i64) _ _ _ 26 [.int .i64 26] from rfl) (Reps.one (show Kd.M (Kd.int .i64) _ _ _ 27 [.int .i64 27] from rfl) (Reps.one (show Kd.M (Kd.int .i64) _ _ _ 28 [.int .i64 28] from rfl) (Reps.one (show Kd.M (Kd.int .i64) _ _ _ 29 [.int .i64 29] from rfl) (Reps.one (show Kd.M (Kd.int .i64) _ _ _ 30 [.int .i64 30] from rfl) (Reps.one (show Kd.M (Kd.int .i64) _ _ _ 31 [.int .i64 31] from rfl) (Reps.one (show Kd.M (Kd.int .i64) _ _ _ 33 [.int .i64 33] from rfl) (Reps.none _ _)))))))))))))))))))))))))); intro v265 w9 ho10 hb hg_ hnew_; clear hg_ hnew_; (first | rw [← Ny264.out] at ho10 | (simp only [Int.reduceToNat] at ho10; rw [← Ny264.out] at ho10)); have n0_ := J (Kd.zbz ho10 (zav qa)); have n1_ := J (zak qa hb); clear HB; have HO266 := n0_; have HB := n1_; clear n0_ n1_; clear hb ho10; obtain ⟨Ao11, co11, eo11⟩ := Kd.za4 HO266.out; subst eo11; have p267 : 0 ≤ (a1 : Int) := of_decide_eq_true qd; have q267 : a1 < (y264.length : Int) := of_decide_eq_true qd; obtain ⟨ad267, e267, hx267_0⟩ := Kd.at_int (Kd.zbk HO266.out).2.2 a1 p267 q267; cases e267; replace p267 := eq_true p267; replace q267 := eq_true q267))
       go_ret
       exact ⟨qg, qa⟩
      ·rw [if_neg c8] at H
       exact absurd H qf
     ·rw [if_neg c7] at H
      exact absurd H qf
    ·rw [if_neg c6] at H
     have c6b0 : (a0 == 0) = false := beq_eq_false_iff_ne.mpr c6; have c6b1 : (a0 != 0) = true := bne_iff_ne.mpr c6; by_cases c12 : a0 = 1
     ·rw [if_pos c12] at H
      have c12b0 : (a0 == 1) = true := beq_iff_eq.mpr c12; have c12b1 : (a0 != 1) = false := bne_eq_false_iff_eq.mpr c12; clear c12; by_cases c13 : a1 = 1
      ·rw [if_pos c13] at H
       have c13b0 : (a1 == 1) = true := beq_iff_eq.mpr c13; have c13b1 : (a1 != 1) = false := bne_eq_false_iff_eq.mpr c13; clear c13; obtain rfl := Option.some.inj H; go_wp2
       go_ret
       exact ⟨qg, qa⟩
      ·rw [if_neg c13] at H
       have c13b0 : (a1 == 1) = false := beq_eq_false_iff_ne.mpr c13; have c13b1 : (a1 != 1) = true := bne_iff_ne.mpr c13; by_cases c14 : a1 = 2
       ·rw [if_pos c14] at H
        have c14b0 : (a1 == 2) = true := beq_iff_eq.mpr c14; have c14b1 : (a1 != 2) = false := bne_eq_false_iff_eq.mpr c14; clear c14; obtain rfl := Option.some.inj H; go_wp2
        go_ret
        exact ⟨qg, qa⟩
       ·rw [if_neg c14] at H
        have c14b0 : (a1 == 2) = false := beq_eq_false_iff_ne.mpr c14; have c14b1 : (a1 != 2) = true := bne_iff_ne.mpr c14; obtain rfl := Option.some.inj H; go_wp2
        go_ret
        exact ⟨qg, qa⟩
     ·rw [if_neg c12] at H
      have c12b0 : (a0 == 1) = false := beq_eq_false_iff_ne.mpr c12; have c12b1 : (a0 != 1) = true := bne_iff_ne.mpr c12; by_cases c15 : a0 = 2
      ·rw [if_pos c15] at H
       have c15b0 : (a0 == 2) = true := beq_iff_eq.mpr c15; have c15b1 : (a0 != 2) = false := bne_eq_false_iff_eq.mpr c15; clear c15; by_cases c16 : a1 = 7
       ·rw [if_pos c16] at H
        have c16b0 : (a1 == 7) = true := beq_iff_eq.mpr c16; have c16b1 : (a1 != 7) = false := bne_eq_false_iff_eq.mpr c16; clear c16; obtain rfl := Option.some.inj H; go_wp2
        go_ret
        exact ⟨qg, qa⟩
       ·rw [if_neg c16] at H
        have c16b0 : (a1 == 7) = false := beq_eq_false_iff_ne.mpr c16; have c16b1 : (a1 != 7) = true := bne_iff_ne.mpr c16; by_cases c17 : a1 = 8
        ·rw [if_pos c17] at H
         have c17b0 : (a1 == 8) = true := beq_iff_eq.mpr c17; have c17b1 : (a1 != 8) = false := bne_eq_false_iff_eq.mpr c17; clear c17; obtain rfl := Option.some.inj H; go_wp2
         go_ret
         exact ⟨qg, qa⟩
        ·rw [if_neg c17] at H
         have c17b0 : (a1 == 8) = false := beq_eq_false_iff_ne.mpr c17; have c17b1 : (a1 != 8) = true := bne_iff_ne.mpr c17; obtain rfl := Option.some.inj H; go_wp2
         go_ret
         exact ⟨qg, qa⟩
      ·rw [if_neg c15] at H
       have c15b0 : (a0 == 2) = false := beq_eq_false_iff_ne.mpr c15; have c15b1 : (a0 != 2) = true := bne_iff_ne.mpr c15; by_cases c18 : a0 = 3
       ·rw [if_pos c18] at H
        have c18b0 : (a0 == 3) = true := beq_iff_eq.mpr c18; have c18b1 : (a0 != 3) = false := bne_eq_false_iff_eq.mpr c18; clear c18; by_cases c19 : a1 = 2
        ·rw [if_pos c19] at H
         have c19b0 : (a1 == 2) = true := beq_iff_eq.mpr c19; have c19b1 : (a1 != 2) = false := bne_eq_false_iff_eq.mpr c19; clear c19; obtain rfl := Option.some.inj H; go_wp2
         go_ret
         exact ⟨qg, qa⟩
        ·rw [if_neg c19] at H
         have c19b0 : (a1 == 2) = false := beq_eq_false_iff_ne.mpr c19; have c19b1 : (a1 != 2) = true := bne_iff_ne.mpr c19; obtain rfl := Option.some.inj H; go_wp2
         go_ret
         exact ⟨qg, qa⟩
       ·rw [if_neg c18] at H
        have c18b0 : (a0 == 3) = false := beq_eq_false_iff_ne.mpr c18; have c18b1 : (a0 != 3) = true := bne_iff_ne.mpr c18; have HC20 := J H; clear H
        go_upto_if 38 with (fail)
        go_cut [38] (fun v38 wc => ∃ (kq : Nat) (x38_19 : Bool), v38 = .bool x38_19 ∧ zaa (zau.j1 kq a0 a1 a0 x38_19 = some r) ∧ zaa (kq ≤ kj2) ∧ zaa (Below w.heap.size w wc))
        case first =>
         have H := HC20.out; clear HC20; by_cases c21 : a0 = 4
         ·rw [if_pos c21] at H
          have c21b0 : (a0 == 4) = true := beq_iff_eq.mpr c21; have c21b1 : (a0 != 4) = false := bne_eq_false_iff_eq.mpr c21; clear c21
          (first | rw [c21b0] | (simp only [i64_w, i32_w]; rw [c21b0]) | skip)
          have H' := J H; clear H; go_wp2
          go_meet
          case rel => exact ⟨_, ((a0 == 4)), qc, H', ⟨Qe⟩, ⟨qa⟩⟩
         ·rw [if_neg c21] at H
          have c21b0 : (a0 == 4) = false := beq_eq_false_iff_ne.mpr c21; have c21b1 : (a0 != 4) = true := bne_iff_ne.mpr c21
          (first | rw [c21b0] | (simp only [i64_w, i32_w]; rw [c21b0]) | skip)
          have H' := J H; clear H; go_wp2
          go_meet
          case rel => exact ⟨_, ((a0 == 5)), qc, H', ⟨Qe⟩, ⟨qa⟩⟩
        case rest =>
         clear HC20; try clear c1
         try clear c2
         try clear p2
         try clear q2
         try clear hx2
         try clear c3
         try clear c4
         try clear c4b0
         try clear c5
         try clear c6
         try clear c6b0
         try clear c6b1
         try clear c7
         try clear c7b0
         try clear c8
         try clear c8b0
         try clear c12
         try clear c12b0
         try clear c12b1
         try clear c13
         try clear c13b0
         try clear c13b1
         try clear c14
         try clear c14b0
         try clear c14b1
         try clear c15
         try clear c15b0
         try clear c15b1
         try clear c16
         try clear c16b0
         try clear c16b1
         try clear c17
         try clear c17b0
         try clear c17b1
         try clear c18
         try clear c18b0
         try clear c18b1
         try clear c19
         try clear c19b0
         try clear c19b1
         try clear c21
         try clear c21b0
         try clear c21b1
         try clear hx267_0
         try clear p2
         try clear p267
         try clear q267
         obtain ⟨kq, x38_19, rfl, HA, HJ19, HB⟩ := hcut; cases kq with
         | zero => exact absurd HA.out (by simp [zau.j1])
         | succ kj19 =>
          have H := HA.out; clear HA; simp only [zau.j1] at H; by_cases c22 : x38_19 = true
          ·subst c22
           have H1 : (if a1 = 8 then (some 5) else (if a1 = 7 then (if a0 = 5 then (some 6) else (some 4)) else (some 4))) = some r := by rw [if_pos rfl] at H; exact H
           clear H; have H := H1; clear H1; by_cases c23 : a1 = 8
           ·rw [if_pos c23] at H
            have c23b0 : (a1 == 8) = true := beq_iff_eq.mpr c23; have c23b1 : (a1 != 8) = false := bne_eq_false_iff_eq.mpr c23; clear c23; obtain rfl := Option.some.inj H; go_wp2
            go_ret
            exact ⟨qg, qa⟩
           ·rw [if_neg c23] at H
            have c23b0 : (a1 == 8) = false := beq_eq_false_iff_ne.mpr c23; have c23b1 : (a1 != 8) = true := bne_iff_ne.mpr c23; by_cases c24 : a1 = 7
            ·rw [if_pos c24] at H
             have c24b0 : (a1 == 7) = true := beq_iff_eq.mpr c24; have c24b1 : (a1 != 7) = false := bne_eq_false_iff_eq.mpr c24; clear c24; by_cases c25 : a0 = 5
             ·rw [if_pos c25] at H
              have c25b0 : (a0 == 5) = true := beq_iff_eq.mpr c25; have c25b1 : (a0 != 5) = false := bne_eq_false_iff_eq.mpr c25; clear c25; obtain rfl := Option.some.inj H; go_wp2
              go_ret
              exact ⟨qg, qa⟩
             ·rw [if_neg c25] at H
              have c25b0 : (a0 == 5) = false := beq_eq_false_iff_ne.mpr c25; have c25b1 : (a0 != 5) = true := bne_iff_ne.mpr c25; obtain rfl := Option.some.inj H; go_wp2
              go_ret
              exact ⟨qg, qa⟩
            ·rw [if_neg c24] at H
             have c24b0 : (a1 == 7) = false := beq_eq_false_iff_ne.mpr c24; have c24b1 : (a1 != 7) = true := bne_iff_ne.mpr c24; obtain rfl := Option.some.inj H; go_wp2
             go_ret
             exact ⟨qg, qa⟩
          ·replace c22 := Bool.eq_false_iff.mpr c22
           subst c22; have H1 : (if a0 = 7 then (if a1 = 3 then (some 7) else (if a1 = 4 then (some 7) else (some (-1)))) else (if a0 = 8 then (if a1 = 4 then (some 8) else (some (-1))) else (if a0 = 9 then (if a1 = 5 then (some 11) else (if a1 = 6 then (some 10) else (if a1 = 2 then (some (-1)) else (some 9)))) else (if a0 = 10 then (if a1 = 2 then (some (-1)) else (some 9)) else (if a0 = 12 then (zau.j2 kj19 a0 a1 a0 (a0 == 12)) else (if a0 = 14 then (zau.j2 kj19 a0 a1 a0 (a0 == 14)) else (if a0 = 16 then (zau.j2 kj19 a0 a1 a0 (a0 == 16)) else (zau.j2 kj19 a0 a1 a0 (a0 == 18))))))))) = some r := by rw [if_neg (show ¬ (false = true) by decide)] at H; exact H
           clear H; have H := H1; clear H1; by_cases c26 : a0 = 7
           ·rw [if_pos c26] at H
            have c26b0 : (a0 == 7) = true := beq_iff_eq.mpr c26; have c26b1 : (a0 != 7) = false := bne_eq_false_iff_eq.mpr c26; clear c26; by_cases c27 : a1 = 3
            ·rw [if_pos c27] at H
             have c27b0 : (a1 == 3) = true := beq_iff_eq.mpr c27; have c27b1 : (a1 != 3) = false := bne_eq_false_iff_eq.mpr c27; clear c27; obtain rfl := Option.some.inj H; go_wp2
             go_ret
             exact ⟨qg, qa⟩
            ·rw [if_neg c27] at H
             have c27b0 : (a1 == 3) = false := beq_eq_false_iff_ne.mpr c27; have c27b1 : (a1 != 3) = true := bne_iff_ne.mpr c27; by_cases c28 : a1 = 4
             ·rw [if_pos c28] at H
              have c28b0 : (a1 == 4) = true := beq_iff_eq.mpr c28; have c28b1 : (a1 != 4) = false := bne_eq_false_iff_eq.mpr c28; clear c28; obtain rfl := Option.some.inj H; go_wp2
              go_ret
              exact ⟨qg, qa⟩
             ·rw [if_neg c28] at H
              have c28b0 : (a1 == 4) = false := beq_eq_false_iff_ne.mpr c28; have c28b1 : (a1 != 4) = true := bne_iff_ne.mpr c28; obtain rfl := Option.some.inj H; go_wp2
              go_ret
              exact ⟨qg, qa⟩
           ·rw [if_neg c26] at H
            have c26b0 : (a0 == 7) = false := beq_eq_false_iff_ne.mpr c26; have c26b1 : (a0 != 7) = true := bne_iff_ne.mpr c26; by_cases c29 : a0 = 8
            ·rw [if_pos c29] at H
             have c29b0 : (a0 == 8) = true := beq_iff_eq.mpr c29; have c29b1 : (a0 != 8) = false := bne_eq_false_iff_eq.mpr c29; clear c29; by_cases c30 : a1 = 4
             ·rw [if_pos c30] at H
              have c30b0 : (a1 == 4) = true := beq_iff_eq.mpr c30; have c30b1 : (a1 != 4) = false := bne_eq_false_iff_eq.mpr c30; clear c30; obtain rfl := Option.some.inj H; go_wp2
              go_ret
              exact ⟨qg, qa⟩
             ·rw [if_neg c30] at H
              have c30b0 : (a1 == 4) = false := beq_eq_false_iff_ne.mpr c30; have c30b1 : (a1 != 4) = true := bne_iff_ne.mpr c30; obtain rfl := Option.some.inj H; go_wp2
              go_ret
              exact ⟨qg, qa⟩
            ·rw [if_neg c29] at H
             have c29b0 : (a0 == 8) = false := beq_eq_false_iff_ne.mpr c29; have c29b1 : (a0 != 8) = true := bne_iff_ne.mpr c29; by_cases c31 : a0 = 9
             ·rw [if_pos c31] at H
              have c31b0 : (a0 == 9) = true := beq_iff_eq.mpr c31; have c31b1 : (a0 != 9) = false := bne_eq_false_iff_eq.mpr c31; clear c31; by_cases c32 : a1 = 5
              ·rw [if_pos c32] at H
               have c32b0 : (a1 == 5) = true := beq_iff_eq.mpr c32; have c32b1 : (a1 != 5) = false := bne_eq_false_iff_eq.mpr c32; clear c32; obtain rfl := Option.some.inj H; go_wp2
               go_ret
               exact ⟨qg, qa⟩
              ·rw [if_neg c32] at H
               have c32b0 : (a1 == 5) = false := beq_eq_false_iff_ne.mpr c32; have c32b1 : (a1 != 5) = true := bne_iff_ne.mpr c32; by_cases c33 : a1 = 6
               ·rw [if_pos c33] at H
                have c33b0 : (a1 == 6) = true := beq_iff_eq.mpr c33; have c33b1 : (a1 != 6) = false := bne_eq_false_iff_eq.mpr c33; clear c33; obtain rfl := Option.some.inj H; go_wp2
                go_ret
                exact ⟨qg, qa⟩
               ·rw [if_neg c33] at H
                have c33b0 : (a1 == 6) = false := beq_eq_false_iff_ne.mpr c33; have c33b1 : (a1 != 6) = true := bne_iff_ne.mpr c33; by_cases c34 : a1 = 2
                ·rw [if_pos c34] at H
                 have c34b0 : (a1 == 2) = true := beq_iff_eq.mpr c34; have c34b1 : (a1 != 2) = false := bne_eq_false_iff_eq.mpr c34; clear c34; obtain rfl := Option.some.inj H; go_wp2
                 go_ret
                 exact ⟨qg, qa⟩
                ·rw [if_neg c34] at H
                 have c34b0 : (a1 == 2) = false := beq_eq_false_iff_ne.mpr c34; have c34b1 : (a1 != 2) = true := bne_iff_ne.mpr c34; obtain rfl := Option.some.inj H; go_wp2
                 go_ret
                 exact ⟨qg, qa⟩
             ·rw [if_neg c31] at H
              have c31b0 : (a0 == 9) = false := beq_eq_false_iff_ne.mpr c31; have c31b1 : (a0 != 9) = true := bne_iff_ne.mpr c31; by_cases c35 : a0 = 10
              ·rw [if_pos c35] at H
               have c35b0 : (a0 == 10) = true := beq_iff_eq.mpr c35; have c35b1 : (a0 != 10) = false := bne_eq_false_iff_eq.mpr c35; clear c35; by_cases c36 : a1 = 2
               ·rw [if_pos c36] at H
                have c36b0 : (a1 == 2) = true := beq_iff_eq.mpr c36; have c36b1 : (a1 != 2) = false := bne_eq_false_iff_eq.mpr c36; clear c36; obtain rfl := Option.some.inj H; go_wp2
                go_ret
                exact ⟨qg, qa⟩
               ·rw [if_neg c36] at H
                have c36b0 : (a1 == 2) = false := beq_eq_false_iff_ne.mpr c36; have c36b1 : (a1 != 2) = true := bne_iff_ne.mpr c36; obtain rfl := Option.some.inj H; go_wp2
                go_ret
                exact ⟨qg, qa⟩
              ·rw [if_neg c35] at H
               have c35b0 : (a0 == 10) = false := beq_eq_false_iff_ne.mpr c35; have c35b1 : (a0 != 10) = true := bne_iff_ne.mpr c35; have HC37 := J H; clear H
               go_upto_if 73 with (fail)
               go_cut [73] (fun v73 wc => ∃ (kq : Nat) (x73_36 : Bool), v73 = .bool x73_36 ∧ zaa (zau.j2 kq a0 a1 a0 x73_36 = some r) ∧ zaa (kq ≤ kj19) ∧ zaa (Below w.heap.size w wc))
               case first =>
                have H := HC37.out; clear HC37; by_cases c38 : a0 = 12
                ·rw [if_pos c38] at H
                 have c38b0 : (a0 == 12) = true := beq_iff_eq.mpr c38; have c38b1 : (a0 != 12) = false := bne_eq_false_iff_eq.mpr c38; clear c38
                 (first | rw [c38b0] | (simp only [i64_w, i32_w]; rw [c38b0]) | skip)
                 have H' := J H; clear H; go_wp2
                 go_meet
                 case rel => exact ⟨_, ((a0 == 12)), qc, H', ⟨Qp⟩, ⟨qa⟩⟩
                ·rw [if_neg c38] at H
                 have c38b0 : (a0 == 12) = false := beq_eq_false_iff_ne.mpr c38; have c38b1 : (a0 != 12) = true := bne_iff_ne.mpr c38
                 (first | rw [c38b0] | (simp only [i64_w, i32_w]; rw [c38b0]) | skip)
                 by_cases c39 : a0 = 14
                 ·rw [if_pos c39] at H
                  have c39b0 : (a0 == 14) = true := beq_iff_eq.mpr c39; have c39b1 : (a0 != 14) = false := bne_eq_false_iff_eq.mpr c39; clear c39; have H' := J H; clear H; go_wp2
                  go_meet
                  case rel => exact ⟨_, ((a0 == 14)), qc, H', ⟨Qp⟩, ⟨qa⟩⟩
                 ·rw [if_neg c39] at H
                  have c39b0 : (a0 == 14) = false := beq_eq_false_iff_ne.mpr c39; have c39b1 : (a0 != 14) = true := bne_iff_ne.mpr c39; by_cases c40 : a0 = 16
                  ·rw [if_pos c40] at H
                   have c40b0 : (a0 == 16) = true := beq_iff_eq.mpr c40; have c40b1 : (a0 != 16) = false := bne_eq_false_iff_eq.mpr c40; clear c40; have H' := J H; clear H; go_wp2
                   go_meet
                   case rel => exact ⟨_, ((a0 == 16)), qc, H', ⟨Qp⟩, ⟨qa⟩⟩
                  ·rw [if_neg c40] at H
                   have c40b0 : (a0 == 16) = false := beq_eq_false_iff_ne.mpr c40; have c40b1 : (a0 != 16) = true := bne_iff_ne.mpr c40; have H' := J H; clear H; go_wp2
                   go_meet
                   case rel => exact ⟨_, ((a0 == 18)), qc, H', ⟨Qp⟩, ⟨qa⟩⟩
               case rest =>
                clear HC37; try clear c1
                try clear c2
                try clear p2
                try clear q2
                try clear hx2
                try clear c3
                try clear c4
                try clear c4b0
                try clear c5
                try clear c6
                try clear c6b0
                try clear c6b1
                try clear c7
                try clear c7b0
                try clear c8
                try clear c8b0
                try clear c12
                try clear c12b0
                try clear c12b1
                try clear c13
                try clear c13b0
                try clear c13b1
                try clear c14
                try clear c14b0
                try clear c14b1
                try clear c15
                try clear c15b0
                try clear c15b1
                try clear c16
                try clear c16b0
                try clear c16b1
                try clear c17
                try clear c17b0
                try clear c17b1
                try clear c18
                try clear c18b0
                try clear c18b1
                try clear c19
                try clear c19b0
                try clear c19b1
                try clear c21
                try clear c21b0
                try clear c21b1
                try clear c22
                try clear c23
                try clear c23b0
                try clear c23b1
                try clear c24
                try clear c24b0
                try clear c24b1
                try clear c25
                try clear c25b0
                try clear c25b1
                try clear c26
                try clear c26b0
                try clear c26b1
                try clear p26
                try clear q26
                try clear hx26
                try clear c27
                try clear c27b0
                try clear c27b1
                try clear c28
                try clear c28b0
                try clear c28b1
                try clear c29
                try clear c29b0
                try clear c29b1
                try clear c30
                try clear c30b0
                try clear c30b1
                try clear c31
                try clear c31b0
                try clear c31b1
                try clear c32
                try clear c32b0
                try clear c32b1
                try clear c33
                try clear c33b0
                try clear c33b1
                try clear c34
                try clear c34b0
                try clear c34b1
                try clear c35
                try clear c35b0
                try clear c35b1
                try clear c36
                try clear c36b0
                try clear c36b1
                try clear c38
                try clear c38b0
                try clear c38b1
                try clear c39
                try clear c39b0
                try clear c39b1
                try clear c40
                try clear c40b0
                try clear c40b1
                try clear hx267_0
                try clear p2
                try clear p267
                try clear q2
                try clear q267
                obtain ⟨kq, x73_36, rfl, HA, HJ36, HB⟩ := hcut; cases kq with
                | zero => exact absurd HA.out (by simp [zau.j2])
                | succ kj36 =>
                 have H := HA.out; clear HA; simp only [zau.j2] at H; by_cases c41 : x73_36 = true
                 ·subst c41
                  have H1 : (if a1 = 9 then (some (wrap64 (a0 + 1))) else (some (-1))) = some r := by rw [if_pos rfl] at H; exact H
                  clear H; have H := H1; clear H1; by_cases c42 : a1 = 9
                  ·rw [if_pos c42] at H
                   have c42b0 : (a1 == 9) = true := beq_iff_eq.mpr c42; have c42b1 : (a1 != 9) = false := bne_eq_false_iff_eq.mpr c42; clear c42; obtain rfl := Option.some.inj H; go_wp2
                   go_ret
                   exact ⟨qg, qa⟩
                  ·rw [if_neg c42] at H
                   have c42b0 : (a1 == 9) = false := beq_eq_false_iff_ne.mpr c42; have c42b1 : (a1 != 9) = true := bne_iff_ne.mpr c42; obtain rfl := Option.some.inj H; go_wp2
                   go_ret
                   exact ⟨qg, qa⟩
                 ·replace c41 := Bool.eq_false_iff.mpr c41
                  subst c41; have H1 : (if a0 = 20 then (if a1 = 13 then (some 21) else (some (-1))) else (if a0 = 22 then (if a1 = 14 then (some 23) else (some (-1))) else (some (-1)))) = some r := by rw [if_neg (show ¬ (false = true) by decide)] at H; exact H
                  clear H; have H := H1; clear H1; by_cases c43 : a0 = 20
                  ·rw [if_pos c43] at H
                   have c43b0 : (a0 == 20) = true := beq_iff_eq.mpr c43; have c43b1 : (a0 != 20) = false := bne_eq_false_iff_eq.mpr c43; clear c43; by_cases c44 : a1 = 13
                   ·rw [if_pos c44] at H
                    have c44b0 : (a1 == 13) = true := beq_iff_eq.mpr c44; have c44b1 : (a1 != 13) = false := bne_eq_false_iff_eq.mpr c44; clear c44; obtain rfl := Option.some.inj H; go_wp2
                    go_ret
                    exact ⟨qg, qa⟩
                   ·rw [if_neg c44] at H
                    have c44b0 : (a1 == 13) = false := beq_eq_false_iff_ne.mpr c44; have c44b1 : (a1 != 13) = true := bne_iff_ne.mpr c44; obtain rfl := Option.some.inj H; go_wp2
                    go_ret
                    exact ⟨qg, qa⟩
                  ·rw [if_neg c43] at H
                   have c43b0 : (a0 == 20) = false := beq_eq_false_iff_ne.mpr c43; have c43b1 : (a0 != 20) = true := bne_iff_ne.mpr c43; by_cases c45 : a0 = 22
                   ·rw [if_pos c45] at H
                    have c45b0 : (a0 == 22) = true := beq_iff_eq.mpr c45; have c45b1 : (a0 != 22) = false := bne_eq_false_iff_eq.mpr c45; clear c45; by_cases c46 : a1 = 14
                    ·rw [if_pos c46] at H
                     have c46b0 : (a1 == 14) = true := beq_iff_eq.mpr c46; have c46b1 : (a1 != 14) = false := bne_eq_false_iff_eq.mpr c46; clear c46; obtain rfl := Option.some.inj H; go_wp2
                     go_ret
                     exact ⟨qg, qa⟩
                    ·rw [if_neg c46] at H
                     have c46b0 : (a1 == 14) = false := beq_eq_false_iff_ne.mpr c46; have c46b1 : (a1 != 14) = true := bne_iff_ne.mpr c46; obtain rfl := Option.some.inj H; go_wp2
                     go_ret
                     exact ⟨qg, qa⟩
                   ·rw [if_neg c45] at H
                    have c45b0 : (a0 == 22) = false := beq_eq_false_iff_ne.mpr c45; have c45b1 : (a0 != 22) = true := bne_iff_ne.mpr c45; obtain rfl := Option.some.inj H; go_wp2
                    go_ret
                    exact ⟨qg, qa⟩
mutual
def zam.l0 : Nat → Int → ByteArray → Int → Option (Int)
 | 0, _, _, _ => none
 | k + 1, x0, x3, x4 => if x4 < (x3.size : Int) then (if 0 ≤ x4 then (if x0 = (wrap32 (bt x3 x4)) then (some (wrap64 (5 + x4))) else (zam.l0 k x0 x3 (wrap64 (x4 + 1)))) else (none)) else (if x0 = 32 then (zam.j1 k x0 true) else (zam.j1 k x0 (x0 == 9)))
def zam.j1 : Nat → Int → Bool → Option (Int)
 | 0, _, _ => none
 | k + 1, x0, x19 => if x19 = true then (some 1) else (if x0 = 10 then (zam.j2 k x0 true) else (zam.j2 k x0 (x0 == 13)))
def zam.j2 : Nat → Int → Bool → Option (Int)
 | 0, _, _ => none
 | k + 1, x0, x26 => if x26 = true then (some 2) else (if x0 = 95 then (zam.j3 k x0 true) else (if x0 ≥ 97 then (if x0 ≤ 122 then (zam.j3 k x0 true) else (if x0 ≥ 65 then (zam.j3 k x0 (decide (x0 ≤ 90))) else (zam.j3 k x0 false))) else (if x0 ≥ 65 then (zam.j3 k x0 (decide (x0 ≤ 90))) else (zam.j3 k x0 false))))
def zam.j3 : Nat → Int → Bool → Option (Int)
 | 0, _, _ => none
 | k + 1, x0, x33 => if x33 = true then (some 3) else (if x0 ≥ 48 then (if x0 ≤ 57 then (some 4) else (some 0)) else (some 0))
end
def zam.f (k : Nat) (a0 : Int) : Option (Int) := zam.l0 k a0 (⟨#[34, 92, 47, 42, 61, 33, 60, 62, 38, 124, 40, 41, 123, 125, 44, 59, 43, 45, 37]⟩ : ByteArray) 0
theorem zam.calls (k : Nat) (a0 : Int) (r : Int) (w : World) (h : zam.f k a0 = some r) :
  Calls Try.prog 33 #[.int .i32 a0] w fun e w' => e = .returned (.int .i64 r) ∧ zat w w' := by
 have H : (zam.l0 k a0 (⟨#[34, 92, 47, 42, 61, 33, 60, 62, 38, 124, 40, 41, 123, 125, 44, 59, 43, 45, 37]⟩ : ByteArray) 0) = some r := h; clear h; have H' := J H; clear H; go_enter Try.func33, Try.ntmps33
 go_wp2
 go_loopg [4] k (fun kq v4 w' => ∃ (x4_1 : Int), v4 = .int .i64 x4_1 ∧ zaa (zam.l0 kq a0 (⟨#[34, 92, 47, 42, 61, 33, 60, 62, 38, 124, 40, 41, 123, 125, 44, 59, 43, 45, 37]⟩ : ByteArray) x4_1 = some r) ∧ zaa (kq ≤ k) ∧ zat w w')
 case atStart => exact ⟨(0), qc, H', ⟨Nat.le_refl _⟩, qh⟩
 case round =>
  clear H'; obtain ⟨x4_1, rfl, HA, HK1, ⟨m1, rfl⟩⟩ := hrel; cases gk with
  | zero => exact absurd HA.out (by simp [zam.l0])
  | succ k1 =>
   have H := HA.out; clear HA; simp only [zam.l0] at H; by_cases c2 : x4_1 < ((⟨#[34, 92, 47, 42, 61, 33, 60, 62, 38, 124, 40, 41, 123, 125, 44, 59, 43, 45, 37]⟩ : ByteArray).size : Int)
   ·rw [if_pos c2] at H
    have c2b0 : decide (x4_1 < ((⟨#[34, 92, 47, 42, 61, 33, 60, 62, 38, 124, 40, 41, 123, 125, 44, 59, 43, 45, 37]⟩ : ByteArray).size : Int)) = true := decide_eq_true c2; have c2b0n : decide (x4_1 < 19) = true := c2b0; clear c2; by_cases c3 : 0 ≤ x4_1
    ·rw [if_pos c3] at H
     have c3b0 : decide (0 ≤ x4_1) = true := decide_eq_true c3; clear c3; by_cases c5 : a0 = (wrap32 (bt (⟨#[34, 92, 47, 42, 61, 33, 60, 62, 38, 124, 40, 41, 123, 125, 44, 59, 43, 45, 37]⟩ : ByteArray) x4_1))
     ·rw [if_pos c5] at H
      have c5b0 : (a0 == (wrap32 (bt (⟨#[34, 92, 47, 42, 61, 33, 60, 62, 38, 124, 40, 41, 123, 125, 44, 59, 43, 45, 37]⟩ : ByteArray) x4_1))) = true := beq_iff_eq.mpr c5; have c5b1 : (a0 != (wrap32 (bt (⟨#[34, 92, 47, 42, 61, 33, 60, 62, 38, 124, 40, 41, 123, 125, 44, 59, 43, 45, 37]⟩ : ByteArray) x4_1))) = false := bne_eq_false_iff_eq.mpr c5; clear c5; obtain rfl := Option.some.inj H; have p4 : 0 ≤ (x4_1 : Int) := of_decide_eq_true qd
      have q4 : x4_1 < (19 : Int) := of_decide_eq_true qd
      have hx4 := bt_at (⟨#[34, 92, 47, 42, 61, 33, 60, 62, 38, 124, 40, 41, 123, 125, 44, 59, 43, 45, 37]⟩ : ByteArray) x4_1; replace p4 := eq_true p4; replace q4 := eq_true q4; go_wp2
      go_ret
      exact ⟨qc, qh⟩
     ·rw [if_neg c5] at H
      have c5b0 : (a0 == (wrap32 (bt (⟨#[34, 92, 47, 42, 61, 33, 60, 62, 38, 124, 40, 41, 123, 125, 44, 59, 43, 45, 37]⟩ : ByteArray) x4_1))) = false := beq_eq_false_iff_ne.mpr c5; have c5b1 : (a0 != (wrap32 (bt (⟨#[34, 92, 47, 42, 61, 33, 60, 62, 38, 124, 40, 41, 123, 125, 44, 59, 43, 45, 37]⟩ : ByteArray) x4_1))) = true := bne_iff_ne.mpr c5; have H' := J H; clear H; have p4 : 0 ≤ (x4_1 : Int) := of_decide_eq_true qd
      have q4 : x4_1 < (19 : Int) := of_decide_eq_true qd
      have hx4 := bt_at (⟨#[34, 92, 47, 42, 61, 33, 60, 62, 38, 124, 40, 41, 123, 125, 44, 59, 43, 45, 37]⟩ : ByteArray) x4_1; replace p4 := eq_true p4; replace q4 := eq_true q4; go_wp2
      go_roundg k1
      case measure => have := HK1.out; omega
      case rel => exact ⟨(wrap64 (x4_1 + 1)), qc, H', ⟨qx⟩, qh⟩
    ·rw [if_neg c3] at H
     exact absurd H qf
   ·rw [if_neg c2] at H
    have c2b0 : decide (x4_1 < ((⟨#[34, 92, 47, 42, 61, 33, 60, 62, 38, 124, 40, 41, 123, 125, 44, 59, 43, 45, 37]⟩ : ByteArray).size : Int)) = false := decide_eq_false c2; have c2b0n : decide (x4_1 < 19) = false := c2b0; clear c2; have HC6 := J H; clear H; go_upto_region 7 with (fail)
    go_cut [19] (fun v19 wc => ∃ (kq : Nat) (x19_5 : Bool), v19 = .bool x19_5 ∧ zaa (zam.j1 kq a0 x19_5 = some r) ∧ zaa (kq ≤ k1) ∧ zat w wc)
    case first =>
     have H := HC6.out; clear HC6; by_cases c7 : a0 = 32
     ·rw [if_pos c7] at H
      have c7b0 : (a0 == 32) = true := beq_iff_eq.mpr c7; have c7b1 : (a0 != 32) = false := bne_eq_false_iff_eq.mpr c7; clear c7
      (first | rw [c7b0] | (simp only [i64_w, i32_w]; rw [c7b0]) | skip)
      have H' := J H; clear H; go_wp2
      go_meet
      case rel => exact ⟨_, (true), qc, H', ⟨Qi⟩, qh⟩
     ·rw [if_neg c7] at H
      have c7b0 : (a0 == 32) = false := beq_eq_false_iff_ne.mpr c7; have c7b1 : (a0 != 32) = true := bne_iff_ne.mpr c7
      (first | rw [c7b0] | (simp only [i64_w, i32_w]; rw [c7b0]) | skip)
      have H' := J H; clear H; go_wp2
      go_meet
      case rel => exact ⟨_, ((a0 == 9)), qc, H', ⟨Qi⟩, qh⟩
    case rest =>
     clear HC6; try clear c2
     try clear c2b0
     try clear p2
     try clear c3
     try clear c3b0
     try clear p3
     try clear p4
     try clear q4
     try clear hx4
     try clear c5
     try clear c5b0
     try clear c5b1
     try clear p6
     try clear c7
     try clear c7b0
     try clear c7b1
     try clear p4
     try clear q4
     obtain ⟨kq, x19_5, rfl, HA, HJ5, ⟨mc5, rfl⟩⟩ := hcut; cases kq with
     | zero => exact absurd HA.out (by simp [zam.j1])
     | succ kj5 =>
      have H := HA.out; clear HA; simp only [zam.j1] at H; by_cases c8 : x19_5 = true
      ·subst c8
       have H1 : (some 1) = some r := by rw [if_pos rfl] at H; exact H
       clear H; have H := H1; clear H1; obtain rfl := Option.some.inj H; go_wp2
       go_ret
       exact ⟨qc, qh⟩
      ·replace c8 := Bool.eq_false_iff.mpr c8
       subst c8; have H1 : (if a0 = 10 then (zam.j2 kj5 a0 true) else (zam.j2 kj5 a0 (a0 == 13))) = some r := by rw [if_neg (show ¬ (false = true) by decide)] at H; exact H
       clear H; have H := H1; clear H1; have HC9 := J H; clear H; go_upto_region 9 with (fail)
       go_cut [26] (fun v26 wc => ∃ (kq : Nat) (x26_8 : Bool), v26 = .bool x26_8 ∧ zaa (zam.j2 kq a0 x26_8 = some r) ∧ zaa (kq ≤ kj5) ∧ zat w wc)
       case first =>
        have H := HC9.out; clear HC9; by_cases c10 : a0 = 10
        ·rw [if_pos c10] at H
         have c10b0 : (a0 == 10) = true := beq_iff_eq.mpr c10; have c10b1 : (a0 != 10) = false := bne_eq_false_iff_eq.mpr c10; clear c10
         (first | rw [c10b0] | (simp only [i64_w, i32_w]; rw [c10b0]) | skip)
         have H' := J H; clear H; go_wp2
         go_meet
         case rel => exact ⟨_, (true), qc, H', ⟨by have := HK1.out; have := HJ5.out; first | omega | exact Nat.le_refl _⟩, qh⟩
        ·rw [if_neg c10] at H
         have c10b0 : (a0 == 10) = false := beq_eq_false_iff_ne.mpr c10; have c10b1 : (a0 != 10) = true := bne_iff_ne.mpr c10
         (first | rw [c10b0] | (simp only [i64_w, i32_w]; rw [c10b0]) | skip)
         have H' := J H; clear H; go_wp2
         go_meet
         case rel => exact ⟨_, ((a0 == 13)), qc, H', ⟨by have := HK1.out; have := HJ5.out; first | omega | exact Nat.le_refl _⟩, qh⟩
       case rest =>
        clear HC9; try clear c1
        try clear c2
        try clear c2b0
        try clear p2
        try clear c3
        try clear c3b0
        try clear p3
        try clear p4
        try clear q4
        try clear hx4
        try clear c5
        try clear c5b0
        try clear c5b1
        try clear p6
        try clear c7
        try clear c7b0
        try clear c7b1
        try clear c8
        try clear c10
        try clear c10b0
        try clear c10b1
        try clear p2
        try clear p3
        try clear p4
        try clear p6
        try clear q4
        obtain ⟨kq, x26_8, rfl, HA, HJ8, ⟨mc8, rfl⟩⟩ := hcut; cases kq with
        | zero => exact absurd HA.out (by simp [zam.j2])
        | succ kj8 =>
         have H := HA.out; clear HA; simp only [zam.j2] at H; by_cases c11 : x26_8 = true
         ·subst c11
          have H1 : (some 2) = some r := by rw [if_pos rfl] at H; exact H
          clear H; have H := H1; clear H1; obtain rfl := Option.some.inj H; go_wp2
          go_ret
          exact ⟨qc, qh⟩
         ·replace c11 := Bool.eq_false_iff.mpr c11
          subst c11; have H1 : (if a0 = 95 then (zam.j3 kj8 a0 true) else (if a0 ≥ 97 then (if a0 ≤ 122 then (zam.j3 kj8 a0 true) else (if a0 ≥ 65 then (zam.j3 kj8 a0 (decide (a0 ≤ 90))) else (zam.j3 kj8 a0 false))) else (if a0 ≥ 65 then (zam.j3 kj8 a0 (decide (a0 ≤ 90))) else (zam.j3 kj8 a0 false)))) = some r := by rw [if_neg (show ¬ (false = true) by decide)] at H; exact H
          clear H; have H := H1; clear H1; have HC12 := J H; clear H; go_upto_region 11 with (fail)
          go_cut [33] (fun v33 wc => ∃ (kq : Nat) (x33_11 : Bool), v33 = .bool x33_11 ∧ zaa (zam.j3 kq a0 x33_11 = some r) ∧ zaa (kq ≤ kj8) ∧ zat w wc)
          case first =>
           have H := HC12.out; clear HC12; by_cases c13 : a0 = 95
           ·rw [if_pos c13] at H
            have c13b0 : (a0 == 95) = true := beq_iff_eq.mpr c13; have c13b1 : (a0 != 95) = false := bne_eq_false_iff_eq.mpr c13; clear c13
            (first | rw [c13b0] | (simp only [i64_w, i32_w]; rw [c13b0]) | skip)
            have H' := J H; clear H; go_wp2
            go_meet
            case rel => exact ⟨_, (true), qc, H', ⟨Qf⟩, qh⟩
           ·rw [if_neg c13] at H
            have c13b0 : (a0 == 95) = false := beq_eq_false_iff_ne.mpr c13; have c13b1 : (a0 != 95) = true := bne_iff_ne.mpr c13
            (first | rw [c13b0] | (simp only [i64_w, i32_w]; rw [c13b0]) | skip)
            by_cases c14 : a0 ≥ 97
            ·rw [if_pos c14] at H
             have c14b0 : decide (97 ≤ a0) = true := decide_eq_true c14; clear c14; by_cases c15 : a0 ≤ 122
             ·rw [if_pos c15] at H
              have c15b0 : decide (a0 ≤ 122) = true := decide_eq_true c15; clear c15; have H' := J H; clear H; go_wp2
              go_meet
              case rel => exact ⟨_, (true), qc, H', ⟨Qf⟩, qh⟩
             ·rw [if_neg c15] at H
              have c15b0 : decide (a0 ≤ 122) = false := decide_eq_false c15; clear c15; by_cases c16 : a0 ≥ 65
              ·rw [if_pos c16] at H
               have c16b0 : decide (65 ≤ a0) = true := decide_eq_true c16; clear c16; have H' := J H; clear H; go_wp2
               go_meet
               case rel => exact ⟨_, (decide (a0 ≤ 90)), qc, H', ⟨Qf⟩, qh⟩
              ·rw [if_neg c16] at H
               have c16b0 : decide (65 ≤ a0) = false := decide_eq_false c16; clear c16; have H' := J H; clear H; go_wp2
               go_meet
               case rel => exact ⟨_, (false), qc, H', ⟨Qf⟩, qh⟩
            ·rw [if_neg c14] at H
             have c14b0 : decide (97 ≤ a0) = false := decide_eq_false c14; clear c14; by_cases c17 : a0 ≥ 65
             ·rw [if_pos c17] at H
              have c17b0 : decide (65 ≤ a0) = true := decide_eq_true c17; clear c17; have H' := J H; clear H; go_wp2
              go_meet
              case rel => exact ⟨_, (decide (a0 ≤ 90)), qc, H', ⟨Qf⟩, qh⟩
             ·rw [if_neg c17] at H
              have c17b0 : decide (65 ≤ a0) = false := decide_eq_false c17; clear c17; have H' := J H; clear H; go_wp2
              go_meet
              case rel => exact ⟨_, (false), qc, H', ⟨Qf⟩, qh⟩
          case rest =>
           clear HC12; try clear c1
           try clear c2
           try clear c2b0
           try clear p2
           try clear c3
           try clear c3b0
           try clear p3
           try clear p4
           try clear q4
           try clear hx4
           try clear c5
           try clear c5b0
           try clear c5b1
           try clear p6
           try clear c7
           try clear c7b0
           try clear c7b1
           try clear c8
           try clear c10
           try clear c10b0
           try clear c10b1
           try clear c11
           try clear c13
           try clear c13b0
           try clear c13b1
           try clear c14
           try clear c14b0
           try clear c15
           try clear c15b0
           try clear c16
           try clear c16b0
           try clear c17
           try clear c17b0
           try clear p2
           try clear p3
           try clear p4
           try clear p6
           try clear q4
           obtain ⟨kq, x33_11, rfl, HA, HJ11, ⟨mc11, rfl⟩⟩ := hcut; cases kq with
           | zero => exact absurd HA.out (by simp [zam.j3])
           | succ kj11 =>
            have H := HA.out; clear HA; simp only [zam.j3] at H; by_cases c18 : x33_11 = true
            ·subst c18
             have H1 : (some 3) = some r := by rw [if_pos rfl] at H; exact H
             clear H; have H := H1; clear H1; obtain rfl := Option.some.inj H; go_wp2
             go_ret
             exact ⟨qc, qh⟩
            ·replace c18 := Bool.eq_false_iff.mpr c18
             subst c18; have H1 : (if a0 ≥ 48 then (if a0 ≤ 57 then (some 4) else (some 0)) else (some 0)) = some r := by rw [if_neg (show ¬ (false = true) by decide)] at H; exact H
             clear H; have H := H1; clear H1; by_cases c19 : a0 ≥ 48
             ·rw [if_pos c19] at H
              have c19b0 : decide (48 ≤ a0) = true := decide_eq_true c19; clear c19; by_cases c20 : a0 ≤ 57
              ·rw [if_pos c20] at H
               have c20b0 : decide (a0 ≤ 57) = true := decide_eq_true c20; clear c20; obtain rfl := Option.some.inj H; go_wp2
               go_ret
               exact ⟨qc, qh⟩
              ·rw [if_neg c20] at H
               have c20b0 : decide (a0 ≤ 57) = false := decide_eq_false c20; clear c20; obtain rfl := Option.some.inj H; go_wp2
               go_ret
               exact ⟨qc, qh⟩
             ·rw [if_neg c19] at H
              have c19b0 : decide (48 ≤ a0) = false := decide_eq_false c19; clear c19; obtain rfl := Option.some.inj H; go_wp2
              go_ret
              exact ⟨qc, qh⟩
def zbG.f (a0 : Int) : Option (Int) := (some (([0, 1, 36, 2, 4, 4, 3, 6, 7, 9, 9, 8, 26, 27, 38, 28, 29, 30, 31, 32, 5, 39, 5, 40, 20, 21, 22, 23, 24, 25, 33, 34, 35, 37, 5] : List Int) : List Int)).bind fun y268 => (if a0 < 0 then (some 0) else (if a0 ≥ (y268.length : Int) then (some 0) else (if 0 ≤ a0 then (if a0 < (y268.length : Int) then (some (rd y268 a0)) else (none)) else (none))))
theorem zbG.calls (a0 : Int) (r : Int) (w : World) (h : zbG.f a0 = some r) :
  Calls Try.prog 34 #[.int .i64 a0] w fun e w' => e = .returned (.int .u8 r) ∧ Below w.heap.size w w' := by
 have HB := J (Below.refl w.heap.size w); have H : ((some (([0, 1, 36, 2, 4, 4, 3, 6, 7, 9, 9, 8, 26, 27, 38, 28, 29, 30, 31, 32, 5, 39, 5, 40, 20, 21, 22, 23, 24, 25, 33, 34, 35, 37, 5] : List Int) : List Int)).bind fun y268 => (if a0 < 0 then (some 0) else (if a0 ≥ (y268.length : Int) then (some 0) else (if 0 ≤ a0 then (if a0 < (y268.length : Int) then (some (rd y268 a0)) else (none)) else (none))))) = some r := h
 clear h; obtain ⟨y268, hy268⟩ : ∃ y_ : List Int, y_ = (([0, 1, 36, 2, 4, 4, 3, 6, 7, 9, 9, 8, 26, 27, 38, 28, 29, 30, 31, 32, 5, 39, 5, 40, 20, 21, 22, 23, 24, 25, 33, 34, 35, 37, 5] : List Int)) := ⟨_, rfl⟩; replace H : (if a0 < 0 then (some 0) else (if a0 ≥ (y268.length : Int) then (some 0) else (if 0 ≤ a0 then (if a0 < (y268.length : Int) then (some (rd y268 a0)) else (none)) else (none)))) = some r := by first | (rw [hy268]; with_reducible exact H) | (have H2_ := (Option.bind_some _ _).symm.trans H; rw [hy268]; with_reducible exact H2_) | (have H2_ := (Option.bind_some _ _).symm.trans H; with_reducible exact H2_) | with_reducible exact H | (rw [hy268]; exact H) | exact H
 have Ny268 := J hy268; clear hy268; by_cases c2 : a0 < 0
 ·rw [if_pos c2] at H
  have c2b0 : decide (a0 < 0) = true := decide_eq_true c2; clear c2; obtain rfl := Option.some.inj H; go_enter Try.func34, Try.ntmps34
  go_wp2_with (first | ((with_reducible refine za2 (N := 4) rfl ?_); (try (refine zbJ (by rfl) ?_; dsimp only)); refine Kd.R_lit (Kd.int .u8) _ 5 ?hg (N := 4) ?hd (xs := ([0, 1, 36, 2, 4, 4, 3, 6, 7, 9, 9, 8, 26, 27, 38, 28, 29, 30, 31, 32, 5, 39, 5, 40, 20, 21, 22, 23, 24, 25, 33, 34, 35, 37, 5] : List Int)) (inner := [.int .u8 0, .int .u8 1, .int .u8 36, .int .u8 2, .int .u8 4, .int .u8 4, .int .u8 3, .int .u8 6, .int .u8 7, .int .u8 9, .int .u8 9, .int .u8 8, .int .u8 26, .int .u8 27, .int .u8 38, .int .u8 28, .int .u8 29, .int .u8 30, .int .u8 31, .int .u8 32, .int .u8 5, .int .u8 39, .int .u8 5, .int .u8 40, .int .u8 20, .int .u8 21, .int .u8 22, .int .u8 23, .int .u8 24, .int .u8 25, .int .u8 33, .int .u8 34, .int .u8 35, .int .u8 37, .int .u8 5]) (ok := fun _ => True) (okp := fun _ => True) ?hr ?hp (fun _ hk => hk) trivial (Below.refl _ _) (Nat.le_refl _) qf ?_; (case hd => rfl); (case hg => rfl); (case hr => first | (go_simp; done) | (go_simp; rfl)); (case hp => exact (Reps.one (show Kd.M (Kd.int .u8) _ _ _ 0 [.int .u8 0] from rfl) (Reps.one (show Kd.M (Kd.int .u8) _ _ _ 1 [.int .u8 1] from rfl) (Reps.one (show Kd.M (Kd.int .u8) _ _ _ 36 [.int .u8 36] from rfl) (Reps.one (show Kd.M (Kd.int .u8) _ _ _ 2 [.int .u8 2] from rfl) (Reps.one (show Kd.M (Kd.int .u8) _ _ _ 4 [.int .u8 4] from rfl) (Reps.one (show Kd.M (Kd.int .u8) _ _ _ 4 [.int .u8 4] from rfl) (Reps.one (show Kd.M (Kd.int .u8) _ _ _ 3 [.int .u8 3] from rfl) (Reps.one (show Kd.M (Kd.int .u8) _ _ _ 6 [.int .u8 6] from rfl) (Reps.one (show Kd.M (Kd.int .u8) _ _ _ 7 [.int .u8 7] from rfl) (Reps.one (show Kd.M (Kd.int .u8) _ _ _ 9 [.int .u8 9] from rfl) (Reps.one (show Kd.M (Kd.int .u8) _ _ _ 9 [.int .u8 9] from rfl) (Reps.one (show Kd.M (Kd.int .u8) _ _ _ 8 [.int .u8 8] from rfl) (Reps.one (show Kd.M (Kd.int .u8) _ _ _ 26 [.int .u8 26] from rfl) (Reps.one (show Kd.M (Kd.int .u8) _ _ _ 27 [.int .u8 27] from rfl) (Reps.one (show Kd.M (Kd.int .u8) _ _ _ 38 [.int .u8 38] from rfl) (Reps.one (show Kd.M (Kd.int .u8) _ _ _ 28 [.int .u8 28] from rfl) (Reps.one (show Kd.M (Kd.int .u8) _ _ _ 29 [.int .u8 29] from rfl) (Reps.one (show Kd.M (Kd.int .u8) _ _ _ 30 [.int .u8 30] from rfl) (Reps.one (show Kd.M (Kd.int .u8) _ _ _ 31 [.int .u8 31] from rfl) (Reps.one (show Kd.M (Kd.int .u8) _ _ _ 32 [.int .u8 32] from rfl) (Reps.one (show Kd.M (Kd.int .u8) _ _ _ 5 [.int .u8 5] from rfl) (Reps.one (show Kd.M (Kd.int .u8) _ _ _ 39 [.int .u8 39] from rfl) (Reps.one (show Kd.M (Kd.int .u8) _ _ _ 5 [.int .u8 5] from rfl) (Reps.one (show Kd.M (Kd.int .u8) _ _ _ 40 [.int .u8 40] from rfl) (Reps.one (show Kd.M (Kd.int .u8) _ _ _ 20 [.int .u8 20] from rfl) (Reps.one (show Kd.M (Kd.int .u8) _ _ _ 21 [.int .u8 21] from rfl) (Reps.one (show Kd.M (Kd.int .u8) _ _ _ 22 [.int .u8 22] from rfl) (Reps.one (show Kd.M (Kd.int .u8) _ _ _ 23 [.int .u8 23] from rfl) (Reps.one (show Kd.M (Kd.int .u8) _ _ _ 24 [.int .u8 24] from rfl) (Reps.one (show Kd.M (Kd.int .u8) _ _ _ 25 [.int .u8 25] from rfl) (Reps.one (show Kd.M (Kd.int .u8) _ _ _ 33 [.int .u8 33] from rfl) (Reps.one (show Kd.M (Kd.int .u8) _ _ _ 34 [.int .u8 34] from rfl) (Reps.one (show Kd.M (Kd.int .u8) _ _ _ 35 [.int .u8 35] from rfl) (Reps.one (show Kd.M (Kd.int .u8) _ _ _ 37 [.int .u8 37] from rfl) (Reps.one (show Kd.M (Kd.int .u8) _ _ _ 5 [.int .u8 5] from rfl) (Reps.none _ _))))))))))))))))))))))))))))))))))))); intro v269 w3 ho4 hb hg_ hnew_; clear hg_ hnew_; (first | rw [← Ny268.out] at ho4 | (simp only [Int.reduceToNat] at ho4; rw [← Ny268.out] at ho4)); have n0_ := J (Kd.zbz ho4 (zav qa)); have n1_ := J (zak qa hb); clear HB; have HO270 := n0_; have HB := n1_; clear n0_ n1_; clear hb ho4))
  go_ret
  exact ⟨qg, qa⟩
 ·rw [if_neg c2] at H
  have c2b0 : decide (a0 < 0) = false := decide_eq_false c2; clear c2; by_cases c5 : a0 ≥ (y268.length : Int)
  ·rw [if_pos c5] at H
   have c5b0 : decide ((y268.length : Int) ≤ a0) = true := decide_eq_true c5; clear c5; obtain rfl := Option.some.inj H; go_enter Try.func34, Try.ntmps34
   go_wp2_with (first | ((with_reducible refine za2 (N := 4) rfl ?_); (try (refine zbJ (by rfl) ?_; dsimp only)); refine Kd.R_lit (Kd.int .u8) _ 5 ?hg (N := 4) ?hd (xs := ([0, 1, 36, 2, 4, 4, 3, 6, 7, 9, 9, 8, 26, 27, 38, 28, 29, 30, 31, 32, 5, 39, 5, 40, 20, 21, 22, 23, 24, 25, 33, 34, 35, 37, 5] : List Int)) (inner := [.int .u8 0, .int .u8 1, .int .u8 36, .int .u8 2, .int .u8 4, .int .u8 4, .int .u8 3, .int .u8 6, .int .u8 7, .int .u8 9, .int .u8 9, .int .u8 8, .int .u8 26, .int .u8 27, .int .u8 38, .int .u8 28, .int .u8 29, .int .u8 30, .int .u8 31, .int .u8 32, .int .u8 5, .int .u8 39, .int .u8 5, .int .u8 40, .int .u8 20, .int .u8 21, .int .u8 22, .int .u8 23, .int .u8 24, .int .u8 25, .int .u8 33, .int .u8 34, .int .u8 35, .int .u8 37, .int .u8 5]) (ok := fun _ => True) (okp := fun _ => True) ?hr ?hp (fun _ hk => hk) trivial (Below.refl _ _) (Nat.le_refl _) qf ?_; (case hd => rfl); (case hg => rfl); (case hr => first | (go_simp; done) | (go_simp; rfl)); (case hp => exact (Reps.one (show Kd.M (Kd.int .u8) _ _ _ 0 [.int .u8 0] from rfl) (Reps.one (show Kd.M (Kd.int .u8) _ _ _ 1 [.int .u8 1] from rfl) (Reps.one (show Kd.M (Kd.int .u8) _ _ _ 36 [.int .u8 36] from rfl) (Reps.one (show Kd.M (Kd.int .u8) _ _ _ 2 [.int .u8 2] from rfl) (Reps.one (show Kd.M (Kd.int .u8) _ _ _ 4 [.int .u8 4] from rfl) (Reps.one (show Kd.M (Kd.int .u8) _ _ _ 4 [.int .u8 4] from rfl) (Reps.one (show Kd.M (Kd.int .u8) _ _ _ 3 [.int .u8 3] from rfl) (Reps.one (show Kd.M (Kd.int .u8) _ _ _ 6 [.int .u8 6] from rfl) (Reps.one (show Kd.M (Kd.int .u8) _ _ _ 7 [.int .u8 7] from rfl) (Reps.one (show Kd.M (Kd.int .u8) _ _ _ 9 [.int .u8 9] from rfl) (Reps.one (show Kd.M (Kd.int .u8) _ _ _ 9 [.int .u8 9] from rfl) (Reps.one (show Kd.M (Kd.int .u8) _ _ _ 8 [.int .u8 8] from rfl) (Reps.one (show Kd.M (Kd.int .u8) _ _ _ 26 [.int .u8 26] from rfl) (Reps.one (show Kd.M (Kd.int .u8) _ _ _ 27 [.int .u8 27] from rfl) (Reps.one (show Kd.M (Kd.int .u8) _ _ _ 38 [.int .u8 38] from rfl) (Reps.one (show Kd.M (Kd.int .u8) _ _ _ 28 [.int .u8 28] from rfl) (Reps.one (show Kd.M (Kd.int .u8) _ _ _ 29 [.int .u8 29] from rfl) (Reps.one (show Kd.M (Kd.int .u8) _ _ _ 30 [.int .u8 30] from rfl) (Reps.one (show Kd.M (Kd.int .u8) _ _ _ 31 [.int .u8 31] from rfl) (Reps.one (show Kd.M (Kd.int .u8) _ _ _ 32 [.int .u8 32] from rfl) (Reps.one (show Kd.M (Kd.int .u8) _ _ _ 5 [.int .u8 5] from rfl) (Reps.one (show Kd.M (Kd.int .u8) _ _ _ 39 [.int .u8 39] from rfl) (Reps.one (show Kd.M (Kd.int .u8) _ _ _ 5 [.int .u8 5] from rfl) (Reps.one (show Kd.M (Kd.int .u8) _ _ _ 40 [.int .u8 40] from rfl) (Reps.one (show Kd.M (Kd.int .u8) _ _ _ 20 [.int .u8 20] from rfl) (Reps.one (show Kd.M (Kd.int .u8) _ _ _ 21 [.int .u8 21] from rfl) (Reps.one (show Kd.M (Kd.int .u8) _ _ _ 22 [.int .u8 22] from rfl) (Reps.one (show Kd.M (Kd.int .u8) _ _ _ 23 [.int .u8 23] from rfl) (Reps.one (show Kd.M (Kd.int .u8) _ _ _ 24 [.int .u8 24] from rfl) (Reps.one (show Kd.M (Kd.int .u8) _ _ _ 25 [.int .u8 25] from rfl) (Reps.one (show Kd.M (Kd.int .u8) _ _ _ 33 [.int .u8 33] from rfl) (Reps.one (show Kd.M (Kd.int .u8) _ _ _ 34 [.int .u8 34] from rfl) (Reps.one (show Kd.M (Kd.int .u8) _ _ _ 35 [.int .u8 35] from rfl) (Reps.one (show Kd.M (Kd.int .u8) _ _ _ 37 [.int .u8 37] from rfl) (Reps.one (show Kd.M (Kd.int .u8) _ _ _ 5 [.int .u8 5] from rfl) (Reps.none _ _))))))))))))))))))))))))))))))))))))); intro v269 w6 ho7 hb hg_ hnew_; clear hg_ hnew_; (first | rw [← Ny268.out] at ho7 | (simp only [Int.reduceToNat] at ho7; rw [← Ny268.out] at ho7)); have n0_ := J (Kd.zbz ho7 (zav qa)); have n1_ := J (zak qa hb); clear HB; have HO270 := n0_; have HB := n1_; clear n0_ n1_; clear hb ho7; obtain ⟨Ao8, co8, eo8⟩ := Kd.za4 HO270.out; subst eo8))
   go_ret
   exact ⟨qg, qa⟩
  ·rw [if_neg c5] at H
   have c5b0 : decide ((y268.length : Int) ≤ a0) = false := decide_eq_false c5; clear c5; by_cases c9 : 0 ≤ a0
   ·rw [if_pos c9] at H
    have c9b0 : decide (0 ≤ a0) = true := decide_eq_true c9; clear c9; by_cases c10 : a0 < (y268.length : Int)
    ·rw [if_pos c10] at H
     have c10b0 : decide (a0 < (y268.length : Int)) = true := decide_eq_true c10; clear c10; obtain rfl := Option.some.inj H; go_enter Try.func34, Try.ntmps34
     go_wp2_with (first | ((with_reducible refine za2 (N := 4) rfl ?_); (try (refine zbJ (by rfl) ?_; dsimp only)); refine Kd.R_lit (Kd.int .u8) _ 5 ?hg (N := 4) ?hd (xs := ([0, 1, 36, 2, 4, 4, 3, 6, 7, 9, 9, 8, 26, 27, 38, 28, 29, 30, 31, 32, 5, 39, 5, 40, 20, 21, 22, 23, 24, 25, 33, 34, 35, 37, 5] : List Int)) (inner := [.int .u8 0, .int .u8 1, .int .u8 36, .int .u8 2, .int .u8 4, .int .u8 4, .int .u8 3, .int .u8 6, .int .u8 7, .int .u8 9, .int .u8 9, .int .u8 8, .int .u8 26, .int .u8 27, .int .u8 38, .int .u8 28, .int .u8 29, .int .u8 30, .int .u8 31, .int .u8 32, .int .u8 5, .int .u8 39, .int .u8 5, .int .u8 40, .int .u8 20, .int .u8 21, .int .u8 22, .int .u8 23, .int .u8 24, .int .u8 25, .int .u8 33, .int .u8 34, .int .u8 35, .int .u8 37, .int .u8 5]) (ok := fun _ => True) (okp := fun _ => True) ?hr ?hp (fun _ hk => hk) trivial (Below.refl _ _) (Nat.le_refl _) qf ?_; (case hd => rfl); (case hg => rfl); (case hr => first | (go_simp; done) | (go_simp; rfl)); (case hp => exact (Reps.one (show Kd.M (Kd.int .u8) _ _ _ 0 [.int .u8 0] from rfl) (Reps.one (show Kd.M (Kd.int .u8) _ _ _ 1 [.int .u8 1] from rfl) (Reps.one (show Kd.M (Kd.int .u8) _ _ _ 36 [.int .u8 36] from rfl) (Reps.one (show Kd.M (Kd.int .u8) _ _ _ 2 [.int .u8 2] from rfl) (Reps.one (show Kd.M (Kd.int .u8) _ _ _ 4 [.int .u8 4] from rfl) (Reps.one (show Kd.M (Kd.int .u8) _ _ _ 4 [.int .u8 4] from rfl) (Reps.one (show Kd.M (Kd.int .u8) _ _ _ 3 [.int .u8 3] from rfl) (Reps.one (show Kd.M (Kd.int .u8) _ _ _ 6 [.int .u8 6] from rfl) (Reps.one (show Kd.M (Kd.int .u8) _ _ _ 7 [.int .u8 7] from rfl) (Reps.one (show Kd.M (Kd.int .u8) _ _ _ 9 [.int .u8 9] from rfl) (Reps.one (show Kd.M (Kd.int .u8) _ _ _ 9 [.int .u8 9] from rfl) (Reps.one (show Kd.M (Kd.int .u8) _ _ _ 8 [.int .u8 8] from rfl) (Reps.one (show Kd.M (Kd.int .u8) _ _ _ 26 [.int .u8 26] from rfl) (Reps.one (show Kd.M (Kd.int .u8) _ _ _ 27 [.int .u8 27] from rfl) (Reps.one (show Kd.M (Kd.int .u8) _ _ _ 38 [.int .u8 38] from rfl) (Reps.one (show Kd.M (Kd.int .u8) _ _ _ 28 [.int .u8 28] from rfl) (Reps.one (show Kd.M (Kd.int .u8) _ _ _ 29 [.int .u8 29] from rfl) (Reps.one (show Kd.M (Kd.int .u8) _ _ _ 30 [.int .u8 30] from rfl) (Reps.one (show Kd.M (Kd.int .u8) _ _ _ 31 [.int .u8 31] from rfl) (Reps.one (show Kd.M (Kd.int .u8) _ _ _ 32 [.int .u8 32] from rfl) (Reps.one (show Kd.M (Kd.int .u8) _ _ _ 5 [.int .u8 5] from rfl) (Reps.one (show Kd.M (Kd.int .u8) _ _ _ 39 [.int .u8 39] from rfl) (Reps.one (show Kd.M (Kd.int .u8) _ _ _ 5 [.int .u8 5] from rfl) (Reps.one (show Kd.M (Kd.int .u8) _ _ _ 40 [.int .u8 40] from rfl) (Reps.one (show Kd.M (Kd.int .u8) _ _ _ 20 [.int .u8 20] from rfl) (Reps.one (show Kd.M (Kd.int .u8) _ _ _ 21 [.int .u8 21] from rfl) (Reps.one (show Kd.M (Kd.int .u8) _ _ _ 22 [.int .u8 22] from rfl) (Reps.one (show Kd.M (Kd.int .u8) _ _ _ 23 [.int .u8 23] from rfl) (Reps.one (show Kd.M (Kd.int .u8) _ _ _ 24 [.int .u8 24] from rfl) (Reps.one (show Kd.M (Kd.int .u8) _ _ _ 25 [.int .u8 25] from rfl) (Reps.one (show Kd.M (Kd.int .u8) _ _ _ 33 [.int .u8 33] from rfl) (Reps.one (show Kd.M (Kd.int .u8) _ _ _ 34 [.int .u8 34] from rfl) (Reps.one (show Kd.M (Kd.int .u8) _ _ _ 35 [.int .u8 35] from rfl) (Reps.one (show Kd.M (Kd.int .u8) _ _ _ 37 [.int .u8 37] from rfl) (Reps.one (show Kd.M (Kd.int .u8) _ _ _ 5 [.int .u8 5] from rfl) (Reps.none _ _))))))))))))))))))))))))))))))))))))); intro v269 w11 ho12 hb hg_ hnew_; clear hg_ hnew_; (first | rw [← Ny268.out] at ho12 | (simp only [Int.reduceToNat] at ho12; rw [← Ny268.out] at ho12)); have n0_ := J (Kd.zbz ho12 (zav qa)); have n1_ := J (zak qa hb); clear HB; have HO270 := n0_; have HB := n1_; clear n0_ n1_; clear hb ho12; obtain ⟨Ao13, co13, eo13⟩ := Kd.za4 HO270.out; subst eo13; have p271 : 0 ≤ (a0 : Int) := of_decide_eq_true qd; have q271 : a0 < (y268.length : Int) := of_decide_eq_true qd; obtain ⟨ad271, e271, hx271_0⟩ := Kd.at_int (Kd.zbk HO270.out).2.2 a0 p271 q271; cases e271; replace p271 := eq_true p271; replace q271 := eq_true q271))
     go_ret
     exact ⟨qg, qa⟩
    ·rw [if_neg c10] at H
     exact absurd H qf
   ·rw [if_neg c9] at H
    exact absurd H qf
mutual
def zaJ.l0 : Nat → ByteArray → Int → Option (Int)
 | 0, _, _ => none
 | k + 1, x0, x3 => if x3 < (x0.size : Int) then (if 0 ≤ x3 then ((zam.f k (wrap32 (bt x0 x3))).bind fun t272 => (if t272 = 3 then (if x3 = 0 then (if t272 = 4 then (some 0) else (zaJ.l0 k x0 (wrap64 (x3 + 1)))) else (zaJ.l0 k x0 (wrap64 (x3 + 1)))) else (if t272 = 4 then (if x3 = 0 then (some 0) else (zaJ.l0 k x0 (wrap64 (x3 + 1)))) else (some 0)))) else (none)) else (zaJ.l1 k x0 (([(⟨#[108, 101, 116]⟩ : ByteArray), (⟨#[102, 110]⟩ : ByteArray), (⟨#[105, 102]⟩ : ByteArray), (⟨#[101, 108, 115, 101]⟩ : ByteArray), (⟨#[119, 104, 105, 108, 101]⟩ : ByteArray), (⟨#[114, 101, 116, 117, 114, 110]⟩ : ByteArray), (⟨#[116, 114, 117, 101]⟩ : ByteArray), (⟨#[102, 97, 108, 115, 101]⟩ : ByteArray)] : List ByteArray)) 0)
def zaJ.l1 : Nat → ByteArray → List ByteArray → Int → Option (Int)
 | 0, _, _, _ => none
 | k + 1, x0, x5, x6 => if x6 < (x5.length : Int) then (if 0 ≤ x6 then (if x0.toList = (rdOf ByteArray.empty x5 x6).toList then (some ((wrap64 (10 + x6)) % 256)) else (zaJ.l1 k x0 x5 (wrap64 (x6 + 1)))) else (none)) else (some 6)
end
def zaJ.f (k : Nat) (a0 : ByteArray) : Option (Int) := if a0.toList = ([] : List UInt8) then (some 0) else (zaJ.l0 k a0 0)
theorem zaJ.calls (k : Nat) (a0 : ByteArray) (r : Int) (w : World) (h : zaJ.f k a0 = some r) :
  Calls Try.prog 35 #[.string a0] w fun e w' => e = .returned (.int .u8 r) ∧ Below w.heap.size w w' := by
 have HB := J (Below.refl w.heap.size w); have H : (if a0.toList = ([] : List UInt8) then (some 0) else (zaJ.l0 k a0 0)) = some r := h
 clear h; by_cases c2 : a0.toList = ([] : List UInt8)
 ·rw [if_pos c2] at H
  have c2b0 : (a0.toList == ([] : List UInt8)) = true := beq_iff_eq.mpr c2; have c2b1 : (a0.toList != ([] : List UInt8)) = false := bne_eq_false_iff_eq.mpr c2; clear c2; obtain rfl := Option.some.inj H; go_enter Try.func35, Try.ntmps35
  go_wp2
  go_ret
  exact ⟨qg, qa⟩
 ·rw [if_neg c2] at H
  have c2b0 : (a0.toList == ([] : List UInt8)) = false := beq_eq_false_iff_ne.mpr c2; have c2b1 : (a0.toList != ([] : List UInt8)) = true := bne_iff_ne.mpr c2; have H' := J H; clear H; go_enter Try.func35, Try.ntmps35
  go_wp2
  go_loopg [3] k (fun kq v3 w' => ∃ (x3_1 : Int), v3 = .int .i64 x3_1 ∧ zaa (zaJ.l0 kq a0 x3_1 = some r) ∧ zaa (kq ≤ k) ∧ zaa (Below w.heap.size w w'))
  case atStart => exact ⟨(0), qc, H', ⟨Nat.le_refl _⟩, ⟨qa⟩⟩
  case round =>
   clear H'; try clear c2
   try clear c2b0
   try clear c2b1
   try clear p2
   obtain ⟨x3_1, rfl, HA, HK1, HB⟩ := hrel; cases gk with
   | zero => exact absurd HA.out (by simp [zaJ.l0])
   | succ k1 =>
    have H := HA.out; clear HA; simp only [zaJ.l0] at H; by_cases c3 : x3_1 < (a0.size : Int)
    ·rw [if_pos c3] at H
     have c3b0 : decide (x3_1 < (a0.size : Int)) = true := decide_eq_true c3; clear c3; by_cases c4 : 0 ≤ x3_1
     ·rw [if_pos c4] at H
      have c4b0 : decide (0 ≤ x3_1) = true := decide_eq_true c4; clear c4; replace H := Option.bind_eq_some_iff.mp H; obtain ⟨t272, A60, H⟩ := H; replace H : (if t272 = 3 then (if x3_1 = 0 then (if t272 = 4 then (some 0) else (zaJ.l0 k1 a0 (wrap64 (x3_1 + 1)))) else (zaJ.l0 k1 a0 (wrap64 (x3_1 + 1)))) else (if t272 = 4 then (if x3_1 = 0 then (some 0) else (zaJ.l0 k1 a0 (wrap64 (x3_1 + 1)))) else (some 0))) = some r := H
      have A6 := J A60; clear A60; by_cases c7 : t272 = 3
      ·rw [if_pos c7] at H
       have c7b0 : (t272 == 3) = true := beq_iff_eq.mpr c7; have c7b1 : (t272 != 3) = false := bne_eq_false_iff_eq.mpr c7; clear c7; by_cases c8 : x3_1 = 0
       ·rw [if_pos c8] at H
        have c8b0 : (x3_1 == 0) = true := beq_iff_eq.mpr c8; have c8b1 : (x3_1 != 0) = false := bne_eq_false_iff_eq.mpr c8; clear c8; by_cases c9 : t272 = 4
        ·rw [if_pos c9] at H
         have c9b0 : (t272 == 4) = true := beq_iff_eq.mpr c9; have c9b1 : (t272 != 4) = false := bne_eq_false_iff_eq.mpr c9; clear c9; obtain rfl := Option.some.inj H; have p5 : 0 ≤ (x3_1 : Int) := of_decide_eq_true qd
         have q5 : x3_1 < (a0.size : Int) := of_decide_eq_true qd
         have hx5 := bt_at a0 x3_1; replace p5 := eq_true p5; replace q5 := eq_true q5; go_wp2_with (first | ((with_reducible refine zaK (f := 33) rfl ?_); refine zbc (some 19) rfl rfl Try.func33 qb rfl #[.int .i32 (wrap32 (bt a0 x3_1))] rfl qi ?_; (with_reducible refine (zam.calls k1 (wrap32 (bt a0 x3_1)) t272 _ A6.out).mono ?_); rintro e w' ⟨rfl, ⟨nd, rfl⟩⟩; refine ⟨_, rfl, ?_⟩))
         go_ret
         exact ⟨qg, qa⟩
        ·rw [if_neg c9] at H
         have c9b0 : (t272 == 4) = false := beq_eq_false_iff_ne.mpr c9; have c9b1 : (t272 != 4) = true := bne_iff_ne.mpr c9; have H' := J H; clear H; have p5 : 0 ≤ (x3_1 : Int) := of_decide_eq_true qd
         have q5 : x3_1 < (a0.size : Int) := of_decide_eq_true qd
         have hx5 := bt_at a0 x3_1; replace p5 := eq_true p5; replace q5 := eq_true q5; go_wp2_with (first | ((with_reducible refine zaK (f := 33) rfl ?_); refine zbc (some 19) rfl rfl Try.func33 qb rfl #[.int .i32 (wrap32 (bt a0 x3_1))] rfl qi ?_; (with_reducible refine (zam.calls k1 (wrap32 (bt a0 x3_1)) t272 _ A6.out).mono ?_); rintro e w' ⟨rfl, ⟨nd, rfl⟩⟩; refine ⟨_, rfl, ?_⟩))
         go_roundg k1
         case measure => have := HK1.out; omega
         case rel => exact ⟨(wrap64 (x3_1 + 1)), qc, H', ⟨qx⟩, ⟨qa⟩⟩
       ·rw [if_neg c8] at H
        have c8b0 : (x3_1 == 0) = false := beq_eq_false_iff_ne.mpr c8; have c8b1 : (x3_1 != 0) = true := bne_iff_ne.mpr c8; have H' := J H; clear H; have p5 : 0 ≤ (x3_1 : Int) := of_decide_eq_true qd
        have q5 : x3_1 < (a0.size : Int) := of_decide_eq_true qd
        have hx5 := bt_at a0 x3_1; replace p5 := eq_true p5; replace q5 := eq_true q5; go_wp2_with (first | ((with_reducible refine zaK (f := 33) rfl ?_); refine zbc (some 19) rfl rfl Try.func33 qb rfl #[.int .i32 (wrap32 (bt a0 x3_1))] rfl qi ?_; (with_reducible refine (zam.calls k1 (wrap32 (bt a0 x3_1)) t272 _ A6.out).mono ?_); rintro e w' ⟨rfl, ⟨nd, rfl⟩⟩; refine ⟨_, rfl, ?_⟩))
        go_roundg k1
        case measure => have := HK1.out; omega
        case rel => exact ⟨(wrap64 (x3_1 + 1)), qc, H', ⟨qx⟩, ⟨qa⟩⟩
      ·rw [if_neg c7] at H
       have c7b0 : (t272 == 3) = false := beq_eq_false_iff_ne.mpr c7; have c7b1 : (t272 != 3) = true := bne_iff_ne.mpr c7; by_cases c10 : t272 = 4
       ·rw [if_pos c10] at H
        have c10b0 : (t272 == 4) = true := beq_iff_eq.mpr c10; have c10b1 : (t272 != 4) = false := bne_eq_false_iff_eq.mpr c10; clear c10; by_cases c11 : x3_1 = 0
        ·rw [if_pos c11] at H
         have c11b0 : (x3_1 == 0) = true := beq_iff_eq.mpr c11; have c11b1 : (x3_1 != 0) = false := bne_eq_false_iff_eq.mpr c11; clear c11; obtain rfl := Option.some.inj H; have p5 : 0 ≤ (x3_1 : Int) := of_decide_eq_true qd
         have q5 : x3_1 < (a0.size : Int) := of_decide_eq_true qd
         have hx5 := bt_at a0 x3_1; replace p5 := eq_true p5; replace q5 := eq_true q5; go_wp2_with (first | ((with_reducible refine zaK (f := 33) rfl ?_); refine zbc (some 19) rfl rfl Try.func33 qb rfl #[.int .i32 (wrap32 (bt a0 x3_1))] rfl qi ?_; (with_reducible refine (zam.calls k1 (wrap32 (bt a0 x3_1)) t272 _ A6.out).mono ?_); rintro e w' ⟨rfl, ⟨nd, rfl⟩⟩; refine ⟨_, rfl, ?_⟩))
         go_ret
         exact ⟨qg, qa⟩
        ·rw [if_neg c11] at H
         have c11b0 : (x3_1 == 0) = false := beq_eq_false_iff_ne.mpr c11; have c11b1 : (x3_1 != 0) = true := bne_iff_ne.mpr c11; have H' := J H; clear H; have p5 : 0 ≤ (x3_1 : Int) := of_decide_eq_true qd
         have q5 : x3_1 < (a0.size : Int) := of_decide_eq_true qd
         have hx5 := bt_at a0 x3_1; replace p5 := eq_true p5; replace q5 := eq_true q5; go_wp2_with (first | ((with_reducible refine zaK (f := 33) rfl ?_); refine zbc (some 19) rfl rfl Try.func33 qb rfl #[.int .i32 (wrap32 (bt a0 x3_1))] rfl qi ?_; (with_reducible refine (zam.calls k1 (wrap32 (bt a0 x3_1)) t272 _ A6.out).mono ?_); rintro e w' ⟨rfl, ⟨nd, rfl⟩⟩; refine ⟨_, rfl, ?_⟩))
         go_roundg k1
         case measure => have := HK1.out; omega
         case rel => exact ⟨(wrap64 (x3_1 + 1)), qc, H', ⟨qx⟩, ⟨qa⟩⟩
       ·rw [if_neg c10] at H
        have c10b0 : (t272 == 4) = false := beq_eq_false_iff_ne.mpr c10; have c10b1 : (t272 != 4) = true := bne_iff_ne.mpr c10; obtain rfl := Option.some.inj H; have p5 : 0 ≤ (x3_1 : Int) := of_decide_eq_true qd
        have q5 : x3_1 < (a0.size : Int) := of_decide_eq_true qd
        have hx5 := bt_at a0 x3_1; replace p5 := eq_true p5; replace q5 := eq_true q5; go_wp2_with (first | ((with_reducible refine zaK (f := 33) rfl ?_); refine zbc (some 19) rfl rfl Try.func33 qb rfl #[.int .i32 (wrap32 (bt a0 x3_1))] rfl qi ?_; (with_reducible refine (zam.calls k1 (wrap32 (bt a0 x3_1)) t272 _ A6.out).mono ?_); rintro e w' ⟨rfl, ⟨nd, rfl⟩⟩; refine ⟨_, rfl, ?_⟩))
        go_ret
        exact ⟨qg, qa⟩
     ·rw [if_neg c4] at H
      exact absurd H qf
    ·rw [if_neg c3] at H
     have c3b0 : decide (x3_1 < (a0.size : Int)) = false := decide_eq_false c3; clear c3; obtain ⟨y273, hy273⟩ : ∃ y_ : List ByteArray, y_ = (([(⟨#[108, 101, 116]⟩ : ByteArray), (⟨#[102, 110]⟩ : ByteArray), (⟨#[105, 102]⟩ : ByteArray), (⟨#[101, 108, 115, 101]⟩ : ByteArray), (⟨#[119, 104, 105, 108, 101]⟩ : ByteArray), (⟨#[114, 101, 116, 117, 114, 110]⟩ : ByteArray), (⟨#[116, 114, 117, 101]⟩ : ByteArray), (⟨#[102, 97, 108, 115, 101]⟩ : ByteArray)] : List ByteArray)) := ⟨_, rfl⟩; replace H : (zaJ.l1 k1 a0 y273 0) = some r := by first | (rw [hy273]; with_reducible exact H) | (have H2_ := (Option.bind_some _ _).symm.trans H; rw [hy273]; with_reducible exact H2_) | (have H2_ := (Option.bind_some _ _).symm.trans H; with_reducible exact H2_) | with_reducible exact H | (rw [hy273]; exact H) | exact H
     have Ny273 := J hy273; clear hy273; have H' := J H; clear H; go_wp2_with (first | ((with_reducible refine za2 (N := 34) rfl ?_); refine Kd.R_lit Kd.string _ 9 ?hg (N := 34) ?hd (xs := ([(⟨#[108, 101, 116]⟩ : ByteArray), (⟨#[102, 110]⟩ : ByteArray), (⟨#[105, 102]⟩ : ByteArray), (⟨#[101, 108, 115, 101]⟩ : ByteArray), (⟨#[119, 104, 105, 108, 101]⟩ : ByteArray), (⟨#[114, 101, 116, 117, 114, 110]⟩ : ByteArray), (⟨#[116, 114, 117, 101]⟩ : ByteArray), (⟨#[102, 97, 108, 115, 101]⟩ : ByteArray)] : List ByteArray)) (inner := [.string (⟨#[108, 101, 116]⟩ : ByteArray), .string (⟨#[102, 110]⟩ : ByteArray), .string (⟨#[105, 102]⟩ : ByteArray), .string (⟨#[101, 108, 115, 101]⟩ : ByteArray), .string (⟨#[119, 104, 105, 108, 101]⟩ : ByteArray), .string (⟨#[114, 101, 116, 117, 114, 110]⟩ : ByteArray), .string (⟨#[116, 114, 117, 101]⟩ : ByteArray), .string (⟨#[102, 97, 108, 115, 101]⟩ : ByteArray)]) (ok := fun _ => True) (okp := fun _ => True) ?hr ?hp (fun _ hk => hk) trivial (Below.refl _ _) (Nat.le_refl _) qf ?_; (case hd => rfl); (case hg => rfl); (case hr => first | (go_simp; done) | (go_simp; rfl)); (case hp => exact (Reps.one (show Kd.M Kd.string _ _ _ (⟨#[108, 101, 116]⟩ : ByteArray) [.string (⟨#[108, 101, 116]⟩ : ByteArray)] from rfl) (Reps.one (show Kd.M Kd.string _ _ _ (⟨#[102, 110]⟩ : ByteArray) [.string (⟨#[102, 110]⟩ : ByteArray)] from rfl) (Reps.one (show Kd.M Kd.string _ _ _ (⟨#[105, 102]⟩ : ByteArray) [.string (⟨#[105, 102]⟩ : ByteArray)] from rfl) (Reps.one (show Kd.M Kd.string _ _ _ (⟨#[101, 108, 115, 101]⟩ : ByteArray) [.string (⟨#[101, 108, 115, 101]⟩ : ByteArray)] from rfl) (Reps.one (show Kd.M Kd.string _ _ _ (⟨#[119, 104, 105, 108, 101]⟩ : ByteArray) [.string (⟨#[119, 104, 105, 108, 101]⟩ : ByteArray)] from rfl) (Reps.one (show Kd.M Kd.string _ _ _ (⟨#[114, 101, 116, 117, 114, 110]⟩ : ByteArray) [.string (⟨#[114, 101, 116, 117, 114, 110]⟩ : ByteArray)] from rfl) (Reps.one (show Kd.M Kd.string _ _ _ (⟨#[116, 114, 117, 101]⟩ : ByteArray) [.string (⟨#[116, 114, 117, 101]⟩ : ByteArray)] from rfl) (Reps.one (show Kd.M Kd.string _ _ _ (⟨#[102, 97, 108, 115, 101]⟩ : ByteArray) [.string (⟨#[102, 97, 108, 115, 101]⟩ : ByteArray)] from rfl) (Reps.none _ _)))))))))); intro v274 w12 ho13 hb hg_ hnew_; clear hg_ hnew_; (first | rw [← Ny273.out] at ho13 | (simp only [Int.reduceToNat] at ho13; rw [← Ny273.out] at ho13)); have n0_ := J (Kd.zbz ho13 (zav qa)); have n1_ := J (zak qa hb); clear HB; have HO275 := n0_; have HB := n1_; clear n0_ n1_; clear hb ho13))
     go_loopg [6] k1 (fun kq v6 w' => ∃ (x6_2 : Int), v6 = .int .i64 x6_2 ∧ zaa (zaJ.l1 kq a0 y273 x6_2 = some r) ∧ zaa (kq ≤ k1) ∧ zaa (Kd.R Kd.string 9 w' w.heap.size (fun _ => True) v274 y273) ∧ zaa (Below w.heap.size w w'))
     case atStart => exact ⟨(0), qc, H', ⟨Nat.le_refl _⟩, ⟨by (with_reducible repeat (first | apply Kd.zbo | apply Kd.zbn | apply Kd.zbD)); exact HO275.out⟩, ⟨qa⟩⟩
     case round =>
      clear H'; try clear c1
      try clear c2
      try clear c2b0
      try clear c2b1
      try clear p2
      try clear c3
      try clear c3b0
      try clear p3
      try clear c4
      try clear c4b0
      try clear p5
      try clear q5
      try clear hx5
      try clear p6
      try clear c7
      try clear c7b0
      try clear c7b1
      try clear c8
      try clear c8b0
      try clear c8b1
      try clear c9
      try clear c9b0
      try clear c9b1
      try clear c10
      try clear c10b0
      try clear c10b1
      try clear c11
      try clear c11b0
      try clear c11b1
      try clear p2
      try clear p5
      try clear q5
      obtain ⟨x6_2, rfl, HA, HK2, HO_5, HB⟩ := hrel; cases gk with
      | zero => exact absurd HA.out (by simp [zaJ.l1])
      | succ k2 =>
       have H := HA.out; clear HA; simp only [zaJ.l1] at H; by_cases c14 : x6_2 < (y273.length : Int)
       ·rw [if_pos c14] at H
        have c14b0 : decide (x6_2 < (y273.length : Int)) = true := decide_eq_true c14; clear c14; by_cases c15 : 0 ≤ x6_2
        ·rw [if_pos c15] at H
         have c15b0 : decide (0 ≤ x6_2) = true := decide_eq_true c15; clear c15; by_cases c16 : a0.toList = (rdOf ByteArray.empty y273 x6_2).toList
         ·rw [if_pos c16] at H
          have c16b0 : (a0.toList == (rdOf ByteArray.empty y273 x6_2).toList) = true := beq_iff_eq.mpr c16; have c16b1 : (a0.toList != (rdOf ByteArray.empty y273 x6_2).toList) = false := bne_eq_false_iff_eq.mpr c16; clear c16; obtain rfl := Option.some.inj H; obtain ⟨Ao17, co17, eo17⟩ := Kd.za4 HO_5.out; subst eo17; have p276 : 0 ≤ (x6_2 : Int) := of_decide_eq_true qd
          have q276 : x6_2 < (y273.length : Int) := of_decide_eq_true qd
          obtain ⟨ad276, e276, hx276_0⟩ := Kd.at_string (Kd.zbk HO_5.out).2.2 x6_2 p276 q276; cases e276; replace p276 := eq_true p276; replace q276 := eq_true q276; go_wp2
          go_ret
          exact ⟨qg, qa⟩
         ·rw [if_neg c16] at H
          have c16b0 : (a0.toList == (rdOf ByteArray.empty y273 x6_2).toList) = false := beq_eq_false_iff_ne.mpr c16; have c16b1 : (a0.toList != (rdOf ByteArray.empty y273 x6_2).toList) = true := bne_iff_ne.mpr c16; have H' := J H; clear H; obtain ⟨Ao18, co18, eo18⟩ := Kd.za4 HO_5.out; subst eo18; have p276 : 0 ≤ (x6_2 : Int) := of_decide_eq_true qd
          have q276 : x6_2 < (y273.length : Int) := of_decide_eq_true qd
          obtain ⟨ad276, e276, hx276_0⟩ := Kd.at_string (Kd.zbk HO_5.out).2.2 x6_2 p276 q276; cases e276; replace p276 := eq_true p276; replace q276 := eq_true q276; go_wp2
          go_roundg k2
          case measure => have := HK1.out; have := HK2.out; omega
          case rel => exact ⟨(wrap64 (x6_2 + 1)), qc, H', ⟨by have := HK1.out; have := HK2.out; omega⟩, ⟨by (with_reducible repeat (first | apply Kd.zbo | apply Kd.zbn | apply Kd.zbD)); exact HO_5.out⟩, ⟨qa⟩⟩
        ·rw [if_neg c15] at H
         exact absurd H qf
       ·rw [if_neg c14] at H
        have c14b0 : decide (x6_2 < (y273.length : Int)) = false := decide_eq_false c14; clear c14; obtain rfl := Option.some.inj H; obtain ⟨Ao19, co19, eo19⟩ := Kd.za4 HO_5.out; subst eo19; go_wp2
        go_ret
        exact ⟨qg, qa⟩
def zaU.l0 : Nat → Int → Int → Option (Bool)
 | 0, _, _ => none
 | k + 1, x0, x3 => if x3 < 24 then ((zau.f k x0 x3).bind fun t277 => (if t277 ≥ 0 then (some false) else (zaU.l0 k x0 (wrap64 (x3 + 1))))) else (some true)
def zaU.f (k : Nat) (a0 : Int) : Option (Bool) := zaU.l0 k a0 0
theorem zaU.calls (k : Nat) (a0 : Int) (r : Bool) (w : World) (h : zaU.f k a0 = some r) :
  Calls Try.prog 36 #[.int .i64 a0] w fun e w' => e = .returned (.bool r) ∧ Below w.heap.size w w' := by
 have HB := J (Below.refl w.heap.size w); have H : (zaU.l0 k a0 0) = some r := h; clear h; have H' := J H; clear H; go_enter Try.func36, Try.ntmps36
 go_wp2
 go_loopg [3] k (fun kq v3 w' => ∃ (x3_1 : Int), v3 = .int .i64 x3_1 ∧ zaa (zaU.l0 kq a0 x3_1 = some r) ∧ zaa (kq ≤ k) ∧ zaa (Below w.heap.size w w'))
 case atStart => exact ⟨(0), qc, H', ⟨Nat.le_refl _⟩, ⟨qa⟩⟩
 case round =>
  clear H'; obtain ⟨x3_1, rfl, HA, HK1, HB⟩ := hrel; cases gk with
  | zero => exact absurd HA.out (by simp [zaU.l0])
  | succ k1 =>
   have H := HA.out; clear HA; simp only [zaU.l0] at H; by_cases c2 : x3_1 < 24
   ·rw [if_pos c2] at H
    have c2b0 : decide (x3_1 < 24) = true := decide_eq_true c2; clear c2; replace H := Option.bind_eq_some_iff.mp H; obtain ⟨t277, A30, H⟩ := H; replace H : (if t277 ≥ 0 then (some false) else (zaU.l0 k1 a0 (wrap64 (x3_1 + 1)))) = some r := H
    have A3 := J A30; clear A30; by_cases c4 : t277 ≥ 0
    ·rw [if_pos c4] at H
     have c4b0 : decide (0 ≤ t277) = true := decide_eq_true c4; clear c4; obtain rfl := Option.some.inj H; go_wp2_with (first | ((with_reducible refine zaK (f := 32) rfl ?_); refine zbc (some 10) rfl rfl Try.func32 qb rfl #[.int .i64 a0, .int .i64 x3_1] rfl qi ?_; (with_reducible refine (zau.calls k1 a0 x3_1 t277 _ A3.out).mono ?_); rintro e w5 ⟨rfl, hb⟩; refine ⟨_, rfl, ?_⟩; have n0_ := J (zak qa hb); clear HB; have HB := n0_; clear n0_; (try clear hb); (try clear hb2); (try clear hk); (try clear hi)))
     go_ret
     exact ⟨qg, qa⟩
    ·rw [if_neg c4] at H
     have c4b0 : decide (0 ≤ t277) = false := decide_eq_false c4; clear c4; have H' := J H; clear H; go_wp2_with (first | ((with_reducible refine zaK (f := 32) rfl ?_); refine zbc (some 10) rfl rfl Try.func32 qb rfl #[.int .i64 a0, .int .i64 x3_1] rfl qi ?_; (with_reducible refine (zau.calls k1 a0 x3_1 t277 _ A3.out).mono ?_); rintro e w6 ⟨rfl, hb⟩; refine ⟨_, rfl, ?_⟩; have n0_ := J (zak qa hb); clear HB; have HB := n0_; clear n0_; (try clear hb); (try clear hb2); (try clear hk); (try clear hi)))
     go_roundg k1
     case measure => have := HK1.out; omega
     case rel => exact ⟨(wrap64 (x3_1 + 1)), qc, H', ⟨qx⟩, ⟨qa⟩⟩
   ·rw [if_neg c2] at H
    have c2b0 : decide (x3_1 < 24) = false := decide_eq_false c2; clear c2; obtain rfl := Option.some.inj H; go_wp2
    go_ret
    exact ⟨qg, qa⟩
mutual
def zal.j0 : Nat → ByteArray → Int → Bool → Option (Int × Int × Int × Bool)
 | 0, _, _, _ => none
 | k + 1, x0, x1, x21 => if x21 = true then (some (0, 0, 0, false)) else (zal.l0 k x0 x1 0 x1 false)
def zal.j3 : Nat → ByteArray → Int → Int → Int → Bool → Option (Int × Int × Int × Bool)
 | 0, _, _, _, _, _ => none
 | k + 1, x0, x1, x6, x7, x8 => (zbG.f x6).bind fun t284 => (if x6 = 7 then (if 0 ≤ x1 then (if x1 ≤ x7 then (if x7 ≤ (x0.size : Int) then ((zaJ.f k (x0.extract (x1 : Int).toNat (x7 : Int).toNat)).bind fun t286 => (zal.j4 k x0 x6 x7 x8 t286 (wrap64 (x7 - x1)) 0)) else (none)) else (none)) else (none)) else (zal.j4 k x0 x6 x7 x8 t284 (wrap64 (x7 - x1)) 0))
def zal.j4 : Nat → ByteArray → Int → Int → Bool → Int → Int → Int → Option (Int × Int × Int × Bool)
 | 0, _, _, _, _, _, _, _ => none
 | k + 1, x0, x6, x7, x8, x286000, x286001, x286002 => (zaU.f k x6).bind fun t287 => (if t287 = true then (if x8 = true then (if (wrap64 ((wrap64 ((x0.size : Int) - x7)) + 1)) > 3 then (some (x286000, x286001, 3, true)) else (some (x286000, x286001, wrap64 ((wrap64 ((x0.size : Int) - x7)) + 1), true))) else (some (x286000, x286001, x286002, true))) else (some (x286000, x286001, 1, true)))
def zal.l0 : Nat → ByteArray → Int → Int → Int → Bool → Option (Int × Int × Int × Bool)
 | 0, _, _, _, _, _ => none
 | k + 1, x0, x1, x6, x7, x8 => if x7 < (x0.size : Int) then ((zan.f k x0 x7).bind fun bt279 => (if bt279.2.2 = true then (zal.j2 k x0 x1 x6 x7 x8 bt279.1 bt279.2.1 bt279.2.2) else (zal.j2 k x0 x1 x6 x7 x8 65533 1 bt279.2.2))) else (zal.j3 k x0 x1 x6 x7 x8)
def zal.j2 : Nat → ByteArray → Int → Int → Int → Bool → Int → Int → Bool → Option (Int × Int × Int × Bool)
 | 0, _, _, _, _, _, _, _, _ => none
 | k + 1, x0, x1, x6, x7, x8, x9, x10, x11 => (zam.f k x9).bind fun t282 => ((zau.f k x6 t282).bind fun t283 => (if t283 < 0 then (zal.j3 k x0 x1 x6 x7 x8) else (if x6 = 0 then (zal.l0 k x0 x1 t283 (wrap64 (x7 + x10)) (!x11)) else (zal.l0 k x0 x1 t283 (wrap64 (x7 + x10)) false))))
end
def zal.f (k : Nat) (a0 : ByteArray) (a1 : Int) : Option (Int × Int × Int × Bool) := if a1 < 0 then (zal.j0 k a0 a1 true) else (zal.j0 k a0 a1 (decide (a1 ≥ (a0.size : Int))))
theorem zal.calls (k : Nat) (a0 : ByteArray) (a1 : Int) (r1 : Int) (r2 : Int) (r3 : Int) (r4 : Bool) (w : World) (h : zal.f k a0 a1 = some (r1, r2, r3, r4)) :
  Calls Try.prog 11 #[.string a0, .int .i64 a1] w fun e w' => e = .returned (.tuple #[.agg #[.int .u8 r1, .int .i64 r2, .int .i64 r3], .bool r4]) ∧ Below w.heap.size w w' := by
 have hu40 := Try.underlying40; have HB := J (Below.refl w.heap.size w); have H : (if a1 < 0 then (zal.j0 k a0 a1 true) else (zal.j0 k a0 a1 (decide (a1 ≥ (a0.size : Int))))) = some (r1, r2, r3, r4) := h
 clear h; have HC3 := J H; clear H; go_enter Try.func11, Try.ntmps11
 go_upto_region 1 with (first | ((with_reducible refine za2 (N := 4) rfl ?_); (try (refine zbJ (by rfl) ?_; dsimp only)); refine zbd ?hg (N := 4) ?hd (cs := #[.int .u8 0, .int .i64 0, .int .i64 0]) (t := 40) ?hr ?_; (case hd => rfl); (case hg => rfl); (case hr => first | (go_simp; done) | (go_simp; rfl)); intro gb278 hg w4 hbox hb; have n0_ := J (zak qa hb); have n1_ := J (hbox); have n2_ := J ((by rw [hg]; exact (zav qa) : w.heap.size ≤ gb278)); have n3_ := J ((by rw [hg]; exact (zav qa) : w.heap.size ≤ gb278)); clear HB; have HB := n0_; have BK278 := n1_; have GW278 := n2_; have GE278 := n3_; clear n0_ n1_ n2_ n3_; clear hb hbox hg))
 (try simp only [Act.put, zai])
 go_cut [21] (fun v21 wc => ∃ (kq : Nat) (x21_2 : Bool), v21 = .bool x21_2 ∧ zaa (zal.j0 kq a0 a1 x21_2 = some (r1, r2, r3, r4)) ∧ zaa (kq ≤ k) ∧ zaa (wc.heap[gb278]? = some (.cells #[.int .u8 0, .int .i64 0, .int .i64 0] 40 (0, 0))) ∧ zaa (Below w.heap.size w wc))
 case first =>
  have H := HC3.out; clear HC3; by_cases c5 : a1 < 0
  ·rw [if_pos c5] at H
   have c5b0 : decide (a1 < 0) = true := decide_eq_true c5; clear c5
   (first | rw [c5b0] | (simp only [i64_w, i32_w]; rw [c5b0]) | skip)
   have H' := J H; clear H; go_wp2
   go_meet
   case rel => exact ⟨_, (true), qc, H', ⟨qA⟩, ⟨qt⟩, ⟨qy⟩⟩
  ·rw [if_neg c5] at H
   have c5b0 : decide (a1 < 0) = false := decide_eq_false c5; clear c5
   (first | rw [c5b0] | (simp only [i64_w, i32_w]; rw [c5b0]) | skip)
   have H' := J H; clear H; go_wp2
   go_meet
   case rel => exact ⟨_, (decide (a1 ≥ (a0.size : Int))), qc, H', ⟨qA⟩, ⟨qt⟩, ⟨qy⟩⟩
 case rest =>
  clear HC3; try clear c1
  try clear p2
  try clear c5
  try clear c5b0
  obtain ⟨kq, x21_2, rfl, HA, HJ2, BK278, HB⟩ := hcut; cases kq with
  | zero => exact absurd HA.out (by simp [zal.j0])
  | succ kj2 =>
   have H := HA.out; clear HA; simp only [zal.j0] at H; by_cases c6 : x21_2 = true
   ·subst c6
    have H1 : (some (0, 0, 0, false)) = some (r1, r2, r3, r4) := by rw [if_pos rfl] at H; exact H
    clear H; have H := H1; clear H1; simp only [Option.some.injEq, Prod.mk.injEq] at H; obtain ⟨rfl, rfl, rfl, rfl⟩ := H; have hcz7_0 : wc.cell? ⟨gb278, 0, none⟩ = some (.int .u8 0) := (zaf BK278.out 0).trans rfl; have hcz7_1 : wc.cell? ⟨gb278, 1, none⟩ = some (.int .i64 0) := (zaf BK278.out 1).trans rfl; have hcz7_2 : wc.cell? ⟨gb278, 2, none⟩ = some (.int .i64 0) := (zaf BK278.out 2).trans rfl; have hfz7_0 := zab BK278.out 0; have hfz7_1 := zab BK278.out 1; have hfz7_2 := zab BK278.out 2; go_wp2
    refine bodyPost_ret (zbO rfl _ _ gb278 40 #[.int .u8 0, .int .i64 0, .int .i64 0] (0, 0) _ rfl (by (with_reducible repeat (first | refine zar ?_ _ | refine zaD ?_ | refine zas ?_ _)); refine zbp (cs := #[.int .u8 0, .int .i64 0, .int .i64 0]) ?_ 2 _ rfl; (with_reducible repeat (first | refine zar ?_ _ | refine zaD ?_ | refine zas ?_ _)); refine zbp (cs := #[.int .u8 0, .int .i64 0, .int .i64 0]) ?_ 1 _ rfl; (with_reducible repeat (first | refine zar ?_ _ | refine zaD ?_ | refine zas ?_ _)); refine zbp (cs := #[.int .u8 0, .int .i64 0, .int .i64 0]) ?_ 0 _ rfl; (with_reducible repeat (first | refine zar ?_ _ | refine zaD ?_ | refine zas ?_ _)); exact BK278.out) Try.underlying40 rfl qb) rfl ?_
    exact ⟨qg, qy⟩
   ·replace c6 := Bool.eq_false_iff.mpr c6
    subst c6; have H1 : (zal.l0 kj2 a0 a1 0 a1 false) = some (r1, r2, r3, r4) := by rw [if_neg (show ¬ (false = true) by decide)] at H; exact H
    clear H; have H := H1; clear H1; have HC8 := J H; clear H
    go_upto_block 0 with (fail)
    go_cut [6, 7, 8] (fun v6 v7 v8 wc => ∃ (kq : Nat) (x6_7 : Int) (x7_7 : Int) (x8_7 : Bool), v6 = .int .i64 x6_7 ∧ v7 = .int .i64 x7_7 ∧ v8 = .bool x8_7 ∧ zaa (zal.j3 kq a0 a1 x6_7 x7_7 x8_7 = some (r1, r2, r3, r4)) ∧ zaa (kq ≤ kj2) ∧ zaa (wc.heap[gb278]? = some (.cells #[.int .u8 0, .int .i64 0, .int .i64 0] 40 (0, 0))) ∧ zaa (Below w.heap.size w wc))
    case first =>
     have H := HC8.out; clear HC8; have H' := J H; clear H; go_wp2
     go_loopg [6, 7, 8] kj2 (fun kq v6 v7 v8 w' => ∃ (x6_2 : Int) (x7_2 : Int) (x8_2 : Bool), v6 = .int .i64 x6_2 ∧ v7 = .int .i64 x7_2 ∧ v8 = .bool x8_2 ∧ zaa (zal.l0 kq a0 a1 x6_2 x7_2 x8_2 = some (r1, r2, r3, r4)) ∧ zaa (kq ≤ kj2) ∧ zaa (w'.heap[gb278]? = some (.cells #[.int .u8 0, .int .i64 0, .int .i64 0] 40 (0, 0))) ∧ zaa (Below w.heap.size w w'))
     case atStart => exact ⟨(0), (a1), (false), qc, qc, qc, H', ⟨Nat.le_refl _⟩, ⟨qt⟩, ⟨qy⟩⟩
     case round =>
      clear H'; try clear c1
      try clear p2
      try clear c5
      try clear c5b0
      try clear c6
      try clear hcz7_0
      try clear hcz7_1
      try clear hcz7_2
      try clear hfz7_0
      try clear hfz7_1
      try clear hfz7_2
      try clear p2
      obtain ⟨x6_2, x7_2, x8_2, rfl, rfl, rfl, HA, HK2, BK278, HB⟩ := hrel; cases gk with
      | zero => exact absurd HA.out (by simp [zal.l0])
      | succ k2 =>
       have H := HA.out; clear HA; simp only [zal.l0] at H; by_cases c9 : x7_2 < (a0.size : Int)
       ·rw [if_pos c9] at H
        have c9b0 : decide (x7_2 < (a0.size : Int)) = true := decide_eq_true c9; clear c9
        (first | rw [c9b0] | (simp only [i64_w, i32_w]; rw [c9b0]) | skip)
        replace H := Option.bind_eq_some_iff.mp H; obtain ⟨⟨t279, t280, t281⟩, A100, H⟩ := H; replace H : (if t281 = true then (zal.j2 k2 a0 a1 x6_2 x7_2 x8_2 t279 t280 t281) else (zal.j2 k2 a0 a1 x6_2 x7_2 x8_2 65533 1 t281)) = some (r1, r2, r3, r4) := H
        have A10 := J A100; clear A100; have HC11 := J H; clear H
        go_upto_if 36 with (first | ((with_reducible refine zaK (f := 31) rfl ?_); refine zbc (some 31) rfl rfl Try.func31 qb rfl #[.string a0, .int .i64 x7_2] rfl qi ?_; (with_reducible refine (zan.calls k2 a0 x7_2 t279 t280 t281 _ A10.out).mono ?_); rintro e w12 ⟨rfl, hb⟩; refine ⟨_, rfl, ?_⟩; have n0_ := J (zaG (g := gb278) (o := .cells #[.int .u8 0, .int .i64 0, .int .i64 0] 40 (0, 0)) qt hb); have n1_ := J (zak qy hb); clear BK278; clear HB; have BK278 := n0_; have HB := n1_; clear n0_ n1_; (try clear hb); (try clear hb2); (try clear hk); (try clear hi)))
        (try simp only [Act.put, zai])
        go_cut [9, 10] (fun v9 v10 wc => ∃ (kq : Nat) (x9_10 : Int) (x10_10 : Int), v9 = .int .i32 x9_10 ∧ v10 = .int .i64 x10_10 ∧ zaa (zal.j2 kq a0 a1 x6_2 x7_2 x8_2 x9_10 x10_10 t281 = some (r1, r2, r3, r4)) ∧ zaa (kq ≤ k2) ∧ zaa (wc.heap[gb278]? = some (.cells #[.int .u8 0, .int .i64 0, .int .i64 0] 40 (0, 0))) ∧ zaa (Below w.heap.size w wc))
        case first =>
         have H := HC11.out; clear HC11; by_cases c13 : t281 = true
         ·subst c13
          have H1 : (zal.j2 k2 a0 a1 x6_2 x7_2 x8_2 t279 t280 true) = some (r1, r2, r3, r4) := by rw [if_pos rfl] at H; exact H
          clear H; have H := H1; clear H1; have H' := J H; clear H; go_wp2
          go_meet
          case rel => exact ⟨_, (t279), (t280), qc, qc, H', ⟨by have := HJ2.out; have := HK2.out; first | omega | exact Nat.le_refl _⟩, ⟨qt⟩, ⟨qy⟩⟩
         ·replace c13 := Bool.eq_false_iff.mpr c13
          subst c13; have H1 : (zal.j2 k2 a0 a1 x6_2 x7_2 x8_2 65533 1 false) = some (r1, r2, r3, r4) := by rw [if_neg (show ¬ (false = true) by decide)] at H; exact H
          clear H; have H := H1; clear H1; have H' := J H; clear H; go_wp2
          go_meet
          case rel => exact ⟨_, (65533), (1), qc, qc, H', ⟨by have := HJ2.out; have := HK2.out; first | omega | exact Nat.le_refl _⟩, ⟨qt⟩, ⟨qy⟩⟩
        case rest =>
         clear HC11; try clear c1
         try clear p2
         try clear c3
         try clear c5
         try clear c5b0
         try clear c6
         try clear c9
         try clear c9b0
         try clear c11
         try clear c13
         try clear hcz7_0
         try clear hcz7_1
         try clear hcz7_2
         try clear hfz7_0
         try clear hfz7_1
         try clear hfz7_2
         try clear p2
         obtain ⟨kq, x9_10, x10_10, rfl, rfl, HA, HJ10, BK278, HB⟩ := hcut; cases kq with
         | zero => exact absurd HA.out (by simp [zal.j2])
         | succ kj10 =>
          have H := HA.out; clear HA; simp only [zal.j2] at H; replace H := Option.bind_eq_some_iff.mp H; obtain ⟨t282, A140, H⟩ := H; replace H : ((zau.f kj10 x6_2 t282).bind fun t283 => (if t283 < 0 then (zal.j3 kj10 a0 a1 x6_2 x7_2 x8_2) else (if x6_2 = 0 then (zal.l0 kj10 a0 a1 t283 (wrap64 (x7_2 + x10_10)) (!t281)) else (zal.l0 kj10 a0 a1 t283 (wrap64 (x7_2 + x10_10)) false)))) = some (r1, r2, r3, r4) := H
          have A14 := J A140; clear A140; replace H := Option.bind_eq_some_iff.mp H; obtain ⟨t283, A150, H⟩ := H; replace H : (if t283 < 0 then (zal.j3 kj10 a0 a1 x6_2 x7_2 x8_2) else (if x6_2 = 0 then (zal.l0 kj10 a0 a1 t283 (wrap64 (x7_2 + x10_10)) (!t281)) else (zal.l0 kj10 a0 a1 t283 (wrap64 (x7_2 + x10_10)) false))) = some (r1, r2, r3, r4) := H
          have A15 := J A150; clear A150; by_cases c16 : t283 < 0
          ·rw [if_pos c16] at H
           have c16b0 : decide (t283 < 0) = true := decide_eq_true c16; clear c16; have H' := J H; clear H; go_wp2_with (first | ((with_reducible refine zaK (f := 33) rfl ?_); refine zbc (some 39) rfl rfl Try.func33 qb rfl #[.int .i32 x9_10] rfl qi ?_; (with_reducible refine (zam.calls kj10 x9_10 t282 _ A14.out).mono ?_); rintro e w' ⟨rfl, ⟨nd, rfl⟩⟩; refine ⟨_, rfl, ?_⟩) | ((with_reducible refine zaK (f := 32) rfl ?_); refine zbc (some 40) rfl rfl Try.func32 qb rfl #[.int .i64 x6_2, .int .i64 t282] rfl qi ?_; (with_reducible refine (zau.calls kj10 x6_2 t282 t283 _ A15.out).mono ?_); rintro e w17 ⟨rfl, hb⟩; refine ⟨_, rfl, ?_⟩; have n0_ := J (zaG (g := gb278) (o := .cells #[.int .u8 0, .int .i64 0, .int .i64 0] 40 (0, 0)) qt hb); have n1_ := J (zak qy hb); clear BK278; clear HB; have BK278 := n0_; have HB := n1_; clear n0_ n1_; (try clear hb); (try clear hb2); (try clear hk); (try clear hi)))
           go_meet
           case rel => exact ⟨_, (x6_2), (x7_2), (x8_2), qc, qc, qc, H', ⟨by have := HJ2.out; have := HK2.out; have := HJ10.out; first | omega | exact Nat.le_refl _⟩, ⟨qt⟩, ⟨qy⟩⟩
          ·rw [if_neg c16] at H
           have c16b0 : decide (t283 < 0) = false := decide_eq_false c16; clear c16; by_cases c18 : x6_2 = 0
           ·rw [if_pos c18] at H
            have c18b0 : (x6_2 == 0) = true := beq_iff_eq.mpr c18; have c18b1 : (x6_2 != 0) = false := bne_eq_false_iff_eq.mpr c18; clear c18; have H' := J H; clear H; go_wp2_with (first | ((with_reducible refine zaK (f := 33) rfl ?_); refine zbc (some 39) rfl rfl Try.func33 qb rfl #[.int .i32 x9_10] rfl qi ?_; (with_reducible refine (zam.calls kj10 x9_10 t282 _ A14.out).mono ?_); rintro e w' ⟨rfl, ⟨nd, rfl⟩⟩; refine ⟨_, rfl, ?_⟩) | ((with_reducible refine zaK (f := 32) rfl ?_); refine zbc (some 40) rfl rfl Try.func32 qb rfl #[.int .i64 x6_2, .int .i64 t282] rfl qi ?_; (with_reducible refine (zau.calls kj10 x6_2 t282 t283 _ A15.out).mono ?_); rintro e w19 ⟨rfl, hb⟩; refine ⟨_, rfl, ?_⟩; have n0_ := J (zaG (g := gb278) (o := .cells #[.int .u8 0, .int .i64 0, .int .i64 0] 40 (0, 0)) qt hb); have n1_ := J (zak qy hb); clear BK278; clear HB; have BK278 := n0_; have HB := n1_; clear n0_ n1_; (try clear hb); (try clear hb2); (try clear hk); (try clear hi)))
            go_roundg kj10
            case measure => have := HJ2.out; have := HK2.out; have := HJ10.out; omega
            case rel => exact ⟨(t283), (wrap64 (x7_2 + x10_10)), (!t281), qc, qc, qc, H', ⟨by have := HJ2.out; have := HK2.out; have := HJ10.out; omega⟩, ⟨qt⟩, ⟨qy⟩⟩
           ·rw [if_neg c18] at H
            have c18b0 : (x6_2 == 0) = false := beq_eq_false_iff_ne.mpr c18; have c18b1 : (x6_2 != 0) = true := bne_iff_ne.mpr c18; have H' := J H; clear H; go_wp2_with (first | ((with_reducible refine zaK (f := 33) rfl ?_); refine zbc (some 39) rfl rfl Try.func33 qb rfl #[.int .i32 x9_10] rfl qi ?_; (with_reducible refine (zam.calls kj10 x9_10 t282 _ A14.out).mono ?_); rintro e w' ⟨rfl, ⟨nd, rfl⟩⟩; refine ⟨_, rfl, ?_⟩) | ((with_reducible refine zaK (f := 32) rfl ?_); refine zbc (some 40) rfl rfl Try.func32 qb rfl #[.int .i64 x6_2, .int .i64 t282] rfl qi ?_; (with_reducible refine (zau.calls kj10 x6_2 t282 t283 _ A15.out).mono ?_); rintro e w20 ⟨rfl, hb⟩; refine ⟨_, rfl, ?_⟩; have n0_ := J (zaG (g := gb278) (o := .cells #[.int .u8 0, .int .i64 0, .int .i64 0] 40 (0, 0)) qt hb); have n1_ := J (zak qy hb); clear BK278; clear HB; have BK278 := n0_; have HB := n1_; clear n0_ n1_; (try clear hb); (try clear hb2); (try clear hk); (try clear hi)))
            go_roundg kj10
            case measure => have := HJ2.out; have := HK2.out; have := HJ10.out; omega
            case rel => exact ⟨(t283), (wrap64 (x7_2 + x10_10)), (false), qc, qc, qc, H', ⟨by have := HJ2.out; have := HK2.out; have := HJ10.out; omega⟩, ⟨qt⟩, ⟨qy⟩⟩
       ·rw [if_neg c9] at H
        have c9b0 : decide (x7_2 < (a0.size : Int)) = false := decide_eq_false c9; clear c9
        (first | rw [c9b0] | (simp only [i64_w, i32_w]; rw [c9b0]) | skip)
        have H' := J H; clear H; go_wp2
        go_meet
        case rel => exact ⟨_, (x6_2), (x7_2), (x8_2), qc, qc, qc, H', ⟨by have := HJ2.out; have := HK2.out; first | omega | exact Nat.le_refl _⟩, ⟨qt⟩, ⟨qy⟩⟩
    case rest =>
     clear HC8; try clear c1
     try clear p2
     try clear c3
     try clear c5
     try clear c5b0
     try clear c6
     try clear p6
     try clear c9
     try clear c9b0
     try clear c11
     try clear c13
     try clear c16
     try clear c16b0
     try clear c18
     try clear c18b0
     try clear c18b1
     try clear hcz7_0
     try clear hcz7_1
     try clear hcz7_2
     try clear hfz7_0
     try clear hfz7_1
     try clear hfz7_2
     try clear p2
     obtain ⟨kq, x6_7, x7_7, x8_7, rfl, rfl, rfl, HA, HJ7, BK278, HB⟩ := hcut; cases kq with
     | zero => exact absurd HA.out (by simp [zal.j3])
     | succ kj7 =>
      have H := HA.out; clear HA; simp only [zal.j3] at H; replace H := Option.bind_eq_some_iff.mp H; obtain ⟨t284, A210, H⟩ := H; replace H : (if x6_7 = 7 then (if 0 ≤ a1 then (if a1 ≤ x7_7 then (if x7_7 ≤ (a0.size : Int) then ((zaJ.f kj7 (a0.extract (a1 : Int).toNat (x7_7 : Int).toNat)).bind fun t286 => (zal.j4 kj7 a0 x6_7 x7_7 x8_7 t286 (wrap64 (x7_7 - a1)) 0)) else (none)) else (none)) else (none)) else (zal.j4 kj7 a0 x6_7 x7_7 x8_7 t284 (wrap64 (x7_7 - a1)) 0)) = some (r1, r2, r3, r4) := H
      have A21 := J A210; clear A210; have HC22 := J H; clear H
      go_upto_if 60 with (first | ((with_reducible refine zaK (f := 34) rfl ?_); refine zbc (some 54) rfl rfl Try.func34 qb rfl #[.int .i64 x6_7] rfl qi ?_; (with_reducible refine (zbG.calls x6_7 t284 _ A21.out).mono ?_); rintro e w23 ⟨rfl, hb⟩; refine ⟨_, rfl, ?_⟩; have n0_ := J (zaG (g := gb278) (o := .cells #[.int .u8 0, .int .i64 0, .int .i64 0] 40 (0, 0)) qt hb); have n1_ := J (zak qy hb); clear BK278; clear HB; have BK278 := n0_; have HB := n1_; clear n0_ n1_; (try clear hb); (try clear hb2); (try clear hk); (try clear hi)) | ((with_reducible refine za2 (N := 13) rfl ?_); (try (refine zbJ (by rfl) ?_; dsimp only)); refine zbd ?hg (N := 13) ?hd (cs := #[.int .u8 0, .int .i64 0, .int .i64 0]) (t := 40) ?hr ?_; (case hd => rfl); (case hg => rfl); (case hr => first | (go_simp; done) | (go_simp; rfl)); intro gb285 hg w24 hbox hb; have n0_ := J (zaG (g := gb278) (o := .cells #[.int .u8 0, .int .i64 0, .int .i64 0] 40 (0, 0)) qt hb); have n1_ := J (zak qy hb); have n2_ := J (hbox); have n3_ := J ((by rw [hg]; exact (zav qy) : w.heap.size ≤ gb285)); have n4_ := J ((by rw [hg]; exact (zav qy) : w.heap.size ≤ gb285)); have n5_ := J ((by rw [hg]; exact Nat.ne_of_lt (zaN (g := gb278) (o := .cells #[.int .u8 0, .int .i64 0, .int .i64 0] 40 (0, 0)) qt) : gb278 ≠ gb285)); have n6_ := J ((by rw [hg]; exact Nat.ne_of_gt (zaN (g := gb278) (o := .cells #[.int .u8 0, .int .i64 0, .int .i64 0] 40 (0, 0)) qt) : gb285 ≠ gb278)); clear BK278; clear HB; have BK278 := n0_; have HB := n1_; have BK285 := n2_; have GW285 := n3_; have GE285 := n4_; have NB278_285 := n5_; have NB285_278 := n6_; clear n0_ n1_ n2_ n3_ n4_ n5_ n6_; clear hb hbox hg; have hnb25 := NB285_278.out; have hnc25 := NB278_285.out; have hcz26_0 : w24.cell? ⟨gb285, 0, none⟩ = some (.int .u8 0) := (zaf BK285.out 0).trans rfl; have hcz26_1 : w24.cell? ⟨gb285, 1, none⟩ = some (.int .i64 0) := (zaf BK285.out 1).trans rfl; have hcz26_2 : w24.cell? ⟨gb285, 2, none⟩ = some (.int .i64 0) := (zaf BK285.out 2).trans rfl; have hfz26_0 := zab BK285.out 0; have hfz26_1 := zab BK285.out 1; have hfz26_2 := zab BK285.out 2))
      (try simp only [Act.put, zai])
      go_cut [] (fun wc => ∃ (kq : Nat) (x286000_21 : Int), zaa (zal.j4 kq a0 x6_7 x7_7 x8_7 x286000_21 (wrap64 (x7_7 - a1)) 0 = some (r1, r2, r3, r4)) ∧ zaa (kq ≤ kj7) ∧ zaa (wc.heap[gb278]? = some (.cells #[.int .u8 0, .int .i64 0, .int .i64 0] 40 (0, 0))) ∧ zaa (wc.heap[gb285]? = some (.cells #[.int .u8 x286000_21, .int .i64 (wrap64 (x7_7 - a1)), .int .i64 0] 40 (0, 0))) ∧ zaa (Below w.heap.size w wc))
      case first =>
       have H := HC22.out; clear HC22; by_cases c27 : x6_7 = 7
       ·rw [if_pos c27] at H
        have c27b0 : (x6_7 == 7) = true := beq_iff_eq.mpr c27; have c27b1 : (x6_7 != 7) = false := bne_eq_false_iff_eq.mpr c27; clear c27
        (first | rw [c27b0] | (simp only [i64_w, i32_w]; rw [c27b0]) | skip)
        by_cases c28 : 0 ≤ a1
        ·rw [if_pos c28] at H
         have c28b0 := eq_true c28; have c28b1 : decide (0 ≤ a1) = true := decide_eq_true c28; clear c28; by_cases c29 : a1 ≤ x7_7
         ·rw [if_pos c29] at H
          have c29b0 := eq_true c29; have c29b1 : decide (a1 ≤ x7_7) = true := decide_eq_true c29; clear c29; by_cases c30 : x7_7 ≤ (a0.size : Int)
          ·rw [if_pos c30] at H
           have c30b0 := eq_true c30; have c30b1 : decide (x7_7 ≤ (a0.size : Int)) = true := decide_eq_true c30; clear c30; replace H := Option.bind_eq_some_iff.mp H; obtain ⟨t286, A310, H⟩ := H; replace H : (zal.j4 kj7 a0 x6_7 x7_7 x8_7 t286 (wrap64 (x7_7 - a1)) 0) = some (r1, r2, r3, r4) := H; have A31 := J A310; clear A310; have H' := J H; clear H; go_wp2_with (first | ((with_reducible refine zaK (f := 35) rfl ?_); refine zbc (some 65) rfl rfl Try.func35 qb rfl #[.string (a0.extract (a1 : Int).toNat (x7_7 : Int).toNat)] rfl qi ?_; (with_reducible refine (zaJ.calls kj7 (a0.extract (a1 : Int).toNat (x7_7 : Int).toNat) t286 _ A31.out).mono ?_); rintro e w32 ⟨rfl, hb⟩; refine ⟨_, rfl, ?_⟩; have n0_ := J (zaG (g := gb278) (o := .cells #[.int .u8 0, .int .i64 0, .int .i64 0] 40 (0, 0)) (by (with_reducible repeat (first | refine zar ?_ _ | refine zaD ?_ | refine zas ?_ _)); refine blk_far ?_ NB278_285.out _; (with_reducible repeat (first | refine zar ?_ _ | refine zaD ?_ | refine zas ?_ _)); refine blk_far ?_ NB278_285.out _; (with_reducible repeat (first | refine zar ?_ _ | refine zaD ?_ | refine zas ?_ _)); refine blk_far ?_ NB278_285.out _; (with_reducible repeat (first | refine zar ?_ _ | refine zaD ?_ | refine zas ?_ _)); exact BK278.out) hb); have n1_ := J (zaG (g := gb285) (o := .cells #[.int .u8 t284, .int .i64 (wrap64 (x7_7 - a1)), .int .i64 0] 40 (0, 0)) (by (with_reducible repeat (first | refine zar ?_ _ | refine zaD ?_ | refine zas ?_ _)); refine zbp (cs := #[.int .u8 t284, .int .i64 (wrap64 (x7_7 - a1)), .int .i64 0]) ?_ 2 _ rfl; (with_reducible repeat (first | refine zar ?_ _ | refine zaD ?_ | refine zas ?_ _)); refine zbp (cs := #[.int .u8 t284, .int .i64 0, .int .i64 0]) ?_ 1 _ rfl; (with_reducible repeat (first | refine zar ?_ _ | refine zaD ?_ | refine zas ?_ _)); refine zbp (cs := #[.int .u8 0, .int .i64 0, .int .i64 0]) ?_ 0 _ rfl; (with_reducible repeat (first | refine zar ?_ _ | refine zaD ?_ | refine zas ?_ _)); exact BK285.out) hb); have n2_ := J (zak qO hb); clear BK278; clear BK285; clear HB; have BK278 := n0_; have BK285 := n1_; have HB := n2_; clear n0_ n1_ n2_; (try clear hb); (try clear hb2); (try clear hk); (try clear hi); have hnb33 := NB285_278.out; have hnc33 := NB278_285.out; have hcz34_0 : w32.cell? ⟨gb285, 0, none⟩ = some (.int .u8 t284) := (zaf BK285.out 0).trans rfl; have hcz34_1 : w32.cell? ⟨gb285, 1, none⟩ = some (.int .i64 (wrap64 (x7_7 - a1))) := (zaf BK285.out 1).trans rfl; have hcz34_2 : w32.cell? ⟨gb285, 2, none⟩ = some (.int .i64 0) := (zaf BK285.out 2).trans rfl; have hfz34_0 := zab BK285.out 0; have hfz34_1 := zab BK285.out 1; have hfz34_2 := zab BK285.out 2))
           go_meet
           case rel => exact ⟨_, (t286), H', ⟨by have := HJ2.out; have := HJ7.out; first | omega | exact Nat.le_refl _⟩, ⟨by (with_reducible repeat (first | refine zar ?_ _ | refine zaD ?_ | refine zas ?_ _)); refine blk_far ?_ NB278_285.out _; (with_reducible repeat (first | refine zar ?_ _ | refine zaD ?_ | refine zas ?_ _)); exact BK278.out⟩, ⟨by (with_reducible repeat (first | refine zar ?_ _ | refine zaD ?_ | refine zas ?_ _)); refine zbp (cs := #[.int .u8 t284, .int .i64 (wrap64 (x7_7 - a1)), .int .i64 0]) ?_ 0 _ rfl; (with_reducible repeat (first | refine zar ?_ _ | refine zaD ?_ | refine zas ?_ _)); exact BK285.out⟩, ⟨qO⟩⟩
          ·rw [if_neg c30] at H
           exact absurd H qf
         ·rw [if_neg c29] at H
          exact absurd H qf
        ·rw [if_neg c28] at H
         exact absurd H qf
       ·rw [if_neg c27] at H
        have c27b0 : (x6_7 == 7) = false := beq_eq_false_iff_ne.mpr c27; have c27b1 : (x6_7 != 7) = true := bne_iff_ne.mpr c27
        (first | rw [c27b0] | (simp only [i64_w, i32_w]; rw [c27b0]) | skip)
        have H' := J H; clear H; go_wp2
        go_meet
        case rel => exact ⟨_, (t284), H', ⟨by have := HJ2.out; have := HJ7.out; first | omega | exact Nat.le_refl _⟩, ⟨by (with_reducible repeat (first | refine zar ?_ _ | refine zaD ?_ | refine zas ?_ _)); refine blk_far ?_ NB278_285.out _; (with_reducible repeat (first | refine zar ?_ _ | refine zaD ?_ | refine zas ?_ _)); refine blk_far ?_ NB278_285.out _; (with_reducible repeat (first | refine zar ?_ _ | refine zaD ?_ | refine zas ?_ _)); refine blk_far ?_ NB278_285.out _; (with_reducible repeat (first | refine zar ?_ _ | refine zaD ?_ | refine zas ?_ _)); exact BK278.out⟩, ⟨by (with_reducible repeat (first | refine zar ?_ _ | refine zaD ?_ | refine zas ?_ _)); refine zbp (cs := #[.int .u8 t284, .int .i64 (wrap64 (x7_7 - a1)), .int .i64 0]) ?_ 2 _ rfl; (with_reducible repeat (first | refine zar ?_ _ | refine zaD ?_ | refine zas ?_ _)); refine zbp (cs := #[.int .u8 t284, .int .i64 0, .int .i64 0]) ?_ 1 _ rfl; (with_reducible repeat (first | refine zar ?_ _ | refine zaD ?_ | refine zas ?_ _)); refine zbp (cs := #[.int .u8 0, .int .i64 0, .int .i64 0]) ?_ 0 _ rfl; (with_reducible repeat (first | refine zar ?_ _ | refine zaD ?_ | refine zas ?_ _)); exact BK285.out⟩, ⟨qO⟩⟩
      case rest =>
       clear HC22; try clear c1
       try clear c2
       try clear p2
       try clear c3
       try clear c5
       try clear c5b0
       try clear c6
       try clear p6
       try clear c9
       try clear c9b0
       try clear c11
       try clear c13
       try clear c16
       try clear c16b0
       try clear c18
       try clear c18b0
       try clear c18b1
       try clear c25
       try clear c27
       try clear c27b0
       try clear c27b1
       try clear c28
       try clear c28b0
       try clear c28b1
       try clear c29
       try clear c29b0
       try clear c29b1
       try clear c30
       try clear c30b0
       try clear c30b1
       try clear c31
       try clear c32
       try clear c33
       try clear c34
       try clear hcz26_0
       try clear hcz26_1
       try clear hcz26_2
       try clear hcz34_0
       try clear hcz34_1
       try clear hcz34_2
       try clear hcz7_0
       try clear hcz7_1
       try clear hcz7_2
       try clear hfz26_0
       try clear hfz26_1
       try clear hfz26_2
       try clear hfz34_0
       try clear hfz34_1
       try clear hfz34_2
       try clear hfz7_0
       try clear hfz7_1
       try clear hfz7_2
       try clear p2
       try clear p6
       obtain ⟨kq, x286000_21, HA, HJ21, BK278, BK285, HB⟩ := hcut; cases kq with
       | zero => exact absurd HA.out (by simp [zal.j4])
       | succ kj21 =>
        have H := HA.out; clear HA; simp only [zal.j4] at H; replace H := Option.bind_eq_some_iff.mp H; obtain ⟨t287, A350, H⟩ := H; replace H : (if t287 = true then (if x8_7 = true then (if (wrap64 ((wrap64 ((a0.size : Int) - x7_7)) + 1)) > 3 then (some (x286000_21, (wrap64 (x7_7 - a1)), 3, true)) else (some (x286000_21, (wrap64 (x7_7 - a1)), wrap64 ((wrap64 ((a0.size : Int) - x7_7)) + 1), true))) else (some (x286000_21, (wrap64 (x7_7 - a1)), 0, true))) else (some (x286000_21, (wrap64 (x7_7 - a1)), 1, true))) = some (r1, r2, r3, r4) := H
        have A35 := J A350; clear A350; by_cases c36 : t287 = true
        ·subst c36
         have H1 : (if x8_7 = true then (if (wrap64 ((wrap64 ((a0.size : Int) - x7_7)) + 1)) > 3 then (some (x286000_21, (wrap64 (x7_7 - a1)), 3, true)) else (some (x286000_21, (wrap64 (x7_7 - a1)), wrap64 ((wrap64 ((a0.size : Int) - x7_7)) + 1), true))) else (some (x286000_21, (wrap64 (x7_7 - a1)), 0, true))) = some (r1, r2, r3, r4) := by rw [if_pos rfl] at H; exact H
         clear H; have H := H1; clear H1; by_cases c37 : x8_7 = true
         ·subst c37
          have H1 : (if (wrap64 ((wrap64 ((a0.size : Int) - x7_7)) + 1)) > 3 then (some (x286000_21, (wrap64 (x7_7 - a1)), 3, true)) else (some (x286000_21, (wrap64 (x7_7 - a1)), wrap64 ((wrap64 ((a0.size : Int) - x7_7)) + 1), true))) = some (r1, r2, r3, r4) := by rw [if_pos rfl] at H; exact H
          clear H; have H := H1; clear H1; by_cases c38 : (wrap64 ((wrap64 ((a0.size : Int) - x7_7)) + 1)) > 3
          ·rw [if_pos c38] at H
           have c38b0 : decide (3 < (wrap64 ((wrap64 ((a0.size : Int) - x7_7)) + 1))) = true := decide_eq_true c38; clear c38; simp only [Option.some.injEq, Prod.mk.injEq] at H; obtain ⟨rfl, rfl, rfl, rfl⟩ := H; go_wp2_with (first | ((with_reducible refine zaK (f := 36) rfl ?_); refine zbc (some 68) rfl rfl Try.func36 qb rfl #[.int .i64 x6_7] rfl qi ?_; (with_reducible refine (zaU.calls kj21 x6_7 true _ A35.out).mono ?_); rintro e w39 ⟨rfl, hb⟩; refine ⟨_, rfl, ?_⟩; have n0_ := J (zaG (g := gb278) (o := .cells #[.int .u8 0, .int .i64 0, .int .i64 0] 40 (0, 0)) qt hb); have n1_ := J (zaG (g := gb285) (o := .cells #[.int .u8 x286000_21, .int .i64 (wrap64 (x7_7 - a1)), .int .i64 0] 40 (0, 0)) Qq hb); have n2_ := J (zak qO hb); clear BK278; clear BK285; clear HB; have BK278 := n0_; have BK285 := n1_; have HB := n2_; clear n0_ n1_ n2_; (try clear hb); (try clear hb2); (try clear hk); (try clear hi); have hnb40 := NB285_278.out; have hnc40 := NB278_285.out; have hcz41_0 : w39.cell? ⟨gb285, 0, none⟩ = some (.int .u8 x286000_21) := (zaf BK285.out 0).trans rfl; have hcz41_1 : w39.cell? ⟨gb285, 1, none⟩ = some (.int .i64 (wrap64 (x7_7 - a1))) := (zaf BK285.out 1).trans rfl; have hcz41_2 : w39.cell? ⟨gb285, 2, none⟩ = some (.int .i64 0) := (zaf BK285.out 2).trans rfl; have hfz41_0 := zab BK285.out 0; have hfz41_1 := zab BK285.out 1; have hfz41_2 := zab BK285.out 2; have hcz42_0 : w39.cell? ⟨gb278, 0, none⟩ = some (.int .u8 0) := (zaf BK278.out 0).trans rfl; have hcz42_1 : w39.cell? ⟨gb278, 1, none⟩ = some (.int .i64 0) := (zaf BK278.out 1).trans rfl; have hcz42_2 : w39.cell? ⟨gb278, 2, none⟩ = some (.int .i64 0) := (zaf BK278.out 2).trans rfl; have hfz42_0 := zab BK278.out 0; have hfz42_1 := zab BK278.out 1; have hfz42_2 := zab BK278.out 2))
           refine bodyPost_ret (zbO rfl _ _ gb278 40 #[.int .u8 x286000_21, .int .i64 (wrap64 (x7_7 - a1)), .int .i64 3] (0, 0) _ rfl (by (with_reducible repeat (first | refine zar ?_ _ | refine zaD ?_ | refine zas ?_ _)); refine zbp (cs := #[.int .u8 x286000_21, .int .i64 (wrap64 (x7_7 - a1)), .int .i64 0]) ?_ 2 _ rfl; (with_reducible repeat (first | refine zar ?_ _ | refine zaD ?_ | refine zas ?_ _)); refine zbp (cs := #[.int .u8 x286000_21, .int .i64 0, .int .i64 0]) ?_ 1 _ rfl; (with_reducible repeat (first | refine zar ?_ _ | refine zaD ?_ | refine zas ?_ _)); refine zbp (cs := #[.int .u8 0, .int .i64 0, .int .i64 0]) ?_ 0 _ rfl; (with_reducible repeat (first | refine zar ?_ _ | refine zaD ?_ | refine zas ?_ _)); refine blk_far ?_ NB278_285.out _; (with_reducible repeat (first | refine zar ?_ _ | refine zaD ?_ | refine zas ?_ _)); refine blk_far ?_ NB278_285.out _; (with_reducible repeat (first | refine zar ?_ _ | refine zaD ?_ | refine zas ?_ _)); exact BK278.out) Try.underlying40 rfl qb) rfl ?_
           exact ⟨qg, qO⟩
          ·rw [if_neg c38] at H
           have c38b0 : decide (3 < (wrap64 ((wrap64 ((a0.size : Int) - x7_7)) + 1))) = false := decide_eq_false c38; clear c38; simp only [Option.some.injEq, Prod.mk.injEq] at H; obtain ⟨rfl, rfl, rfl, rfl⟩ := H; go_wp2_with (first | ((with_reducible refine zaK (f := 36) rfl ?_); refine zbc (some 68) rfl rfl Try.func36 qb rfl #[.int .i64 x6_7] rfl qi ?_; (with_reducible refine (zaU.calls kj21 x6_7 true _ A35.out).mono ?_); rintro e w43 ⟨rfl, hb⟩; refine ⟨_, rfl, ?_⟩; have n0_ := J (zaG (g := gb278) (o := .cells #[.int .u8 0, .int .i64 0, .int .i64 0] 40 (0, 0)) qt hb); have n1_ := J (zaG (g := gb285) (o := .cells #[.int .u8 x286000_21, .int .i64 (wrap64 (x7_7 - a1)), .int .i64 0] 40 (0, 0)) Qq hb); have n2_ := J (zak qO hb); clear BK278; clear BK285; clear HB; have BK278 := n0_; have BK285 := n1_; have HB := n2_; clear n0_ n1_ n2_; (try clear hb); (try clear hb2); (try clear hk); (try clear hi); have hnb44 := NB285_278.out; have hnc44 := NB278_285.out; have hcz45_0 : w43.cell? ⟨gb285, 0, none⟩ = some (.int .u8 x286000_21) := (zaf BK285.out 0).trans rfl; have hcz45_1 : w43.cell? ⟨gb285, 1, none⟩ = some (.int .i64 (wrap64 (x7_7 - a1))) := (zaf BK285.out 1).trans rfl; have hcz45_2 : w43.cell? ⟨gb285, 2, none⟩ = some (.int .i64 0) := (zaf BK285.out 2).trans rfl; have hfz45_0 := zab BK285.out 0; have hfz45_1 := zab BK285.out 1; have hfz45_2 := zab BK285.out 2; have hcz46_0 : w43.cell? ⟨gb278, 0, none⟩ = some (.int .u8 0) := (zaf BK278.out 0).trans rfl; have hcz46_1 : w43.cell? ⟨gb278, 1, none⟩ = some (.int .i64 0) := (zaf BK278.out 1).trans rfl; have hcz46_2 : w43.cell? ⟨gb278, 2, none⟩ = some (.int .i64 0) := (zaf BK278.out 2).trans rfl; have hfz46_0 := zab BK278.out 0; have hfz46_1 := zab BK278.out 1; have hfz46_2 := zab BK278.out 2))
           refine bodyPost_ret (zbO rfl _ _ gb278 40 #[.int .u8 x286000_21, .int .i64 (wrap64 (x7_7 - a1)), .int .i64 (wrap64 ((wrap64 ((a0.size : Int) - x7_7)) + 1))] (0, 0) _ rfl (by (with_reducible repeat (first | refine zar ?_ _ | refine zaD ?_ | refine zas ?_ _)); refine zbp (cs := #[.int .u8 x286000_21, .int .i64 (wrap64 (x7_7 - a1)), .int .i64 0]) ?_ 2 _ rfl; (with_reducible repeat (first | refine zar ?_ _ | refine zaD ?_ | refine zas ?_ _)); refine zbp (cs := #[.int .u8 x286000_21, .int .i64 0, .int .i64 0]) ?_ 1 _ rfl; (with_reducible repeat (first | refine zar ?_ _ | refine zaD ?_ | refine zas ?_ _)); refine zbp (cs := #[.int .u8 0, .int .i64 0, .int .i64 0]) ?_ 0 _ rfl; (with_reducible repeat (first | refine zar ?_ _ | refine zaD ?_ | refine zas ?_ _)); refine blk_far ?_ NB278_285.out _; (with_reducible repeat (first | refine zar ?_ _ | refine zaD ?_ | refine zas ?_ _)); exact BK278.out) Try.underlying40 rfl qb) rfl ?_
           exact ⟨qg, qO⟩
         ·replace c37 := Bool.eq_false_iff.mpr c37
          subst c37; have H1 : (some (x286000_21, (wrap64 (x7_7 - a1)), 0, true)) = some (r1, r2, r3, r4) := by rw [if_neg (show ¬ (false = true) by decide)] at H; exact H
          clear H; have H := H1; clear H1; simp only [Option.some.injEq, Prod.mk.injEq] at H; obtain ⟨rfl, rfl, rfl, rfl⟩ := H; go_wp2_with (first | ((with_reducible refine zaK (f := 36) rfl ?_); refine zbc (some 68) rfl rfl Try.func36 qb rfl #[.int .i64 x6_7] rfl qi ?_; (with_reducible refine (zaU.calls kj21 x6_7 true _ A35.out).mono ?_); rintro e w47 ⟨rfl, hb⟩; refine ⟨_, rfl, ?_⟩; have n0_ := J (zaG (g := gb278) (o := .cells #[.int .u8 0, .int .i64 0, .int .i64 0] 40 (0, 0)) qt hb); have n1_ := J (zaG (g := gb285) (o := .cells #[.int .u8 x286000_21, .int .i64 (wrap64 (x7_7 - a1)), .int .i64 0] 40 (0, 0)) Qq hb); have n2_ := J (zak qO hb); clear BK278; clear BK285; clear HB; have BK278 := n0_; have BK285 := n1_; have HB := n2_; clear n0_ n1_ n2_; (try clear hb); (try clear hb2); (try clear hk); (try clear hi); have hnb48 := NB285_278.out; have hnc48 := NB278_285.out; have hcz49_0 : w47.cell? ⟨gb285, 0, none⟩ = some (.int .u8 x286000_21) := (zaf BK285.out 0).trans rfl; have hcz49_1 : w47.cell? ⟨gb285, 1, none⟩ = some (.int .i64 (wrap64 (x7_7 - a1))) := (zaf BK285.out 1).trans rfl; have hcz49_2 : w47.cell? ⟨gb285, 2, none⟩ = some (.int .i64 0) := (zaf BK285.out 2).trans rfl; have hfz49_0 := zab BK285.out 0; have hfz49_1 := zab BK285.out 1; have hfz49_2 := zab BK285.out 2; have hcz50_0 : w47.cell? ⟨gb278, 0, none⟩ = some (.int .u8 0) := (zaf BK278.out 0).trans rfl; have hcz50_1 : w47.cell? ⟨gb278, 1, none⟩ = some (.int .i64 0) := (zaf BK278.out 1).trans rfl; have hcz50_2 : w47.cell? ⟨gb278, 2, none⟩ = some (.int .i64 0) := (zaf BK278.out 2).trans rfl; have hfz50_0 := zab BK278.out 0; have hfz50_1 := zab BK278.out 1; have hfz50_2 := zab BK278.out 2))
          refine bodyPost_ret (zbO rfl _ _ gb278 40 #[.int .u8 x286000_21, .int .i64 (wrap64 (x7_7 - a1)), .int .i64 0] (0, 0) _ rfl (by (with_reducible repeat (first | refine zar ?_ _ | refine zaD ?_ | refine zas ?_ _)); refine zbp (cs := #[.int .u8 x286000_21, .int .i64 (wrap64 (x7_7 - a1)), .int .i64 0]) ?_ 2 _ rfl; (with_reducible repeat (first | refine zar ?_ _ | refine zaD ?_ | refine zas ?_ _)); refine zbp (cs := #[.int .u8 x286000_21, .int .i64 0, .int .i64 0]) ?_ 1 _ rfl; (with_reducible repeat (first | refine zar ?_ _ | refine zaD ?_ | refine zas ?_ _)); refine zbp (cs := #[.int .u8 0, .int .i64 0, .int .i64 0]) ?_ 0 _ rfl; (with_reducible repeat (first | refine zar ?_ _ | refine zaD ?_ | refine zas ?_ _)); exact BK278.out) Try.underlying40 rfl qb) rfl ?_
          exact ⟨qg, qO⟩
        ·replace c36 := Bool.eq_false_iff.mpr c36
         subst c36; have H1 : (some (x286000_21, (wrap64 (x7_7 - a1)), 1, true)) = some (r1, r2, r3, r4) := by rw [if_neg (show ¬ (false = true) by decide)] at H; exact H
         clear H; have H := H1; clear H1; simp only [Option.some.injEq, Prod.mk.injEq] at H; obtain ⟨rfl, rfl, rfl, rfl⟩ := H; go_wp2_with (first | ((with_reducible refine zaK (f := 36) rfl ?_); refine zbc (some 68) rfl rfl Try.func36 qb rfl #[.int .i64 x6_7] rfl qi ?_; (with_reducible refine (zaU.calls kj21 x6_7 false _ A35.out).mono ?_); rintro e w51 ⟨rfl, hb⟩; refine ⟨_, rfl, ?_⟩; have n0_ := J (zaG (g := gb278) (o := .cells #[.int .u8 0, .int .i64 0, .int .i64 0] 40 (0, 0)) qt hb); have n1_ := J (zaG (g := gb285) (o := .cells #[.int .u8 x286000_21, .int .i64 (wrap64 (x7_7 - a1)), .int .i64 0] 40 (0, 0)) Qq hb); have n2_ := J (zak qO hb); clear BK278; clear BK285; clear HB; have BK278 := n0_; have BK285 := n1_; have HB := n2_; clear n0_ n1_ n2_; (try clear hb); (try clear hb2); (try clear hk); (try clear hi); have hnb52 := NB285_278.out; have hnc52 := NB278_285.out; have hcz53_0 : w51.cell? ⟨gb285, 0, none⟩ = some (.int .u8 x286000_21) := (zaf BK285.out 0).trans rfl; have hcz53_1 : w51.cell? ⟨gb285, 1, none⟩ = some (.int .i64 (wrap64 (x7_7 - a1))) := (zaf BK285.out 1).trans rfl; have hcz53_2 : w51.cell? ⟨gb285, 2, none⟩ = some (.int .i64 0) := (zaf BK285.out 2).trans rfl; have hfz53_0 := zab BK285.out 0; have hfz53_1 := zab BK285.out 1; have hfz53_2 := zab BK285.out 2; have hcz54_0 : w51.cell? ⟨gb278, 0, none⟩ = some (.int .u8 0) := (zaf BK278.out 0).trans rfl; have hcz54_1 : w51.cell? ⟨gb278, 1, none⟩ = some (.int .i64 0) := (zaf BK278.out 1).trans rfl; have hcz54_2 : w51.cell? ⟨gb278, 2, none⟩ = some (.int .i64 0) := (zaf BK278.out 2).trans rfl; have hfz54_0 := zab BK278.out 0; have hfz54_1 := zab BK278.out 1; have hfz54_2 := zab BK278.out 2))
         refine bodyPost_ret (zbO rfl _ _ gb278 40 #[.int .u8 x286000_21, .int .i64 (wrap64 (x7_7 - a1)), .int .i64 1] (0, 0) _ rfl (by (with_reducible repeat (first | refine zar ?_ _ | refine zaD ?_ | refine zas ?_ _)); refine zbp (cs := #[.int .u8 x286000_21, .int .i64 (wrap64 (x7_7 - a1)), .int .i64 0]) ?_ 2 _ rfl; (with_reducible repeat (first | refine zar ?_ _ | refine zaD ?_ | refine zas ?_ _)); refine zbp (cs := #[.int .u8 x286000_21, .int .i64 0, .int .i64 0]) ?_ 1 _ rfl; (with_reducible repeat (first | refine zar ?_ _ | refine zaD ?_ | refine zas ?_ _)); refine zbp (cs := #[.int .u8 0, .int .i64 0, .int .i64 0]) ?_ 0 _ rfl; (with_reducible repeat (first | refine zar ?_ _ | refine zaD ?_ | refine zas ?_ _)); refine blk_far ?_ NB278_285.out _; (with_reducible repeat (first | refine zar ?_ _ | refine zaD ?_ | refine zas ?_ _)); exact BK278.out) Try.underlying40 rfl qb) rfl ?_
         exact ⟨qg, qO⟩
def zaZ.l0 : Nat → ByteArray → List (S40) → Int → Option ((List (S40)))
 | 0, _, _, _ => none
 | k + 1, x0, x3, x4 => if x4 < (x0.size : Int) then ((zaq.f k x0 x4).bind fun bt288 => ((zal.f k x0 x4).bind fun bt290 => (if x3.length < 5864062014805 then (zaZ.l0 k x0 (x3 ++ [(⟨bt288.1, wrap64 (bt288.2 - x4), bt290.2.2.1⟩ : S40)]) bt288.2) else (none)))) else (some x3)
def zaZ.f (k : Nat) (a0 : ByteArray) : Option ((List (S40))) := zaZ.l0 k a0 ([] : List (S40)) 0
theorem zaZ.calls (k : Nat) (a0 : ByteArray) (r : List (S40)) (w : World) (h : zaZ.f k a0 = some r) :
  Calls Try.prog 6 #[.string a0] w fun e w' => ∃ v0_ : Value, e = .returned (v0_) ∧ Kd.R k40 40 w' w.heap.size (fun _ => True) v0_ r ∧ Below w.heap.size w w' := by
 have hu40 := Try.underlying40; have HB := J (Below.refl w.heap.size w); have H : (zaZ.l0 k a0 ([] : List (S40)) 0) = some r := h; clear h; have H' := J H; clear H; go_enter Try.func6, Try.ntmps6
 go_wp2
 go_loopg [3, 4] k (fun kq v3 v4 w' => ∃ (x3_1 : List (S40)) (x4_1 : Int), v4 = .int .i64 x4_1 ∧ zaa (zaZ.l0 kq a0 x3_1 x4_1 = some r) ∧ zaa (kq ≤ k) ∧ zaa (Kd.R k40 40 w' w.heap.size (fun _ => True) v3 x3_1) ∧ zaa (Below w.heap.size w w'))
 case atStart => exact ⟨(([] : List (S40))), (0), qc, H', ⟨Nat.le_refl _⟩, ⟨Qt⟩, ⟨qa⟩⟩
 case round =>
  clear H'; obtain ⟨x3_1, x4_1, rfl, HA, HK1, HO_3, HB⟩ := hrel; cases gk with
  | zero => exact absurd HA.out (by simp [zaZ.l0])
  | succ k1 =>
   have H := HA.out; clear HA; simp only [zaZ.l0] at H; by_cases c2 : x4_1 < (a0.size : Int)
   ·rw [if_pos c2] at H
    have c2b0 : decide (x4_1 < (a0.size : Int)) = true := decide_eq_true c2; clear c2; replace H := Option.bind_eq_some_iff.mp H; obtain ⟨⟨t288, t289⟩, A30, H⟩ := H; replace H : ((zal.f k1 a0 x4_1).bind fun bt290 => (if x3_1.length < 5864062014805 then (zaZ.l0 k1 a0 (x3_1 ++ [(⟨t288, wrap64 (t289 - x4_1), bt290.2.2.1⟩ : S40)]) t289) else (none))) = some r := H
    have A3 := J A30; clear A30; replace H := Option.bind_eq_some_iff.mp H; obtain ⟨⟨t290, t291, t292, t293⟩, A40, H⟩ := H; replace H : (if x3_1.length < 5864062014805 then (zaZ.l0 k1 a0 (x3_1 ++ [(⟨t288, wrap64 (t289 - x4_1), t292⟩ : S40)]) t289) else (none)) = some r := H
    have A4 := J A40; clear A40; by_cases c5 : x3_1.length < 5864062014805
    ·rw [if_pos c5] at H
     have LMc5 := J c5; clear c5; obtain ⟨y295, hy295⟩ : ∃ y_ : List (S40), y_ = (x3_1 ++ [(⟨t288, wrap64 (t289 - x4_1), t292⟩ : S40)]) := ⟨_, rfl⟩; replace H : (zaZ.l0 k1 a0 y295 t289) = some r := by first | (rw [hy295]; with_reducible exact H) | (have H2_ := (Option.bind_some _ _).symm.trans H; rw [hy295]; with_reducible exact H2_) | (have H2_ := (Option.bind_some _ _).symm.trans H; with_reducible exact H2_) | with_reducible exact H | (rw [hy295]; exact H) | exact H
     have Ny295 := J hy295; clear hy295; have H' := J H; clear H; go_wp2_with (first | ((with_reducible refine zaK (f := 10) rfl ?_); refine zbc (some 16) rfl rfl Try.func10 qb rfl #[.string a0, .int .i64 x4_1] rfl qi ?_; (with_reducible refine (zaq.calls k1 a0 x4_1 t288 t289 _ A3.out).mono ?_); rintro e w6 ⟨rfl, hb⟩; refine ⟨_, rfl, ?_⟩; have n0_ := J (Kd.zbx Q8 hb); have n1_ := J (zak qa hb); clear HO_3; clear HB; have HO_3 := n0_; have HB := n1_; clear n0_ n1_; (try clear hb); (try clear hb2); (try clear hk); (try clear hi)) | ((with_reducible refine zaK (f := 11) rfl ?_); refine zbc (some 22) rfl rfl Try.func11 qb rfl #[.string a0, .int .i64 x4_1] rfl qi ?_; (with_reducible refine (zal.calls k1 a0 x4_1 t290 t291 t292 t293 _ A4.out).mono ?_); rintro e w7 ⟨rfl, hb⟩; refine ⟨_, rfl, ?_⟩; have n0_ := J (Kd.zbx Q8 hb); have n1_ := J (zak qa hb); clear HO_3; clear HB; have HO_3 := n0_; have HB := n1_; clear n0_ n1_; (try clear hb); (try clear hb2); (try clear hk); (try clear hi)) | ((with_reducible refine za2 (N := 7) rfl ?_); refine zbd ?hg (N := 7) ?hd (cs := #[.int .u8 0, .int .i64 0, .int .i64 0]) (t := 40) ?hr ?_; (case hd => rfl); (case hg => rfl); (case hr => first | (go_simp; done) | (go_simp; rfl)); intro gb294 hg w8 hbox hb; have n0_ := J (Kd.zbx (Kd.R_elderB Q8 gb294 (Nat.le_of_eq hg.symm)) hb); have n1_ := J (zak qa hb); have n2_ := J (hbox); have n3_ := J ((by rw [hg]; exact (zav qa) : w.heap.size ≤ gb294)); have n4_ := J ((by rw [hg]; exact (zav qa) : w.heap.size ≤ gb294)); clear HO_3; clear HB; have HO_3 := n0_; have HB := n1_; have BK294 := n2_; have GW294 := n3_; have GE294 := n4_; clear n0_ n1_ n2_ n3_ n4_; clear hb hbox hg; have hcz9_0 : w8.cell? ⟨gb294, 0, none⟩ = some (.int .u8 0) := (zaf BK294.out 0).trans rfl; have hcz9_1 : w8.cell? ⟨gb294, 1, none⟩ = some (.int .i64 0) := (zaf BK294.out 1).trans rfl; have hcz9_2 : w8.cell? ⟨gb294, 2, none⟩ = some (.int .i64 0) := (zaf BK294.out 2).trans rfl; have hfz9_0 := zab BK294.out 0; have hfz9_1 := zab BK294.out 1; have hfz9_2 := zab BK294.out 2) | ((with_reducible refine gate_builtin (b := .append) (xs := #[.tmp 25, .tmp 33]) rfl ?_); at_builtin; refine Kd.R_append k40 (w0 := w) w.heap.size rfl (.tmp 25) (.tmp 33) 27 40 (.agg #[(.int .u8 0), (.int .i64 0), (.int .i64 0)]) 24 rfl Try.underlying27 info40 rfl qe q9 u3 x3_1 (⟨t288, wrap64 (t289 - x4_1), t292⟩ : S40) [.int .u8 t288, .int .i64 (wrap64 (t289 - x4_1)), .int .i64 t292] (fun k_ => k_ ≠ gb294) (fun _ => False) rfl (by first | (go_simp; done) | (go_simp; rfl)) ?aP (fun _ hk => hk.elim) ?aF ?aO ?aB ?aS ?aL ?_; (case aP => exact k40_mkM _ _ _ (⟨t288, wrap64 (t289 - x4_1), t292⟩ : S40)); (case aB => exact Qu); (case aF => exact (fun k_ hk => Kd.freshB (g := gb294) (o := .cells #[.int .u8 t290, .int .i64 t291, .int .i64 t292] 40 (0, 0)) (by (with_reducible repeat (first | refine zar ?_ _ | refine zaD ?_ | refine zas ?_ _)); refine zbp (cs := #[.int .u8 t290, .int .i64 t291, .int .i64 0]) ?_ 2 _ rfl; (with_reducible repeat (first | refine zar ?_ _ | refine zaD ?_ | refine zas ?_ _)); refine zbp (cs := #[.int .u8 t290, .int .i64 0, .int .i64 0]) ?_ 1 _ rfl; (with_reducible repeat (first | refine zar ?_ _ | refine zaD ?_ | refine zas ?_ _)); refine zbp (cs := #[.int .u8 0, .int .i64 0, .int .i64 0]) ?_ 0 _ rfl; (with_reducible repeat (first | refine zar ?_ _ | refine zaD ?_ | refine zas ?_ _)); exact BK294.out) k_ hk)); (case aO => exact (by (with_reducible repeat (first | apply Kd.zbo | apply Kd.zbn | apply Kd.zbD)); exact Kd.zbl (Kd.R_far (p := ⟨gb294, 2, none⟩) (Kd.R_far (p := ⟨gb294, 1, none⟩) (Kd.R_far (p := ⟨gb294, 0, none⟩) (Kd.zbl HO_3.out (fun k_ hk => (⟨hk, hk.2⟩ : _ ∧ k_ ≠ gb294))) (fun _ hk => hk.2) (.int .u8 t290)) (fun _ hk => hk.2) (.int .i64 t291)) (fun _ hk => hk.2) (.int .i64 t292)) (fun _ hk => hk.1.2))); (case aS => exact (zav Qu)); (case aL => have := LMc5.out; omega); intro v296 w10 ho hb hg hat; rw [← Ny295.out] at ho; have n0_ := J (blk_grown (g := gb294) (o := .cells #[.int .u8 t290, .int .i64 t291, .int .i64 t292] 40 (0, 0)) (by (with_reducible repeat (first | refine zar ?_ _ | refine zaD ?_ | refine zas ?_ _)); refine zbp (cs := #[.int .u8 t290, .int .i64 t291, .int .i64 0]) ?_ 2 _ rfl; (with_reducible repeat (first | refine zar ?_ _ | refine zaD ?_ | refine zas ?_ _)); refine zbp (cs := #[.int .u8 t290, .int .i64 0, .int .i64 0]) ?_ 1 _ rfl; (with_reducible repeat (first | refine zar ?_ _ | refine zaD ?_ | refine zas ?_ _)); refine zbp (cs := #[.int .u8 0, .int .i64 0, .int .i64 0]) ?_ 0 _ rfl; (with_reducible repeat (first | refine zar ?_ _ | refine zaD ?_ | refine zas ?_ _)); exact BK294.out) hg (Kd.R_away HO_3.out (fun _ hk => hk.2))); have n1_ := J (hb); have n2_ := J (ho); clear BK294; clear HB; clear HO_3; have BK294 := n0_; have HB := n1_; have HO297 := n2_; clear n0_ n1_ n2_; clear ho hb hg hat))
     go_roundg k1
     case measure => have := HK1.out; omega
     case rel => exact ⟨(y295), (t289), qc, H', ⟨qx⟩, ⟨by (with_reducible repeat (first | apply Kd.zbo | apply Kd.zbn | apply Kd.zbD)); exact Kd.zbl HO297.out (fun _ hk => trivial)⟩, ⟨Qu⟩⟩
    ·rw [if_neg c5] at H
     exact absurd H qf
   ·rw [if_neg c2] at H
    have c2b0 : decide (x4_1 < (a0.size : Int)) = false := decide_eq_false c2; clear c2; obtain rfl := Option.some.inj H; go_wp2
    go_ret
    exact ⟨_, qg, Q8, qa⟩
end
def Tot {α : Type} (g : Nat → Option α) (p : α → Prop) : Prop := ∃ v, Ev g v ∧ p v
section
variable {α β : Type} {f g : Nat → Option α} {p q : α → Prop}
theorem Tot.some {v : α} (h : p v) : Tot (fun _ => some v) p := ⟨v, ⟨0, fun _ _ => rfl⟩, h⟩
theorem Tot.step (h : ∀ k, g (k + 1) = f k) (t : Tot f p) : Tot g p := by
 obtain ⟨v, hv, hp⟩ := t; exact ⟨v, Ev.step h hv, hp⟩
theorem Tot.ite {c : Prop} [Decidable c] (h : c → Tot f p) (h' : ¬ c → Tot g p) : Tot (fun k => if c then f k else g k) p := by
 by_cases hc : c
 ·simpa [hc] using h hc
 ·simpa [hc] using h' hc
theorem Tot.bind {u : Nat → Option β} {r : β → Prop} {g : Nat → β → Option α} (h : Tot u r) (h' : ∀ v, r v → Tot (fun k => g k v) p) : Tot (fun k => (u k).bind (g k)) p := by
 obtain ⟨v, hv, hr⟩ := h; obtain ⟨w, hw, hp⟩ := h' v hr; exact ⟨w, Ev.bind hv hw, hp⟩
theorem Tot.mono (h : Tot f p) (hq : ∀ v, p v → q v) : Tot f q := by
 obtain ⟨v, hv, hp⟩ := h; exact ⟨v, hv, hq v hp⟩
theorem Tot.const {o : Option α} {v : α} (h : o = Option.some v) (hp : p v) : Tot (fun _ => o) p := ⟨v, ⟨0, fun _ _ => h⟩, hp⟩
end
theorem zbb {x : Int} (h0 : -9223372036854775808 ≤ x) (h1 : x ≤ 9223372036854775807) : wrap64 x = x := by unfold wrap64; omega
theorem blank_tot (c : Int) : ∃ b, zaY.f c = some b := by
 unfold zaY.f
 repeat' split
 all_goals exact ⟨_, rfl⟩
theorem letter_tot (c : Int) : ∃ b, zaV.f c = some b := by
 unfold zaV.f
 repeat' split
 all_goals exact ⟨_, rfl⟩
theorem digit_tot (c : Int) : ∃ b, zaO.f c = some b := by
 unfold zaO.f
 repeat' split
 all_goals exact ⟨_, rfl⟩
def OneP (s : ByteArray) (at_ : Int) (v : Int × Int) : Prop := (0 ≤ v.1 ∧ v.1 ≤ 255) ∧ at_ < v.2 ∧ v.2 ≤ s.size
theorem one_l0 (s : ByteArray) (hs : (s.size : Int) ≤ 3000) (at_ : Int) (h0 : 0 ≤ at_) : ∀ (n : Nat) (i : Int), (s.size : Int) - i ≤ n → (at_ < i ∨ (i = at_ ∧ i < s.size ∧ zaY.f (bt s i) = some true)) → i ≤ s.size → Tot (fun k => zaq.l0 k s i) (OneP s at_)
 | n, i, hn, hi, hi2 => by
  apply Tot.step
  ·intro k; rw [zaq.l0]
  refine Tot.ite (fun hc => ?_) (fun hc => Tot.some ⟨qB, qm, hi2⟩)
  refine Tot.ite (fun hc2 => ?_) (fun hc2 => absurd (show (0 : Int) ≤ i by omega) hc2)
  obtain ⟨b, hb⟩ := blank_tot (bt s i); refine Tot.bind (Tot.const hb (p := fun v => v = b) rfl) (fun v hv => ?_)
  refine Tot.ite (fun hc3 => ?_) (fun hc3 => Tot.some ⟨qB, ?_, hi2⟩)
  rotate_left
  ·rcases hi with hi | ⟨rfl, _, hi⟩
   ·exact hi
   ·rw [hi] at hb; exact absurd (hv.trans (Option.some.inj hb).symm) hc3
  rw [zbb (x := i + 1) q9 q9]
  match n, hn with
  | 0, hn => omega
  | n + 1, hn => exact one_l0 s hs at_ h0 n (i + 1) q9 (.inl q9) q9
theorem one_l2 (s : ByteArray) (hs : (s.size : Int) ≤ 3000) (at_ : Int) (h0 : 0 ≤ at_) : ∀ (n : Nat) (i : Int), (s.size : Int) - i ≤ n → (at_ < i ∨ (i = at_ ∧ i < s.size ∧ zaO.f (bt s i) = some true)) → i ≤ s.size → Tot (fun k => zaq.l2 k s i) (OneP s at_)
 | n, i, hn, hi, hi2 => by
  apply Tot.step
  ·intro k; rw [zaq.l2]
  refine Tot.ite (fun hc => ?_) (fun hc => Tot.some ⟨qB, qm, hi2⟩)
  refine Tot.ite (fun hc2 => ?_) (fun hc2 => absurd (show (0 : Int) ≤ i by omega) hc2)
  obtain ⟨b, hb⟩ := digit_tot (bt s i); refine Tot.bind (Tot.const hb (p := fun v => v = b) rfl) (fun v hv => ?_)
  refine Tot.ite (fun hc3 => ?_) (fun hc3 => Tot.some ⟨qB, ?_, hi2⟩)
  rotate_left
  ·rcases hi with hi | ⟨rfl, _, hi⟩
   ·exact hi
   ·rw [hi] at hb; exact absurd (hv.trans (Option.some.inj hb).symm) hc3
  rw [zbb (x := i + 1) q9 q9]
  match n, hn with
  | 0, hn => omega
  | n + 1, hn => exact one_l2 s hs at_ h0 n (i + 1) q9 (.inl q9) q9
theorem word_l0 (w : ByteArray) (l : List ByteArray) (hl : l.length = 8) : ∀ (n : Nat) (i : Int), 8 - i ≤ n → 0 ≤ i → i ≤ 8 → Tot (fun k => zaS.l0 k w l i) (fun v => 0 ≤ v ∧ v ≤ 255)
 | n, i, hn, hi, hi2 => by
  apply Tot.step
  ·intro k; rw [zaS.l0]
  refine Tot.ite (fun hc => ?_) (fun hc => Tot.some qe)
  refine Tot.ite (fun hc2 => ?_) (fun hc2 => absurd hi hc2)
  refine Tot.ite (fun hc3 => Tot.some q9) (fun hc3 => ?_)
  rw [zbb (x := i + 1) q9 q9]
  match n, hn with
  | 0, hn => omega
  | n + 1, hn => exact word_l0 w l hl n (i + 1) q9 q9 q9
theorem word_tot (w : ByteArray) : Tot (fun k => zaS.f k w) (fun v => 0 ≤ v ∧ v ≤ 255) := word_l0 w _ rfl 8 0 q9 q9 q9
theorem one_l1 (s : ByteArray) (hs : (s.size : Int) ≤ 3000) (at_ : Int) (h0 : 0 ≤ at_) : ∀ (n : Nat) (i : Int), (s.size : Int) - i ≤ n → (at_ < i ∨ (i = at_ ∧ i < s.size ∧ zaV.f (bt s i) = some true)) → i ≤ s.size → Tot (fun k => zaq.l1 k s at_ i) (OneP s at_)
 | n, i, hn, hi, hi2 => by
  have hw : at_ < i → ∀ (w : ByteArray), Tot (fun k => (zaS.f k w).bind fun t => some (t, i)) (OneP s at_) := fun hi w =>
   Tot.bind (g := fun _ t => some (t, i)) (word_tot w) (fun v hv => Tot.some ⟨hv, hi, hi2⟩)
  have hstep : Tot (fun k => zaq.l1 k s at_ (wrap64 (i + 1))) (OneP s at_) ∨ ¬ i < (s.size : Int) := by
   by_cases hc : i < (s.size : Int)
   ·refine .inl ?_
    rw [zbb (x := i + 1) q9 q9]
    match n, hn with
    | 0, hn => omega
    | n + 1, hn => exact one_l1 s hs at_ h0 n (i + 1) q9 (.inl q9) q9
   ·exact .inr hc
  apply Tot.step
  ·intro k; rw [zaq.l1]
  refine Tot.ite (fun hc => ?_) (fun hc => ?_)
  ·have hst := hstep.resolve_right (fun h => h hc)
   refine Tot.ite (fun hc2 => ?_) (fun hc2 => absurd (show (0 : Int) ≤ i by omega) hc2)
   obtain ⟨b, hb⟩ := letter_tot (bt s i); refine Tot.bind (Tot.const hb (p := fun v => v = b) rfl) (fun v hv => ?_)
   refine Tot.ite (fun hc3 => hst) (fun hc3 => ?_)
   have hlt : at_ < i := by
    rcases hi with hi | ⟨rfl, _, hi⟩
    ·exact hi
    ·rw [hi] at hb; exact absurd (hv.trans (Option.some.inj hb).symm) hc3
   obtain ⟨b2, hb2⟩ := digit_tot (bt s i); refine Tot.bind (Tot.const hb2 (p := fun _ => True) trivial) (fun v _ => ?_)
   refine Tot.ite (fun hc3 => hst) (fun hc3 => ?_)
   refine Tot.ite (fun _ => ?_) (fun h => absurd h0 h)
   refine Tot.ite (fun _ => ?_) (fun h => absurd (show at_ ≤ i by omega) h)
   refine Tot.ite (fun _ => hw q9 _) (fun h => absurd hi2 h)
  ·refine Tot.ite (fun _ => ?_) (fun h => absurd h0 h)
   refine Tot.ite (fun _ => ?_) (fun h => absurd (show at_ ≤ i by omega) h)
   refine Tot.ite (fun _ => hw q9 _) (fun h => absurd hi2 h)
theorem slash_l0 (s : ByteArray) (hs : (s.size : Int) ≤ 3000) (at_ : Int) (h0 : 0 ≤ at_) (ha : at_ < s.size) : ∀ (n : Nat) (i : Int), (s.size : Int) - i ≤ n → (at_ < i ∨ (i = at_ ∧ bt s i = 47)) → i ≤ s.size → Tot (fun k => zao.l0 k s i) (OneP s at_)
 | n, i, hn, hi, hi2 => by
  apply Tot.step
  ·intro k; rw [zao.l0]
  refine Tot.ite (fun hc => ?_) (fun hc => Tot.some ⟨qB, qm, hi2⟩)
  refine Tot.ite (fun hc2 => ?_) (fun hc2 => absurd (show (0 : Int) ≤ i by omega) hc2)
  refine Tot.ite (fun hc3 => Tot.some ⟨qB, qm, hi2⟩) (fun hc3 => ?_)
  refine Tot.ite (fun hc4 => Tot.some ⟨qB, qm, hi2⟩) (fun hc4 => ?_)
  rw [zbb (x := i + 1) q9 q9]
  match n, hn with
  | 0, hn => omega
  | n + 1, hn => exact slash_l0 s hs at_ h0 ha n (i + 1) q9 (.inl q9) q9
theorem slash_l1 (s : ByteArray) (hs : (s.size : Int) ≤ 3000) (at_ : Int) (h0 : 0 ≤ at_) (ha : at_ < s.size) : ∀ (n : Nat) (i : Int), (s.size : Int) + 3 - i ≤ n → at_ < i → i ≤ s.size + 2 → Tot (fun k => zao.l1 k s i) (OneP s at_)
 | n, i, hn, hi, hi2 => by
  apply Tot.step
  ·intro k; rw [zao.l1]
  rw [zbb (x := i + 1) q9 q9, zbb (x := i + 2) q9 q9]
  refine Tot.ite (fun hc => ?_) (fun hc => Tot.some ⟨qB, qm, qm⟩)
  have hst : Tot (fun k => zao.l1 k s (i + 1)) (OneP s at_) := by
   match n, hn with
   | 0, hn => omega
   | n + 1, hn => exact slash_l1 s hs at_ h0 ha n (i + 1) q9 q9 q9
  refine Tot.ite (fun hc2 => ?_) (fun hc2 => absurd (show (0 : Int) ≤ i by omega) hc2)
  refine Tot.ite (fun hc2 => ?_) (fun hc2 => absurd (show i < (s.size : Int) by omega) hc2)
  refine Tot.ite (fun hc3 => ?_) (fun hc3 => hst)
  refine Tot.ite (fun hc4 => ?_) (fun hc4 => absurd (show (0 : Int) ≤ i + 1 by omega) hc4)
  exact Tot.ite (fun hc5 => Tot.some ⟨qB, qm, qm⟩) (fun hc5 => hst)
theorem slash_tot (s : ByteArray) (hs : (s.size : Int) ≤ 3000) (at_ : Int) (h0 : 0 ≤ at_) (ha : at_ < s.size) (h47 : bt s at_ = 47) : Tot (fun k => zao.f k s at_) (OneP s at_) := by
 have hj2 : ∀ b, Tot (fun k => zao.j2 k s at_ b) (OneP s at_) := fun b => by
  apply Tot.step
  ·intro k; rw [zao.j2]
  refine Tot.ite (fun _ => ?_) (fun _ => ?_)
  ·rw [zbb (x := at_ + 2) q9 q9]
   exact slash_l1 s hs at_ h0 ha ((s.size : Int) + 3).toNat (at_ + 2) q9 q9 q9
  ·rw [zbb (x := at_ + 1) q9 q9]
   exact Tot.some ⟨qB, qm, qm⟩
 have hj0 : ∀ b, Tot (fun k => zao.j0 k s at_ b) (OneP s at_) := fun b => by
  apply Tot.step
  ·intro k; rw [zao.j0]
  rw [zbb (x := at_ + 1) q9 q9]
  refine Tot.ite (fun _ => slash_l0 s hs at_ h0 ha (s.size : Int).toNat at_ q9 (.inr ⟨rfl, h47⟩) q9) (fun _ => ?_)
  refine Tot.ite (fun _ => ?_) (fun _ => hj2 _)
  exact Tot.ite (fun _ => hj2 _) (fun h => absurd (show (0 : Int) ≤ at_ + 1 by omega) h)
 unfold zao.f
 rw [zbb (x := at_ + 1) q9 q9]
 refine Tot.ite (fun _ => ?_) (fun _ => hj0 _)
 exact Tot.ite (fun _ => hj0 _) (fun h => absurd (show (0 : Int) ≤ at_ + 1 by omega) h)
def NextP (s : ByteArray) (i : Int) (v : Int × Int × Bool) : Prop := v.2.2 = true → 1 ≤ v.2.1 ∧ i + v.2.1 ≤ s.size
theorem next_no (s : ByteArray) (i a b : Int) : NextP s i (a, b, false) := fun h => by cases h
theorem next_l0 (s : ByteArray) (hs : (s.size : Int) ≤ 3000) (i : Int) (h0 : 0 ≤ i) (c : Int) (hc0 : 1 ≤ c) (hc1 : c ≤ 4) (hi : i + c ≤ s.size) : ∀ (n : Nat) (x j : Int), c - j ≤ n → 0 ≤ j → j ≤ c → Tot (fun k => zan.l0 k s i c x j) (NextP s i)
 | n, x, j, hn, hj, hj2 => by
  apply Tot.step
  ·intro k; rw [zan.l0]
  rw [zbb (x := i + j) q9 q9]
  refine Tot.ite (fun hc => ?_) (fun hc => ?_)
  ·refine Tot.ite (fun _ => ?_) (fun h => absurd (show 0 ≤ i + j by omega) h)
   refine Tot.ite (fun _ => ?_) (fun h => absurd (show i + j < (s.size : Int) by omega) h)
   refine Tot.ite (fun _ => Tot.some (next_no s i _ _)) (fun _ => ?_)
   refine Tot.ite (fun _ => Tot.some (next_no s i _ _)) (fun _ => ?_)
   rw [zbb (x := j + 1) q9 q9]
   match n, hn with
   | 0, hn => omega
   | n + 1, hn => exact next_l0 s hs i h0 c hc0 hc1 hi n _ (j + 1) q9 q9 q9
  ·refine Tot.bind (g := fun _ y => if 0 ≤ c then if c < (y.length : Int) then _ else _ else _) (Tot.const rfl (p := fun y => y = [0, 0, 128, 2048, 65536]) rfl) (fun y hy => ?_)
   subst hy; refine Tot.ite (fun _ => ?_) (fun h => absurd (show 0 ≤ c by omega) h)
   refine Tot.ite (fun _ => ?_) (fun h => absurd (show c < (([0, 0, 128, 2048, 65536] : List Int).length : Int) by simp; omega) h)
   have hy : Tot (fun _ => some (wrap32 x, c, true)) (NextP s i) := Tot.some (fun _ => ⟨hc0, hi⟩)
   refine Tot.ite (fun _ => Tot.some (next_no s i _ _)) (fun _ => ?_)
   refine Tot.ite (fun _ => Tot.some (next_no s i _ _)) (fun _ => ?_)
   refine Tot.ite (fun _ => ?_) (fun _ => hy)
   exact Tot.ite (fun _ => Tot.some (next_no s i _ _)) (fun _ => hy)
theorem next_tot (s : ByteArray) (hs : (s.size : Int) ≤ 3000) (i : Int) (h0 : 0 ≤ i) (hi : i ≤ s.size) : Tot (fun k => zan.f k s i) (NextP s i) := by
 have hj3 : ∀ c x : Int, 1 ≤ c → c ≤ 4 → Tot (fun k => zan.j3 k s i c x) (NextP s i) := fun c x c0 c1 => by
  apply Tot.step
  ·intro k; rw [zan.j3]
  rw [zbb (x := i + c) q9 q9]
  exact Tot.ite (fun _ => Tot.some (next_no s i _ _)) (fun h => next_l0 s hs i h0 c c0 c1 q9 c.toNat x 1 q9 q9 q9)
 have hj2 : ∀ (x : Int) (b : Bool), Tot (fun k => zan.j2 k s i x b) (NextP s i) := fun x b => by
  apply Tot.step
  ·intro k; rw [zan.j2]
  refine Tot.ite (fun _ => hj3 _ _ q9 q9) (fun _ => ?_)
  refine Tot.ite (fun _ => ?_) (fun _ => Tot.some (next_no s i _ _))
  exact Tot.ite (fun _ => hj3 _ _ q9 q9) (fun _ => Tot.some (next_no s i _ _))
 have hj1 : ∀ (x : Int) (b : Bool), Tot (fun k => zan.j1 k s i x b) (NextP s i) := fun x b => by
  apply Tot.step
  ·intro k; rw [zan.j1]
  refine Tot.ite (fun _ => hj3 _ _ q9 q9) (fun _ => ?_)
  exact Tot.ite (fun _ => hj2 _ _) (fun _ => hj2 _ _)
 have hj0 : ∀ (b : Bool), (b = false → i < s.size) → Tot (fun k => zan.j0 k s i b) (NextP s i) := fun b hb => by
  apply Tot.step
  ·intro k; rw [zan.j0]
  refine Tot.ite (fun _ => Tot.some (next_no s i _ _)) (fun hbn => ?_)
  have hlt := hb (by simpa using hbn)
  refine Tot.ite (fun _ => ?_) (fun h => absurd h0 h)
  refine Tot.ite (fun _ => ?_) (fun h => absurd hlt h)
  refine Tot.ite (fun _ => Tot.some (fun _ => ⟨qf, qm⟩)) (fun _ => ?_)
  exact Tot.ite (fun _ => hj1 _ _) (fun _ => hj1 _ _)
 unfold zan.f
 refine Tot.ite (fun h => absurd h0 q9) (fun _ => hj0 _ (fun h => ?_))
 have := of_decide_eq_false h; omega
theorem size_tot (s : ByteArray) (hs : (s.size : Int) ≤ 3000) (i : Int) (h0 : 0 ≤ i) (hi : i < s.size) : Tot (fun k => za0.f k s i) (fun v => 1 ≤ v ∧ i + v ≤ s.size) := by
 unfold za0.f
 refine Tot.bind (g := fun _ b => if b.2.2 = true then some b.2.1 else some 1) (next_tot s hs i h0 q9) (fun v hv => ?_)
 exact Tot.ite (fun h => Tot.some (hv h)) (fun _ => Tot.some ⟨q9, q9⟩)
theorem quoted_tot (s : ByteArray) (hs : (s.size : Int) ≤ 3000) (at_ : Int) (h0 : 0 ≤ at_) : ∀ (n : Nat) (i : Int), (s.size : Int) - i ≤ n → at_ < i → i ≤ s.size → Tot (fun k => zay.l0 k s i) (OneP s at_)
 | n, i, hn, hi, hi2 => by
  have hj1 : ∀ b : Bool, (b = true → i < s.size) → Tot (fun k => zay.j1 k s i b) (OneP s at_) := fun b hb => by
   apply Tot.step
   ·intro k; rw [zay.j1]
   refine Tot.ite (fun hbt => ?_) (fun _ => Tot.some ⟨qB, hi, hi2⟩)
   have hlt := hb hbt; have hsz : ∀ j : Int, i ≤ j → j < s.size → Tot (fun k => (za0.f k s j).bind fun t => zay.l0 k s (wrap64 (j + t))) (OneP s at_) := fun j hj hj2 =>
    Tot.bind (g := fun k t => zay.l0 k s (wrap64 (j + t))) (size_tot s hs j q9 hj2) (fun v hv => by
     rw [zbb (x := j + v) q9 q9]
     match n, hn with
     | 0, hn => omega
     | n + 1, hn => exact quoted_tot s hs at_ h0 n (j + v) q9 q9 q9)
   refine Tot.ite (fun _ => ?_) (fun h => absurd (show 0 ≤ i by omega) h)
   refine Tot.ite (fun _ => ?_) (fun h => absurd hlt h)
   rw [zbb (x := i + 1) q9 q9]
   refine Tot.ite (fun _ => Tot.some ⟨qB, qm, qm⟩) (fun _ => ?_)
   refine Tot.ite (fun _ => ?_) (fun _ => hsz i q9 hlt)
   refine Tot.ite (fun _ => Tot.some ⟨qB, qm, qm⟩) (fun hne => ?_)
   refine Tot.ite (fun _ => ?_) (fun h => absurd (show 0 ≤ i + 1 by omega) h)
   refine Tot.ite (fun _ => ?_) (fun h => absurd (show i + 1 < (s.size : Int) by omega) h)
   refine Tot.ite (fun _ => Tot.some ⟨qB, qm, qm⟩) (fun _ => ?_)
   refine Tot.ite (fun _ => Tot.some ⟨qB, qm, qm⟩) (fun _ => ?_)
   exact hsz (i + 1) q9 q9
  apply Tot.step
  ·intro k; rw [zay.l0]
  refine Tot.ite (fun hc => ?_) (fun hc => hj1 _ (fun h => by cases h))
  refine Tot.ite (fun _ => ?_) (fun h => absurd (show 0 ≤ i by omega) h)
  exact Tot.ite (fun _ => hj1 _ (fun h => by cases h)) (fun _ => hj1 _ (fun _ => hc))
theorem rd_byte (l : List Int) (h : ∀ x ∈ l, 0 ≤ x ∧ x ≤ 255) (i : Int) : 0 ≤ rd l i ∧ rd l i ≤ 255 := by
 unfold rd
 rw [List.getD_eq_getElem?_getD]; rcases Nat.lt_or_ge i.toNat l.length with hk | hk
 ·rw [List.getElem?_eq_getElem hk]
  exact h _ (List.getElem_mem hk)
 ·rw [List.getElem?_eq_none hk]
  exact ⟨qf, qf⟩
theorem sign_l1 (s : ByteArray) (hs : (s.size : Int) ≤ 3000) (at_ : Int) (h0 : 0 ≤ at_) (ha : at_ < s.size) (b : ByteArray) (l : List Int) (hb : b.size = 14) (hl : l.length = 14) (hk : ∀ x ∈ l, 0 ≤ x ∧ x ≤ 255) :
  ∀ (n : Nat) (i : Int), 14 - i ≤ n → 0 ≤ i → i ≤ 14 → Tot (fun k => zaH.l1 k s at_ b l i) (OneP s at_)
 | n, i, hn, hi, hi2 => by
  apply Tot.step
  ·intro k; rw [zaH.l1]
  refine Tot.ite (fun hc => ?_) (fun hc => ?_)
  ·refine Tot.ite (fun _ => ?_) (fun h => absurd h0 h)
   refine Tot.ite (fun _ => ?_) (fun h => absurd ha h)
   refine Tot.ite (fun _ => ?_) (fun h => absurd hi h)
   refine Tot.ite (fun _ => ?_) (fun _ => ?_)
   ·refine Tot.ite (fun _ => Tot.some ⟨rd_byte l hk i, ?_, ?_⟩) (fun h => absurd (show i < (l.length : Int) by omega) h)
    ·rw [zbb (x := at_ + 1) q9 q9]; simp only; omega
    ·rw [zbb (x := at_ + 1) q9 q9]; simp only; omega
   ·rw [zbb (x := i + 1) q9 q9]
    match n, hn with
    | 0, hn => omega
    | n + 1, hn => exact sign_l1 s hs at_ h0 ha b l hb hl hk n (i + 1) q9 q9 q9
  ·refine Tot.bind (g := fun _ t => some (5, wrap64 (at_ + t))) (size_tot s hs at_ h0 ha) (fun v hv => ?_)
   rw [zbb (x := at_ + v) q9 q9]
   exact Tot.some ⟨qB, qm, qm⟩
theorem sign_l0 (s : ByteArray) (hs : (s.size : Int) ≤ 3000) (at_ : Int) (h0 : 0 ≤ at_) (ha : at_ < s.size) (b : List ByteArray) (l : List Int) (hb : b.length = 6) (hl : l.length = 6) (hk : ∀ x ∈ l, 0 ≤ x ∧ x ≤ 255) :
  ∀ (n : Nat) (i : Int), 6 - i ≤ n → 0 ≤ i → i ≤ 6 → Tot (fun k => zaH.l0 k s at_ b l i) (OneP s at_)
 | n, i, hn, hi, hi2 => by
  apply Tot.step
  ·intro k; rw [zaH.l0]
  rw [zbb (x := at_ + 2) q9 q9]
  have hst : i < (b.length : Int) → Tot (fun k => zaH.l0 k s at_ b l (wrap64 (i + 1))) (OneP s at_) := fun hlt => by
   rw [zbb (x := i + 1) q9 q9]
   match n, hn with
   | 0, hn => omega
   | n + 1, hn => exact sign_l0 s hs at_ h0 ha b l hb hl hk n (i + 1) q9 q9 q9
  refine Tot.ite (fun hc => ?_) (fun hc => ?_)
  ·refine Tot.ite (fun hc2 => ?_) (fun _ => hst hc)
   refine Tot.ite (fun _ => ?_) (fun h => absurd h0 h)
   refine Tot.ite (fun _ => ?_) (fun h => absurd (show at_ ≤ at_ + 2 by omega) h)
   refine Tot.ite (fun _ => ?_) (fun h => absurd hi h)
   refine Tot.ite (fun _ => ?_) (fun _ => hst hc)
   exact Tot.ite (fun _ => Tot.some ⟨rd_byte l hk i, qm, qm⟩) (fun h => absurd (show i < (l.length : Int) by omega) h)
  ·exact sign_l1 s hs at_ h0 ha _ _ rfl rfl qe 14 0 q9 q9 q9
theorem sign_tot (s : ByteArray) (hs : (s.size : Int) ≤ 3000) (at_ : Int) (h0 : 0 ≤ at_) (ha : at_ < s.size) : Tot (fun k => zaH.f k s at_) (OneP s at_) :=
 sign_l0 s hs at_ h0 ha _ _ rfl rfl qe 6 0 q9 q9 q9
theorem one_tot (s : ByteArray) (hs : (s.size : Int) ≤ 3000) (at_ : Int) (h0 : 0 ≤ at_) (ha : at_ < s.size) : Tot (fun k => zaq.f k s at_) (OneP s at_) := by
 unfold zaq.f
 refine Tot.ite (fun _ => ?_) (fun h => absurd h0 h)
 refine Tot.ite (fun _ => ?_) (fun h => absurd ha h)
 obtain ⟨b, hb⟩ := blank_tot (bt s at_); refine Tot.bind (Tot.const hb (p := fun v => v = b) rfl) (fun v hv => ?_)
 refine Tot.ite (fun hc => one_l0 s hs at_ h0 (s.size : Int).toNat at_ q9 (.inr ⟨rfl, ha, by rw [hb, ← hv, hc]⟩) q9) (fun _ => ?_)
 have hpair : ∀ (g : Nat → Option (Int × Int)), Tot g (OneP s at_) → Tot (fun k => (g k).bind fun b => some (b.1, b.2)) (OneP s at_) := fun g hg =>
  Tot.bind (g := fun _ b => some (b.1, b.2)) hg (fun v hv => Tot.some hv)
 refine Tot.ite (fun h47 => hpair _ (slash_tot s hs at_ h0 ha h47)) (fun _ => ?_)
 obtain ⟨b2, hb2⟩ := letter_tot (bt s at_); refine Tot.bind (Tot.const hb2 (p := fun v => v = b2) rfl) (fun v hv => ?_)
 refine Tot.ite (fun hc => one_l1 s hs at_ h0 (s.size : Int).toNat at_ q9 (.inr ⟨rfl, ha, by rw [hb2, ← hv, hc]⟩) q9) (fun _ => ?_)
 obtain ⟨b3, hb3⟩ := digit_tot (bt s at_); refine Tot.bind (Tot.const hb3 (p := fun v => v = b3) rfl) (fun v hv => ?_)
 refine Tot.ite (fun hc => one_l2 s hs at_ h0 (s.size : Int).toNat at_ q9 (.inr ⟨rfl, ha, by rw [hb3, ← hv, hc]⟩) q9) (fun _ => ?_)
 refine Tot.ite (fun _ => hpair _ ?_) (fun _ => hpair _ (sign_tot s hs at_ h0 ha))
 unfold zay.f
 rw [zbb (x := at_ + 1) q9 q9]
 exact quoted_tot s hs at_ h0 (s.size : Int).toNat (at_ + 1) q9 q9 q9
theorem step_tot (x c : Int) : Tot (fun k => zau.f k x c) (fun _ => True) := by
 have hj2 : ∀ (y : Int) (b : Bool), Tot (fun k => zau.j2 k x c y b) (fun _ => True) := fun y b => by
  apply Tot.step
  ·intro k; rw [zau.j2]
  repeat' first | exact Tot.some trivial | refine Tot.ite (fun _ => ?_) (fun _ => ?_)
 have hj1 : ∀ (y : Int) (b : Bool), Tot (fun k => zau.j1 k x c y b) (fun _ => True) := fun y b => by
  apply Tot.step
  ·intro k; rw [zau.j1]
  repeat' first | exact Tot.some trivial | exact hj2 _ _ | refine Tot.ite (fun _ => ?_) (fun _ => ?_)
 have hj0 : ∀ (b : Bool), (b = false → 0 ≤ c ∧ c ≤ 23) → Tot (fun k => zau.j0 k x c b) (fun _ => True) := fun b hb => by
  apply Tot.step
  ·intro k; rw [zau.j0]
  refine Tot.ite (fun _ => Tot.some trivial) (fun hbn => ?_)
  have hr := hb (by simpa using hbn)
  refine Tot.ite (fun _ => ?_) (fun _ => ?_)
  ·refine Tot.bind (g := fun _ y => if 0 ≤ c then if c < (y.length : Int) then some (rd y c) else none else none) (Tot.const rfl (p := fun y => y = [34, 1, 1, 7, 8, 9, 34, 2, 32, 12, 14, 16, 18, 20, 22, 24, 25, 26, 27, 28, 29, 30, 31, 33]) rfl) (fun y hy => ?_)
   have hy : y.length = 24 := by rw [hy]; rfl
   refine Tot.ite (fun _ => ?_) (fun h => absurd hr.1 h)
   exact Tot.ite (fun _ => Tot.some trivial) (fun h => absurd (show c < (y.length : Int) by omega) h)
  ·repeat' first | exact Tot.some trivial | exact hj1 _ _ | refine Tot.ite (fun _ => ?_) (fun _ => ?_)
 unfold zau.f
 refine Tot.ite (fun _ => hj0 _ (fun h => by cases h)) (fun h => hj0 _ (fun h2 => ?_))
 have := of_decide_eq_false h2; omega
theorem class_tot (x : Int) : Tot (fun k => zam.f k x) (fun _ => True) := by
 have hj3 : ∀ (b : Bool), Tot (fun k => zam.j3 k x b) (fun _ => True) := fun b => by
  apply Tot.step
  ·intro k; rw [zam.j3]
  repeat' first | exact Tot.some trivial | refine Tot.ite (fun _ => ?_) (fun _ => ?_)
 have hj2 : ∀ (b : Bool), Tot (fun k => zam.j2 k x b) (fun _ => True) := fun b => by
  apply Tot.step
  ·intro k; rw [zam.j2]
  repeat' first | exact Tot.some trivial | exact hj3 _ | refine Tot.ite (fun _ => ?_) (fun _ => ?_)
 have hj1 : ∀ (b : Bool), Tot (fun k => zam.j1 k x b) (fun _ => True) := fun b => by
  apply Tot.step
  ·intro k; rw [zam.j1]
  repeat' first | exact Tot.some trivial | exact hj2 _ | refine Tot.ite (fun _ => ?_) (fun _ => ?_)
 have hl0 : ∀ (b : ByteArray) (hb : b.size = 19) (n : Nat) (i : Int), 19 - i ≤ n → 0 ≤ i → i ≤ 19 → Tot (fun k => zam.l0 k x b i) (fun _ => True) := by
  intro b hb n
  induction n with
  | zero =>
   intro i hn hi hi2
   apply Tot.step
   ·intro k; rw [zam.l0]
   refine Tot.ite (fun hc => absurd hc q9) (fun _ => ?_)
   exact Tot.ite (fun _ => hj1 _) (fun _ => hj1 _)
  | succ n ih =>
   intro i hn hi hi2
   apply Tot.step
   ·intro k; rw [zam.l0]
   refine Tot.ite (fun hc => ?_) (fun _ => Tot.ite (fun _ => hj1 _) (fun _ => hj1 _))
   refine Tot.ite (fun _ => ?_) (fun h => absurd hi h)
   refine Tot.ite (fun _ => Tot.some trivial) (fun _ => ?_)
   rw [zbb (x := i + 1) q9 q9]
   exact ih (i + 1) q9 q9 q9
 exact hl0 _ rfl 19 0 q9 q9 q9
theorem ends_tot (x : Int) : Tot (fun k => zaU.f k x) (fun _ => True) := by
 have hl0 : ∀ (n : Nat) (i : Int), 24 - i ≤ n → 0 ≤ i → i ≤ 24 → Tot (fun k => zaU.l0 k x i) (fun _ => True) := by
  intro n
  induction n with
  | zero =>
   intro i hn hi hi2
   apply Tot.step
   ·intro k; rw [zaU.l0]
   exact Tot.ite (fun hc => absurd hc q9) (fun _ => Tot.some trivial)
  | succ n ih =>
   intro i hn hi hi2
   apply Tot.step
   ·intro k; rw [zaU.l0]
   refine Tot.ite (fun hc => ?_) (fun _ => Tot.some trivial)
   refine Tot.bind (g := fun k t => if t ≥ 0 then some false else zaU.l0 k x (wrap64 (i + 1))) (step_tot x i) (fun v _ => ?_)
   refine Tot.ite (fun _ => Tot.some trivial) (fun _ => ?_)
   rw [zbb (x := i + 1) q9 q9]
   exact ih (i + 1) q9 q9 q9
 exact hl0 24 0 q9 q9 q9
theorem kind_tot (x : Int) : ∃ v, zbG.f x = some v := by
 unfold zbG.f
 rw [Option.bind_some]
 split
 ·exact ⟨_, rfl⟩
 ·split
  ·exact ⟨_, rfl⟩
  ·rw [if_pos q9, if_pos q9]
   exact ⟨_, rfl⟩
theorem word11_tot (w : ByteArray) (hw : (w.size : Int) ≤ 3000) : Tot (fun k => zaJ.f k w) (fun _ => True) := by
 have hl1 : ∀ (l : List ByteArray) (hl : l.length = 8) (n : Nat) (i : Int), 8 - i ≤ n → 0 ≤ i → i ≤ 8 → Tot (fun k => zaJ.l1 k w l i) (fun _ => True) := by
  intro l hl n
  induction n with
  | zero =>
   intro i hn hi hi2
   apply Tot.step
   ·intro k; rw [zaJ.l1]
   exact Tot.ite (fun hc => absurd hc q9) (fun _ => Tot.some trivial)
  | succ n ih =>
   intro i hn hi hi2
   apply Tot.step
   ·intro k; rw [zaJ.l1]
   refine Tot.ite (fun hc => ?_) (fun _ => Tot.some trivial)
   refine Tot.ite (fun _ => ?_) (fun h => absurd hi h)
   refine Tot.ite (fun _ => Tot.some trivial) (fun _ => ?_)
   rw [zbb (x := i + 1) q9 q9]
   exact ih (i + 1) q9 q9 q9
 have hl0 : ∀ (n : Nat) (i : Int), (w.size : Int) - i ≤ n → 0 ≤ i → i ≤ w.size → Tot (fun k => zaJ.l0 k w i) (fun _ => True) := by
  intro n
  induction n with
  | zero =>
   intro i hn hi hi2
   apply Tot.step
   ·intro k; rw [zaJ.l0]
   exact Tot.ite (fun hc => absurd hc q9) (fun _ => hl1 _ rfl 8 0 q9 q9 q9)
  | succ n ih =>
   intro i hn hi hi2
   apply Tot.step
   ·intro k; rw [zaJ.l0]
   refine Tot.ite (fun hc => ?_) (fun _ => hl1 _ rfl 8 0 q9 q9 q9)
   refine Tot.ite (fun _ => ?_) (fun h => absurd hi h)
   rw [zbb (x := i + 1) q9 q9]
   have hst := ih (i + 1) q9 q9 q9
   refine Tot.bind (r := fun _ => True) (class_tot _) (fun v _ => ?_)
   repeat' first | exact Tot.some trivial | exact hst | refine Tot.ite (fun _ => ?_) (fun _ => ?_)
 unfold zaJ.f
 exact Tot.ite (fun _ => Tot.some trivial) (fun _ => hl0 (w.size : Int).toNat 0 q9 q9 q9)
theorem scan_tot (s : ByteArray) (hs : (s.size : Int) ≤ 3000) (at_ : Int) (h0 : 0 ≤ at_) (ha : at_ < s.size) : Tot (fun k => zal.f k s at_) (fun _ => True) := by
 have hj4 : ∀ (x i : Int) (b : Bool) (a1 a2 a3 : Int), Tot (fun k => zal.j4 k s x i b a1 a2 a3) (fun _ => True) := fun x i b a1 a2 a3 => by
  apply Tot.step
  ·intro k; rw [zal.j4]
  refine Tot.bind (r := fun _ => True) (ends_tot x) (fun v _ => ?_)
  repeat' first | exact Tot.some trivial | refine Tot.ite (fun _ => ?_) (fun _ => ?_)
 have hj3 : ∀ (x i : Int) (b : Bool), at_ ≤ i → i ≤ s.size → Tot (fun k => zal.j3 k s at_ x i b) (fun _ => True) := fun x i b hi hi2 => by
  apply Tot.step
  ·intro k; rw [zal.j3]
  obtain ⟨kd, hkd⟩ := kind_tot x; refine Tot.bind (Tot.const hkd (p := fun _ => True) trivial) (fun v _ => ?_)
  refine Tot.ite (fun _ => ?_) (fun _ => hj4 _ _ _ _ _ _)
  refine Tot.ite (fun _ => ?_) (fun h => absurd h0 h)
  refine Tot.ite (fun _ => ?_) (fun h => absurd hi h)
  refine Tot.ite (fun _ => ?_) (fun h => absurd hi2 h)
  refine Tot.bind (r := fun _ => True) (word11_tot _ (by rw [ByteArray.size_extract]; omega)) (fun v _ => hj4 _ _ _ _ _ _)
 have hl0 : ∀ (n : Nat) (x i : Int) (b : Bool), (s.size : Int) - i ≤ n → at_ ≤ i → i ≤ s.size → Tot (fun k => zal.l0 k s at_ x i b) (fun _ => True) := by
  intro n
  induction n with
  | zero =>
   intro x i b hn hi hi2
   apply Tot.step
   ·intro k; rw [zal.l0]
   exact Tot.ite (fun hc => absurd hc q9) (fun _ => hj3 _ _ _ hi hi2)
  | succ n ih =>
   intro x i b hn hi hi2
   have hj2 : ∀ (c m : Int) (ok : Bool), 1 ≤ m → i + m ≤ s.size → Tot (fun k => zal.j2 k s at_ x i b c m ok) (fun _ => True) := fun c m ok hm hm2 => by
    apply Tot.step
    ·intro k; rw [zal.j2]
    refine Tot.bind (r := fun _ => True) (class_tot c) (fun v _ => ?_)
    refine Tot.bind (r := fun _ => True) (step_tot x v) (fun u _ => ?_)
    rw [zbb (x := i + m) q9 q9]
    refine Tot.ite (fun _ => hj3 _ _ _ hi hi2) (fun _ => ?_)
    exact Tot.ite (fun _ => ih _ _ _ q9 q9 q9) (fun _ => ih _ _ _ q9 q9 q9)
   apply Tot.step
   ·intro k; rw [zal.l0]
   refine Tot.ite (fun hc => ?_) (fun _ => hj3 _ _ _ hi hi2)
   refine Tot.bind (next_tot s hs i q9 hi2) (fun v hv => ?_)
   exact Tot.ite (fun h => hj2 _ _ _ (hv h).1 (hv h).2) (fun _ => hj2 _ _ _ q9 q9)
 have hj0 : ∀ (b : Bool), Tot (fun k => zal.j0 k s at_ b) (fun _ => True) := fun b => by
  apply Tot.step
  ·intro k; rw [zal.j0]
  exact Tot.ite (fun _ => Tot.some trivial) (fun _ => hl0 (s.size : Int).toNat 0 at_ false q9 q9 q9)
 unfold zal.f
 exact Tot.ite (fun _ => hj0 _) (fun _ => hj0 _)
def LexP (s : ByteArray) (l : List S40) : Prop := l.length ≤ s.size ∧ ∀ t ∈ l, 0 ≤ t.f0 ∧ t.f0 ≤ 255
theorem all_tot (s : ByteArray) (hs : (s.size : Int) ≤ 3000) : Tot (fun k => zaZ.f k s) (LexP s) := by
 have hl0 : ∀ (n : Nat) (l : List S40) (i : Int), (s.size : Int) - i ≤ n → 0 ≤ i → i ≤ s.size → (l.length : Int) ≤ i → (∀ t ∈ l, 0 ≤ t.f0 ∧ t.f0 ≤ 255) → Tot (fun k => zaZ.l0 k s l i) (LexP s) := by
  intro n
  induction n with
  | zero =>
   intro l i hn hi hi2 hl hk
   apply Tot.step
   ·intro k; rw [zaZ.l0]
   exact Tot.ite (fun hc => absurd hc q9) (fun _ => Tot.some ⟨q9, hk⟩)
  | succ n ih =>
   intro l i hn hi hi2 hl hk
   apply Tot.step
   ·intro k; rw [zaZ.l0]
   refine Tot.ite (fun hc => ?_) (fun _ => Tot.some ⟨q9, hk⟩)
   refine Tot.bind (one_tot s hs i hi hc) (fun v hv => ?_)
   refine Tot.bind (r := fun _ => True) (scan_tot s hs i hi hc) (fun u _ => ?_)
   refine Tot.ite (fun _ => ?_) (fun h => absurd (show l.length < 5864062014805 by omega) h)
   obtain ⟨hv0, hv1, hv2⟩ := hv; refine ih _ v.2 q9 q9 hv2 (by rw [List.length_append, List.length_singleton]; omega) (fun t ht => ?_)
   rcases List.mem_append.1 ht with h | h
   ·exact hk t h
   ·rw [List.mem_singleton] at h
    subst h; exact hv0
 exact hl0 (s.size : Int).toNat [] 0 q9 q9 q9 qf qf
theorem lex_all (s : ByteArray) (hs : s.size ≤ 3000) : ∃ k l, zaZ.f k s = some l ∧ l.length ≤ 3000 ∧ ∀ t ∈ l, 0 ≤ t.f0 ∧ t.f0 ≤ 255 := by
 obtain ⟨l, ⟨n, hn⟩, h1, h2⟩ := all_tot s q9
 exact ⟨n, l, hn n (Nat.le_refl _), q9, h2⟩
section
attribute [local go_sem] zbi zbg zbu zbv za9 za8 zbh zbf
def zaR.l0 : Nat → List (S40) → Int → Int → Option (Int)
 | 0, _, _, _ => none
 | k + 1, x0, x1, x5 => if x5 < (x0.length : Int) then (if x5 ≥ x1 then (if 0 ≤ x5 then ((zaW.f ((zbI x0 x5).f0)).bind fun t299 => (if t299 = true then (some x5) else (zaR.l0 k x0 x1 (wrap64 (x5 + 1))))) else (none)) else (zaR.l0 k x0 x1 (wrap64 (x5 + 1)))) else (some (x0.length : Int))
def zaR.f (k : Nat) (l0 : List (S40)) (a1 : Int) : Option (Int) := zaR.l0 k l0 a1 0
theorem zaR.calls (k : Nat) (A0 : Option Addr) (c0 : Nat) (l0 : List (S40)) (a1 : Int) (r : Int) (w : World) (hr0 : Kd.C k40 w A0 l0.length l0) (hc0 : l0.length ≤ c0) (h : zaR.f k l0 a1 = some r) :
  Calls Try.prog 58 #[.slice A0 l0.length c0, .int .i64 a1] w fun e w' => e = .returned (.int .i64 r) ∧ zat w w' := by
 have HR0 := J hr0; have HC0 := J hc0; clear hr0 hc0; have H : (zaR.l0 k l0 a1 0) = some r := h; clear h; have H' := J H; clear H; go_enter Try.func58, Try.ntmps58
 go_wp2
 go_loopg [5] k (fun kq v5 w' => ∃ (x5_1 : Int), v5 = .int .i64 x5_1 ∧ zaa (zaR.l0 kq l0 a1 x5_1 = some r) ∧ zaa (kq ≤ k) ∧ zat w w')
 case atStart => exact ⟨(0), qc, H', ⟨Nat.le_refl _⟩, qh⟩
 case round =>
  clear H'; try clear p2
  obtain ⟨x5_1, rfl, HA, HK1, ⟨m1, rfl⟩⟩ := hrel; cases gk with
  | zero => exact absurd HA.out (by simp [zaR.l0])
  | succ k1 =>
   have H := HA.out; clear HA; simp only [zaR.l0] at H; by_cases c3 : x5_1 < (l0.length : Int)
   ·rw [if_pos c3] at H
    have c3b0 : decide (x5_1 < (l0.length : Int)) = true := decide_eq_true c3; clear c3; by_cases c4 : x5_1 ≥ a1
    ·rw [if_pos c4] at H
     have c4b0 : decide (a1 ≤ x5_1) = true := decide_eq_true c4; clear c4; by_cases c5 : 0 ≤ x5_1
     ·rw [if_pos c5] at H
      have c5b0 : decide (0 ≤ x5_1) = true := decide_eq_true c5; clear c5; replace H := Option.bind_eq_some_iff.mp H; obtain ⟨t299, A60, H⟩ := H; replace H : (if t299 = true then (some x5_1) else (zaR.l0 k1 l0 a1 (wrap64 (x5_1 + 1)))) = some r := H
      have A6 := J A60; clear A60; by_cases c7 : t299 = true
      ·subst c7
       have H1 : (some x5_1) = some r := by rw [if_pos rfl] at H; exact H
       clear H; have H := H1; clear H1; obtain rfl := Option.some.inj H; have p298 : 0 ≤ (x5_1 : Int) := of_decide_eq_true qd
       have q298 : x5_1 < (l0.length : Int) := of_decide_eq_true qd
       obtain ⟨ad298, e298, hx298_0, hx298_1, hx298_2⟩ := at_T40 HR0.out x5_1 p298 q298; cases e298; replace p298 := eq_true p298; replace q298 := eq_true q298; go_wp2_with (first | (go_at_call 71; (with_reducible refine (zaW.calls ((zbI l0 x5_1).f0) true _ A6.out).mono ?_); rintro e w' ⟨rfl, ⟨nd, rfl⟩⟩))
       go_ret
       exact ⟨qc, qh⟩
      ·replace c7 := Bool.eq_false_iff.mpr c7
       subst c7; have H1 : (zaR.l0 k1 l0 a1 (wrap64 (x5_1 + 1))) = some r := by rw [if_neg (show ¬ (false = true) by decide)] at H; exact H
       clear H; have H := H1; clear H1; have H' := J H; clear H; have p298 : 0 ≤ (x5_1 : Int) := of_decide_eq_true qd
       have q298 : x5_1 < (l0.length : Int) := of_decide_eq_true qd
       obtain ⟨ad298, e298, hx298_0, hx298_1, hx298_2⟩ := at_T40 HR0.out x5_1 p298 q298; cases e298; replace p298 := eq_true p298; replace q298 := eq_true q298; go_wp2_with (first | (go_at_call 71; (with_reducible refine (zaW.calls ((zbI l0 x5_1).f0) false _ A6.out).mono ?_); rintro e w' ⟨rfl, ⟨nd, rfl⟩⟩))
       go_roundg k1
       case measure => have := HK1.out; omega
       case rel => exact ⟨(wrap64 (x5_1 + 1)), qc, H', ⟨qx⟩, qh⟩
     ·rw [if_neg c5] at H
      exact absurd H qf
    ·rw [if_neg c4] at H
     have c4b0 : decide (a1 ≤ x5_1) = false := decide_eq_false c4; clear c4; have H' := J H; clear H; go_wp2
     go_roundg k1
     case measure => have := HK1.out; omega
     case rel => exact ⟨(wrap64 (x5_1 + 1)), qc, H', ⟨qx⟩, qh⟩
   ·rw [if_neg c3] at H
    have c3b0 : decide (x5_1 < (l0.length : Int)) = false := decide_eq_false c3; clear c3; obtain rfl := Option.some.inj H; go_wp2
    go_ret
    exact ⟨qc, qh⟩
end
theorem token12_tot (x : Int) : ∃ b, zaP.f x = some b := by
 unfold zaP.f
 repeat' split
 all_goals exact ⟨_, rfl⟩
theorem counts12_tot (x : Int) : ∃ b, zaW.f x = some b := by
 obtain ⟨b, hb⟩ := token12_tot x; unfold zaW.f
 rw [hb]; repeat' split
 all_goals exact ⟨_, rfl⟩
theorem next12_tot (l : List S40) (hl : l.length ≤ 3000) : Tot (fun k => zaR.f k l 0) (fun i => 0 ≤ i ∧ i ≤ l.length) := by
 have hl0 : ∀ (n : Nat) (i : Int), (l.length : Int) - i ≤ n → 0 ≤ i → i ≤ l.length → Tot (fun k => zaR.l0 k l 0 i) (fun i => 0 ≤ i ∧ i ≤ l.length) := by
  intro n
  induction n with
  | zero =>
   intro i hn hi hi2
   apply Tot.step
   ·intro k; rw [zaR.l0]
   exact Tot.ite (fun hc => absurd hc q9) (fun _ => Tot.some ⟨q9, q9⟩)
  | succ n ih =>
   intro i hn hi hi2
   apply Tot.step
   ·intro k; rw [zaR.l0]
   refine Tot.ite (fun hc => ?_) (fun _ => Tot.some ⟨q9, q9⟩)
   rw [zbb (x := i + 1) q9 q9]
   have hst := ih (i + 1) q9 q9 q9
   refine Tot.ite (fun _ => ?_) (fun _ => hst)
   refine Tot.ite (fun _ => ?_) (fun h => absurd hi h)
   obtain ⟨b, hb⟩ := counts12_tot ((zbI l i).f0); refine Tot.bind (Tot.const hb (p := fun _ => True) trivial) (fun v _ => ?_)
   exact Tot.ite (fun _ => Tot.some ⟨hi, hi2⟩) (fun _ => hst)
 exact hl0 l.length 0 q9 q9 q9
section
attribute [local go_sem] zbi zbg zbu zbv za9 za8 zbh zbf
def zaE.f (a0 : Int) : Option (Bool) := if a0 = 6 then (some true) else (if a0 = 7 then (some true) else (if a0 = 8 then (some true) else (if a0 = 16 then (some true) else (if a0 = 17 then (some true) else (if a0 = 20 then (some true) else (if a0 = 34 then (some true) else (if a0 = 38 then (some true) else (some false))))))))
theorem zaE.calls (a0 : Int) (r : Bool) (w : World) (h : zaE.f a0 = some r) :
  Calls Try.prog 59 #[.int .u8 a0] w fun e w' => e = .returned (.bool r) ∧ zat w w' := by
 have H : (if a0 = 6 then (some true) else (if a0 = 7 then (some true) else (if a0 = 8 then (some true) else (if a0 = 16 then (some true) else (if a0 = 17 then (some true) else (if a0 = 20 then (some true) else (if a0 = 34 then (some true) else (if a0 = 38 then (some true) else (some false))))))))) = some r := h
 clear h; by_cases c2 : a0 = 6
 ·rw [if_pos c2] at H
  have c2b0 : (a0 == 6) = true := beq_iff_eq.mpr c2; have c2b1 : (a0 != 6) = false := bne_eq_false_iff_eq.mpr c2; clear c2; obtain rfl := Option.some.inj H; go_enter Try.func59, Try.ntmps59
  go_wp2
  go_ret
  exact ⟨qc, qh⟩
 ·rw [if_neg c2] at H
  have c2b0 : (a0 == 6) = false := beq_eq_false_iff_ne.mpr c2; have c2b1 : (a0 != 6) = true := bne_iff_ne.mpr c2; by_cases c3 : a0 = 7
  ·rw [if_pos c3] at H
   have c3b0 : (a0 == 7) = true := beq_iff_eq.mpr c3; have c3b1 : (a0 != 7) = false := bne_eq_false_iff_eq.mpr c3; clear c3; obtain rfl := Option.some.inj H; go_enter Try.func59, Try.ntmps59
   go_wp2
   go_ret
   exact ⟨qc, qh⟩
  ·rw [if_neg c3] at H
   have c3b0 : (a0 == 7) = false := beq_eq_false_iff_ne.mpr c3; have c3b1 : (a0 != 7) = true := bne_iff_ne.mpr c3; by_cases c4 : a0 = 8
   ·rw [if_pos c4] at H
    have c4b0 : (a0 == 8) = true := beq_iff_eq.mpr c4; have c4b1 : (a0 != 8) = false := bne_eq_false_iff_eq.mpr c4; clear c4; obtain rfl := Option.some.inj H; go_enter Try.func59, Try.ntmps59
    go_wp2
    go_ret
    exact ⟨qc, qh⟩
   ·rw [if_neg c4] at H
    have c4b0 : (a0 == 8) = false := beq_eq_false_iff_ne.mpr c4; have c4b1 : (a0 != 8) = true := bne_iff_ne.mpr c4; by_cases c5 : a0 = 16
    ·rw [if_pos c5] at H
     have c5b0 : (a0 == 16) = true := beq_iff_eq.mpr c5; have c5b1 : (a0 != 16) = false := bne_eq_false_iff_eq.mpr c5; clear c5; obtain rfl := Option.some.inj H; go_enter Try.func59, Try.ntmps59
     go_wp2
     go_ret
     exact ⟨qc, qh⟩
    ·rw [if_neg c5] at H
     have c5b0 : (a0 == 16) = false := beq_eq_false_iff_ne.mpr c5; have c5b1 : (a0 != 16) = true := bne_iff_ne.mpr c5; by_cases c6 : a0 = 17
     ·rw [if_pos c6] at H
      have c6b0 : (a0 == 17) = true := beq_iff_eq.mpr c6; have c6b1 : (a0 != 17) = false := bne_eq_false_iff_eq.mpr c6; clear c6; obtain rfl := Option.some.inj H; go_enter Try.func59, Try.ntmps59
      go_wp2
      go_ret
      exact ⟨qc, qh⟩
     ·rw [if_neg c6] at H
      have c6b0 : (a0 == 17) = false := beq_eq_false_iff_ne.mpr c6; have c6b1 : (a0 != 17) = true := bne_iff_ne.mpr c6; by_cases c7 : a0 = 20
      ·rw [if_pos c7] at H
       have c7b0 : (a0 == 20) = true := beq_iff_eq.mpr c7; have c7b1 : (a0 != 20) = false := bne_eq_false_iff_eq.mpr c7; clear c7; obtain rfl := Option.some.inj H; go_enter Try.func59, Try.ntmps59
       go_wp2
       go_ret
       exact ⟨qc, qh⟩
      ·rw [if_neg c7] at H
       have c7b0 : (a0 == 20) = false := beq_eq_false_iff_ne.mpr c7; have c7b1 : (a0 != 20) = true := bne_iff_ne.mpr c7; by_cases c8 : a0 = 34
       ·rw [if_pos c8] at H
        have c8b0 : (a0 == 34) = true := beq_iff_eq.mpr c8; have c8b1 : (a0 != 34) = false := bne_eq_false_iff_eq.mpr c8; clear c8; obtain rfl := Option.some.inj H; go_enter Try.func59, Try.ntmps59
        go_wp2
        go_ret
        exact ⟨qc, qh⟩
       ·rw [if_neg c8] at H
        have c8b0 : (a0 == 34) = false := beq_eq_false_iff_ne.mpr c8; have c8b1 : (a0 != 34) = true := bne_iff_ne.mpr c8; by_cases c9 : a0 = 38
        ·rw [if_pos c9] at H
         have c9b0 : (a0 == 38) = true := beq_iff_eq.mpr c9; have c9b1 : (a0 != 38) = false := bne_eq_false_iff_eq.mpr c9; clear c9; obtain rfl := Option.some.inj H; go_enter Try.func59, Try.ntmps59
         go_wp2
         go_ret
         exact ⟨qc, qh⟩
        ·rw [if_neg c9] at H
         have c9b0 : (a0 == 38) = false := beq_eq_false_iff_ne.mpr c9; have c9b1 : (a0 != 38) = true := bne_iff_ne.mpr c9; obtain rfl := Option.some.inj H; go_enter Try.func59, Try.ntmps59
         go_wp2
         go_ret
         exact ⟨qc, qh⟩
def zaC.f (a0 : Int) : Option (Int) := if a0 = 10 then (some 53) else (if a0 = 11 then (some 54) else (if a0 = 12 then (some 56) else (if a0 = 14 then (some 57) else (if a0 = 15 then (some 58) else (if a0 = 22 then (some 52) else ((zaE.f a0).bind fun t300 => (if t300 = true then (some 59) else (some 0))))))))
theorem zaC.calls (a0 : Int) (r : Int) (w : World) (h : zaC.f a0 = some r) :
  Calls Try.prog 43 #[.int .u8 a0] w fun e w' => e = .returned (.int .u8 r) ∧ zat w w' := by
 have H : (if a0 = 10 then (some 53) else (if a0 = 11 then (some 54) else (if a0 = 12 then (some 56) else (if a0 = 14 then (some 57) else (if a0 = 15 then (some 58) else (if a0 = 22 then (some 52) else ((zaE.f a0).bind fun t300 => (if t300 = true then (some 59) else (some 0))))))))) = some r := h
 clear h; by_cases c2 : a0 = 10
 ·rw [if_pos c2] at H
  have c2b0 : (a0 == 10) = true := beq_iff_eq.mpr c2; have c2b1 : (a0 != 10) = false := bne_eq_false_iff_eq.mpr c2; clear c2; obtain rfl := Option.some.inj H; go_enter Try.func43, Try.ntmps43
  go_wp2
  go_ret
  exact ⟨qc, qh⟩
 ·rw [if_neg c2] at H
  have c2b0 : (a0 == 10) = false := beq_eq_false_iff_ne.mpr c2; have c2b1 : (a0 != 10) = true := bne_iff_ne.mpr c2; by_cases c3 : a0 = 11
  ·rw [if_pos c3] at H
   have c3b0 : (a0 == 11) = true := beq_iff_eq.mpr c3; have c3b1 : (a0 != 11) = false := bne_eq_false_iff_eq.mpr c3; clear c3; obtain rfl := Option.some.inj H; go_enter Try.func43, Try.ntmps43
   go_wp2
   go_ret
   exact ⟨qc, qh⟩
  ·rw [if_neg c3] at H
   have c3b0 : (a0 == 11) = false := beq_eq_false_iff_ne.mpr c3; have c3b1 : (a0 != 11) = true := bne_iff_ne.mpr c3; by_cases c4 : a0 = 12
   ·rw [if_pos c4] at H
    have c4b0 : (a0 == 12) = true := beq_iff_eq.mpr c4; have c4b1 : (a0 != 12) = false := bne_eq_false_iff_eq.mpr c4; clear c4; obtain rfl := Option.some.inj H; go_enter Try.func43, Try.ntmps43
    go_wp2
    go_ret
    exact ⟨qc, qh⟩
   ·rw [if_neg c4] at H
    have c4b0 : (a0 == 12) = false := beq_eq_false_iff_ne.mpr c4; have c4b1 : (a0 != 12) = true := bne_iff_ne.mpr c4; by_cases c5 : a0 = 14
    ·rw [if_pos c5] at H
     have c5b0 : (a0 == 14) = true := beq_iff_eq.mpr c5; have c5b1 : (a0 != 14) = false := bne_eq_false_iff_eq.mpr c5; clear c5; obtain rfl := Option.some.inj H; go_enter Try.func43, Try.ntmps43
     go_wp2
     go_ret
     exact ⟨qc, qh⟩
    ·rw [if_neg c5] at H
     have c5b0 : (a0 == 14) = false := beq_eq_false_iff_ne.mpr c5; have c5b1 : (a0 != 14) = true := bne_iff_ne.mpr c5; by_cases c6 : a0 = 15
     ·rw [if_pos c6] at H
      have c6b0 : (a0 == 15) = true := beq_iff_eq.mpr c6; have c6b1 : (a0 != 15) = false := bne_eq_false_iff_eq.mpr c6; clear c6; obtain rfl := Option.some.inj H; go_enter Try.func43, Try.ntmps43
      go_wp2
      go_ret
      exact ⟨qc, qh⟩
     ·rw [if_neg c6] at H
      have c6b0 : (a0 == 15) = false := beq_eq_false_iff_ne.mpr c6; have c6b1 : (a0 != 15) = true := bne_iff_ne.mpr c6; by_cases c7 : a0 = 22
      ·rw [if_pos c7] at H
       have c7b0 : (a0 == 22) = true := beq_iff_eq.mpr c7; have c7b1 : (a0 != 22) = false := bne_eq_false_iff_eq.mpr c7; clear c7; obtain rfl := Option.some.inj H; go_enter Try.func43, Try.ntmps43
       go_wp2
       go_ret
       exact ⟨qc, qh⟩
      ·rw [if_neg c7] at H
       have c7b0 : (a0 == 22) = false := beq_eq_false_iff_ne.mpr c7; have c7b1 : (a0 != 22) = true := bne_iff_ne.mpr c7; replace H := Option.bind_eq_some_iff.mp H; obtain ⟨t300, A80, H⟩ := H; replace H : (if t300 = true then (some 59) else (some 0)) = some r := H
       have A8 := J A80; clear A80; by_cases c9 : t300 = true
       ·subst c9
        have H1 : (some 59) = some r := by rw [if_pos rfl] at H; exact H
        clear H; have H := H1; clear H1; obtain rfl := Option.some.inj H; go_enter Try.func43, Try.ntmps43
        go_wp2_with (first | ((with_reducible refine zaK (f := 59) rfl ?_); refine zbc (some 17) rfl rfl Try.func59 qb rfl #[.int .u8 a0] rfl qi ?_; (with_reducible refine (zaE.calls a0 true _ A8.out).mono ?_); rintro e w' ⟨rfl, ⟨nd, rfl⟩⟩; refine ⟨_, rfl, ?_⟩))
        go_ret
        exact ⟨qc, qh⟩
       ·replace c9 := Bool.eq_false_iff.mpr c9
        subst c9; have H1 : (some 0) = some r := by rw [if_neg (show ¬ (false = true) by decide)] at H; exact H
        clear H; have H := H1; clear H1; obtain rfl := Option.some.inj H; go_enter Try.func43, Try.ntmps43
        go_wp2_with (first | ((with_reducible refine zaK (f := 59) rfl ?_); refine zbc (some 17) rfl rfl Try.func59 qb rfl #[.int .u8 a0] rfl qi ?_; (with_reducible refine (zaE.calls a0 false _ A8.out).mono ?_); rintro e w' ⟨rfl, ⟨nd, rfl⟩⟩; refine ⟨_, rfl, ?_⟩))
        go_ret
        exact ⟨qc, qh⟩
mutual
def zaA.j0 : Nat → Int → Bool → Option (Int)
 | 0, _, _ => none
 | k + 1, x3, x8 => if x8 = true then (some 3) else (if x3 = 33 then (zaA.j1 k x3 (x3 == 33)) else (zaA.j1 k x3 (x3 == 34)))
def zaA.j1 : Nat → Int → Bool → Option (Int)
 | 0, _, _ => none
 | k + 1, x3, x15 => if x15 = true then (some 4) else (if x3 = 35 then (some 5) else (if x3 = 36 then (some 5) else (if x3 = 37 then (some 5) else (some 0))))
end
def zaA.f (k : Nat) (a0 : Int) : Option (Int) := if a0 = 40 then (some 1) else (if a0 = 39 then (some 2) else (if a0 = 27 then (zaA.j0 k a0 (a0 == 27)) else (if a0 = 28 then (zaA.j0 k a0 (a0 == 28)) else (if a0 = 29 then (zaA.j0 k a0 (a0 == 29)) else (if a0 = 30 then (zaA.j0 k a0 (a0 == 30)) else (if a0 = 31 then (zaA.j0 k a0 (a0 == 31)) else (zaA.j0 k a0 (a0 == 32))))))))
theorem zaA.calls (k : Nat) (a0 : Int) (r : Int) (w : World) (h : zaA.f k a0 = some r) :
  Calls Try.prog 78 #[.int .u8 a0] w fun e w' => e = .returned (.int .i64 r) ∧ zat w w' := by
 have H : (if a0 = 40 then (some 1) else (if a0 = 39 then (some 2) else (if a0 = 27 then (zaA.j0 k a0 (a0 == 27)) else (if a0 = 28 then (zaA.j0 k a0 (a0 == 28)) else (if a0 = 29 then (zaA.j0 k a0 (a0 == 29)) else (if a0 = 30 then (zaA.j0 k a0 (a0 == 30)) else (if a0 = 31 then (zaA.j0 k a0 (a0 == 31)) else (zaA.j0 k a0 (a0 == 32))))))))) = some r := h
 clear h; by_cases c2 : a0 = 40
 ·rw [if_pos c2] at H
  have c2b0 : (a0 == 40) = true := beq_iff_eq.mpr c2; have c2b1 : (a0 != 40) = false := bne_eq_false_iff_eq.mpr c2; clear c2; obtain rfl := Option.some.inj H; go_enter Try.func78, Try.ntmps78
  go_wp2
  go_ret
  exact ⟨qc, qh⟩
 ·rw [if_neg c2] at H
  have c2b0 : (a0 == 40) = false := beq_eq_false_iff_ne.mpr c2; have c2b1 : (a0 != 40) = true := bne_iff_ne.mpr c2; by_cases c3 : a0 = 39
  ·rw [if_pos c3] at H
   have c3b0 : (a0 == 39) = true := beq_iff_eq.mpr c3; have c3b1 : (a0 != 39) = false := bne_eq_false_iff_eq.mpr c3; clear c3; obtain rfl := Option.some.inj H; go_enter Try.func78, Try.ntmps78
   go_wp2
   go_ret
   exact ⟨qc, qh⟩
  ·rw [if_neg c3] at H
   have c3b0 : (a0 == 39) = false := beq_eq_false_iff_ne.mpr c3; have c3b1 : (a0 != 39) = true := bne_iff_ne.mpr c3; have HC4 := J H; clear H; go_enter Try.func78, Try.ntmps78
   go_upto_if 8 with (fail)
   go_cut [8] (fun v8 wc => ∃ (kq : Nat) (x8_3 : Bool), v8 = .bool x8_3 ∧ zaa (zaA.j0 kq a0 x8_3 = some r) ∧ zaa (kq ≤ k) ∧ zat w wc)
   case first =>
    have H := HC4.out; clear HC4; by_cases c5 : a0 = 27
    ·rw [if_pos c5] at H
     have c5b0 : (a0 == 27) = true := beq_iff_eq.mpr c5; have c5b1 : (a0 != 27) = false := bne_eq_false_iff_eq.mpr c5; clear c5
     (first | rw [c5b0] | (simp only [i64_w, i32_w]; rw [c5b0]) | skip)
     have H' := J H; clear H; go_wp2
     go_meet
     case rel => exact ⟨_, ((a0 == 27)), qc, H', ⟨qA⟩, qh⟩
    ·rw [if_neg c5] at H
     have c5b0 : (a0 == 27) = false := beq_eq_false_iff_ne.mpr c5; have c5b1 : (a0 != 27) = true := bne_iff_ne.mpr c5
     (first | rw [c5b0] | (simp only [i64_w, i32_w]; rw [c5b0]) | skip)
     by_cases c6 : a0 = 28
     ·rw [if_pos c6] at H
      have c6b0 : (a0 == 28) = true := beq_iff_eq.mpr c6; have c6b1 : (a0 != 28) = false := bne_eq_false_iff_eq.mpr c6; clear c6; have H' := J H; clear H; go_wp2
      go_meet
      case rel => exact ⟨_, ((a0 == 28)), qc, H', ⟨qA⟩, qh⟩
     ·rw [if_neg c6] at H
      have c6b0 : (a0 == 28) = false := beq_eq_false_iff_ne.mpr c6; have c6b1 : (a0 != 28) = true := bne_iff_ne.mpr c6; by_cases c7 : a0 = 29
      ·rw [if_pos c7] at H
       have c7b0 : (a0 == 29) = true := beq_iff_eq.mpr c7; have c7b1 : (a0 != 29) = false := bne_eq_false_iff_eq.mpr c7; clear c7; have H' := J H; clear H; go_wp2
       go_meet
       case rel => exact ⟨_, ((a0 == 29)), qc, H', ⟨qA⟩, qh⟩
      ·rw [if_neg c7] at H
       have c7b0 : (a0 == 29) = false := beq_eq_false_iff_ne.mpr c7; have c7b1 : (a0 != 29) = true := bne_iff_ne.mpr c7; by_cases c8 : a0 = 30
       ·rw [if_pos c8] at H
        have c8b0 : (a0 == 30) = true := beq_iff_eq.mpr c8; have c8b1 : (a0 != 30) = false := bne_eq_false_iff_eq.mpr c8; clear c8; have H' := J H; clear H; go_wp2
        go_meet
        case rel => exact ⟨_, ((a0 == 30)), qc, H', ⟨qA⟩, qh⟩
       ·rw [if_neg c8] at H
        have c8b0 : (a0 == 30) = false := beq_eq_false_iff_ne.mpr c8; have c8b1 : (a0 != 30) = true := bne_iff_ne.mpr c8; by_cases c9 : a0 = 31
        ·rw [if_pos c9] at H
         have c9b0 : (a0 == 31) = true := beq_iff_eq.mpr c9; have c9b1 : (a0 != 31) = false := bne_eq_false_iff_eq.mpr c9; clear c9; have H' := J H; clear H; go_wp2
         go_meet
         case rel => exact ⟨_, ((a0 == 31)), qc, H', ⟨qA⟩, qh⟩
        ·rw [if_neg c9] at H
         have c9b0 : (a0 == 31) = false := beq_eq_false_iff_ne.mpr c9; have c9b1 : (a0 != 31) = true := bne_iff_ne.mpr c9; have H' := J H; clear H; go_wp2
         go_meet
         case rel => exact ⟨_, ((a0 == 32)), qc, H', ⟨qA⟩, qh⟩
   case rest =>
    clear HC4; try clear c2
    try clear c2b0
    try clear c2b1
    try clear p2
    try clear c3
    try clear c3b0
    try clear c3b1
    try clear c5
    try clear c5b0
    try clear c5b1
    try clear c6
    try clear c6b0
    try clear c6b1
    try clear c7
    try clear c7b0
    try clear c7b1
    try clear c8
    try clear c8b0
    try clear c8b1
    try clear c9
    try clear c9b0
    try clear c9b1
    obtain ⟨kq, x8_3, rfl, HA, HJ3, ⟨mc3, rfl⟩⟩ := hcut; cases kq with
    | zero => exact absurd HA.out (by simp [zaA.j0])
    | succ kj3 =>
     have H := HA.out; clear HA; simp only [zaA.j0] at H; by_cases c10 : x8_3 = true
     ·subst c10
      have H1 : (some 3) = some r := by rw [if_pos rfl] at H; exact H
      clear H; have H := H1; clear H1; obtain rfl := Option.some.inj H; go_wp2
      go_ret
      exact ⟨qc, qh⟩
     ·replace c10 := Bool.eq_false_iff.mpr c10
      subst c10; have H1 : (if a0 = 33 then (zaA.j1 kj3 a0 (a0 == 33)) else (zaA.j1 kj3 a0 (a0 == 34))) = some r := by rw [if_neg (show ¬ (false = true) by decide)] at H; exact H
      clear H; have H := H1; clear H1; have HC11 := J H; clear H
      go_upto_if 15 with (fail)
      go_cut [15] (fun v15 wc => ∃ (kq : Nat) (x15_10 : Bool), v15 = .bool x15_10 ∧ zaa (zaA.j1 kq a0 x15_10 = some r) ∧ zaa (kq ≤ kj3) ∧ zat w wc)
      case first =>
       have H := HC11.out; clear HC11; by_cases c12 : a0 = 33
       ·rw [if_pos c12] at H
        have c12b0 : (a0 == 33) = true := beq_iff_eq.mpr c12; have c12b1 : (a0 != 33) = false := bne_eq_false_iff_eq.mpr c12; clear c12
        (first | rw [c12b0] | (simp only [i64_w, i32_w]; rw [c12b0]) | skip)
        have H' := J H; clear H; go_wp2
        go_meet
        case rel => exact ⟨_, ((a0 == 33)), qc, H', ⟨by have := HJ3.out; first | omega | exact Nat.le_refl _⟩, qh⟩
       ·rw [if_neg c12] at H
        have c12b0 : (a0 == 33) = false := beq_eq_false_iff_ne.mpr c12; have c12b1 : (a0 != 33) = true := bne_iff_ne.mpr c12
        (first | rw [c12b0] | (simp only [i64_w, i32_w]; rw [c12b0]) | skip)
        have H' := J H; clear H; go_wp2
        go_meet
        case rel => exact ⟨_, ((a0 == 34)), qc, H', ⟨by have := HJ3.out; first | omega | exact Nat.le_refl _⟩, qh⟩
      case rest =>
       clear HC11; try clear c1
       try clear c2
       try clear c2b0
       try clear c2b1
       try clear p2
       try clear c3
       try clear c3b0
       try clear c3b1
       try clear c5
       try clear c5b0
       try clear c5b1
       try clear c6
       try clear c6b0
       try clear c6b1
       try clear c7
       try clear c7b0
       try clear c7b1
       try clear c8
       try clear c8b0
       try clear c8b1
       try clear c9
       try clear c9b0
       try clear c9b1
       try clear c10
       try clear c12
       try clear c12b0
       try clear c12b1
       try clear p2
       obtain ⟨kq, x15_10, rfl, HA, HJ10, ⟨mc10, rfl⟩⟩ := hcut; cases kq with
       | zero => exact absurd HA.out (by simp [zaA.j1])
       | succ kj10 =>
        have H := HA.out; clear HA; simp only [zaA.j1] at H; by_cases c13 : x15_10 = true
        ·subst c13
         have H1 : (some 4) = some r := by rw [if_pos rfl] at H; exact H
         clear H; have H := H1; clear H1; obtain rfl := Option.some.inj H; go_wp2
         go_ret
         exact ⟨qc, qh⟩
        ·replace c13 := Bool.eq_false_iff.mpr c13
         subst c13; have H1 : (if a0 = 35 then (some 5) else (if a0 = 36 then (some 5) else (if a0 = 37 then (some 5) else (some 0)))) = some r := by rw [if_neg (show ¬ (false = true) by decide)] at H; exact H
         clear H; have H := H1; clear H1; by_cases c14 : a0 = 35
         ·rw [if_pos c14] at H
          have c14b0 : (a0 == 35) = true := beq_iff_eq.mpr c14; have c14b1 : (a0 != 35) = false := bne_eq_false_iff_eq.mpr c14; clear c14; obtain rfl := Option.some.inj H; go_wp2
          go_ret
          exact ⟨qc, qh⟩
         ·rw [if_neg c14] at H
          have c14b0 : (a0 == 35) = false := beq_eq_false_iff_ne.mpr c14; have c14b1 : (a0 != 35) = true := bne_iff_ne.mpr c14; by_cases c15 : a0 = 36
          ·rw [if_pos c15] at H
           have c15b0 : (a0 == 36) = true := beq_iff_eq.mpr c15; have c15b1 : (a0 != 36) = false := bne_eq_false_iff_eq.mpr c15; clear c15; obtain rfl := Option.some.inj H; go_wp2
           go_ret
           exact ⟨qc, qh⟩
          ·rw [if_neg c15] at H
           have c15b0 : (a0 == 36) = false := beq_eq_false_iff_ne.mpr c15; have c15b1 : (a0 != 36) = true := bne_iff_ne.mpr c15; by_cases c16 : a0 = 37
           ·rw [if_pos c16] at H
            have c16b0 : (a0 == 37) = true := beq_iff_eq.mpr c16; have c16b1 : (a0 != 37) = false := bne_eq_false_iff_eq.mpr c16; clear c16; obtain rfl := Option.some.inj H; go_wp2
            go_ret
            exact ⟨qc, qh⟩
           ·rw [if_neg c16] at H
            have c16b0 : (a0 == 37) = false := beq_eq_false_iff_ne.mpr c16; have c16b1 : (a0 != 37) = true := bne_iff_ne.mpr c16; obtain rfl := Option.some.inj H; go_wp2
            go_ret
            exact ⟨qc, qh⟩
end
end Go.Proofs.Ytobgkpnigjfhmaa.H
