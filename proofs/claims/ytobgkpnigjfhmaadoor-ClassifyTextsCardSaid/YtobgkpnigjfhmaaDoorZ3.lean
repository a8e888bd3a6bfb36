/- Texts of this claim, merged. -/
import Derived.Test.YtobgkpnigjfhmaaDoorZ2
set_option maxRecDepth 100000
set_option maxHeartbeats 8000000
set_option linter.unusedVariables false
set_option linter.unusedSimpArgs false
namespace Go.Proofs.YtobgkpnigjfhmaaDoor.H
open Go.RowKit Go.Proofs.YtobgkpnigjfhmaaDoorW.PrintWords Go.Proofs.YtobgkpnigjfhmaaDoorW.PrintLast Go.Proofs.YtobgkpnigjfhmaaDoorW.PrintMore
section
attribute [local go_sem] zbi zbg zbs zbr za8 za7 zbh zbf
mutual
def zaI.l0 : Nat → ByteArray → Int → List ByteArray → List Int → Int → Option (Int × Int)
 | 0, _, _, _, _, _ => none
 | k + 1, x0, x1, x6, x7, x8 => if x8 < (x6.length : Int) then (if (wrap64 (x1 + 2)) ≤ (x0.size : Int) then (if 0 ≤ x1 then (if x1 ≤ (wrap64 (x1 + 2)) then (if 0 ≤ x8 then (if (x0.extract (x1 : Int).toNat ((wrap64 (x1 + 2)) : Int).toNat).toList = (rdOf ByteArray.empty x6 x8).toList then (if x8 < (x7.length : Int) then (some (rd x7 x8, wrap64 (x1 + 2))) else (none)) else (zaI.l0 k x0 x1 x6 x7 (wrap64 (x8 + 1)))) else (none)) else (none)) else (none)) else (zaI.l0 k x0 x1 x6 x7 (wrap64 (x8 + 1)))) else (zaI.l1 k x0 x1 (⟨#[40, 41, 123, 125, 44, 59, 61, 60, 62, 43, 45, 42, 37, 33]⟩ : ByteArray) (([20, 21, 22, 23, 24, 25, 26, 29, 31, 33, 34, 35, 37, 38] : List Int)) 0)
def zaI.l1 : Nat → ByteArray → Int → ByteArray → List Int → Int → Option (Int × Int)
 | 0, _, _, _, _, _ => none
 | k + 1, x0, x1, x9, x10, x11 => if x11 < (x9.size : Int) then (if 0 ≤ x1 then (if x1 < (x0.size : Int) then (if 0 ≤ x11 then (if (bt x0 x1) = (bt x9 x11) then (if x11 < (x10.length : Int) then (some (rd x10 x11, wrap64 (x1 + 1))) else (none)) else (zaI.l1 k x0 x1 x9 x10 (wrap64 (x11 + 1)))) else (none)) else (none)) else (none)) else ((za3.f k x0 x1).bind fun t291 => (some (5, wrap64 (x1 + t291))))
end
def zaI.f (k : Nat) (a0 : ByteArray) (a1 : Int) : Option (Int × Int) := zaI.l0 k a0 a1 (([(⟨#[61, 61]⟩ : ByteArray), (⟨#[33, 61]⟩ : ByteArray), (⟨#[60, 61]⟩ : ByteArray), (⟨#[62, 61]⟩ : ByteArray), (⟨#[38, 38]⟩ : ByteArray), (⟨#[124, 124]⟩ : ByteArray)] : List ByteArray)) (([27, 28, 30, 32, 39, 40] : List Int)) 0
theorem zaI.calls (k : Nat) (a0 : ByteArray) (a1 : Int) (r1 : Int) (r2 : Int) (w : World) (h : zaI.f k a0 a1 = some (r1, r2)) :
  Calls Tryd.prog 40 #[.string a0, .int .i64 a1] w fun e w' => e = .returned (.tuple #[.int .u8 r1, .int .i64 r2]) ∧ Below w.heap.size w w' := by
 have HB := zaa.mk (Below.refl w.heap.size w); have H : (zaI.l0 k a0 a1 (([(⟨#[61, 61]⟩ : ByteArray), (⟨#[33, 61]⟩ : ByteArray), (⟨#[60, 61]⟩ : ByteArray), (⟨#[62, 61]⟩ : ByteArray), (⟨#[38, 38]⟩ : ByteArray), (⟨#[124, 124]⟩ : ByteArray)] : List ByteArray)) (([27, 28, 30, 32, 39, 40] : List Int)) 0) = some (r1, r2) := h; clear h; obtain ⟨y279, hy279⟩ : ∃ y_ : List ByteArray, y_ = (([(⟨#[61, 61]⟩ : ByteArray), (⟨#[33, 61]⟩ : ByteArray), (⟨#[60, 61]⟩ : ByteArray), (⟨#[62, 61]⟩ : ByteArray), (⟨#[38, 38]⟩ : ByteArray), (⟨#[124, 124]⟩ : ByteArray)] : List ByteArray)) := ⟨_, rfl⟩; replace H : (zaI.l0 k a0 a1 y279 (([27, 28, 30, 32, 39, 40] : List Int)) 0) = some (r1, r2) := by first | (rw [hy279]; with_reducible exact H) | (have H2_ := (Option.bind_some _ _).symm.trans H; rw [hy279]; with_reducible exact H2_) | (have H2_ := (Option.bind_some _ _).symm.trans H; with_reducible exact H2_) | with_reducible exact H | (rw [hy279]; exact H) | exact H
 have Ny279 := zaa.mk hy279; clear hy279; obtain ⟨y282, hy282⟩ : ∃ y_ : List Int, y_ = (([27, 28, 30, 32, 39, 40] : List Int)) := ⟨_, rfl⟩; replace H : (zaI.l0 k a0 a1 y279 y282 0) = some (r1, r2) := by first | (rw [hy282]; with_reducible exact H) | (have H2_ := (Option.bind_some _ _).symm.trans H; rw [hy282]; with_reducible exact H2_) | (have H2_ := (Option.bind_some _ _).symm.trans H; with_reducible exact H2_) | with_reducible exact H | (rw [hy282]; exact H) | exact H
 have Ny282 := zaa.mk hy282; clear hy282; have H' := zaa.mk H; clear H; go_enter Tryd.func40, Tryd.ntmps40
 go_wp2_with (first | ((with_reducible refine za6 (N := 12) rfl ?_); refine Kd.R_lit Kd.string _ 9 ?hg (N := 12) ?hd (xs := ([(⟨#[61, 61]⟩ : ByteArray), (⟨#[33, 61]⟩ : ByteArray), (⟨#[60, 61]⟩ : ByteArray), (⟨#[62, 61]⟩ : ByteArray), (⟨#[38, 38]⟩ : ByteArray), (⟨#[124, 124]⟩ : ByteArray)] : List ByteArray)) (inner := [.string (⟨#[61, 61]⟩ : ByteArray), .string (⟨#[33, 61]⟩ : ByteArray), .string (⟨#[60, 61]⟩ : ByteArray), .string (⟨#[62, 61]⟩ : ByteArray), .string (⟨#[38, 38]⟩ : ByteArray), .string (⟨#[124, 124]⟩ : ByteArray)]) (ok := fun _ => True) (okp := fun _ => True) ?hr ?hp (fun _ hk => hk) trivial (Below.refl _ _) (Nat.le_refl _) (by simp) ?_; (case hd => rfl); (case hg => rfl); (case hr => first | (go_simp; done) | (go_simp; rfl)); (case hp => exact (Reps.one (show Kd.M Kd.string _ _ _ (⟨#[61, 61]⟩ : ByteArray) [.string (⟨#[61, 61]⟩ : ByteArray)] from rfl) (Reps.one (show Kd.M Kd.string _ _ _ (⟨#[33, 61]⟩ : ByteArray) [.string (⟨#[33, 61]⟩ : ByteArray)] from rfl) (Reps.one (show Kd.M Kd.string _ _ _ (⟨#[60, 61]⟩ : ByteArray) [.string (⟨#[60, 61]⟩ : ByteArray)] from rfl) (Reps.one (show Kd.M Kd.string _ _ _ (⟨#[62, 61]⟩ : ByteArray) [.string (⟨#[62, 61]⟩ : ByteArray)] from rfl) (Reps.one (show Kd.M Kd.string _ _ _ (⟨#[38, 38]⟩ : ByteArray) [.string (⟨#[38, 38]⟩ : ByteArray)] from rfl) (Reps.one (show Kd.M Kd.string _ _ _ (⟨#[124, 124]⟩ : ByteArray) [.string (⟨#[124, 124]⟩ : ByteArray)] from rfl) (Reps.none _ _)))))))); intro v280 w3 ho4 hb hg_ hnew_; clear hg_ hnew_; (first | rw [← Ny279.out] at ho4 | (simp only [Int.reduceToNat] at ho4; rw [← Ny279.out] at ho4)); have n0_ := zaa.mk (Kd.zbz ho4 (zax (by repeat (first | exact HB.out | apply zad | apply zac | apply zae)))); have n1_ := zaa.mk (zai (by repeat (first | exact HB.out | apply zad | apply zac | apply zae)) hb); clear HB; have HO281 := n0_; have HB := n1_; clear n0_ n1_; clear hb ho4) | ((with_reducible refine za6 (N := 13) rfl ?_); refine Kd.R_lit (Kd.int .u8) _ 5 ?hg (N := 13) ?hd (xs := ([27, 28, 30, 32, 39, 40] : List Int)) (inner := [.int .u8 27, .int .u8 28, .int .u8 30, .int .u8 32, .int .u8 39, .int .u8 40]) (ok := fun _ => True) (okp := fun _ => True) ?hr ?hp (fun _ hk => hk) trivial (Below.refl _ _) (Nat.le_refl _) (by simp) ?_; (case hd => rfl); (case hg => rfl); (case hr => first | (go_simp; done) | (go_simp; rfl)); (case hp => exact (Reps.one (show Kd.M (Kd.int .u8) _ _ _ 27 [.int .u8 27] from rfl) (Reps.one (show Kd.M (Kd.int .u8) _ _ _ 28 [.int .u8 28] from rfl) (Reps.one (show Kd.M (Kd.int .u8) _ _ _ 30 [.int .u8 30] from rfl) (Reps.one (show Kd.M (Kd.int .u8) _ _ _ 32 [.int .u8 32] from rfl) (Reps.one (show Kd.M (Kd.int .u8) _ _ _ 39 [.int .u8 39] from rfl) (Reps.one (show Kd.M (Kd.int .u8) _ _ _ 40 [.int .u8 40] from rfl) (Reps.none _ _)))))))); intro v283 w5 ho6 hb hg_ hnew_; clear hg_ hnew_; (first | rw [← Ny282.out] at ho6 | (simp only [Int.reduceToNat] at ho6; rw [← Ny282.out] at ho6)); have n0_ := zaa.mk (Kd.zbm (by (with_reducible repeat (first | apply Kd.za4 | apply Kd.zbu | apply Kd.zbC)); exact HO281.out) hb); have n1_ := zaa.mk (Kd.zbz ho6 (zax (by repeat (first | exact HB.out | apply zad | apply zac | apply zae)))); have n2_ := zaa.mk (zai (by repeat (first | exact HB.out | apply zad | apply zac | apply zae)) hb); clear HO281; clear HB; have HO281 := n0_; have HO284 := n1_; have HB := n2_; clear n0_ n1_ n2_; clear hb ho6))
 repeat (go_quiet (first | ((with_reducible refine za6 (N := 12) rfl ?_); refine Kd.R_lit Kd.string _ 9 ?hg (N := 12) ?hd (xs := ([(⟨#[61, 61]⟩ : ByteArray), (⟨#[33, 61]⟩ : ByteArray), (⟨#[60, 61]⟩ : ByteArray), (⟨#[62, 61]⟩ : ByteArray), (⟨#[38, 38]⟩ : ByteArray), (⟨#[124, 124]⟩ : ByteArray)] : List ByteArray)) (inner := [.string (⟨#[61, 61]⟩ : ByteArray), .string (⟨#[33, 61]⟩ : ByteArray), .string (⟨#[60, 61]⟩ : ByteArray), .string (⟨#[62, 61]⟩ : ByteArray), .string (⟨#[38, 38]⟩ : ByteArray), .string (⟨#[124, 124]⟩ : ByteArray)]) (ok := fun _ => True) (okp := fun _ => True) ?hr ?hp (fun _ hk => hk) trivial (Below.refl _ _) (Nat.le_refl _) (by simp) ?_; (case hd => rfl); (case hg => rfl); (case hr => first | (go_simp; done) | (go_simp; rfl)); (case hp => exact (Reps.one (show Kd.M Kd.string _ _ _ (⟨#[61, 61]⟩ : ByteArray) [.string (⟨#[61, 61]⟩ : ByteArray)] from rfl) (Reps.one (show Kd.M Kd.string _ _ _ (⟨#[33, 61]⟩ : ByteArray) [.string (⟨#[33, 61]⟩ : ByteArray)] from rfl) (Reps.one (show Kd.M Kd.string _ _ _ (⟨#[60, 61]⟩ : ByteArray) [.string (⟨#[60, 61]⟩ : ByteArray)] from rfl) (Reps.one (show Kd.M Kd.string _ _ _ (⟨#[62, 61]⟩ : ByteArray) [.string (⟨#[62, 61]⟩ : ByteArray)] from rfl) (Reps.one (show Kd.M Kd.string _ _ _ (⟨#[38, 38]⟩ : ByteArray) [.string (⟨#[38, 38]⟩ : ByteArray)] from rfl) (Reps.one (show Kd.M Kd.string _ _ _ (⟨#[124, 124]⟩ : ByteArray) [.string (⟨#[124, 124]⟩ : ByteArray)] from rfl) (Reps.none _ _)))))))); intro v280 w3 ho4 hb hg_ hnew_; clear hg_ hnew_; (first | rw [← Ny279.out] at ho4 | (simp only [Int.reduceToNat] at ho4; rw [← Ny279.out] at ho4)); have n0_ := zaa.mk (Kd.zbz ho4 (zax (by repeat (first | exact HB.out | apply zad | apply zac | apply zae)))); have n1_ := zaa.mk (zai (by repeat (first | exact HB.out | apply zad | apply zac | apply zae)) hb); clear HB; have HO281 := n0_; have HB := n1_; clear n0_ n1_; clear hb ho4) | ((with_reducible refine za6 (N := 13) rfl ?_); refine Kd.R_lit (Kd.int .u8) _ 5 ?hg (N := 13) ?hd (xs := ([27, 28, 30, 32, 39, 40] : List Int)) (inner := [.int .u8 27, .int .u8 28, .int .u8 30, .int .u8 32, .int .u8 39, .int .u8 40]) (ok := fun _ => True) (okp := fun _ => True) ?hr ?hp (fun _ hk => hk) trivial (Below.refl _ _) (Nat.le_refl _) (by simp) ?_; (case hd => rfl); (case hg => rfl); (case hr => first | (go_simp; done) | (go_simp; rfl)); (case hp => exact (Reps.one (show Kd.M (Kd.int .u8) _ _ _ 27 [.int .u8 27] from rfl) (Reps.one (show Kd.M (Kd.int .u8) _ _ _ 28 [.int .u8 28] from rfl) (Reps.one (show Kd.M (Kd.int .u8) _ _ _ 30 [.int .u8 30] from rfl) (Reps.one (show Kd.M (Kd.int .u8) _ _ _ 32 [.int .u8 32] from rfl) (Reps.one (show Kd.M (Kd.int .u8) _ _ _ 39 [.int .u8 39] from rfl) (Reps.one (show Kd.M (Kd.int .u8) _ _ _ 40 [.int .u8 40] from rfl) (Reps.none _ _)))))))); intro v283 w5 ho6 hb hg_ hnew_; clear hg_ hnew_; (first | rw [← Ny282.out] at ho6 | (simp only [Int.reduceToNat] at ho6; rw [← Ny282.out] at ho6)); have n0_ := zaa.mk (Kd.zbm (by (with_reducible repeat (first | apply Kd.za4 | apply Kd.zbu | apply Kd.zbC)); exact HO281.out) hb); have n1_ := zaa.mk (Kd.zbz ho6 (zax (by repeat (first | exact HB.out | apply zad | apply zac | apply zae)))); have n2_ := zaa.mk (zai (by repeat (first | exact HB.out | apply zad | apply zac | apply zae)) hb); clear HO281; clear HB; have HO281 := n0_; have HO284 := n1_; have HB := n2_; clear n0_ n1_ n2_; clear hb ho6)); try go_wp2_with (first | ((with_reducible refine za6 (N := 12) rfl ?_); refine Kd.R_lit Kd.string _ 9 ?hg (N := 12) ?hd (xs := ([(⟨#[61, 61]⟩ : ByteArray), (⟨#[33, 61]⟩ : ByteArray), (⟨#[60, 61]⟩ : ByteArray), (⟨#[62, 61]⟩ : ByteArray), (⟨#[38, 38]⟩ : ByteArray), (⟨#[124, 124]⟩ : ByteArray)] : List ByteArray)) (inner := [.string (⟨#[61, 61]⟩ : ByteArray), .string (⟨#[33, 61]⟩ : ByteArray), .string (⟨#[60, 61]⟩ : ByteArray), .string (⟨#[62, 61]⟩ : ByteArray), .string (⟨#[38, 38]⟩ : ByteArray), .string (⟨#[124, 124]⟩ : ByteArray)]) (ok := fun _ => True) (okp := fun _ => True) ?hr ?hp (fun _ hk => hk) trivial (Below.refl _ _) (Nat.le_refl _) (by simp) ?_; (case hd => rfl); (case hg => rfl); (case hr => first | (go_simp; done) | (go_simp; rfl)); (case hp => exact (Reps.one (show Kd.M Kd.string _ _ _ (⟨#[61, 61]⟩ : ByteArray) [.string (⟨#[61, 61]⟩ : ByteArray)] from rfl) (Reps.one (show Kd.M Kd.string _ _ _ (⟨#[33, 61]⟩ : ByteArray) [.string (⟨#[33, 61]⟩ : ByteArray)] from rfl) (Reps.one (show Kd.M Kd.string _ _ _ (⟨#[60, 61]⟩ : ByteArray) [.string (⟨#[60, 61]⟩ : ByteArray)] from rfl) (Reps.one (show Kd.M Kd.string _ _ _ (⟨#[62, 61]⟩ : ByteArray) [.string (⟨#[62, 61]⟩ : ByteArray)] from rfl) (Reps.one (show Kd.M Kd.string _ _ _ (⟨#[38, 38]⟩ : ByteArray) [.string (⟨#[38, 38]⟩ : ByteArray)] from rfl) (Reps.one (show Kd.M Kd.string _ _ _ (⟨#[124, 124]⟩ : ByteArray) [.string (⟨#[124, 124]⟩ : ByteArray)] from rfl) (Reps.none _ _)))))))); intro v280 w3 ho4 hb hg_ hnew_; clear hg_ hnew_; (first | rw [← Ny279.out] at ho4 | (simp only [Int.reduceToNat] at ho4; rw [← Ny279.out] at ho4)); have n0_ := zaa.mk (Kd.zbz ho4 (zax (by repeat (first | exact HB.out | apply zad | apply zac | apply zae)))); have n1_ := zaa.mk (zai (by repeat (first | exact HB.out | apply zad | apply zac | apply zae)) hb); clear HB; have HO281 := n0_; have HB := n1_; clear n0_ n1_; clear hb ho4) | ((with_reducible refine za6 (N := 13) rfl ?_); refine Kd.R_lit (Kd.int .u8) _ 5 ?hg (N := 13) ?hd (xs := ([27, 28, 30, 32, 39, 40] : List Int)) (inner := [.int .u8 27, .int .u8 28, .int .u8 30, .int .u8 32, .int .u8 39, .int .u8 40]) (ok := fun _ => True) (okp := fun _ => True) ?hr ?hp (fun _ hk => hk) trivial (Below.refl _ _) (Nat.le_refl _) (by simp) ?_; (case hd => rfl); (case hg => rfl); (case hr => first | (go_simp; done) | (go_simp; rfl)); (case hp => exact (Reps.one (show Kd.M (Kd.int .u8) _ _ _ 27 [.int .u8 27] from rfl) (Reps.one (show Kd.M (Kd.int .u8) _ _ _ 28 [.int .u8 28] from rfl) (Reps.one (show Kd.M (Kd.int .u8) _ _ _ 30 [.int .u8 30] from rfl) (Reps.one (show Kd.M (Kd.int .u8) _ _ _ 32 [.int .u8 32] from rfl) (Reps.one (show Kd.M (Kd.int .u8) _ _ _ 39 [.int .u8 39] from rfl) (Reps.one (show Kd.M (Kd.int .u8) _ _ _ 40 [.int .u8 40] from rfl) (Reps.none _ _)))))))); intro v283 w5 ho6 hb hg_ hnew_; clear hg_ hnew_; (first | rw [← Ny282.out] at ho6 | (simp only [Int.reduceToNat] at ho6; rw [← Ny282.out] at ho6)); have n0_ := zaa.mk (Kd.zbm (by (with_reducible repeat (first | apply Kd.za4 | apply Kd.zbu | apply Kd.zbC)); exact HO281.out) hb); have n1_ := zaa.mk (Kd.zbz ho6 (zax (by repeat (first | exact HB.out | apply zad | apply zac | apply zae)))); have n2_ := zaa.mk (zai (by repeat (first | exact HB.out | apply zad | apply zac | apply zae)) hb); clear HO281; clear HB; have HO281 := n0_; have HO284 := n1_; have HB := n2_; clear n0_ n1_ n2_; clear hb ho6)))
 go_loopg [8] k (fun kq v8 w' => ∃ (x8_1 : Int), v8 = .int .i64 x8_1 ∧ zaa (zaI.l0 kq a0 a1 y279 y282 x8_1 = some (r1, r2)) ∧ zaa (kq ≤ k) ∧ zaa (Kd.R Kd.string 9 w' w.heap.size (fun _ => True) v280 y279) ∧ zaa (Kd.R (Kd.int .u8) 5 w' w.heap.size (fun _ => True) v283 y282) ∧ zaa (Below w.heap.size w w'))
 case atStart => exact ⟨(0), (by first | rfl | (simp; done) | simp [*]), H', ⟨Nat.le_refl _⟩, ⟨by (with_reducible repeat (first | apply Kd.za4 | apply Kd.zbu | apply Kd.zbC)); exact HO281.out⟩, ⟨by (with_reducible repeat (first | apply Kd.za4 | apply Kd.zbu | apply Kd.zbC)); exact HO284.out⟩, ⟨by repeat (first | exact HB.out | apply zad | apply zac | apply zae)⟩⟩
 case round =>
  clear H'; try clear p2
  try clear c4
  obtain ⟨x8_1, rfl, HA, HK1, HO_6, HO_7, HB⟩ := hrel; cases gk with
  | zero => exact absurd HA.out (by simp [zaI.l0])
  | succ k1 =>
   have H := HA.out; clear HA; simp only [zaI.l0] at H; by_cases c7 : x8_1 < (y279.length : Int)
   ·rw [if_pos c7] at H
    have c7b0 : decide (x8_1 < (y279.length : Int)) = true := decide_eq_true c7; clear c7; by_cases c8 : (wrap64 (a1 + 2)) ≤ (a0.size : Int)
    ·rw [if_pos c8] at H
     have c8b0 : decide ((wrap64 (a1 + 2)) ≤ (a0.size : Int)) = true := decide_eq_true c8; clear c8; by_cases c9 : 0 ≤ a1
     ·rw [if_pos c9] at H
      have c9b0 := eq_true c9; have c9b1 : decide (0 ≤ a1) = true := decide_eq_true c9; clear c9; by_cases c10 : a1 ≤ (wrap64 (a1 + 2))
      ·rw [if_pos c10] at H
       have c10b0 := eq_true c10; have c10b1 : decide (a1 ≤ (wrap64 (a1 + 2))) = true := decide_eq_true c10; have c11b0 := eq_true (of_decide_eq_true (by assumption) : (wrap64 (a1 + 2)) ≤ (a0.size : Int))
       by_cases c12 : 0 ≤ x8_1
       ·rw [if_pos c12] at H
        have c12b0 : decide (0 ≤ x8_1) = true := decide_eq_true c12; clear c12; by_cases c13 : (a0.extract (a1 : Int).toNat ((wrap64 (a1 + 2)) : Int).toNat).toList = (rdOf ByteArray.empty y279 x8_1).toList
        ·rw [if_pos c13] at H
         have c13b0 : ((a0.extract (a1 : Int).toNat ((wrap64 (a1 + 2)) : Int).toNat).toList == (rdOf ByteArray.empty y279 x8_1).toList) = true := beq_iff_eq.mpr c13; have c13b1 : ((a0.extract (a1 : Int).toNat ((wrap64 (a1 + 2)) : Int).toNat).toList != (rdOf ByteArray.empty y279 x8_1).toList) = false := bne_eq_false_iff_eq.mpr c13; clear c13; by_cases c14 : x8_1 < (y282.length : Int)
         ·rw [if_pos c14] at H
          have c14b0 : decide (x8_1 < (y282.length : Int)) = true := decide_eq_true c14; clear c14; simp only [Option.some.injEq, Prod.mk.injEq] at H; obtain ⟨rfl, rfl⟩ := H; obtain ⟨Ao15, co15, eo15⟩ := Kd.zbo HO_6.out; subst eo15; have p285 : 0 ≤ (x8_1 : Int) := of_decide_eq_true (by assumption)
          have q285 : x8_1 < (y279.length : Int) := of_decide_eq_true (by assumption)
          obtain ⟨ad285, e285, hx285_0⟩ := Kd.at_string (Kd.za0 HO_6.out).2.2 x8_1 p285 q285; cases e285; replace p285 := eq_true p285; replace q285 := eq_true q285; obtain ⟨Ao16, co16, eo16⟩ := Kd.zbo HO_7.out; subst eo16; have p286 : 0 ≤ (x8_1 : Int) := of_decide_eq_true (by assumption)
          have q286 : x8_1 < (y282.length : Int) := of_decide_eq_true (by assumption)
          obtain ⟨ad286, e286, hx286_0⟩ := Kd.at_int (Kd.za0 HO_7.out).2.2 x8_1 p286 q286; cases e286; replace p286 := eq_true p286; replace q286 := eq_true q286; go_wp2
          repeat (go_quiet (fail); try go_wp2)
          go_ret2
          exact ⟨by first | rfl | (simp [*, zaz, zay] <;> rfl), by repeat (first | exact HB.out | apply zad | apply zac | apply zae)⟩
         ·rw [if_neg c14] at H
          exact absurd H (by simp)
        ·rw [if_neg c13] at H
         have c13b0 : ((a0.extract (a1 : Int).toNat ((wrap64 (a1 + 2)) : Int).toNat).toList == (rdOf ByteArray.empty y279 x8_1).toList) = false := beq_eq_false_iff_ne.mpr c13; have c13b1 : ((a0.extract (a1 : Int).toNat ((wrap64 (a1 + 2)) : Int).toNat).toList != (rdOf ByteArray.empty y279 x8_1).toList) = true := bne_iff_ne.mpr c13; have H' := zaa.mk H; clear H; obtain ⟨Ao17, co17, eo17⟩ := Kd.zbo HO_6.out; subst eo17; have p285 : 0 ≤ (x8_1 : Int) := of_decide_eq_true (by assumption)
         have q285 : x8_1 < (y279.length : Int) := of_decide_eq_true (by assumption)
         obtain ⟨ad285, e285, hx285_0⟩ := Kd.at_string (Kd.za0 HO_6.out).2.2 x8_1 p285 q285; cases e285; replace p285 := eq_true p285; replace q285 := eq_true q285; go_wp2
         repeat (go_quiet (fail); try go_wp2)
         go_roundg k1
         case measure => have := HK1.out; omega
         case rel => exact ⟨(wrap64 (x8_1 + 1)), (by first | rfl | (simp; done) | simp [*]), H', ⟨by have := HK1.out; omega⟩, ⟨by (with_reducible repeat (first | apply Kd.za4 | apply Kd.zbu | apply Kd.zbC)); exact HO_6.out⟩, ⟨by (with_reducible repeat (first | apply Kd.za4 | apply Kd.zbu | apply Kd.zbC)); exact HO_7.out⟩, ⟨by repeat (first | exact HB.out | apply zad | apply zac | apply zae)⟩⟩
       ·rw [if_neg c12] at H
        exact absurd H (by simp)
      ·rw [if_neg c10] at H
       exact absurd H (by simp)
     ·rw [if_neg c9] at H
      exact absurd H (by simp)
    ·rw [if_neg c8] at H
     have c8b0 : decide ((wrap64 (a1 + 2)) ≤ (a0.size : Int)) = false := decide_eq_false c8; clear c8; have H' := zaa.mk H; clear H; obtain ⟨Ao18, co18, eo18⟩ := Kd.zbo HO_6.out; subst eo18; go_wp2
     repeat (go_quiet (fail); try go_wp2)
     go_roundg k1
     case measure => have := HK1.out; omega
     case rel => exact ⟨(wrap64 (x8_1 + 1)), (by first | rfl | (simp; done) | simp [*]), H', ⟨by have := HK1.out; omega⟩, ⟨by (with_reducible repeat (first | apply Kd.za4 | apply Kd.zbu | apply Kd.zbC)); exact HO_6.out⟩, ⟨by (with_reducible repeat (first | apply Kd.za4 | apply Kd.zbu | apply Kd.zbC)); exact HO_7.out⟩, ⟨by repeat (first | exact HB.out | apply zad | apply zac | apply zae)⟩⟩
   ·rw [if_neg c7] at H
    have c7b0 : decide (x8_1 < (y279.length : Int)) = false := decide_eq_false c7; clear c7; obtain ⟨y287, hy287⟩ : ∃ y_ : List Int, y_ = (([20, 21, 22, 23, 24, 25, 26, 29, 31, 33, 34, 35, 37, 38] : List Int)) := ⟨_, rfl⟩; replace H : (zaI.l1 k1 a0 a1 (⟨#[40, 41, 123, 125, 44, 59, 61, 60, 62, 43, 45, 42, 37, 33]⟩ : ByteArray) y287 0) = some (r1, r2) := by first | (rw [hy287]; with_reducible exact H) | (have H2_ := (Option.bind_some _ _).symm.trans H; rw [hy287]; with_reducible exact H2_) | (have H2_ := (Option.bind_some _ _).symm.trans H; with_reducible exact H2_) | with_reducible exact H | (rw [hy287]; exact H) | exact H
    have Ny287 := zaa.mk hy287; clear hy287; have H' := zaa.mk H; clear H; obtain ⟨Ao19, co19, eo19⟩ := Kd.zbo HO_6.out; subst eo19; go_wp2_with (first | ((with_reducible refine za6 (N := 43) rfl ?_); refine Kd.R_lit (Kd.int .u8) _ 5 ?hg (N := 43) ?hd (xs := ([20, 21, 22, 23, 24, 25, 26, 29, 31, 33, 34, 35, 37, 38] : List Int)) (inner := [.int .u8 20, .int .u8 21, .int .u8 22, .int .u8 23, .int .u8 24, .int .u8 25, .int .u8 26, .int .u8 29, .int .u8 31, .int .u8 33, .int .u8 34, .int .u8 35, .int .u8 37, .int .u8 38]) (ok := fun _ => True) (okp := fun _ => True) ?hr ?hp (fun _ hk => hk) trivial (Below.refl _ _) (Nat.le_refl _) (by simp) ?_; (case hd => rfl); (case hg => rfl); (case hr => first | (go_simp; done) | (go_simp; rfl)); (case hp => exact (Reps.one (show Kd.M (Kd.int .u8) _ _ _ 20 [.int .u8 20] from rfl) (Reps.one (show Kd.M (Kd.int .u8) _ _ _ 21 [.int .u8 21] from rfl) (Reps.one (show Kd.M (Kd.int .u8) _ _ _ 22 [.int .u8 22] from rfl) (Reps.one (show Kd.M (Kd.int .u8) _ _ _ 23 [.int .u8 23] from rfl) (Reps.one (show Kd.M (Kd.int .u8) _ _ _ 24 [.int .u8 24] from rfl) (Reps.one (show Kd.M (Kd.int .u8) _ _ _ 25 [.int .u8 25] from rfl) (Reps.one (show Kd.M (Kd.int .u8) _ _ _ 26 [.int .u8 26] from rfl) (Reps.one (show Kd.M (Kd.int .u8) _ _ _ 29 [.int .u8 29] from rfl) (Reps.one (show Kd.M (Kd.int .u8) _ _ _ 31 [.int .u8 31] from rfl) (Reps.one (show Kd.M (Kd.int .u8) _ _ _ 33 [.int .u8 33] from rfl) (Reps.one (show Kd.M (Kd.int .u8) _ _ _ 34 [.int .u8 34] from rfl) (Reps.one (show Kd.M (Kd.int .u8) _ _ _ 35 [.int .u8 35] from rfl) (Reps.one (show Kd.M (Kd.int .u8) _ _ _ 37 [.int .u8 37] from rfl) (Reps.one (show Kd.M (Kd.int .u8) _ _ _ 38 [.int .u8 38] from rfl) (Reps.none _ _)))))))))))))))); intro v288 w20 ho21 hb hg_ hnew_; clear hg_ hnew_; (first | rw [← Ny287.out] at ho21 | (simp only [Int.reduceToNat] at ho21; rw [← Ny287.out] at ho21)); have n0_ := zaa.mk (Kd.zbm (by (with_reducible repeat (first | apply Kd.za4 | apply Kd.zbu | apply Kd.zbC)); exact HO_6.out) hb); have n1_ := zaa.mk (Kd.R_elder' (by (with_reducible repeat (first | apply Kd.za4 | apply Kd.zbu | apply Kd.zbC)); exact HO_7.out) (Kd.R_base ho21) hb); have n2_ := zaa.mk (Kd.zbz (Kd.R_new' ho21 (Kd.R_lt (by (with_reducible repeat (first | apply Kd.za4 | apply Kd.zbu | apply Kd.zbC)); exact HO_7.out))) (zax (by repeat (first | exact HB.out | apply zad | apply zac | apply zae)))); have n3_ := zaa.mk (zai (by repeat (first | exact HB.out | apply zad | apply zac | apply zae)) hb); clear HO_6; clear HO_7; clear HB; have HO_6 := n0_; have HO_7 := n1_; have HO289 := n2_; have HB := n3_; clear n0_ n1_ n2_ n3_; clear hb ho21))
    repeat (go_quiet (first | ((with_reducible refine za6 (N := 43) rfl ?_); refine Kd.R_lit (Kd.int .u8) _ 5 ?hg (N := 43) ?hd (xs := ([20, 21, 22, 23, 24, 25, 26, 29, 31, 33, 34, 35, 37, 38] : List Int)) (inner := [.int .u8 20, .int .u8 21, .int .u8 22, .int .u8 23, .int .u8 24, .int .u8 25, .int .u8 26, .int .u8 29, .int .u8 31, .int .u8 33, .int .u8 34, .int .u8 35, .int .u8 37, .int .u8 38]) (ok := fun _ => True) (okp := fun _ => True) ?hr ?hp (fun _ hk => hk) trivial (Below.refl _ _) (Nat.le_refl _) (by simp) ?_; (case hd => rfl); (case hg => rfl); (case hr => first | (go_simp; done) | (go_simp; rfl)); (case hp => exact (Reps.one (show Kd.M (Kd.int .u8) _ _ _ 20 [.int .u8 20] from rfl) (Reps.one (show Kd.M (Kd.int .u8) _ _ _ 21 [.int .u8 21] from rfl) (Reps.one (show Kd.M (Kd.int .u8) _ _ _ 22 [.int .u8 22] from rfl) (Reps.one (show Kd.M (Kd.int .u8) _ _ _ 23 [.int .u8 23] from rfl) (Reps.one (show Kd.M (Kd.int .u8) _ _ _ 24 [.int .u8 24] from rfl) (Reps.one (show Kd.M (Kd.int .u8) _ _ _ 25 [.int .u8 25] from rfl) (Reps.one (show Kd.M (Kd.int .u8) _ _ _ 26 [.int .u8 26] from rfl) (Reps.one (show Kd.M (Kd.int .u8) _ _ _ 29 [.int .u8 29] from rfl) (Reps.one (show Kd.M (Kd.int .u8) _ _ _ 31 [.int .u8 31] from rfl) (Reps.one (show Kd.M (Kd.int .u8) _ _ _ 33 [.int .u8 33] from rfl) (Reps.one (show Kd.M (Kd.int .u8) _ _ _ 34 [.int .u8 34] from rfl) (Reps.one (show Kd.M (Kd.int .u8) _ _ _ 35 [.int .u8 35] from rfl) (Reps.one (show Kd.M (Kd.int .u8) _ _ _ 37 [.int .u8 37] from rfl) (Reps.one (show Kd.M (Kd.int .u8) _ _ _ 38 [.int .u8 38] from rfl) (Reps.none _ _)))))))))))))))); intro v288 w20 ho21 hb hg_ hnew_; clear hg_ hnew_; (first | rw [← Ny287.out] at ho21 | (simp only [Int.reduceToNat] at ho21; rw [← Ny287.out] at ho21)); have n0_ := zaa.mk (Kd.zbm (by (with_reducible repeat (first | apply Kd.za4 | apply Kd.zbu | apply Kd.zbC)); exact HO_6.out) hb); have n1_ := zaa.mk (Kd.R_elder' (by (with_reducible repeat (first | apply Kd.za4 | apply Kd.zbu | apply Kd.zbC)); exact HO_7.out) (Kd.R_base ho21) hb); have n2_ := zaa.mk (Kd.zbz (Kd.R_new' ho21 (Kd.R_lt (by (with_reducible repeat (first | apply Kd.za4 | apply Kd.zbu | apply Kd.zbC)); exact HO_7.out))) (zax (by repeat (first | exact HB.out | apply zad | apply zac | apply zae)))); have n3_ := zaa.mk (zai (by repeat (first | exact HB.out | apply zad | apply zac | apply zae)) hb); clear HO_6; clear HO_7; clear HB; have HO_6 := n0_; have HO_7 := n1_; have HO289 := n2_; have HB := n3_; clear n0_ n1_ n2_ n3_; clear hb ho21)); try go_wp2_with (first | ((with_reducible refine za6 (N := 43) rfl ?_); refine Kd.R_lit (Kd.int .u8) _ 5 ?hg (N := 43) ?hd (xs := ([20, 21, 22, 23, 24, 25, 26, 29, 31, 33, 34, 35, 37, 38] : List Int)) (inner := [.int .u8 20, .int .u8 21, .int .u8 22, .int .u8 23, .int .u8 24, .int .u8 25, .int .u8 26, .int .u8 29, .int .u8 31, .int .u8 33, .int .u8 34, .int .u8 35, .int .u8 37, .int .u8 38]) (ok := fun _ => True) (okp := fun _ => True) ?hr ?hp (fun _ hk => hk) trivial (Below.refl _ _) (Nat.le_refl _) (by simp) ?_; (case hd => rfl); (case hg => rfl); (case hr => first | (go_simp; done) | (go_simp; rfl)); (case hp => exact (Reps.one (show Kd.M (Kd.int .u8) _ _ _ 20 [.int .u8 20] from rfl) (Reps.one (show Kd.M (Kd.int .u8) _ _ _ 21 [.int .u8 21] from rfl) (Reps.one (show Kd.M (Kd.int .u8) _ _ _ 22 [.int .u8 22] from rfl) (Reps.one (show Kd.M (Kd.int .u8) _ _ _ 23 [.int .u8 23] from rfl) (Reps.one (show Kd.M (Kd.int .u8) _ _ _ 24 [.int .u8 24] from rfl) (Reps.one (show Kd.M (Kd.int .u8) _ _ _ 25 [.int .u8 25] from rfl) (Reps.one (show Kd.M (Kd.int .u8) _ _ _ 26 [.int .u8 26] from rfl) (Reps.one (show Kd.M (Kd.int .u8) _ _ _ 29 [.int .u8 29] from rfl) (Reps.one (show Kd.M (Kd.int .u8) _ _ _ 31 [.int .u8 31] from rfl) (Reps.one (show Kd.M (Kd.int .u8) _ _ _ 33 [.int .u8 33] from rfl) (Reps.one (show Kd.M (Kd.int .u8) _ _ _ 34 [.int .u8 34] from rfl) (Reps.one (show Kd.M (Kd.int .u8) _ _ _ 35 [.int .u8 35] from rfl) (Reps.one (show Kd.M (Kd.int .u8) _ _ _ 37 [.int .u8 37] from rfl) (Reps.one (show Kd.M (Kd.int .u8) _ _ _ 38 [.int .u8 38] from rfl) (Reps.none _ _)))))))))))))))); intro v288 w20 ho21 hb hg_ hnew_; clear hg_ hnew_; (first | rw [← Ny287.out] at ho21 | (simp only [Int.reduceToNat] at ho21; rw [← Ny287.out] at ho21)); have n0_ := zaa.mk (Kd.zbm (by (with_reducible repeat (first | apply Kd.za4 | apply Kd.zbu | apply Kd.zbC)); exact HO_6.out) hb); have n1_ := zaa.mk (Kd.R_elder' (by (with_reducible repeat (first | apply Kd.za4 | apply Kd.zbu | apply Kd.zbC)); exact HO_7.out) (Kd.R_base ho21) hb); have n2_ := zaa.mk (Kd.zbz (Kd.R_new' ho21 (Kd.R_lt (by (with_reducible repeat (first | apply Kd.za4 | apply Kd.zbu | apply Kd.zbC)); exact HO_7.out))) (zax (by repeat (first | exact HB.out | apply zad | apply zac | apply zae)))); have n3_ := zaa.mk (zai (by repeat (first | exact HB.out | apply zad | apply zac | apply zae)) hb); clear HO_6; clear HO_7; clear HB; have HO_6 := n0_; have HO_7 := n1_; have HO289 := n2_; have HB := n3_; clear n0_ n1_ n2_ n3_; clear hb ho21)))
    go_loopg [11] k1 (fun kq v11 w' => ∃ (x11_2 : Int), v11 = .int .i64 x11_2 ∧ zaa (zaI.l1 kq a0 a1 (⟨#[40, 41, 123, 125, 44, 59, 61, 60, 62, 43, 45, 42, 37, 33]⟩ : ByteArray) y287 x11_2 = some (r1, r2)) ∧ zaa (kq ≤ k1) ∧ zaa (Kd.R (Kd.int .u8) 5 w' w.heap.size (fun _ => True) v288 y287) ∧ zaa (Below w.heap.size w w'))
    case atStart => exact ⟨(0), (by first | rfl | (simp; done) | simp [*]), H', ⟨Nat.le_refl _⟩, ⟨by (with_reducible repeat (first | apply Kd.za4 | apply Kd.zbu | apply Kd.zbC)); exact Kd.zbT HO289.out (fun _ hk => trivial)⟩, ⟨by repeat (first | exact HB.out | apply zad | apply zac | apply zae)⟩⟩
    case round =>
     clear H'; try clear c1
     try clear p2
     try clear q2
     try clear hx2
     try clear c4
     try clear p6
     try clear c7
     try clear c7b0
     try clear c8
     try clear c8b0
     try clear c9
     try clear c9b0
     try clear c9b1
     try clear c10
     try clear c10b0
     try clear c10b1
     try clear c11
     try clear c11b0
     try clear c12
     try clear c12b0
     try clear c13
     try clear c13b0
     try clear c13b1
     try clear c14
     try clear c14b0
     try clear hx285_0
     try clear hx286_0
     try clear p2
     try clear p285
     try clear p286
     try clear q285
     try clear q286
     obtain ⟨x11_2, rfl, HA, HK2, HO_10, HB⟩ := hrel; cases gk with
     | zero => exact absurd HA.out (by simp [zaI.l1])
     | succ k2 =>
      have H := HA.out; clear HA; simp only [zaI.l1] at H; by_cases c22 : x11_2 < ((⟨#[40, 41, 123, 125, 44, 59, 61, 60, 62, 43, 45, 42, 37, 33]⟩ : ByteArray).size : Int)
      ·rw [if_pos c22] at H
       have c22b0 : decide (x11_2 < ((⟨#[40, 41, 123, 125, 44, 59, 61, 60, 62, 43, 45, 42, 37, 33]⟩ : ByteArray).size : Int)) = true := decide_eq_true c22; have c22b0n : decide (x11_2 < 14) = true := c22b0; clear c22; by_cases c23 : 0 ≤ a1
       ·rw [if_pos c23] at H
        have c23b0 : decide (0 ≤ a1) = true := decide_eq_true c23; clear c23; by_cases c24 : a1 < (a0.size : Int)
        ·rw [if_pos c24] at H
         have c24b0 : decide (a1 < (a0.size : Int)) = true := decide_eq_true c24; clear c24; by_cases c26 : 0 ≤ x11_2
         ·rw [if_pos c26] at H
          have c26b0 : decide (0 ≤ x11_2) = true := decide_eq_true c26; clear c26; by_cases c28 : (bt a0 a1) = (bt (⟨#[40, 41, 123, 125, 44, 59, 61, 60, 62, 43, 45, 42, 37, 33]⟩ : ByteArray) x11_2)
          ·rw [if_pos c28] at H
           have c28b0 : ((bt a0 a1) == (bt (⟨#[40, 41, 123, 125, 44, 59, 61, 60, 62, 43, 45, 42, 37, 33]⟩ : ByteArray) x11_2)) = true := beq_iff_eq.mpr c28; have c28b1 : ((bt a0 a1) != (bt (⟨#[40, 41, 123, 125, 44, 59, 61, 60, 62, 43, 45, 42, 37, 33]⟩ : ByteArray) x11_2)) = false := bne_eq_false_iff_eq.mpr c28; clear c28; by_cases c29 : x11_2 < (y287.length : Int)
           ·rw [if_pos c29] at H
            have c29b0 : decide (x11_2 < (y287.length : Int)) = true := decide_eq_true c29; clear c29; simp only [Option.some.injEq, Prod.mk.injEq] at H; obtain ⟨rfl, rfl⟩ := H; have p25 : 0 ≤ (a1 : Int) := of_decide_eq_true (by assumption)
            have q25 : a1 < (a0.size : Int) := of_decide_eq_true (by assumption)
            have hx25 := bt_at a0 a1; replace p25 := eq_true p25; replace q25 := eq_true q25; have p27 : 0 ≤ (x11_2 : Int) := of_decide_eq_true (by assumption)
            have q27 : x11_2 < (14 : Int) := of_decide_eq_true (by assumption)
            have hx27 := bt_at (⟨#[40, 41, 123, 125, 44, 59, 61, 60, 62, 43, 45, 42, 37, 33]⟩ : ByteArray) x11_2; replace p27 := eq_true p27; replace q27 := eq_true q27; obtain ⟨Ao30, co30, eo30⟩ := Kd.zbo HO_10.out; subst eo30; have p290 : 0 ≤ (x11_2 : Int) := of_decide_eq_true (by assumption)
            have q290 : x11_2 < (y287.length : Int) := of_decide_eq_true (by assumption)
            obtain ⟨ad290, e290, hx290_0⟩ := Kd.at_int (Kd.za0 HO_10.out).2.2 x11_2 p290 q290; cases e290; replace p290 := eq_true p290; replace q290 := eq_true q290; go_wp2
            repeat (go_quiet (fail); try go_wp2)
            go_ret2
            exact ⟨by first | rfl | (simp [*, zaz, zay] <;> rfl), by repeat (first | exact HB.out | apply zad | apply zac | apply zae)⟩
           ·rw [if_neg c29] at H
            exact absurd H (by simp)
          ·rw [if_neg c28] at H
           have c28b0 : ((bt a0 a1) == (bt (⟨#[40, 41, 123, 125, 44, 59, 61, 60, 62, 43, 45, 42, 37, 33]⟩ : ByteArray) x11_2)) = false := beq_eq_false_iff_ne.mpr c28; have c28b1 : ((bt a0 a1) != (bt (⟨#[40, 41, 123, 125, 44, 59, 61, 60, 62, 43, 45, 42, 37, 33]⟩ : ByteArray) x11_2)) = true := bne_iff_ne.mpr c28; have H' := zaa.mk H; clear H; have p25 : 0 ≤ (a1 : Int) := of_decide_eq_true (by assumption)
           have q25 : a1 < (a0.size : Int) := of_decide_eq_true (by assumption)
           have hx25 := bt_at a0 a1; replace p25 := eq_true p25; replace q25 := eq_true q25; have p27 : 0 ≤ (x11_2 : Int) := of_decide_eq_true (by assumption)
           have q27 : x11_2 < (14 : Int) := of_decide_eq_true (by assumption)
           have hx27 := bt_at (⟨#[40, 41, 123, 125, 44, 59, 61, 60, 62, 43, 45, 42, 37, 33]⟩ : ByteArray) x11_2; replace p27 := eq_true p27; replace q27 := eq_true q27; go_wp2
           repeat (go_quiet (fail); try go_wp2)
           go_roundg k2
           case measure => have := HK1.out; have := HK2.out; omega
           case rel => exact ⟨(wrap64 (x11_2 + 1)), (by first | rfl | (simp; done) | simp [*]), H', ⟨by have := HK1.out; have := HK2.out; omega⟩, ⟨by (with_reducible repeat (first | apply Kd.za4 | apply Kd.zbu | apply Kd.zbC)); exact HO_10.out⟩, ⟨by repeat (first | exact HB.out | apply zad | apply zac | apply zae)⟩⟩
         ·rw [if_neg c26] at H
          exact absurd H (by simp)
        ·rw [if_neg c24] at H
         exact absurd H (by simp)
       ·rw [if_neg c23] at H
        exact absurd H (by simp)
      ·rw [if_neg c22] at H
       have c22b0 : decide (x11_2 < ((⟨#[40, 41, 123, 125, 44, 59, 61, 60, 62, 43, 45, 42, 37, 33]⟩ : ByteArray).size : Int)) = false := decide_eq_false c22; have c22b0n : decide (x11_2 < 14) = false := c22b0; clear c22; replace H := Option.bind_eq_some_iff.mp H; obtain ⟨t291, A310, H⟩ := H; replace H : (some (5, wrap64 (a1 + t291))) = some (r1, r2) := H; have A31 := zaa.mk A310; clear A310; simp only [Option.some.injEq, Prod.mk.injEq] at H; obtain ⟨rfl, rfl⟩ := H; go_wp2_with (first | (go_at_call 65; (with_reducible refine (za3.calls k2 a0 a1 t291 _ A31.out).mono ?_); rintro e w32 ⟨rfl, hb⟩; have n0_ := zaa.mk (Kd.zbm (by (with_reducible repeat (first | apply Kd.za4 | apply Kd.zbu | apply Kd.zbC)); exact HO_10.out) hb); have n1_ := zaa.mk (zai (by repeat (first | exact HB.out | apply zad | apply zac | apply zae)) hb); clear HO_10; clear HB; have HO_10 := n0_; have HB := n1_; clear n0_ n1_; (try clear hb); (try clear hb2); (try clear hk); (try clear hi)))
       repeat (go_quiet (first | (go_at_call 65; (with_reducible refine (za3.calls k2 a0 a1 t291 _ A31.out).mono ?_); rintro e w32 ⟨rfl, hb⟩; have n0_ := zaa.mk (Kd.zbm (by (with_reducible repeat (first | apply Kd.za4 | apply Kd.zbu | apply Kd.zbC)); exact HO_10.out) hb); have n1_ := zaa.mk (zai (by repeat (first | exact HB.out | apply zad | apply zac | apply zae)) hb); clear HO_10; clear HB; have HO_10 := n0_; have HB := n1_; clear n0_ n1_; (try clear hb); (try clear hb2); (try clear hk); (try clear hi))); try go_wp2_with (first | (go_at_call 65; (with_reducible refine (za3.calls k2 a0 a1 t291 _ A31.out).mono ?_); rintro e w32 ⟨rfl, hb⟩; have n0_ := zaa.mk (Kd.zbm (by (with_reducible repeat (first | apply Kd.za4 | apply Kd.zbu | apply Kd.zbC)); exact HO_10.out) hb); have n1_ := zaa.mk (zai (by repeat (first | exact HB.out | apply zad | apply zac | apply zae)) hb); clear HO_10; clear HB; have HO_10 := n0_; have HB := n1_; clear n0_ n1_; (try clear hb); (try clear hb2); (try clear hk); (try clear hi))))
       go_ret2
       exact ⟨by first | rfl | (simp [*, zaz, zay] <;> rfl), by repeat (first | exact HB.out | apply zad | apply zac | apply zae)⟩
mutual
def zar.l0 : Nat → ByteArray → Int → Option (Int × Int)
 | 0, _, _ => none
 | k + 1, x0, x7 => if x7 < (x0.size : Int) then (if 0 ≤ x7 then ((za1.f (bt x0 x7)).bind fun t293 => (if t293 = true then (zar.l0 k x0 (wrap64 (x7 + 1))) else (some (1, x7)))) else (none)) else (some (1, x7))
def zar.l1 : Nat → ByteArray → Int → Int → Option (Int × Int)
 | 0, _, _, _ => none
 | k + 1, x0, x1, x7 => if x7 < (x0.size : Int) then (if 0 ≤ x7 then ((zaX.f (bt x0 x7)).bind fun t297 => (if t297 = true then (zar.l1 k x0 x1 (wrap64 (x7 + 1))) else ((zaP.f (bt x0 x7)).bind fun t298 => (if t298 = true then (zar.l1 k x0 x1 (wrap64 (x7 + 1))) else (if 0 ≤ x1 then (if x1 ≤ x7 then (if x7 ≤ (x0.size : Int) then ((zaU.f k (x0.extract (x1 : Int).toNat (x7 : Int).toNat)).bind fun t299 => (some (t299, x7))) else (none)) else (none)) else (none)))))) else (none)) else (if 0 ≤ x1 then (if x1 ≤ x7 then (if x7 ≤ (x0.size : Int) then ((zaU.f k (x0.extract (x1 : Int).toNat (x7 : Int).toNat)).bind fun t300 => (some (t300, x7))) else (none)) else (none)) else (none))
def zar.l2 : Nat → ByteArray → Int → Option (Int × Int)
 | 0, _, _ => none
 | k + 1, x0, x7 => if x7 < (x0.size : Int) then (if 0 ≤ x7 then ((zaP.f (bt x0 x7)).bind fun t302 => (if t302 = true then (zar.l2 k x0 (wrap64 (x7 + 1))) else (some (7, x7)))) else (none)) else (some (7, x7))
end
def zar.f (k : Nat) (a0 : ByteArray) (a1 : Int) : Option (Int × Int) := if 0 ≤ a1 then (if a1 < (a0.size : Int) then ((za1.f (bt a0 a1)).bind fun t292 => (if t292 = true then (zar.l0 k a0 a1) else (if (bt a0 a1) = 47 then ((zao.f k a0 a1).bind fun bt294 => (some (bt294.1, bt294.2))) else ((zaX.f (bt a0 a1)).bind fun t296 => (if t296 = true then (zar.l1 k a0 a1 a1) else ((zaP.f (bt a0 a1)).bind fun t301 => (if t301 = true then (zar.l2 k a0 a1) else (if (bt a0 a1) = 34 then ((zaA.f k a0 a1).bind fun bt303 => (some (bt303.1, bt303.2))) else ((zaI.f k a0 a1).bind fun bt305 => (some (bt305.1, bt305.2))))))))))) else (none)) else (none)
theorem zar.calls (k : Nat) (a0 : ByteArray) (a1 : Int) (r1 : Int) (r2 : Int) (w : World) (h : zar.f k a0 a1 = some (r1, r2)) :
  Calls Tryd.prog 18 #[.string a0, .int .i64 a1] w fun e w' => e = .returned (.tuple #[.int .u8 r1, .int .i64 r2]) ∧ Below w.heap.size w w' := by
 have HB := zaa.mk (Below.refl w.heap.size w); have H : (if 0 ≤ a1 then (if a1 < (a0.size : Int) then ((za1.f (bt a0 a1)).bind fun t292 => (if t292 = true then (zar.l0 k a0 a1) else (if (bt a0 a1) = 47 then ((zao.f k a0 a1).bind fun bt294 => (some (bt294.1, bt294.2))) else ((zaX.f (bt a0 a1)).bind fun t296 => (if t296 = true then (zar.l1 k a0 a1 a1) else ((zaP.f (bt a0 a1)).bind fun t301 => (if t301 = true then (zar.l2 k a0 a1) else (if (bt a0 a1) = 34 then ((zaA.f k a0 a1).bind fun bt303 => (some (bt303.1, bt303.2))) else ((zaI.f k a0 a1).bind fun bt305 => (some (bt305.1, bt305.2))))))))))) else (none)) else (none)) = some (r1, r2) := h
 clear h; by_cases c3 : 0 ≤ a1
 ·rw [if_pos c3] at H
  have c3b0 : decide (0 ≤ a1) = true := decide_eq_true c3; clear c3; by_cases c4 : a1 < (a0.size : Int)
  ·rw [if_pos c4] at H
   have c4b0 : decide (a1 < (a0.size : Int)) = true := decide_eq_true c4; clear c4; replace H := Option.bind_eq_some_iff.mp H; obtain ⟨t292, A60, H⟩ := H; replace H : (if t292 = true then (zar.l0 k a0 a1) else (if (bt a0 a1) = 47 then ((zao.f k a0 a1).bind fun bt294 => (some (bt294.1, bt294.2))) else ((zaX.f (bt a0 a1)).bind fun t296 => (if t296 = true then (zar.l1 k a0 a1 a1) else ((zaP.f (bt a0 a1)).bind fun t301 => (if t301 = true then (zar.l2 k a0 a1) else (if (bt a0 a1) = 34 then ((zaA.f k a0 a1).bind fun bt303 => (some (bt303.1, bt303.2))) else ((zaI.f k a0 a1).bind fun bt305 => (some (bt305.1, bt305.2)))))))))) = some (r1, r2) := H
   have A6 := zaa.mk A60; clear A60; by_cases c7 : t292 = true
   ·subst c7
    have H1 : (zar.l0 k a0 a1) = some (r1, r2) := by rw [if_pos rfl] at H; exact H
    clear H; have H := H1; clear H1; have H' := zaa.mk H; clear H; have p5 : 0 ≤ (a1 : Int) := of_decide_eq_true (by assumption)
    have q5 : a1 < (a0.size : Int) := of_decide_eq_true (by assumption)
    have hx5 := bt_at a0 a1; replace p5 := eq_true p5; replace q5 := eq_true q5; go_enter Tryd.func18, Tryd.ntmps18
    go_wp2_with (first | ((with_reducible refine zaK (f := 34) rfl ?_); refine zbk (some 14) rfl rfl Tryd.func34 (by kernel_rfl) rfl #[.int .u8 (bt a0 a1)] rfl (by (try simp only [List.map_toArray, List.map_cons, List.map_nil]); first | done | rfl | (simp only [List.length_drop, List.length_take]; rfl)) ?_; (with_reducible refine (za1.calls (bt a0 a1) true _ A6.out).mono ?_); rintro e w' ⟨rfl, ⟨nd, rfl⟩⟩; refine ⟨_, rfl, ?_⟩))
    go_loopg [7] k (fun kq v7 w' => ∃ (x7_1 : Int), v7 = .int .i64 x7_1 ∧ zaa (zar.l0 kq a0 x7_1 = some (r1, r2)) ∧ zaa (kq ≤ k) ∧ zaa (Below w.heap.size w w'))
    case atStart => exact ⟨(a1), (by first | rfl | (simp; done) | simp [*]), H', ⟨Nat.le_refl _⟩, ⟨by repeat (first | exact HB.out | apply zad | apply zac | apply zae)⟩⟩
    case round =>
     clear H'; try clear c1
     try clear p2
     try clear c3
     try clear c3b0
     try clear c4
     try clear c4b0
     try clear p5
     try clear q5
     try clear hx5
     try clear c7
     try clear p5
     try clear q5
     obtain ⟨x7_1, rfl, HA, HK1, HB⟩ := hrel; cases gk with
     | zero => exact absurd HA.out (by simp [zar.l0])
     | succ k1 =>
      have H := HA.out; clear HA; simp only [zar.l0] at H; by_cases c8 : x7_1 < (a0.size : Int)
      ·rw [if_pos c8] at H
       have c8b0 : decide (x7_1 < (a0.size : Int)) = true := decide_eq_true c8; clear c8; by_cases c9 : 0 ≤ x7_1
       ·rw [if_pos c9] at H
        have c9b0 : decide (0 ≤ x7_1) = true := decide_eq_true c9; clear c9; replace H := Option.bind_eq_some_iff.mp H; obtain ⟨t293, A110, H⟩ := H; replace H : (if t293 = true then (zar.l0 k1 a0 (wrap64 (x7_1 + 1))) else (some (1, x7_1))) = some (r1, r2) := H
        have A11 := zaa.mk A110; clear A110; by_cases c12 : t293 = true
        ·subst c12
         have H1 : (zar.l0 k1 a0 (wrap64 (x7_1 + 1))) = some (r1, r2) := by rw [if_pos rfl] at H; exact H
         clear H; have H := H1; clear H1; have H' := zaa.mk H; clear H; have p10 : 0 ≤ (x7_1 : Int) := of_decide_eq_true (by assumption)
         have q10 : x7_1 < (a0.size : Int) := of_decide_eq_true (by assumption)
         have hx10 := bt_at a0 x7_1; replace p10 := eq_true p10; replace q10 := eq_true q10; go_wp2_with (first | (go_at_call 34; (with_reducible refine (za1.calls (bt a0 x7_1) true _ A11.out).mono ?_); rintro e w' ⟨rfl, ⟨nd, rfl⟩⟩))
         go_roundg k1
         case measure => have := HK1.out; omega
         case rel => exact ⟨(wrap64 (x7_1 + 1)), (by first | rfl | (simp; done) | simp [*]), H', ⟨by have := HK1.out; omega⟩, ⟨by repeat (first | exact HB.out | apply zad | apply zac | apply zae)⟩⟩
        ·replace c12 := Bool.eq_false_iff.mpr c12
         subst c12; have H1 : (some (1, x7_1)) = some (r1, r2) := by rw [if_neg (show ¬ (false = true) by decide)] at H; exact H
         clear H; have H := H1; clear H1; simp only [Option.some.injEq, Prod.mk.injEq] at H; obtain ⟨rfl, rfl⟩ := H; have p10 : 0 ≤ (x7_1 : Int) := of_decide_eq_true (by assumption)
         have q10 : x7_1 < (a0.size : Int) := of_decide_eq_true (by assumption)
         have hx10 := bt_at a0 x7_1; replace p10 := eq_true p10; replace q10 := eq_true q10; go_wp2_with (first | (go_at_call 34; (with_reducible refine (za1.calls (bt a0 x7_1) false _ A11.out).mono ?_); rintro e w' ⟨rfl, ⟨nd, rfl⟩⟩))
         go_ret2
         exact ⟨by first | rfl | (simp [*, zaz, zay] <;> rfl), by repeat (first | exact HB.out | apply zad | apply zac | apply zae)⟩
       ·rw [if_neg c9] at H
        exact absurd H (by simp)
      ·rw [if_neg c8] at H
       have c8b0 : decide (x7_1 < (a0.size : Int)) = false := decide_eq_false c8; clear c8; simp only [Option.some.injEq, Prod.mk.injEq] at H; obtain ⟨rfl, rfl⟩ := H; go_wp2
       go_ret2
       exact ⟨by first | rfl | (simp [*, zaz, zay] <;> rfl), by repeat (first | exact HB.out | apply zad | apply zac | apply zae)⟩
   ·replace c7 := Bool.eq_false_iff.mpr c7
    subst c7; have H1 : (if (bt a0 a1) = 47 then ((zao.f k a0 a1).bind fun bt294 => (some (bt294.1, bt294.2))) else ((zaX.f (bt a0 a1)).bind fun t296 => (if t296 = true then (zar.l1 k a0 a1 a1) else ((zaP.f (bt a0 a1)).bind fun t301 => (if t301 = true then (zar.l2 k a0 a1) else (if (bt a0 a1) = 34 then ((zaA.f k a0 a1).bind fun bt303 => (some (bt303.1, bt303.2))) else ((zaI.f k a0 a1).bind fun bt305 => (some (bt305.1, bt305.2))))))))) = some (r1, r2) := by rw [if_neg (show ¬ (false = true) by decide)] at H; exact H
    clear H; have H := H1; clear H1; by_cases c13 : (bt a0 a1) = 47
    ·rw [if_pos c13] at H
     have c13b0 : ((bt a0 a1) == 47) = true := beq_iff_eq.mpr c13; have c13b1 : ((bt a0 a1) != 47) = false := bne_eq_false_iff_eq.mpr c13; clear c13; replace H := Option.bind_eq_some_iff.mp H; obtain ⟨⟨t294, t295⟩, A140, H⟩ := H; replace H : (some (t294, t295)) = some (r1, r2) := H; have A14 := zaa.mk A140; clear A140; simp only [Option.some.injEq, Prod.mk.injEq] at H; obtain ⟨rfl, rfl⟩ := H; have p5 : 0 ≤ (a1 : Int) := of_decide_eq_true (by assumption)
     have q5 : a1 < (a0.size : Int) := of_decide_eq_true (by assumption)
     have hx5 := bt_at a0 a1; replace p5 := eq_true p5; replace q5 := eq_true q5; go_enter Tryd.func18, Tryd.ntmps18
     go_wp2_with (first | ((with_reducible refine zaK (f := 34) rfl ?_); refine zbk (some 14) rfl rfl Tryd.func34 (by kernel_rfl) rfl #[.int .u8 (bt a0 a1)] rfl (by (try simp only [List.map_toArray, List.map_cons, List.map_nil]); first | done | rfl | (simp only [List.length_drop, List.length_take]; rfl)) ?_; (with_reducible refine (za1.calls (bt a0 a1) false _ A6.out).mono ?_); rintro e w' ⟨rfl, ⟨nd, rfl⟩⟩; refine ⟨_, rfl, ?_⟩) | ((with_reducible refine zaK (f := 35) rfl ?_); refine zbk (some 33) rfl rfl Tryd.func35 (by kernel_rfl) rfl #[.string a0, .int .i64 a1] rfl (by (try simp only [List.map_toArray, List.map_cons, List.map_nil]); first | done | rfl | (simp only [List.length_drop, List.length_take]; rfl)) ?_; (with_reducible refine (zao.calls k a0 a1 t294 t295 _ A14.out).mono ?_); rintro e w' ⟨rfl, ⟨nd, rfl⟩⟩; refine ⟨_, rfl, ?_⟩))
     go_ret2
     exact ⟨by first | rfl | (simp [*, zaz, zay] <;> rfl), by repeat (first | exact HB.out | apply zad | apply zac | apply zae)⟩
    ·rw [if_neg c13] at H
     have c13b0 : ((bt a0 a1) == 47) = false := beq_eq_false_iff_ne.mpr c13; have c13b1 : ((bt a0 a1) != 47) = true := bne_iff_ne.mpr c13; replace H := Option.bind_eq_some_iff.mp H; obtain ⟨t296, A150, H⟩ := H; replace H : (if t296 = true then (zar.l1 k a0 a1 a1) else ((zaP.f (bt a0 a1)).bind fun t301 => (if t301 = true then (zar.l2 k a0 a1) else (if (bt a0 a1) = 34 then ((zaA.f k a0 a1).bind fun bt303 => (some (bt303.1, bt303.2))) else ((zaI.f k a0 a1).bind fun bt305 => (some (bt305.1, bt305.2))))))) = some (r1, r2) := H
     have A15 := zaa.mk A150; clear A150; by_cases c16 : t296 = true
     ·subst c16
      have H1 : (zar.l1 k a0 a1 a1) = some (r1, r2) := by rw [if_pos rfl] at H; exact H
      clear H; have H := H1; clear H1; have H' := zaa.mk H; clear H; have p5 : 0 ≤ (a1 : Int) := of_decide_eq_true (by assumption)
      have q5 : a1 < (a0.size : Int) := of_decide_eq_true (by assumption)
      have hx5 := bt_at a0 a1; replace p5 := eq_true p5; replace q5 := eq_true q5; go_enter Tryd.func18, Tryd.ntmps18
      go_wp2_with (first | ((with_reducible refine zaK (f := 34) rfl ?_); refine zbk (some 14) rfl rfl Tryd.func34 (by kernel_rfl) rfl #[.int .u8 (bt a0 a1)] rfl (by (try simp only [List.map_toArray, List.map_cons, List.map_nil]); first | done | rfl | (simp only [List.length_drop, List.length_take]; rfl)) ?_; (with_reducible refine (za1.calls (bt a0 a1) false _ A6.out).mono ?_); rintro e w' ⟨rfl, ⟨nd, rfl⟩⟩; refine ⟨_, rfl, ?_⟩) | ((with_reducible refine zaK (f := 36) rfl ?_); refine zbk (some 38) rfl rfl Tryd.func36 (by kernel_rfl) rfl #[.int .u8 (bt a0 a1)] rfl (by (try simp only [List.map_toArray, List.map_cons, List.map_nil]); first | done | rfl | (simp only [List.length_drop, List.length_take]; rfl)) ?_; (with_reducible refine (zaX.calls (bt a0 a1) true _ A15.out).mono ?_); rintro e w' ⟨rfl, ⟨nd, rfl⟩⟩; refine ⟨_, rfl, ?_⟩))
      go_loopg [7] k (fun kq v7 w' => ∃ (x7_1 : Int), v7 = .int .i64 x7_1 ∧ zaa (zar.l1 kq a0 a1 x7_1 = some (r1, r2)) ∧ zaa (kq ≤ k) ∧ zaa (Below w.heap.size w w'))
      case atStart => exact ⟨(a1), (by first | rfl | (simp; done) | simp [*]), H', ⟨Nat.le_refl _⟩, ⟨by repeat (first | exact HB.out | apply zad | apply zac | apply zae)⟩⟩
      case round =>
       clear H'; try clear c1
       try clear p1
       try clear q1
       try clear hx1
       try clear p2
       try clear c3
       try clear c3b0
       try clear c4
       try clear c4b0
       try clear p5
       try clear q5
       try clear hx5
       try clear p6
       try clear c7
       try clear c8
       try clear c8b0
       try clear c9
       try clear c9b0
       try clear p10
       try clear q10
       try clear hx10
       try clear c12
       try clear c13
       try clear c13b0
       try clear c13b1
       try clear c16
       try clear p10
       try clear p2
       try clear p5
       try clear q10
       try clear q5
       obtain ⟨x7_1, rfl, HA, HK1, HB⟩ := hrel; cases gk with
       | zero => exact absurd HA.out (by simp [zar.l1])
       | succ k1 =>
        have H := HA.out; clear HA; simp only [zar.l1] at H; by_cases c17 : x7_1 < (a0.size : Int)
        ·rw [if_pos c17] at H
         have c17b0 : decide (x7_1 < (a0.size : Int)) = true := decide_eq_true c17; clear c17; by_cases c18 : 0 ≤ x7_1
         ·rw [if_pos c18] at H
          have c18b0 : decide (0 ≤ x7_1) = true := decide_eq_true c18; clear c18; replace H := Option.bind_eq_some_iff.mp H; obtain ⟨t297, A200, H⟩ := H; replace H : (if t297 = true then (zar.l1 k1 a0 a1 (wrap64 (x7_1 + 1))) else ((zaP.f (bt a0 x7_1)).bind fun t298 => (if t298 = true then (zar.l1 k1 a0 a1 (wrap64 (x7_1 + 1))) else (if 0 ≤ a1 then (if a1 ≤ x7_1 then (if x7_1 ≤ (a0.size : Int) then ((zaU.f k1 (a0.extract (a1 : Int).toNat (x7_1 : Int).toNat)).bind fun t299 => (some (t299, x7_1))) else (none)) else (none)) else (none))))) = some (r1, r2) := H
          have A20 := zaa.mk A200; clear A200; by_cases c21 : t297 = true
          ·subst c21
           have H1 : (zar.l1 k1 a0 a1 (wrap64 (x7_1 + 1))) = some (r1, r2) := by rw [if_pos rfl] at H; exact H
           clear H; have H := H1; clear H1; have H' := zaa.mk H; clear H; have p19 : 0 ≤ (x7_1 : Int) := of_decide_eq_true (by assumption)
           have q19 : x7_1 < (a0.size : Int) := of_decide_eq_true (by assumption)
           have hx19 := bt_at a0 x7_1; replace p19 := eq_true p19; replace q19 := eq_true q19; go_wp2_with (first | (go_at_call 36; (with_reducible refine (zaX.calls (bt a0 x7_1) true _ A20.out).mono ?_); rintro e w' ⟨rfl, ⟨nd, rfl⟩⟩))
           go_roundg k1
           case measure => have := HK1.out; omega
           case rel => exact ⟨(wrap64 (x7_1 + 1)), (by first | rfl | (simp; done) | simp [*]), H', ⟨by have := HK1.out; omega⟩, ⟨by repeat (first | exact HB.out | apply zad | apply zac | apply zae)⟩⟩
          ·replace c21 := Bool.eq_false_iff.mpr c21
           subst c21; have H1 : ((zaP.f (bt a0 x7_1)).bind fun t298 => (if t298 = true then (zar.l1 k1 a0 a1 (wrap64 (x7_1 + 1))) else (if 0 ≤ a1 then (if a1 ≤ x7_1 then (if x7_1 ≤ (a0.size : Int) then ((zaU.f k1 (a0.extract (a1 : Int).toNat (x7_1 : Int).toNat)).bind fun t299 => (some (t299, x7_1))) else (none)) else (none)) else (none)))) = some (r1, r2) := by rw [if_neg (show ¬ (false = true) by decide)] at H; exact H
           clear H; have H := H1; clear H1; replace H := Option.bind_eq_some_iff.mp H; obtain ⟨t298, A230, H⟩ := H; replace H : (if t298 = true then (zar.l1 k1 a0 a1 (wrap64 (x7_1 + 1))) else (if 0 ≤ a1 then (if a1 ≤ x7_1 then (if x7_1 ≤ (a0.size : Int) then ((zaU.f k1 (a0.extract (a1 : Int).toNat (x7_1 : Int).toNat)).bind fun t299 => (some (t299, x7_1))) else (none)) else (none)) else (none))) = some (r1, r2) := H
           have A23 := zaa.mk A230; clear A230; by_cases c24 : t298 = true
           ·subst c24
            have H1 : (zar.l1 k1 a0 a1 (wrap64 (x7_1 + 1))) = some (r1, r2) := by rw [if_pos rfl] at H; exact H
            clear H; have H := H1; clear H1; have H' := zaa.mk H; clear H; have p19 : 0 ≤ (x7_1 : Int) := of_decide_eq_true (by assumption)
            have q19 : x7_1 < (a0.size : Int) := of_decide_eq_true (by assumption)
            have hx19 := bt_at a0 x7_1; replace p19 := eq_true p19; replace q19 := eq_true q19; go_wp2_with (first | (go_at_call 36; (with_reducible refine (zaX.calls (bt a0 x7_1) false _ A20.out).mono ?_); rintro e w' ⟨rfl, ⟨nd, rfl⟩⟩; have p22 : 0 ≤ (x7_1 : Int) := of_decide_eq_true (by assumption); have q22 : x7_1 < (a0.size : Int) := of_decide_eq_true (by assumption); have hx22 := bt_at a0 x7_1; replace p22 := eq_true p22; replace q22 := eq_true q22) | (go_at_call 37; (with_reducible refine (zaP.calls (bt a0 x7_1) true _ A23.out).mono ?_); rintro e w' ⟨rfl, ⟨nd, rfl⟩⟩))
            go_roundg k1
            case measure => have := HK1.out; omega
            case rel => exact ⟨(wrap64 (x7_1 + 1)), (by first | rfl | (simp; done) | simp [*]), H', ⟨by have := HK1.out; omega⟩, ⟨by repeat (first | exact HB.out | apply zad | apply zac | apply zae)⟩⟩
           ·replace c24 := Bool.eq_false_iff.mpr c24
            subst c24; have H1 : (if 0 ≤ a1 then (if a1 ≤ x7_1 then (if x7_1 ≤ (a0.size : Int) then ((zaU.f k1 (a0.extract (a1 : Int).toNat (x7_1 : Int).toNat)).bind fun t299 => (some (t299, x7_1))) else (none)) else (none)) else (none)) = some (r1, r2) := by rw [if_neg (show ¬ (false = true) by decide)] at H; exact H
            clear H; have H := H1; clear H1; by_cases c25 : 0 ≤ a1
            ·rw [if_pos c25] at H
             have c25b0 := eq_true c25; have c25b1 : decide (0 ≤ a1) = true := decide_eq_true c25; clear c25; by_cases c26 : a1 ≤ x7_1
             ·rw [if_pos c26] at H
              have c26b0 := eq_true c26; have c26b1 : decide (a1 ≤ x7_1) = true := decide_eq_true c26; clear c26; by_cases c27 : x7_1 ≤ (a0.size : Int)
              ·rw [if_pos c27] at H
               have c27b0 := eq_true c27; have c27b1 : decide (x7_1 ≤ (a0.size : Int)) = true := decide_eq_true c27; clear c27; replace H := Option.bind_eq_some_iff.mp H; obtain ⟨t299, A280, H⟩ := H; replace H : (some (t299, x7_1)) = some (r1, r2) := H; have A28 := zaa.mk A280; clear A280; simp only [Option.some.injEq, Prod.mk.injEq] at H; obtain ⟨rfl, rfl⟩ := H; have p19 : 0 ≤ (x7_1 : Int) := of_decide_eq_true (by assumption)
               have q19 : x7_1 < (a0.size : Int) := of_decide_eq_true (by assumption)
               have hx19 := bt_at a0 x7_1; replace p19 := eq_true p19; replace q19 := eq_true q19; go_wp2_with (first | (go_at_call 36; (with_reducible refine (zaX.calls (bt a0 x7_1) false _ A20.out).mono ?_); rintro e w' ⟨rfl, ⟨nd, rfl⟩⟩; have p22 : 0 ≤ (x7_1 : Int) := of_decide_eq_true (by assumption); have q22 : x7_1 < (a0.size : Int) := of_decide_eq_true (by assumption); have hx22 := bt_at a0 x7_1; replace p22 := eq_true p22; replace q22 := eq_true q22) | (go_at_call 37; (with_reducible refine (zaP.calls (bt a0 x7_1) false _ A23.out).mono ?_); rintro e w' ⟨rfl, ⟨nd, rfl⟩⟩) | ((with_reducible refine zaK (f := 38) rfl ?_); refine zbk (some 61) rfl rfl Tryd.func38 (by kernel_rfl) rfl #[.string (a0.extract (a1 : Int).toNat (x7_1 : Int).toNat)] rfl (by (try simp only [List.map_toArray, List.map_cons, List.map_nil]); first | done | rfl | (simp only [List.length_drop, List.length_take]; rfl)) ?_; (with_reducible refine (zaU.calls k1 (a0.extract (a1 : Int).toNat (x7_1 : Int).toNat) t299 _ A28.out).mono ?_); rintro e w29 ⟨rfl, hb⟩; refine ⟨_, rfl, ?_⟩; have n0_ := zaa.mk (zai (by repeat (first | exact HB.out | apply zad | apply zac | apply zae)) hb); clear HB; have HB := n0_; clear n0_; (try clear hb); (try clear hb2); (try clear hk); (try clear hi)))
               go_ret2
               exact ⟨by first | rfl | (simp [*, zaz, zay] <;> rfl), by repeat (first | exact HB.out | apply zad | apply zac | apply zae)⟩
              ·rw [if_neg c27] at H
               exact absurd H (by simp)
             ·rw [if_neg c26] at H
              exact absurd H (by simp)
            ·rw [if_neg c25] at H
             exact absurd H (by simp)
         ·rw [if_neg c18] at H
          exact absurd H (by simp)
        ·rw [if_neg c17] at H
         have c17b0 : decide (x7_1 < (a0.size : Int)) = false := decide_eq_false c17; clear c17; by_cases c30 : 0 ≤ a1
         ·rw [if_pos c30] at H
          have c30b0 := eq_true c30; have c30b1 : decide (0 ≤ a1) = true := decide_eq_true c30; clear c30; by_cases c31 : a1 ≤ x7_1
          ·rw [if_pos c31] at H
           have c31b0 := eq_true c31; have c31b1 : decide (a1 ≤ x7_1) = true := decide_eq_true c31; clear c31; by_cases c32 : x7_1 ≤ (a0.size : Int)
           ·rw [if_pos c32] at H
            have c32b0 := eq_true c32; have c32b1 : decide (x7_1 ≤ (a0.size : Int)) = true := decide_eq_true c32; clear c32; replace H := Option.bind_eq_some_iff.mp H; obtain ⟨t300, A330, H⟩ := H; replace H : (some (t300, x7_1)) = some (r1, r2) := H; have A33 := zaa.mk A330; clear A330; simp only [Option.some.injEq, Prod.mk.injEq] at H; obtain ⟨rfl, rfl⟩ := H; go_wp2_with (first | ((with_reducible refine zaK (f := 38) rfl ?_); refine zbk (some 61) rfl rfl Tryd.func38 (by kernel_rfl) rfl #[.string (a0.extract (a1 : Int).toNat (x7_1 : Int).toNat)] rfl (by (try simp only [List.map_toArray, List.map_cons, List.map_nil]); first | done | rfl | (simp only [List.length_drop, List.length_take]; rfl)) ?_; (with_reducible refine (zaU.calls k1 (a0.extract (a1 : Int).toNat (x7_1 : Int).toNat) t300 _ A33.out).mono ?_); rintro e w34 ⟨rfl, hb⟩; refine ⟨_, rfl, ?_⟩; have n0_ := zaa.mk (zai (by repeat (first | exact HB.out | apply zad | apply zac | apply zae)) hb); clear HB; have HB := n0_; clear n0_; (try clear hb); (try clear hb2); (try clear hk); (try clear hi)))
            go_ret2
            exact ⟨by first | rfl | (simp [*, zaz, zay] <;> rfl), by repeat (first | exact HB.out | apply zad | apply zac | apply zae)⟩
           ·rw [if_neg c32] at H
            exact absurd H (by simp)
          ·rw [if_neg c31] at H
           exact absurd H (by simp)
         ·rw [if_neg c30] at H
          exact absurd H (by simp)
     ·replace c16 := Bool.eq_false_iff.mpr c16
      subst c16; have H1 : ((zaP.f (bt a0 a1)).bind fun t301 => (if t301 = true then (zar.l2 k a0 a1) else (if (bt a0 a1) = 34 then ((zaA.f k a0 a1).bind fun bt303 => (some (bt303.1, bt303.2))) else ((zaI.f k a0 a1).bind fun bt305 => (some (bt305.1, bt305.2)))))) = some (r1, r2) := by rw [if_neg (show ¬ (false = true) by decide)] at H; exact H
      clear H; have H := H1; clear H1; replace H := Option.bind_eq_some_iff.mp H; obtain ⟨t301, A350, H⟩ := H; replace H : (if t301 = true then (zar.l2 k a0 a1) else (if (bt a0 a1) = 34 then ((zaA.f k a0 a1).bind fun bt303 => (some (bt303.1, bt303.2))) else ((zaI.f k a0 a1).bind fun bt305 => (some (bt305.1, bt305.2))))) = some (r1, r2) := H
      have A35 := zaa.mk A350; clear A350; by_cases c36 : t301 = true
      ·subst c36
       have H1 : (zar.l2 k a0 a1) = some (r1, r2) := by rw [if_pos rfl] at H; exact H
       clear H; have H := H1; clear H1; have H' := zaa.mk H; clear H; have p5 : 0 ≤ (a1 : Int) := of_decide_eq_true (by assumption)
       have q5 : a1 < (a0.size : Int) := of_decide_eq_true (by assumption)
       have hx5 := bt_at a0 a1; replace p5 := eq_true p5; replace q5 := eq_true q5; go_enter Tryd.func18, Tryd.ntmps18
       go_wp2_with (first | ((with_reducible refine zaK (f := 34) rfl ?_); refine zbk (some 14) rfl rfl Tryd.func34 (by kernel_rfl) rfl #[.int .u8 (bt a0 a1)] rfl (by (try simp only [List.map_toArray, List.map_cons, List.map_nil]); first | done | rfl | (simp only [List.length_drop, List.length_take]; rfl)) ?_; (with_reducible refine (za1.calls (bt a0 a1) false _ A6.out).mono ?_); rintro e w' ⟨rfl, ⟨nd, rfl⟩⟩; refine ⟨_, rfl, ?_⟩) | ((with_reducible refine zaK (f := 36) rfl ?_); refine zbk (some 38) rfl rfl Tryd.func36 (by kernel_rfl) rfl #[.int .u8 (bt a0 a1)] rfl (by (try simp only [List.map_toArray, List.map_cons, List.map_nil]); first | done | rfl | (simp only [List.length_drop, List.length_take]; rfl)) ?_; (with_reducible refine (zaX.calls (bt a0 a1) false _ A15.out).mono ?_); rintro e w' ⟨rfl, ⟨nd, rfl⟩⟩; refine ⟨_, rfl, ?_⟩) | ((with_reducible refine zaK (f := 37) rfl ?_); refine zbk (some 65) rfl rfl Tryd.func37 (by kernel_rfl) rfl #[.int .u8 (bt a0 a1)] rfl (by (try simp only [List.map_toArray, List.map_cons, List.map_nil]); first | done | rfl | (simp only [List.length_drop, List.length_take]; rfl)) ?_; (with_reducible refine (zaP.calls (bt a0 a1) true _ A35.out).mono ?_); rintro e w' ⟨rfl, ⟨nd, rfl⟩⟩; refine ⟨_, rfl, ?_⟩))
       go_loopg [7] k (fun kq v7 w' => ∃ (x7_1 : Int), v7 = .int .i64 x7_1 ∧ zaa (zar.l2 kq a0 x7_1 = some (r1, r2)) ∧ zaa (kq ≤ k) ∧ zaa (Below w.heap.size w w'))
       case atStart => exact ⟨(a1), (by first | rfl | (simp; done) | simp [*]), H', ⟨Nat.le_refl _⟩, ⟨by repeat (first | exact HB.out | apply zad | apply zac | apply zae)⟩⟩
       case round =>
        clear H'; try clear c1
        try clear p1
        try clear q1
        try clear hx1
        try clear c2
        try clear p2
        try clear q2
        try clear hx2
        try clear c3
        try clear c3b0
        try clear c4
        try clear c4b0
        try clear p5
        try clear q5
        try clear hx5
        try clear p6
        try clear c7
        try clear c8
        try clear c8b0
        try clear c9
        try clear c9b0
        try clear p10
        try clear q10
        try clear hx10
        try clear c12
        try clear c13
        try clear c13b0
        try clear c13b1
        try clear c16
        try clear c17
        try clear c17b0
        try clear c18
        try clear c18b0
        try clear p19
        try clear q19
        try clear hx19
        try clear c21
        try clear p22
        try clear q22
        try clear hx22
        try clear c24
        try clear c25
        try clear c25b0
        try clear c25b1
        try clear c26
        try clear c26b0
        try clear c26b1
        try clear c27
        try clear c27b0
        try clear c27b1
        try clear c30
        try clear c30b0
        try clear c30b1
        try clear c31
        try clear c31b0
        try clear c31b1
        try clear c32
        try clear c32b0
        try clear c32b1
        try clear c34
        try clear c35
        try clear c36
        try clear p1
        try clear p10
        try clear p19
        try clear p2
        try clear p22
        try clear p5
        try clear p6
        try clear q1
        try clear q10
        try clear q19
        try clear q22
        try clear q5
        obtain ⟨x7_1, rfl, HA, HK1, HB⟩ := hrel; cases gk with
        | zero => exact absurd HA.out (by simp [zar.l2])
        | succ k1 =>
         have H := HA.out; clear HA; simp only [zar.l2] at H; by_cases c37 : x7_1 < (a0.size : Int)
         ·rw [if_pos c37] at H
          have c37b0 : decide (x7_1 < (a0.size : Int)) = true := decide_eq_true c37; clear c37; by_cases c38 : 0 ≤ x7_1
          ·rw [if_pos c38] at H
           have c38b0 : decide (0 ≤ x7_1) = true := decide_eq_true c38; clear c38; replace H := Option.bind_eq_some_iff.mp H; obtain ⟨t302, A400, H⟩ := H; replace H : (if t302 = true then (zar.l2 k1 a0 (wrap64 (x7_1 + 1))) else (some (7, x7_1))) = some (r1, r2) := H
           have A40 := zaa.mk A400; clear A400; by_cases c41 : t302 = true
           ·subst c41
            have H1 : (zar.l2 k1 a0 (wrap64 (x7_1 + 1))) = some (r1, r2) := by rw [if_pos rfl] at H; exact H
            clear H; have H := H1; clear H1; have H' := zaa.mk H; clear H; have p39 : 0 ≤ (x7_1 : Int) := of_decide_eq_true (by assumption)
            have q39 : x7_1 < (a0.size : Int) := of_decide_eq_true (by assumption)
            have hx39 := bt_at a0 x7_1; replace p39 := eq_true p39; replace q39 := eq_true q39; go_wp2_with (first | (go_at_call 37; (with_reducible refine (zaP.calls (bt a0 x7_1) true _ A40.out).mono ?_); rintro e w' ⟨rfl, ⟨nd, rfl⟩⟩))
            go_roundg k1
            case measure => have := HK1.out; omega
            case rel => exact ⟨(wrap64 (x7_1 + 1)), (by first | rfl | (simp; done) | simp [*]), H', ⟨by have := HK1.out; omega⟩, ⟨by repeat (first | exact HB.out | apply zad | apply zac | apply zae)⟩⟩
           ·replace c41 := Bool.eq_false_iff.mpr c41
            subst c41; have H1 : (some (7, x7_1)) = some (r1, r2) := by rw [if_neg (show ¬ (false = true) by decide)] at H; exact H
            clear H; have H := H1; clear H1; simp only [Option.some.injEq, Prod.mk.injEq] at H; obtain ⟨rfl, rfl⟩ := H; have p39 : 0 ≤ (x7_1 : Int) := of_decide_eq_true (by assumption)
            have q39 : x7_1 < (a0.size : Int) := of_decide_eq_true (by assumption)
            have hx39 := bt_at a0 x7_1; replace p39 := eq_true p39; replace q39 := eq_true q39; go_wp2_with (first | (go_at_call 37; (with_reducible refine (zaP.calls (bt a0 x7_1) false _ A40.out).mono ?_); rintro e w' ⟨rfl, ⟨nd, rfl⟩⟩))
            go_ret2
            exact ⟨by first | rfl | (simp [*, zaz, zay] <;> rfl), by repeat (first | exact HB.out | apply zad | apply zac | apply zae)⟩
          ·rw [if_neg c38] at H
           exact absurd H (by simp)
         ·rw [if_neg c37] at H
          have c37b0 : decide (x7_1 < (a0.size : Int)) = false := decide_eq_false c37; clear c37; simp only [Option.some.injEq, Prod.mk.injEq] at H; obtain ⟨rfl, rfl⟩ := H; go_wp2
          go_ret2
          exact ⟨by first | rfl | (simp [*, zaz, zay] <;> rfl), by repeat (first | exact HB.out | apply zad | apply zac | apply zae)⟩
      ·replace c36 := Bool.eq_false_iff.mpr c36
       subst c36; have H1 : (if (bt a0 a1) = 34 then ((zaA.f k a0 a1).bind fun bt303 => (some (bt303.1, bt303.2))) else ((zaI.f k a0 a1).bind fun bt305 => (some (bt305.1, bt305.2)))) = some (r1, r2) := by rw [if_neg (show ¬ (false = true) by decide)] at H; exact H
       clear H; have H := H1; clear H1; by_cases c42 : (bt a0 a1) = 34
       ·rw [if_pos c42] at H
        have c42b0 : ((bt a0 a1) == 34) = true := beq_iff_eq.mpr c42; have c42b1 : ((bt a0 a1) != 34) = false := bne_eq_false_iff_eq.mpr c42; clear c42; replace H := Option.bind_eq_some_iff.mp H; obtain ⟨⟨t303, t304⟩, A430, H⟩ := H; replace H : (some (t303, t304)) = some (r1, r2) := H; have A43 := zaa.mk A430; clear A430; simp only [Option.some.injEq, Prod.mk.injEq] at H; obtain ⟨rfl, rfl⟩ := H; have p5 : 0 ≤ (a1 : Int) := of_decide_eq_true (by assumption)
        have q5 : a1 < (a0.size : Int) := of_decide_eq_true (by assumption)
        have hx5 := bt_at a0 a1; replace p5 := eq_true p5; replace q5 := eq_true q5; go_enter Tryd.func18, Tryd.ntmps18
        go_wp2_with (first | ((with_reducible refine zaK (f := 34) rfl ?_); refine zbk (some 14) rfl rfl Tryd.func34 (by kernel_rfl) rfl #[.int .u8 (bt a0 a1)] rfl (by (try simp only [List.map_toArray, List.map_cons, List.map_nil]); first | done | rfl | (simp only [List.length_drop, List.length_take]; rfl)) ?_; (with_reducible refine (za1.calls (bt a0 a1) false _ A6.out).mono ?_); rintro e w' ⟨rfl, ⟨nd, rfl⟩⟩; refine ⟨_, rfl, ?_⟩) | ((with_reducible refine zaK (f := 36) rfl ?_); refine zbk (some 38) rfl rfl Tryd.func36 (by kernel_rfl) rfl #[.int .u8 (bt a0 a1)] rfl (by (try simp only [List.map_toArray, List.map_cons, List.map_nil]); first | done | rfl | (simp only [List.length_drop, List.length_take]; rfl)) ?_; (with_reducible refine (zaX.calls (bt a0 a1) false _ A15.out).mono ?_); rintro e w' ⟨rfl, ⟨nd, rfl⟩⟩; refine ⟨_, rfl, ?_⟩) | ((with_reducible refine zaK (f := 37) rfl ?_); refine zbk (some 65) rfl rfl Tryd.func37 (by kernel_rfl) rfl #[.int .u8 (bt a0 a1)] rfl (by (try simp only [List.map_toArray, List.map_cons, List.map_nil]); first | done | rfl | (simp only [List.length_drop, List.length_take]; rfl)) ?_; (with_reducible refine (zaP.calls (bt a0 a1) false _ A35.out).mono ?_); rintro e w' ⟨rfl, ⟨nd, rfl⟩⟩; refine ⟨_, rfl, ?_⟩) | ((with_reducible refine zaK (f := 39) rfl ?_); refine zbk (some 84) rfl rfl Tryd.func39 (by kernel_rfl) rfl #[.string a0, .int .i64 a1] rfl (by (try simp only [List.map_toArray, List.map_cons, List.map_nil]); first | done | rfl | (simp only [List.length_drop, List.length_take]; rfl)) ?_; (with_reducible refine (zaA.calls k a0 a1 t303 t304 _ A43.out).mono ?_); rintro e w44 ⟨rfl, hb⟩; refine ⟨_, rfl, ?_⟩; have n0_ := zaa.mk (zai (by repeat (first | exact HB.out | apply zad | apply zac | apply zae)) hb); clear HB; have HB := n0_; clear n0_; (try clear hb); (try clear hb2); (try clear hk); (try clear hi)))
        go_ret2
        exact ⟨by first | rfl | (simp [*, zaz, zay] <;> rfl), by repeat (first | exact HB.out | apply zad | apply zac | apply zae)⟩
       ·rw [if_neg c42] at H
        have c42b0 : ((bt a0 a1) == 34) = false := beq_eq_false_iff_ne.mpr c42; have c42b1 : ((bt a0 a1) != 34) = true := bne_iff_ne.mpr c42; replace H := Option.bind_eq_some_iff.mp H; obtain ⟨⟨t305, t306⟩, A450, H⟩ := H; replace H : (some (t305, t306)) = some (r1, r2) := H; have A45 := zaa.mk A450; clear A450; simp only [Option.some.injEq, Prod.mk.injEq] at H; obtain ⟨rfl, rfl⟩ := H; have p5 : 0 ≤ (a1 : Int) := of_decide_eq_true (by assumption)
        have q5 : a1 < (a0.size : Int) := of_decide_eq_true (by assumption)
        have hx5 := bt_at a0 a1; replace p5 := eq_true p5; replace q5 := eq_true q5; go_enter Tryd.func18, Tryd.ntmps18
        go_wp2_with (first | ((with_reducible refine zaK (f := 34) rfl ?_); refine zbk (some 14) rfl rfl Tryd.func34 (by kernel_rfl) rfl #[.int .u8 (bt a0 a1)] rfl (by (try simp only [List.map_toArray, List.map_cons, List.map_nil]); first | done | rfl | (simp only [List.length_drop, List.length_take]; rfl)) ?_; (with_reducible refine (za1.calls (bt a0 a1) false _ A6.out).mono ?_); rintro e w' ⟨rfl, ⟨nd, rfl⟩⟩; refine ⟨_, rfl, ?_⟩) | ((with_reducible refine zaK (f := 36) rfl ?_); refine zbk (some 38) rfl rfl Tryd.func36 (by kernel_rfl) rfl #[.int .u8 (bt a0 a1)] rfl (by (try simp only [List.map_toArray, List.map_cons, List.map_nil]); first | done | rfl | (simp only [List.length_drop, List.length_take]; rfl)) ?_; (with_reducible refine (zaX.calls (bt a0 a1) false _ A15.out).mono ?_); rintro e w' ⟨rfl, ⟨nd, rfl⟩⟩; refine ⟨_, rfl, ?_⟩) | ((with_reducible refine zaK (f := 37) rfl ?_); refine zbk (some 65) rfl rfl Tryd.func37 (by kernel_rfl) rfl #[.int .u8 (bt a0 a1)] rfl (by (try simp only [List.map_toArray, List.map_cons, List.map_nil]); first | done | rfl | (simp only [List.length_drop, List.length_take]; rfl)) ?_; (with_reducible refine (zaP.calls (bt a0 a1) false _ A35.out).mono ?_); rintro e w' ⟨rfl, ⟨nd, rfl⟩⟩; refine ⟨_, rfl, ?_⟩) | ((with_reducible refine zaK (f := 40) rfl ?_); refine zbk (some 89) rfl rfl Tryd.func40 (by kernel_rfl) rfl #[.string a0, .int .i64 a1] rfl (by (try simp only [List.map_toArray, List.map_cons, List.map_nil]); first | done | rfl | (simp only [List.length_drop, List.length_take]; rfl)) ?_; (with_reducible refine (zaI.calls k a0 a1 t305 t306 _ A45.out).mono ?_); rintro e w46 ⟨rfl, hb⟩; refine ⟨_, rfl, ?_⟩; have n0_ := zaa.mk (zai (by repeat (first | exact HB.out | apply zad | apply zac | apply zae)) hb); clear HB; have HB := n0_; clear n0_; (try clear hb); (try clear hb2); (try clear hk); (try clear hi)))
        go_ret2
        exact ⟨by first | rfl | (simp [*, zaz, zay] <;> rfl), by repeat (first | exact HB.out | apply zad | apply zac | apply zae)⟩
  ·rw [if_neg c4] at H
   exact absurd H (by simp)
 ·rw [if_neg c3] at H
  exact absurd H (by simp)
mutual
def zaw.j0 : Nat → Int → Int → Bool → Option (Int)
 | 0, _, _, _ => none
 | k + 1, x0, x1, x11 => if x11 = true then (some (-1)) else (if x0 = 0 then ((some (([34, 1, 1, 7, 8, 9, 34, 2, 32, 12, 14, 16, 18, 20, 22, 24, 25, 26, 27, 28, 29, 30, 31, 33] : List Int) : List Int)).bind fun y307 => (if 0 ≤ x1 then (if x1 < (y307.length : Int) then (some (rd y307 x1)) else (none)) else (none))) else (if x0 = 1 then (if x1 = 1 then (some 1) else (if x1 = 2 then (some 1) else (some (-1)))) else (if x0 = 2 then (if x1 = 7 then (some 3) else (if x1 = 8 then (some 4) else (some (-1)))) else (if x0 = 3 then (if x1 = 2 then (some (-1)) else (some 3)) else (if x0 = 4 then (zaw.j1 k x0 x1 x0 (x0 == 4)) else (zaw.j1 k x0 x1 x0 (x0 == 5)))))))
def zaw.j1 : Nat → Int → Int → Int → Bool → Option (Int)
 | 0, _, _, _, _ => none
 | k + 1, x0, x1, x12, x38 => if x38 = true then (if x1 = 8 then (some 5) else (if x1 = 7 then (if x0 = 5 then (some 6) else (some 4)) else (some 4))) else (if x12 = 7 then (if x1 = 3 then (some 7) else (if x1 = 4 then (some 7) else (some (-1)))) else (if x12 = 8 then (if x1 = 4 then (some 8) else (some (-1))) else (if x12 = 9 then (if x1 = 5 then (some 11) else (if x1 = 6 then (some 10) else (if x1 = 2 then (some (-1)) else (some 9)))) else (if x12 = 10 then (if x1 = 2 then (some (-1)) else (some 9)) else (if x12 = 12 then (zaw.j2 k x0 x1 x12 (x12 == 12)) else (if x12 = 14 then (zaw.j2 k x0 x1 x12 (x12 == 14)) else (if x12 = 16 then (zaw.j2 k x0 x1 x12 (x12 == 16)) else (zaw.j2 k x0 x1 x12 (x12 == 18)))))))))
def zaw.j2 : Nat → Int → Int → Int → Bool → Option (Int)
 | 0, _, _, _, _ => none
 | k + 1, x0, x1, x12, x73 => if x73 = true then (if x1 = 9 then (some (wrap64 (x0 + 1))) else (some (-1))) else (if x12 = 20 then (if x1 = 13 then (some 21) else (some (-1))) else (if x12 = 22 then (if x1 = 14 then (some 23) else (some (-1))) else (some (-1))))
end
def zaw.f (k : Nat) (a0 : Int) (a1 : Int) : Option (Int) := if a1 < 0 then (zaw.j0 k a0 a1 true) else (zaw.j0 k a0 a1 (decide (a1 > 23)))
theorem zaw.calls (k : Nat) (a0 : Int) (a1 : Int) (r : Int) (w : World) (h : zaw.f k a0 a1 = some r) :
  Calls Tryd.prog 42 #[.int .i64 a0, .int .i64 a1] w fun e w' => e = .returned (.int .i64 r) ∧ Below w.heap.size w w' := by
 have HB := zaa.mk (Below.refl w.heap.size w); have H : (if a1 < 0 then (zaw.j0 k a0 a1 true) else (zaw.j0 k a0 a1 (decide (a1 > 23)))) = some r := h
 clear h; have HC3 := zaa.mk H; clear H; go_enter Tryd.func42, Tryd.ntmps42
 go_upto_region 1 with (fail)
 go_cut [11] (fun v11 wc => ∃ (kq : Nat) (x11_2 : Bool), v11 = .bool x11_2 ∧ zaa (zaw.j0 kq a0 a1 x11_2 = some r) ∧ zaa (kq ≤ k) ∧ zaa (Below w.heap.size w wc))
 case first =>
  have H := HC3.out; clear HC3; by_cases c4 : a1 < 0
  ·rw [if_pos c4] at H
   have c4b0 : decide (a1 < 0) = true := decide_eq_true c4; clear c4
   (first | rw [c4b0] | (simp only [i64_w, i32_w]; rw [c4b0]) | skip)
   have H' := zaa.mk H; clear H; go_wp2
   go_meet
   case rel => exact ⟨_, (true), (by first | rfl | (simp; done) | simp [*]), H', ⟨by first | omega | exact Nat.le_refl _⟩, ⟨by repeat (first | exact HB.out | apply zad | apply zac | apply zae)⟩⟩
  ·rw [if_neg c4] at H
   have c4b0 : decide (a1 < 0) = false := decide_eq_false c4; clear c4
   (first | rw [c4b0] | (simp only [i64_w, i32_w]; rw [c4b0]) | skip)
   have H' := zaa.mk H; clear H; go_wp2
   go_meet
   case rel => exact ⟨_, (decide (a1 > 23)), (by first | rfl | (simp; done) | simp [*]), H', ⟨by first | omega | exact Nat.le_refl _⟩, ⟨by repeat (first | exact HB.out | apply zad | apply zac | apply zae)⟩⟩
 case rest =>
  clear HC3; try clear p2
  try clear c4
  try clear c4b0
  obtain ⟨kq, x11_2, rfl, HA, HJ2, HB⟩ := hcut; cases kq with
  | zero => exact absurd HA.out (by simp [zaw.j0])
  | succ kj2 =>
   have H := HA.out; clear HA; simp only [zaw.j0] at H; by_cases c5 : x11_2 = true
   ·subst c5
    have H1 : (some (-1)) = some r := by rw [if_pos rfl] at H; exact H
    clear H; have H := H1; clear H1; obtain rfl := Option.some.inj H; go_wp2
    go_ret
    exact ⟨by first | rfl | (simp [*, zaz, zay] <;> rfl), by repeat (first | exact HB.out | apply zad | apply zac | apply zae)⟩
   ·replace c5 := Bool.eq_false_iff.mpr c5
    subst c5; have H1 : (if a0 = 0 then ((some (([34, 1, 1, 7, 8, 9, 34, 2, 32, 12, 14, 16, 18, 20, 22, 24, 25, 26, 27, 28, 29, 30, 31, 33] : List Int) : List Int)).bind fun y307 => (if 0 ≤ a1 then (if a1 < (y307.length : Int) then (some (rd y307 a1)) else (none)) else (none))) else (if a0 = 1 then (if a1 = 1 then (some 1) else (if a1 = 2 then (some 1) else (some (-1)))) else (if a0 = 2 then (if a1 = 7 then (some 3) else (if a1 = 8 then (some 4) else (some (-1)))) else (if a0 = 3 then (if a1 = 2 then (some (-1)) else (some 3)) else (if a0 = 4 then (zaw.j1 kj2 a0 a1 a0 (a0 == 4)) else (zaw.j1 kj2 a0 a1 a0 (a0 == 5))))))) = some r := by rw [if_neg (show ¬ (false = true) by decide)] at H; exact H
    clear H; have H := H1; clear H1; by_cases c6 : a0 = 0
    ·rw [if_pos c6] at H
     have c6b0 : (a0 == 0) = true := beq_iff_eq.mpr c6; have c6b1 : (a0 != 0) = false := bne_eq_false_iff_eq.mpr c6; clear c6; obtain ⟨y307, hy307⟩ : ∃ y_ : List Int, y_ = (([34, 1, 1, 7, 8, 9, 34, 2, 32, 12, 14, 16, 18, 20, 22, 24, 25, 26, 27, 28, 29, 30, 31, 33] : List Int)) := ⟨_, rfl⟩; replace H : (if 0 ≤ a1 then (if a1 < (y307.length : Int) then (some (rd y307 a1)) else (none)) else (none)) = some r := by first | (rw [hy307]; with_reducible exact H) | (have H2_ := (Option.bind_some _ _).symm.trans H; rw [hy307]; with_reducible exact H2_) | (have H2_ := (Option.bind_some _ _).symm.trans H; with_reducible exact H2_) | with_reducible exact H | (rw [hy307]; exact H) | exact H
     have Ny307 := zaa.mk hy307; clear hy307; by_cases c7 : 0 ≤ a1
     ·rw [if_pos c7] at H
      have c7b0 : decide (0 ≤ a1) = true := decide_eq_true c7; clear c7; by_cases c8 : a1 < (y307.length : Int)
      ·rw [if_pos c8] at H
       have c8b0 : decide (a1 < (y307.length : Int)) = true := decide_eq_true c8; clear c8; obtain rfl := Option.some.inj H; go_wp2_with (first | ((with_reducible refine za6 (N := 15) rfl ?_); refine Kd.R_lit (Kd.int .i64) _ 3 ?hg (N := 15) ?hd (xs := ([34, 1, 1, 7, 8, 9, 34, 2, 32, 12, 14, 16, 18, 20, 22, 24, 25, 26, 27, 28, 29, 30, 31, 33] : List Int)) (inner := [.int .i64 34, .int .i64 1, .int .i64 1, .int .i64 7, .int .i64 8, .int .i64 9, .int .i64 34, .int .i64 2, .int .i64 32, .int .i64 12, .int .i64 14, .int .i64 16, .int .i64 18, .int .i64 20, .int .i64 22, .int .i64 24, .int .i64 25, .int .i64 26, .int .i64 27, .int .i64 28, .int .i64 29, .int .i64 30, .int .i64 31, .int .i64 33]) (ok := fun _ => True) (okp := fun _ => True) ?hr ?hp (fun _ hk => hk) trivial (Below.refl _ _) (Nat.le_refl _) (by simp) ?_; (case hd => rfl); (case hg => rfl); (case hr => first | (go_simp; done) | (go_simp; rfl)); (case hp => exact (Reps.one (show Kd.M (Kd.int .i64) _ _ _ 34 [.int .i64 34] from rfl) (Reps.one (show Kd.M (Kd.int .i64) _ _ _ 1 [.int .i64 1] from rfl) (Reps.one (show Kd.M (Kd.int .i64) _ _ _ 1 [.int .i64 1] from rfl) (Reps.one (show Kd.M (Kd.int .i64) _ _ _ 7 [.int .i64 7] from rfl) (Reps.one (show Kd.M (Kd.int .i64) _ _ _ 8 [.int .i64 8] from rfl) (Reps.one (show Kd.M (Kd.int .i64) _ _ _ 9 [.int .i64 9] from rfl) (Reps.one (show Kd.M (Kd.int .i64) _ _ _ 34 [.int .i64 34] from rfl) (Reps.one (show Kd.M (Kd.int .i64) _ _ _ 2 [.int .i64 2] from rfl) (Reps.one (show Kd.M (Kd.int .i64) _ _ _ 32 [.int .i64 32] from rfl) (Reps.one (show Kd.M (Kd.int .i64) _ _ _ 12 [.int .i64 12] from rfl) (Reps.one (show Kd.M (Kd.int .i64) _ _ _ 14 [.int .i64 14] from rfl) (Reps.one (show Kd.M (Kd.int .i64) _ _ _ 16 [.int .i64 16] from rfl) (Reps.one (show Kd.M (Kd.int .i64) _ _ _ 18 [.int .i64 18] from rfl) (Reps.one (show Kd.M (Kd.int .i64) _ _ _ 20 [.int .i64 20] from rfl) (Reps.one (show Kd.M (Kd.int .i64) _ _ _ 22 [.int .i64 22] from rfl) (Reps.one (show Kd.M (Kd.int .i64) _ _ _ 24 [.int .i64 24] from rfl) (Reps.one (show Kd.M (Kd.int .i64) _ _ _ 25 [.int .i64 25] from rfl) (Reps.one (show Kd.M (Kd.int .i64) _ _ _ 26 [.int .i64 26] from rfl) (Reps.one (show Kd.M (Kd.int .i64) _ _ _ 27 [.int .i64 27] from rfl) (Reps.one (show Kd.M (Kd.int .i64) _ _ _ 28 [.int .i64 28] from rfl) (Reps.one (show Kd.M (Kd.int .i64) _ _ _ 29 [.int .i64 29] from rfl) (Reps.one (show Kd.M (Kd.int .i64) _ _ _ 30 [.int .i64 30] from rfl) (Reps.one (show Kd.M (Kd.int .i64) _ _ _ 31 [.int .i64 31] from rfl) (Reps.one (show Kd.M (Kd.int .i64) _ _ _ 33 [.int .i64 33] from rfl) (Reps.none _ _)))))))))))))))))))))))))); intro v308 w9 ho10 hb hg_ hnew_; clear hg_ hnew_; (first | rw [← Ny307.out] at ho10 | (simp only [Int.reduceToNat] at ho10; rw [← Ny307.out] at ho10)); have n0_ := zaa.mk (Kd.zbz ho10 (zax (by repeat (first | exact HB.out | apply zad | apply zac | apply zae)))); have n1_ := zaa.mk (zai (by repeat (first | exact HB.out | apply zad | apply zac | apply zae)) hb); clear HB; have HO309 := n0_; have HB := n1_; clear n0_ n1_; clear hb ho10; obtain ⟨Ao11, co11, eo11⟩ := Kd.zbo HO309.out; subst eo11; have p310 : 0 ≤ (a1 : Int) := of_decide_eq_true (by assumption); have q310 : a1 < (y307.length : Int) := of_decide_eq_true (by assumption); obtain ⟨ad310, e310, hx310_0⟩ := Kd.at_int (Kd.za0 HO309.out).2.2 a1 p310 q310; cases e310; replace p310 := eq_true p310; replace q310 := eq_true q310))
       go_ret
       exact ⟨by first | rfl | (simp [*, zaz, zay] <;> rfl), by repeat (first | exact HB.out | apply zad | apply zac | apply zae)⟩
      ·rw [if_neg c8] at H
       exact absurd H (by simp)
     ·rw [if_neg c7] at H
      exact absurd H (by simp)
    ·rw [if_neg c6] at H
     have c6b0 : (a0 == 0) = false := beq_eq_false_iff_ne.mpr c6; have c6b1 : (a0 != 0) = true := bne_iff_ne.mpr c6; by_cases c12 : a0 = 1
     ·rw [if_pos c12] at H
      have c12b0 : (a0 == 1) = true := beq_iff_eq.mpr c12; have c12b1 : (a0 != 1) = false := bne_eq_false_iff_eq.mpr c12; clear c12; by_cases c13 : a1 = 1
      ·rw [if_pos c13] at H
       have c13b0 : (a1 == 1) = true := beq_iff_eq.mpr c13; have c13b1 : (a1 != 1) = false := bne_eq_false_iff_eq.mpr c13; clear c13; obtain rfl := Option.some.inj H; go_wp2
       go_ret
       exact ⟨by first | rfl | (simp [*, zaz, zay] <;> rfl), by repeat (first | exact HB.out | apply zad | apply zac | apply zae)⟩
      ·rw [if_neg c13] at H
       have c13b0 : (a1 == 1) = false := beq_eq_false_iff_ne.mpr c13; have c13b1 : (a1 != 1) = true := bne_iff_ne.mpr c13; by_cases c14 : a1 = 2
       ·rw [if_pos c14] at H
        have c14b0 : (a1 == 2) = true := beq_iff_eq.mpr c14; have c14b1 : (a1 != 2) = false := bne_eq_false_iff_eq.mpr c14; clear c14; obtain rfl := Option.some.inj H; go_wp2
        go_ret
        exact ⟨by first | rfl | (simp [*, zaz, zay] <;> rfl), by repeat (first | exact HB.out | apply zad | apply zac | apply zae)⟩
       ·rw [if_neg c14] at H
        have c14b0 : (a1 == 2) = false := beq_eq_false_iff_ne.mpr c14; have c14b1 : (a1 != 2) = true := bne_iff_ne.mpr c14; obtain rfl := Option.some.inj H; go_wp2
        go_ret
        exact ⟨by first | rfl | (simp [*, zaz, zay] <;> rfl), by repeat (first | exact HB.out | apply zad | apply zac | apply zae)⟩
     ·rw [if_neg c12] at H
      have c12b0 : (a0 == 1) = false := beq_eq_false_iff_ne.mpr c12; have c12b1 : (a0 != 1) = true := bne_iff_ne.mpr c12; by_cases c15 : a0 = 2
      ·rw [if_pos c15] at H
       have c15b0 : (a0 == 2) = true := beq_iff_eq.mpr c15; have c15b1 : (a0 != 2) = false := bne_eq_false_iff_eq.mpr c15; clear c15; by_cases c16 : a1 = 7
       ·rw [if_pos c16] at H
        have c16b0 : (a1 == 7) = true := beq_iff_eq.mpr c16; have c16b1 : (a1 != 7) = false := bne_eq_false_iff_eq.mpr c16; clear c16; obtain rfl := Option.some.inj H; go_wp2
        go_ret
        exact ⟨by first | rfl | (simp [*, zaz, zay] <;> rfl), by repeat (first | exact HB.out | apply zad | apply zac | apply zae)⟩
       ·rw [if_neg c16] at H
        have c16b0 : (a1 == 7) = false := beq_eq_false_iff_ne.mpr c16; have c16b1 : (a1 != 7) = true := bne_iff_ne.mpr c16; by_cases c17 : a1 = 8
        ·rw [if_pos c17] at H
         have c17b0 : (a1 == 8) = true := beq_iff_eq.mpr c17; have c17b1 : (a1 != 8) = false := bne_eq_false_iff_eq.mpr c17; clear c17; obtain rfl := Option.some.inj H; go_wp2
         go_ret
         exact ⟨by first | rfl | (simp [*, zaz, zay] <;> rfl), by repeat (first | exact HB.out | apply zad | apply zac | apply zae)⟩
        ·rw [if_neg c17] at H
         have c17b0 : (a1 == 8) = false := beq_eq_false_iff_ne.mpr c17; have c17b1 : (a1 != 8) = true := bne_iff_ne.mpr c17; obtain rfl := Option.some.inj H; go_wp2
         go_ret
         exact ⟨by first | rfl | (simp [*, zaz, zay] <;> rfl), by repeat (first | exact HB.out | apply zad | apply zac | apply zae)⟩
      ·rw [if_neg c15] at H
       have c15b0 : (a0 == 2) = false := beq_eq_false_iff_ne.mpr c15; have c15b1 : (a0 != 2) = true := bne_iff_ne.mpr c15; by_cases c18 : a0 = 3
       ·rw [if_pos c18] at H
        have c18b0 : (a0 == 3) = true := beq_iff_eq.mpr c18; have c18b1 : (a0 != 3) = false := bne_eq_false_iff_eq.mpr c18; clear c18; by_cases c19 : a1 = 2
        ·rw [if_pos c19] at H
         have c19b0 : (a1 == 2) = true := beq_iff_eq.mpr c19; have c19b1 : (a1 != 2) = false := bne_eq_false_iff_eq.mpr c19; clear c19; obtain rfl := Option.some.inj H; go_wp2
         go_ret
         exact ⟨by first | rfl | (simp [*, zaz, zay] <;> rfl), by repeat (first | exact HB.out | apply zad | apply zac | apply zae)⟩
        ·rw [if_neg c19] at H
         have c19b0 : (a1 == 2) = false := beq_eq_false_iff_ne.mpr c19; have c19b1 : (a1 != 2) = true := bne_iff_ne.mpr c19; obtain rfl := Option.some.inj H; go_wp2
         go_ret
         exact ⟨by first | rfl | (simp [*, zaz, zay] <;> rfl), by repeat (first | exact HB.out | apply zad | apply zac | apply zae)⟩
       ·rw [if_neg c18] at H
        have c18b0 : (a0 == 3) = false := beq_eq_false_iff_ne.mpr c18; have c18b1 : (a0 != 3) = true := bne_iff_ne.mpr c18; have HC20 := zaa.mk H; clear H
        go_upto_if 38 with (fail)
        go_cut [38] (fun v38 wc => ∃ (kq : Nat) (x38_19 : Bool), v38 = .bool x38_19 ∧ zaa (zaw.j1 kq a0 a1 a0 x38_19 = some r) ∧ zaa (kq ≤ kj2) ∧ zaa (Below w.heap.size w wc))
        case first =>
         have H := HC20.out; clear HC20; by_cases c21 : a0 = 4
         ·rw [if_pos c21] at H
          have c21b0 : (a0 == 4) = true := beq_iff_eq.mpr c21; have c21b1 : (a0 != 4) = false := bne_eq_false_iff_eq.mpr c21; clear c21
          (first | rw [c21b0] | (simp only [i64_w, i32_w]; rw [c21b0]) | skip)
          have H' := zaa.mk H; clear H; go_wp2
          go_meet
          case rel => exact ⟨_, ((a0 == 4)), (by first | rfl | (simp; done) | simp [*]), H', ⟨by have := HJ2.out; first | omega | exact Nat.le_refl _⟩, ⟨by repeat (first | exact HB.out | apply zad | apply zac | apply zae)⟩⟩
         ·rw [if_neg c21] at H
          have c21b0 : (a0 == 4) = false := beq_eq_false_iff_ne.mpr c21; have c21b1 : (a0 != 4) = true := bne_iff_ne.mpr c21
          (first | rw [c21b0] | (simp only [i64_w, i32_w]; rw [c21b0]) | skip)
          have H' := zaa.mk H; clear H; go_wp2
          go_meet
          case rel => exact ⟨_, ((a0 == 5)), (by first | rfl | (simp; done) | simp [*]), H', ⟨by have := HJ2.out; first | omega | exact Nat.le_refl _⟩, ⟨by repeat (first | exact HB.out | apply zad | apply zac | apply zae)⟩⟩
        case rest =>
         clear HC20; try clear c1
         try clear c2
         try clear p2
         try clear p3
         try clear q3
         try clear hx3
         try clear c4
         try clear c4b0
         try clear c5
         try clear c6
         try clear c6b0
         try clear c6b1
         try clear c7
         try clear c7b0
         try clear c8
         try clear c8b0
         try clear c12
         try clear c12b0
         try clear c12b1
         try clear c13
         try clear c13b0
         try clear c13b1
         try clear c14
         try clear c14b0
         try clear c14b1
         try clear c15
         try clear c15b0
         try clear c15b1
         try clear c16
         try clear c16b0
         try clear c16b1
         try clear c17
         try clear c17b0
         try clear c17b1
         try clear c18
         try clear c18b0
         try clear c18b1
         try clear c19
         try clear c19b0
         try clear c19b1
         try clear c21
         try clear c21b0
         try clear c21b1
         try clear hx310_0
         try clear p2
         try clear p310
         try clear q310
         obtain ⟨kq, x38_19, rfl, HA, HJ19, HB⟩ := hcut; cases kq with
         | zero => exact absurd HA.out (by simp [zaw.j1])
         | succ kj19 =>
          have H := HA.out; clear HA; simp only [zaw.j1] at H; by_cases c22 : x38_19 = true
          ·subst c22
           have H1 : (if a1 = 8 then (some 5) else (if a1 = 7 then (if a0 = 5 then (some 6) else (some 4)) else (some 4))) = some r := by rw [if_pos rfl] at H; exact H
           clear H; have H := H1; clear H1; by_cases c23 : a1 = 8
           ·rw [if_pos c23] at H
            have c23b0 : (a1 == 8) = true := beq_iff_eq.mpr c23; have c23b1 : (a1 != 8) = false := bne_eq_false_iff_eq.mpr c23; clear c23; obtain rfl := Option.some.inj H; go_wp2
            go_ret
            exact ⟨by first | rfl | (simp [*, zaz, zay] <;> rfl), by repeat (first | exact HB.out | apply zad | apply zac | apply zae)⟩
           ·rw [if_neg c23] at H
            have c23b0 : (a1 == 8) = false := beq_eq_false_iff_ne.mpr c23; have c23b1 : (a1 != 8) = true := bne_iff_ne.mpr c23; by_cases c24 : a1 = 7
            ·rw [if_pos c24] at H
             have c24b0 : (a1 == 7) = true := beq_iff_eq.mpr c24; have c24b1 : (a1 != 7) = false := bne_eq_false_iff_eq.mpr c24; clear c24; by_cases c25 : a0 = 5
             ·rw [if_pos c25] at H
              have c25b0 : (a0 == 5) = true := beq_iff_eq.mpr c25; have c25b1 : (a0 != 5) = false := bne_eq_false_iff_eq.mpr c25; clear c25; obtain rfl := Option.some.inj H; go_wp2
              go_ret
              exact ⟨by first | rfl | (simp [*, zaz, zay] <;> rfl), by repeat (first | exact HB.out | apply zad | apply zac | apply zae)⟩
             ·rw [if_neg c25] at H
              have c25b0 : (a0 == 5) = false := beq_eq_false_iff_ne.mpr c25; have c25b1 : (a0 != 5) = true := bne_iff_ne.mpr c25; obtain rfl := Option.some.inj H; go_wp2
              go_ret
              exact ⟨by first | rfl | (simp [*, zaz, zay] <;> rfl), by repeat (first | exact HB.out | apply zad | apply zac | apply zae)⟩
            ·rw [if_neg c24] at H
             have c24b0 : (a1 == 7) = false := beq_eq_false_iff_ne.mpr c24; have c24b1 : (a1 != 7) = true := bne_iff_ne.mpr c24; obtain rfl := Option.some.inj H; go_wp2
             go_ret
             exact ⟨by first | rfl | (simp [*, zaz, zay] <;> rfl), by repeat (first | exact HB.out | apply zad | apply zac | apply zae)⟩
          ·replace c22 := Bool.eq_false_iff.mpr c22
           subst c22; have H1 : (if a0 = 7 then (if a1 = 3 then (some 7) else (if a1 = 4 then (some 7) else (some (-1)))) else (if a0 = 8 then (if a1 = 4 then (some 8) else (some (-1))) else (if a0 = 9 then (if a1 = 5 then (some 11) else (if a1 = 6 then (some 10) else (if a1 = 2 then (some (-1)) else (some 9)))) else (if a0 = 10 then (if a1 = 2 then (some (-1)) else (some 9)) else (if a0 = 12 then (zaw.j2 kj19 a0 a1 a0 (a0 == 12)) else (if a0 = 14 then (zaw.j2 kj19 a0 a1 a0 (a0 == 14)) else (if a0 = 16 then (zaw.j2 kj19 a0 a1 a0 (a0 == 16)) else (zaw.j2 kj19 a0 a1 a0 (a0 == 18))))))))) = some r := by rw [if_neg (show ¬ (false = true) by decide)] at H; exact H
           clear H; have H := H1; clear H1; by_cases c26 : a0 = 7
           ·rw [if_pos c26] at H
            have c26b0 : (a0 == 7) = true := beq_iff_eq.mpr c26; have c26b1 : (a0 != 7) = false := bne_eq_false_iff_eq.mpr c26; clear c26; by_cases c27 : a1 = 3
            ·rw [if_pos c27] at H
             have c27b0 : (a1 == 3) = true := beq_iff_eq.mpr c27; have c27b1 : (a1 != 3) = false := bne_eq_false_iff_eq.mpr c27; clear c27; obtain rfl := Option.some.inj H; go_wp2
             go_ret
             exact ⟨by first | rfl | (simp [*, zaz, zay] <;> rfl), by repeat (first | exact HB.out | apply zad | apply zac | apply zae)⟩
            ·rw [if_neg c27] at H
             have c27b0 : (a1 == 3) = false := beq_eq_false_iff_ne.mpr c27; have c27b1 : (a1 != 3) = true := bne_iff_ne.mpr c27; by_cases c28 : a1 = 4
             ·rw [if_pos c28] at H
              have c28b0 : (a1 == 4) = true := beq_iff_eq.mpr c28; have c28b1 : (a1 != 4) = false := bne_eq_false_iff_eq.mpr c28; clear c28; obtain rfl := Option.some.inj H; go_wp2
              go_ret
              exact ⟨by first | rfl | (simp [*, zaz, zay] <;> rfl), by repeat (first | exact HB.out | apply zad | apply zac | apply zae)⟩
             ·rw [if_neg c28] at H
              have c28b0 : (a1 == 4) = false := beq_eq_false_iff_ne.mpr c28; have c28b1 : (a1 != 4) = true := bne_iff_ne.mpr c28; obtain rfl := Option.some.inj H; go_wp2
              go_ret
              exact ⟨by first | rfl | (simp [*, zaz, zay] <;> rfl), by repeat (first | exact HB.out | apply zad | apply zac | apply zae)⟩
           ·rw [if_neg c26] at H
            have c26b0 : (a0 == 7) = false := beq_eq_false_iff_ne.mpr c26; have c26b1 : (a0 != 7) = true := bne_iff_ne.mpr c26; by_cases c29 : a0 = 8
            ·rw [if_pos c29] at H
             have c29b0 : (a0 == 8) = true := beq_iff_eq.mpr c29; have c29b1 : (a0 != 8) = false := bne_eq_false_iff_eq.mpr c29; clear c29; by_cases c30 : a1 = 4
             ·rw [if_pos c30] at H
              have c30b0 : (a1 == 4) = true := beq_iff_eq.mpr c30; have c30b1 : (a1 != 4) = false := bne_eq_false_iff_eq.mpr c30; clear c30; obtain rfl := Option.some.inj H; go_wp2
              go_ret
              exact ⟨by first | rfl | (simp [*, zaz, zay] <;> rfl), by repeat (first | exact HB.out | apply zad | apply zac | apply zae)⟩
             ·rw [if_neg c30] at H
              have c30b0 : (a1 == 4) = false := beq_eq_false_iff_ne.mpr c30; have c30b1 : (a1 != 4) = true := bne_iff_ne.mpr c30; obtain rfl := Option.some.inj H; go_wp2
              go_ret
              exact ⟨by first | rfl | (simp [*, zaz, zay] <;> rfl), by repeat (first | exact HB.out | apply zad | apply zac | apply zae)⟩
            ·rw [if_neg c29] at H
             have c29b0 : (a0 == 8) = false := beq_eq_false_iff_ne.mpr c29; have c29b1 : (a0 != 8) = true := bne_iff_ne.mpr c29; by_cases c31 : a0 = 9
             ·rw [if_pos c31] at H
              have c31b0 : (a0 == 9) = true := beq_iff_eq.mpr c31; have c31b1 : (a0 != 9) = false := bne_eq_false_iff_eq.mpr c31; clear c31; by_cases c32 : a1 = 5
              ·rw [if_pos c32] at H
               have c32b0 : (a1 == 5) = true := beq_iff_eq.mpr c32; have c32b1 : (a1 != 5) = false := bne_eq_false_iff_eq.mpr c32; clear c32; obtain rfl := Option.some.inj H; go_wp2
               go_ret
               exact ⟨by first | rfl | (simp [*, zaz, zay] <;> rfl), by repeat (first | exact HB.out | apply zad | apply zac | apply zae)⟩
              ·rw [if_neg c32] at H
               have c32b0 : (a1 == 5) = false := beq_eq_false_iff_ne.mpr c32; have c32b1 : (a1 != 5) = true := bne_iff_ne.mpr c32; by_cases c33 : a1 = 6
               ·rw [if_pos c33] at H
                have c33b0 : (a1 == 6) = true := beq_iff_eq.mpr c33; have c33b1 : (a1 != 6) = false := bne_eq_false_iff_eq.mpr c33; clear c33; obtain rfl := Option.some.inj H; go_wp2
                go_ret
                exact ⟨by first | rfl | (simp [*, zaz, zay] <;> rfl), by repeat (first | exact HB.out | apply zad | apply zac | apply zae)⟩
               ·rw [if_neg c33] at H
                have c33b0 : (a1 == 6) = false := beq_eq_false_iff_ne.mpr c33; have c33b1 : (a1 != 6) = true := bne_iff_ne.mpr c33; by_cases c34 : a1 = 2
                ·rw [if_pos c34] at H
                 have c34b0 : (a1 == 2) = true := beq_iff_eq.mpr c34; have c34b1 : (a1 != 2) = false := bne_eq_false_iff_eq.mpr c34; clear c34; obtain rfl := Option.some.inj H; go_wp2
                 go_ret
                 exact ⟨by first | rfl | (simp [*, zaz, zay] <;> rfl), by repeat (first | exact HB.out | apply zad | apply zac | apply zae)⟩
                ·rw [if_neg c34] at H
                 have c34b0 : (a1 == 2) = false := beq_eq_false_iff_ne.mpr c34; have c34b1 : (a1 != 2) = true := bne_iff_ne.mpr c34; obtain rfl := Option.some.inj H; go_wp2
                 go_ret
                 exact ⟨by first | rfl | (simp [*, zaz, zay] <;> rfl), by repeat (first | exact HB.out | apply zad | apply zac | apply zae)⟩
             ·rw [if_neg c31] at H
              have c31b0 : (a0 == 9) = false := beq_eq_false_iff_ne.mpr c31; have c31b1 : (a0 != 9) = true := bne_iff_ne.mpr c31; by_cases c35 : a0 = 10
              ·rw [if_pos c35] at H
               have c35b0 : (a0 == 10) = true := beq_iff_eq.mpr c35; have c35b1 : (a0 != 10) = false := bne_eq_false_iff_eq.mpr c35; clear c35; by_cases c36 : a1 = 2
               ·rw [if_pos c36] at H
                have c36b0 : (a1 == 2) = true := beq_iff_eq.mpr c36; have c36b1 : (a1 != 2) = false := bne_eq_false_iff_eq.mpr c36; clear c36; obtain rfl := Option.some.inj H; go_wp2
                go_ret
                exact ⟨by first | rfl | (simp [*, zaz, zay] <;> rfl), by repeat (first | exact HB.out | apply zad | apply zac | apply zae)⟩
               ·rw [if_neg c36] at H
                have c36b0 : (a1 == 2) = false := beq_eq_false_iff_ne.mpr c36; have c36b1 : (a1 != 2) = true := bne_iff_ne.mpr c36; obtain rfl := Option.some.inj H; go_wp2
                go_ret
                exact ⟨by first | rfl | (simp [*, zaz, zay] <;> rfl), by repeat (first | exact HB.out | apply zad | apply zac | apply zae)⟩
              ·rw [if_neg c35] at H
               have c35b0 : (a0 == 10) = false := beq_eq_false_iff_ne.mpr c35; have c35b1 : (a0 != 10) = true := bne_iff_ne.mpr c35; have HC37 := zaa.mk H; clear H
               go_upto_if 73 with (fail)
               go_cut [73] (fun v73 wc => ∃ (kq : Nat) (x73_36 : Bool), v73 = .bool x73_36 ∧ zaa (zaw.j2 kq a0 a1 a0 x73_36 = some r) ∧ zaa (kq ≤ kj19) ∧ zaa (Below w.heap.size w wc))
               case first =>
                have H := HC37.out; clear HC37; by_cases c38 : a0 = 12
                ·rw [if_pos c38] at H
                 have c38b0 : (a0 == 12) = true := beq_iff_eq.mpr c38; have c38b1 : (a0 != 12) = false := bne_eq_false_iff_eq.mpr c38; clear c38
                 (first | rw [c38b0] | (simp only [i64_w, i32_w]; rw [c38b0]) | skip)
                 have H' := zaa.mk H; clear H; go_wp2
                 go_meet
                 case rel => exact ⟨_, ((a0 == 12)), (by first | rfl | (simp; done) | simp [*]), H', ⟨by have := HJ2.out; have := HJ19.out; first | omega | exact Nat.le_refl _⟩, ⟨by repeat (first | exact HB.out | apply zad | apply zac | apply zae)⟩⟩
                ·rw [if_neg c38] at H
                 have c38b0 : (a0 == 12) = false := beq_eq_false_iff_ne.mpr c38; have c38b1 : (a0 != 12) = true := bne_iff_ne.mpr c38
                 (first | rw [c38b0] | (simp only [i64_w, i32_w]; rw [c38b0]) | skip)
                 by_cases c39 : a0 = 14
                 ·rw [if_pos c39] at H
                  have c39b0 : (a0 == 14) = true := beq_iff_eq.mpr c39; have c39b1 : (a0 != 14) = false := bne_eq_false_iff_eq.mpr c39; clear c39; have H' := zaa.mk H; clear H; go_wp2
                  go_meet
                  case rel => exact ⟨_, ((a0 == 14)), (by first | rfl | (simp; done) | simp [*]), H', ⟨by have := HJ2.out; have := HJ19.out; first | omega | exact Nat.le_refl _⟩, ⟨by repeat (first | exact HB.out | apply zad | apply zac | apply zae)⟩⟩
                 ·rw [if_neg c39] at H
                  have c39b0 : (a0 == 14) = false := beq_eq_false_iff_ne.mpr c39; have c39b1 : (a0 != 14) = true := bne_iff_ne.mpr c39; by_cases c40 : a0 = 16
                  ·rw [if_pos c40] at H
                   have c40b0 : (a0 == 16) = true := beq_iff_eq.mpr c40; have c40b1 : (a0 != 16) = false := bne_eq_false_iff_eq.mpr c40; clear c40; have H' := zaa.mk H; clear H; go_wp2
                   go_meet
                   case rel => exact ⟨_, ((a0 == 16)), (by first | rfl | (simp; done) | simp [*]), H', ⟨by have := HJ2.out; have := HJ19.out; first | omega | exact Nat.le_refl _⟩, ⟨by repeat (first | exact HB.out | apply zad | apply zac | apply zae)⟩⟩
                  ·rw [if_neg c40] at H
                   have c40b0 : (a0 == 16) = false := beq_eq_false_iff_ne.mpr c40; have c40b1 : (a0 != 16) = true := bne_iff_ne.mpr c40; have H' := zaa.mk H; clear H; go_wp2
                   go_meet
                   case rel => exact ⟨_, ((a0 == 18)), (by first | rfl | (simp; done) | simp [*]), H', ⟨by have := HJ2.out; have := HJ19.out; first | omega | exact Nat.le_refl _⟩, ⟨by repeat (first | exact HB.out | apply zad | apply zac | apply zae)⟩⟩
               case rest =>
                clear HC37; try clear c1
                try clear c2
                try clear p2
                try clear c3
                try clear p3
                try clear q3
                try clear hx3
                try clear c4
                try clear c4b0
                try clear c5
                try clear c6
                try clear c6b0
                try clear c6b1
                try clear c7
                try clear c7b0
                try clear c8
                try clear c8b0
                try clear c12
                try clear c12b0
                try clear c12b1
                try clear c13
                try clear c13b0
                try clear c13b1
                try clear c14
                try clear c14b0
                try clear c14b1
                try clear c15
                try clear c15b0
                try clear c15b1
                try clear c16
                try clear c16b0
                try clear c16b1
                try clear c17
                try clear c17b0
                try clear c17b1
                try clear c18
                try clear c18b0
                try clear c18b1
                try clear c19
                try clear c19b0
                try clear c19b1
                try clear c21
                try clear c21b0
                try clear c21b1
                try clear c22
                try clear c23
                try clear c23b0
                try clear c23b1
                try clear c24
                try clear c24b0
                try clear c24b1
                try clear c25
                try clear c25b0
                try clear c25b1
                try clear c26
                try clear c26b0
                try clear c26b1
                try clear c27
                try clear c27b0
                try clear c27b1
                try clear c28
                try clear c28b0
                try clear c28b1
                try clear c29
                try clear c29b0
                try clear c29b1
                try clear c30
                try clear c30b0
                try clear c30b1
                try clear c31
                try clear c31b0
                try clear c31b1
                try clear p31
                try clear q31
                try clear hx31
                try clear c32
                try clear c32b0
                try clear c32b1
                try clear c33
                try clear c33b0
                try clear c33b1
                try clear c34
                try clear c34b0
                try clear c34b1
                try clear c35
                try clear c35b0
                try clear c35b1
                try clear c36
                try clear c36b0
                try clear c36b1
                try clear c38
                try clear c38b0
                try clear c38b1
                try clear c39
                try clear c39b0
                try clear c39b1
                try clear c40
                try clear c40b0
                try clear c40b1
                try clear hx310_0
                try clear p2
                try clear p3
                try clear p310
                try clear q3
                try clear q310
                obtain ⟨kq, x73_36, rfl, HA, HJ36, HB⟩ := hcut; cases kq with
                | zero => exact absurd HA.out (by simp [zaw.j2])
                | succ kj36 =>
                 have H := HA.out; clear HA; simp only [zaw.j2] at H; by_cases c41 : x73_36 = true
                 ·subst c41
                  have H1 : (if a1 = 9 then (some (wrap64 (a0 + 1))) else (some (-1))) = some r := by rw [if_pos rfl] at H; exact H
                  clear H; have H := H1; clear H1; by_cases c42 : a1 = 9
                  ·rw [if_pos c42] at H
                   have c42b0 : (a1 == 9) = true := beq_iff_eq.mpr c42; have c42b1 : (a1 != 9) = false := bne_eq_false_iff_eq.mpr c42; clear c42; obtain rfl := Option.some.inj H; go_wp2
                   go_ret
                   exact ⟨by first | rfl | (simp [*, zaz, zay] <;> rfl), by repeat (first | exact HB.out | apply zad | apply zac | apply zae)⟩
                  ·rw [if_neg c42] at H
                   have c42b0 : (a1 == 9) = false := beq_eq_false_iff_ne.mpr c42; have c42b1 : (a1 != 9) = true := bne_iff_ne.mpr c42; obtain rfl := Option.some.inj H; go_wp2
                   go_ret
                   exact ⟨by first | rfl | (simp [*, zaz, zay] <;> rfl), by repeat (first | exact HB.out | apply zad | apply zac | apply zae)⟩
                 ·replace c41 := Bool.eq_false_iff.mpr c41
                  subst c41; have H1 : (if a0 = 20 then (if a1 = 13 then (some 21) else (some (-1))) else (if a0 = 22 then (if a1 = 14 then (some 23) else (some (-1))) else (some (-1)))) = some r := by rw [if_neg (show ¬ (false = true) by decide)] at H; exact H
                  clear H; have H := H1; clear H1; by_cases c43 : a0 = 20
                  ·rw [if_pos c43] at H
                   have c43b0 : (a0 == 20) = true := beq_iff_eq.mpr c43; have c43b1 : (a0 != 20) = false := bne_eq_false_iff_eq.mpr c43; clear c43; by_cases c44 : a1 = 13
                   ·rw [if_pos c44] at H
                    have c44b0 : (a1 == 13) = true := beq_iff_eq.mpr c44; have c44b1 : (a1 != 13) = false := bne_eq_false_iff_eq.mpr c44; clear c44; obtain rfl := Option.some.inj H; go_wp2
                    go_ret
                    exact ⟨by first | rfl | (simp [*, zaz, zay] <;> rfl), by repeat (first | exact HB.out | apply zad | apply zac | apply zae)⟩
                   ·rw [if_neg c44] at H
                    have c44b0 : (a1 == 13) = false := beq_eq_false_iff_ne.mpr c44; have c44b1 : (a1 != 13) = true := bne_iff_ne.mpr c44; obtain rfl := Option.some.inj H; go_wp2
                    go_ret
                    exact ⟨by first | rfl | (simp [*, zaz, zay] <;> rfl), by repeat (first | exact HB.out | apply zad | apply zac | apply zae)⟩
                  ·rw [if_neg c43] at H
                   have c43b0 : (a0 == 20) = false := beq_eq_false_iff_ne.mpr c43; have c43b1 : (a0 != 20) = true := bne_iff_ne.mpr c43; by_cases c45 : a0 = 22
                   ·rw [if_pos c45] at H
                    have c45b0 : (a0 == 22) = true := beq_iff_eq.mpr c45; have c45b1 : (a0 != 22) = false := bne_eq_false_iff_eq.mpr c45; clear c45; by_cases c46 : a1 = 14
                    ·rw [if_pos c46] at H
                     have c46b0 : (a1 == 14) = true := beq_iff_eq.mpr c46; have c46b1 : (a1 != 14) = false := bne_eq_false_iff_eq.mpr c46; clear c46; obtain rfl := Option.some.inj H; go_wp2
                     go_ret
                     exact ⟨by first | rfl | (simp [*, zaz, zay] <;> rfl), by repeat (first | exact HB.out | apply zad | apply zac | apply zae)⟩
                    ·rw [if_neg c46] at H
                     have c46b0 : (a1 == 14) = false := beq_eq_false_iff_ne.mpr c46; have c46b1 : (a1 != 14) = true := bne_iff_ne.mpr c46; obtain rfl := Option.some.inj H; go_wp2
                     go_ret
                     exact ⟨by first | rfl | (simp [*, zaz, zay] <;> rfl), by repeat (first | exact HB.out | apply zad | apply zac | apply zae)⟩
                   ·rw [if_neg c45] at H
                    have c45b0 : (a0 == 22) = false := beq_eq_false_iff_ne.mpr c45; have c45b1 : (a0 != 22) = true := bne_iff_ne.mpr c45; obtain rfl := Option.some.inj H; go_wp2
                    go_ret
                    exact ⟨by first | rfl | (simp [*, zaz, zay] <;> rfl), by repeat (first | exact HB.out | apply zad | apply zac | apply zae)⟩
mutual
def zam.l0 : Nat → Int → ByteArray → Int → Option (Int)
 | 0, _, _, _ => none
 | k + 1, x0, x3, x4 => if x4 < (x3.size : Int) then (if 0 ≤ x4 then (if x0 = (wrap32 (bt x3 x4)) then (some (wrap64 (5 + x4))) else (zam.l0 k x0 x3 (wrap64 (x4 + 1)))) else (none)) else (if x0 = 32 then (zam.j1 k x0 true) else (zam.j1 k x0 (x0 == 9)))
def zam.j1 : Nat → Int → Bool → Option (Int)
 | 0, _, _ => none
 | k + 1, x0, x19 => if x19 = true then (some 1) else (if x0 = 10 then (zam.j2 k x0 true) else (zam.j2 k x0 (x0 == 13)))
def zam.j2 : Nat → Int → Bool → Option (Int)
 | 0, _, _ => none
 | k + 1, x0, x26 => if x26 = true then (some 2) else (if x0 = 95 then (zam.j3 k x0 true) else (if x0 ≥ 97 then (if x0 ≤ 122 then (zam.j3 k x0 true) else (if x0 ≥ 65 then (zam.j3 k x0 (decide (x0 ≤ 90))) else (zam.j3 k x0 false))) else (if x0 ≥ 65 then (zam.j3 k x0 (decide (x0 ≤ 90))) else (zam.j3 k x0 false))))
def zam.j3 : Nat → Int → Bool → Option (Int)
 | 0, _, _ => none
 | k + 1, x0, x33 => if x33 = true then (some 3) else (if x0 ≥ 48 then (if x0 ≤ 57 then (some 4) else (some 0)) else (some 0))
end
def zam.f (k : Nat) (a0 : Int) : Option (Int) := zam.l0 k a0 (⟨#[34, 92, 47, 42, 61, 33, 60, 62, 38, 124, 40, 41, 123, 125, 44, 59, 43, 45, 37]⟩ : ByteArray) 0
theorem zam.calls (k : Nat) (a0 : Int) (r : Int) (w : World) (h : zam.f k a0 = some r) :
  Calls Tryd.prog 43 #[.int .i32 a0] w fun e w' => e = .returned (.int .i64 r) ∧ zaq w w' := by
 have H : (zam.l0 k a0 (⟨#[34, 92, 47, 42, 61, 33, 60, 62, 38, 124, 40, 41, 123, 125, 44, 59, 43, 45, 37]⟩ : ByteArray) 0) = some r := h; clear h; have H' := zaa.mk H; clear H; go_enter Tryd.func43, Tryd.ntmps43
 go_wp2
 go_loopg [4] k (fun kq v4 w' => ∃ (x4_1 : Int), v4 = .int .i64 x4_1 ∧ zaa (zam.l0 kq a0 (⟨#[34, 92, 47, 42, 61, 33, 60, 62, 38, 124, 40, 41, 123, 125, 44, 59, 43, 45, 37]⟩ : ByteArray) x4_1 = some r) ∧ zaa (kq ≤ k) ∧ zaq w w')
 case atStart => exact ⟨(0), (by first | rfl | (simp; done) | simp [*]), H', ⟨Nat.le_refl _⟩, by repeat (first | exact zaq.refl _ | apply zaq.step)⟩
 case round =>
  clear H'; obtain ⟨x4_1, rfl, HA, HK1, ⟨m1, rfl⟩⟩ := hrel; cases gk with
  | zero => exact absurd HA.out (by simp [zam.l0])
  | succ k1 =>
   have H := HA.out; clear HA; simp only [zam.l0] at H; by_cases c2 : x4_1 < ((⟨#[34, 92, 47, 42, 61, 33, 60, 62, 38, 124, 40, 41, 123, 125, 44, 59, 43, 45, 37]⟩ : ByteArray).size : Int)
   ·rw [if_pos c2] at H
    have c2b0 : decide (x4_1 < ((⟨#[34, 92, 47, 42, 61, 33, 60, 62, 38, 124, 40, 41, 123, 125, 44, 59, 43, 45, 37]⟩ : ByteArray).size : Int)) = true := decide_eq_true c2; have c2b0n : decide (x4_1 < 19) = true := c2b0; clear c2; by_cases c3 : 0 ≤ x4_1
    ·rw [if_pos c3] at H
     have c3b0 : decide (0 ≤ x4_1) = true := decide_eq_true c3; clear c3; by_cases c5 : a0 = (wrap32 (bt (⟨#[34, 92, 47, 42, 61, 33, 60, 62, 38, 124, 40, 41, 123, 125, 44, 59, 43, 45, 37]⟩ : ByteArray) x4_1))
     ·rw [if_pos c5] at H
      have c5b0 : (a0 == (wrap32 (bt (⟨#[34, 92, 47, 42, 61, 33, 60, 62, 38, 124, 40, 41, 123, 125, 44, 59, 43, 45, 37]⟩ : ByteArray) x4_1))) = true := beq_iff_eq.mpr c5; have c5b1 : (a0 != (wrap32 (bt (⟨#[34, 92, 47, 42, 61, 33, 60, 62, 38, 124, 40, 41, 123, 125, 44, 59, 43, 45, 37]⟩ : ByteArray) x4_1))) = false := bne_eq_false_iff_eq.mpr c5; clear c5; obtain rfl := Option.some.inj H; have p4 : 0 ≤ (x4_1 : Int) := of_decide_eq_true (by assumption)
      have q4 : x4_1 < (19 : Int) := of_decide_eq_true (by assumption)
      have hx4 := bt_at (⟨#[34, 92, 47, 42, 61, 33, 60, 62, 38, 124, 40, 41, 123, 125, 44, 59, 43, 45, 37]⟩ : ByteArray) x4_1; replace p4 := eq_true p4; replace q4 := eq_true q4; go_wp2
      go_ret
      exact ⟨by first | rfl | (simp; done) | simp [*], by repeat (first | exact zaq.refl _ | apply zaq.step)⟩
     ·rw [if_neg c5] at H
      have c5b0 : (a0 == (wrap32 (bt (⟨#[34, 92, 47, 42, 61, 33, 60, 62, 38, 124, 40, 41, 123, 125, 44, 59, 43, 45, 37]⟩ : ByteArray) x4_1))) = false := beq_eq_false_iff_ne.mpr c5; have c5b1 : (a0 != (wrap32 (bt (⟨#[34, 92, 47, 42, 61, 33, 60, 62, 38, 124, 40, 41, 123, 125, 44, 59, 43, 45, 37]⟩ : ByteArray) x4_1))) = true := bne_iff_ne.mpr c5; have H' := zaa.mk H; clear H; have p4 : 0 ≤ (x4_1 : Int) := of_decide_eq_true (by assumption)
      have q4 : x4_1 < (19 : Int) := of_decide_eq_true (by assumption)
      have hx4 := bt_at (⟨#[34, 92, 47, 42, 61, 33, 60, 62, 38, 124, 40, 41, 123, 125, 44, 59, 43, 45, 37]⟩ : ByteArray) x4_1; replace p4 := eq_true p4; replace q4 := eq_true q4; go_wp2
      go_roundg k1
      case measure => have := HK1.out; omega
      case rel => exact ⟨(wrap64 (x4_1 + 1)), (by first | rfl | (simp; done) | simp [*]), H', ⟨by have := HK1.out; omega⟩, by repeat (first | exact zaq.refl _ | apply zaq.step)⟩
    ·rw [if_neg c3] at H
     exact absurd H (by simp)
   ·rw [if_neg c2] at H
    have c2b0 : decide (x4_1 < ((⟨#[34, 92, 47, 42, 61, 33, 60, 62, 38, 124, 40, 41, 123, 125, 44, 59, 43, 45, 37]⟩ : ByteArray).size : Int)) = false := decide_eq_false c2; have c2b0n : decide (x4_1 < 19) = false := c2b0; clear c2; have HC6 := zaa.mk H; clear H; go_upto_region 7 with (fail)
    go_cut [19] (fun v19 wc => ∃ (kq : Nat) (x19_5 : Bool), v19 = .bool x19_5 ∧ zaa (zam.j1 kq a0 x19_5 = some r) ∧ zaa (kq ≤ k1) ∧ zaq w wc)
    case first =>
     have H := HC6.out; clear HC6; by_cases c7 : a0 = 32
     ·rw [if_pos c7] at H
      have c7b0 : (a0 == 32) = true := beq_iff_eq.mpr c7; have c7b1 : (a0 != 32) = false := bne_eq_false_iff_eq.mpr c7; clear c7
      (first | rw [c7b0] | (simp only [i64_w, i32_w]; rw [c7b0]) | skip)
      have H' := zaa.mk H; clear H; go_wp2
      go_meet
      case rel => exact ⟨_, (true), (by first | rfl | (simp; done) | simp [*]), H', ⟨by have := HK1.out; first | omega | exact Nat.le_refl _⟩, by repeat (first | exact zaq.refl _ | apply zaq.step)⟩
     ·rw [if_neg c7] at H
      have c7b0 : (a0 == 32) = false := beq_eq_false_iff_ne.mpr c7; have c7b1 : (a0 != 32) = true := bne_iff_ne.mpr c7
      (first | rw [c7b0] | (simp only [i64_w, i32_w]; rw [c7b0]) | skip)
      have H' := zaa.mk H; clear H; go_wp2
      go_meet
      case rel => exact ⟨_, ((a0 == 9)), (by first | rfl | (simp; done) | simp [*]), H', ⟨by have := HK1.out; first | omega | exact Nat.le_refl _⟩, by repeat (first | exact zaq.refl _ | apply zaq.step)⟩
    case rest =>
     clear HC6; try clear c2
     try clear c2b0
     try clear p2
     try clear c3
     try clear c3b0
     try clear p3
     try clear c4
     try clear p4
     try clear q4
     try clear hx4
     try clear c5
     try clear c5b0
     try clear c5b1
     try clear p6
     try clear c7
     try clear c7b0
     try clear c7b1
     try clear p4
     try clear q4
     obtain ⟨kq, x19_5, rfl, HA, HJ5, ⟨mc5, rfl⟩⟩ := hcut; cases kq with
     | zero => exact absurd HA.out (by simp [zam.j1])
     | succ kj5 =>
      have H := HA.out; clear HA; simp only [zam.j1] at H; by_cases c8 : x19_5 = true
      ·subst c8
       have H1 : (some 1) = some r := by rw [if_pos rfl] at H; exact H
       clear H; have H := H1; clear H1; obtain rfl := Option.some.inj H; go_wp2
       go_ret
       exact ⟨by first | rfl | (simp; done) | simp [*], by repeat (first | exact zaq.refl _ | apply zaq.step)⟩
      ·replace c8 := Bool.eq_false_iff.mpr c8
       subst c8; have H1 : (if a0 = 10 then (zam.j2 kj5 a0 true) else (zam.j2 kj5 a0 (a0 == 13))) = some r := by rw [if_neg (show ¬ (false = true) by decide)] at H; exact H
       clear H; have H := H1; clear H1; have HC9 := zaa.mk H; clear H; go_upto_region 9 with (fail)
       go_cut [26] (fun v26 wc => ∃ (kq : Nat) (x26_8 : Bool), v26 = .bool x26_8 ∧ zaa (zam.j2 kq a0 x26_8 = some r) ∧ zaa (kq ≤ kj5) ∧ zaq w wc)
       case first =>
        have H := HC9.out; clear HC9; by_cases c10 : a0 = 10
        ·rw [if_pos c10] at H
         have c10b0 : (a0 == 10) = true := beq_iff_eq.mpr c10; have c10b1 : (a0 != 10) = false := bne_eq_false_iff_eq.mpr c10; clear c10
         (first | rw [c10b0] | (simp only [i64_w, i32_w]; rw [c10b0]) | skip)
         have H' := zaa.mk H; clear H; go_wp2
         go_meet
         case rel => exact ⟨_, (true), (by first | rfl | (simp; done) | simp [*]), H', ⟨by have := HK1.out; have := HJ5.out; first | omega | exact Nat.le_refl _⟩, by repeat (first | exact zaq.refl _ | apply zaq.step)⟩
        ·rw [if_neg c10] at H
         have c10b0 : (a0 == 10) = false := beq_eq_false_iff_ne.mpr c10; have c10b1 : (a0 != 10) = true := bne_iff_ne.mpr c10
         (first | rw [c10b0] | (simp only [i64_w, i32_w]; rw [c10b0]) | skip)
         have H' := zaa.mk H; clear H; go_wp2
         go_meet
         case rel => exact ⟨_, ((a0 == 13)), (by first | rfl | (simp; done) | simp [*]), H', ⟨by have := HK1.out; have := HJ5.out; first | omega | exact Nat.le_refl _⟩, by repeat (first | exact zaq.refl _ | apply zaq.step)⟩
       case rest =>
        clear HC9; try clear c1
        try clear c2
        try clear c2b0
        try clear p2
        try clear c3
        try clear c3b0
        try clear p3
        try clear c4
        try clear p4
        try clear q4
        try clear hx4
        try clear c5
        try clear c5b0
        try clear c5b1
        try clear p6
        try clear c7
        try clear c7b0
        try clear c7b1
        try clear c8
        try clear c10
        try clear c10b0
        try clear c10b1
        try clear p2
        try clear p3
        try clear p4
        try clear p6
        try clear q4
        obtain ⟨kq, x26_8, rfl, HA, HJ8, ⟨mc8, rfl⟩⟩ := hcut; cases kq with
        | zero => exact absurd HA.out (by simp [zam.j2])
        | succ kj8 =>
         have H := HA.out; clear HA; simp only [zam.j2] at H; by_cases c11 : x26_8 = true
         ·subst c11
          have H1 : (some 2) = some r := by rw [if_pos rfl] at H; exact H
          clear H; have H := H1; clear H1; obtain rfl := Option.some.inj H; go_wp2
          go_ret
          exact ⟨by first | rfl | (simp; done) | simp [*], by repeat (first | exact zaq.refl _ | apply zaq.step)⟩
         ·replace c11 := Bool.eq_false_iff.mpr c11
          subst c11; have H1 : (if a0 = 95 then (zam.j3 kj8 a0 true) else (if a0 ≥ 97 then (if a0 ≤ 122 then (zam.j3 kj8 a0 true) else (if a0 ≥ 65 then (zam.j3 kj8 a0 (decide (a0 ≤ 90))) else (zam.j3 kj8 a0 false))) else (if a0 ≥ 65 then (zam.j3 kj8 a0 (decide (a0 ≤ 90))) else (zam.j3 kj8 a0 false)))) = some r := by rw [if_neg (show ¬ (false = true) by decide)] at H; exact H
          clear H; have H := H1; clear H1; have HC12 := zaa.mk H; clear H; go_upto_region 11 with (fail)
          go_cut [33] (fun v33 wc => ∃ (kq : Nat) (x33_11 : Bool), v33 = .bool x33_11 ∧ zaa (zam.j3 kq a0 x33_11 = some r) ∧ zaa (kq ≤ kj8) ∧ zaq w wc)
          case first =>
           have H := HC12.out; clear HC12; by_cases c13 : a0 = 95
           ·rw [if_pos c13] at H
            have c13b0 : (a0 == 95) = true := beq_iff_eq.mpr c13; have c13b1 : (a0 != 95) = false := bne_eq_false_iff_eq.mpr c13; clear c13
            (first | rw [c13b0] | (simp only [i64_w, i32_w]; rw [c13b0]) | skip)
            have H' := zaa.mk H; clear H; go_wp2
            go_meet
            case rel => exact ⟨_, (true), (by first | rfl | (simp; done) | simp [*]), H', ⟨by have := HK1.out; have := HJ5.out; have := HJ8.out; first | omega | exact Nat.le_refl _⟩, by repeat (first | exact zaq.refl _ | apply zaq.step)⟩
           ·rw [if_neg c13] at H
            have c13b0 : (a0 == 95) = false := beq_eq_false_iff_ne.mpr c13; have c13b1 : (a0 != 95) = true := bne_iff_ne.mpr c13
            (first | rw [c13b0] | (simp only [i64_w, i32_w]; rw [c13b0]) | skip)
            by_cases c14 : a0 ≥ 97
            ·rw [if_pos c14] at H
             have c14b0 : decide (97 ≤ a0) = true := decide_eq_true c14; clear c14; by_cases c15 : a0 ≤ 122
             ·rw [if_pos c15] at H
              have c15b0 : decide (a0 ≤ 122) = true := decide_eq_true c15; clear c15; have H' := zaa.mk H; clear H; go_wp2
              go_meet
              case rel => exact ⟨_, (true), (by first | rfl | (simp; done) | simp [*]), H', ⟨by have := HK1.out; have := HJ5.out; have := HJ8.out; first | omega | exact Nat.le_refl _⟩, by repeat (first | exact zaq.refl _ | apply zaq.step)⟩
             ·rw [if_neg c15] at H
              have c15b0 : decide (a0 ≤ 122) = false := decide_eq_false c15; clear c15; by_cases c16 : a0 ≥ 65
              ·rw [if_pos c16] at H
               have c16b0 : decide (65 ≤ a0) = true := decide_eq_true c16; clear c16; have H' := zaa.mk H; clear H; go_wp2
               go_meet
               case rel => exact ⟨_, (decide (a0 ≤ 90)), (by first | rfl | (simp; done) | simp [*]), H', ⟨by have := HK1.out; have := HJ5.out; have := HJ8.out; first | omega | exact Nat.le_refl _⟩, by repeat (first | exact zaq.refl _ | apply zaq.step)⟩
              ·rw [if_neg c16] at H
               have c16b0 : decide (65 ≤ a0) = false := decide_eq_false c16; clear c16; have H' := zaa.mk H; clear H; go_wp2
               go_meet
               case rel => exact ⟨_, (false), (by first | rfl | (simp; done) | simp [*]), H', ⟨by have := HK1.out; have := HJ5.out; have := HJ8.out; first | omega | exact Nat.le_refl _⟩, by repeat (first | exact zaq.refl _ | apply zaq.step)⟩
            ·rw [if_neg c14] at H
             have c14b0 : decide (97 ≤ a0) = false := decide_eq_false c14; clear c14; by_cases c17 : a0 ≥ 65
             ·rw [if_pos c17] at H
              have c17b0 : decide (65 ≤ a0) = true := decide_eq_true c17; clear c17; have H' := zaa.mk H; clear H; go_wp2
              go_meet
              case rel => exact ⟨_, (decide (a0 ≤ 90)), (by first | rfl | (simp; done) | simp [*]), H', ⟨by have := HK1.out; have := HJ5.out; have := HJ8.out; first | omega | exact Nat.le_refl _⟩, by repeat (first | exact zaq.refl _ | apply zaq.step)⟩
             ·rw [if_neg c17] at H
              have c17b0 : decide (65 ≤ a0) = false := decide_eq_false c17; clear c17; have H' := zaa.mk H; clear H; go_wp2
              go_meet
              case rel => exact ⟨_, (false), (by first | rfl | (simp; done) | simp [*]), H', ⟨by have := HK1.out; have := HJ5.out; have := HJ8.out; first | omega | exact Nat.le_refl _⟩, by repeat (first | exact zaq.refl _ | apply zaq.step)⟩
          case rest =>
           clear HC12; try clear c1
           try clear c2
           try clear c2b0
           try clear p2
           try clear c3
           try clear c3b0
           try clear p3
           try clear c4
           try clear p4
           try clear q4
           try clear hx4
           try clear c5
           try clear c5b0
           try clear c5b1
           try clear p6
           try clear c7
           try clear c7b0
           try clear c7b1
           try clear c8
           try clear c10
           try clear c10b0
           try clear c10b1
           try clear c11
           try clear c13
           try clear c13b0
           try clear c13b1
           try clear c14
           try clear c14b0
           try clear c15
           try clear c15b0
           try clear c16
           try clear c16b0
           try clear c17
           try clear c17b0
           try clear p2
           try clear p3
           try clear p4
           try clear p6
           try clear q4
           obtain ⟨kq, x33_11, rfl, HA, HJ11, ⟨mc11, rfl⟩⟩ := hcut; cases kq with
           | zero => exact absurd HA.out (by simp [zam.j3])
           | succ kj11 =>
            have H := HA.out; clear HA; simp only [zam.j3] at H; by_cases c18 : x33_11 = true
            ·subst c18
             have H1 : (some 3) = some r := by rw [if_pos rfl] at H; exact H
             clear H; have H := H1; clear H1; obtain rfl := Option.some.inj H; go_wp2
             go_ret
             exact ⟨by first | rfl | (simp; done) | simp [*], by repeat (first | exact zaq.refl _ | apply zaq.step)⟩
            ·replace c18 := Bool.eq_false_iff.mpr c18
             subst c18; have H1 : (if a0 ≥ 48 then (if a0 ≤ 57 then (some 4) else (some 0)) else (some 0)) = some r := by rw [if_neg (show ¬ (false = true) by decide)] at H; exact H
             clear H; have H := H1; clear H1; by_cases c19 : a0 ≥ 48
             ·rw [if_pos c19] at H
              have c19b0 : decide (48 ≤ a0) = true := decide_eq_true c19; clear c19; by_cases c20 : a0 ≤ 57
              ·rw [if_pos c20] at H
               have c20b0 : decide (a0 ≤ 57) = true := decide_eq_true c20; clear c20; obtain rfl := Option.some.inj H; go_wp2
               go_ret
               exact ⟨by first | rfl | (simp; done) | simp [*], by repeat (first | exact zaq.refl _ | apply zaq.step)⟩
              ·rw [if_neg c20] at H
               have c20b0 : decide (a0 ≤ 57) = false := decide_eq_false c20; clear c20; obtain rfl := Option.some.inj H; go_wp2
               go_ret
               exact ⟨by first | rfl | (simp; done) | simp [*], by repeat (first | exact zaq.refl _ | apply zaq.step)⟩
             ·rw [if_neg c19] at H
              have c19b0 : decide (48 ≤ a0) = false := decide_eq_false c19; clear c19; obtain rfl := Option.some.inj H; go_wp2
              go_ret
              exact ⟨by first | rfl | (simp; done) | simp [*], by repeat (first | exact zaq.refl _ | apply zaq.step)⟩
def zbG.f (a0 : Int) : Option (Int) := (some (([0, 1, 36, 2, 4, 4, 3, 6, 7, 9, 9, 8, 26, 27, 38, 28, 29, 30, 31, 32, 5, 39, 5, 40, 20, 21, 22, 23, 24, 25, 33, 34, 35, 37, 5] : List Int) : List Int)).bind fun y311 => (if a0 < 0 then (some 0) else (if a0 ≥ (y311.length : Int) then (some 0) else (if 0 ≤ a0 then (if a0 < (y311.length : Int) then (some (rd y311 a0)) else (none)) else (none))))
theorem zbG.calls (a0 : Int) (r : Int) (w : World) (h : zbG.f a0 = some r) :
  Calls Tryd.prog 44 #[.int .i64 a0] w fun e w' => e = .returned (.int .u8 r) ∧ Below w.heap.size w w' := by
 have HB := zaa.mk (Below.refl w.heap.size w); have H : ((some (([0, 1, 36, 2, 4, 4, 3, 6, 7, 9, 9, 8, 26, 27, 38, 28, 29, 30, 31, 32, 5, 39, 5, 40, 20, 21, 22, 23, 24, 25, 33, 34, 35, 37, 5] : List Int) : List Int)).bind fun y311 => (if a0 < 0 then (some 0) else (if a0 ≥ (y311.length : Int) then (some 0) else (if 0 ≤ a0 then (if a0 < (y311.length : Int) then (some (rd y311 a0)) else (none)) else (none))))) = some r := h
 clear h; obtain ⟨y311, hy311⟩ : ∃ y_ : List Int, y_ = (([0, 1, 36, 2, 4, 4, 3, 6, 7, 9, 9, 8, 26, 27, 38, 28, 29, 30, 31, 32, 5, 39, 5, 40, 20, 21, 22, 23, 24, 25, 33, 34, 35, 37, 5] : List Int)) := ⟨_, rfl⟩; replace H : (if a0 < 0 then (some 0) else (if a0 ≥ (y311.length : Int) then (some 0) else (if 0 ≤ a0 then (if a0 < (y311.length : Int) then (some (rd y311 a0)) else (none)) else (none)))) = some r := by first | (rw [hy311]; with_reducible exact H) | (have H2_ := (Option.bind_some _ _).symm.trans H; rw [hy311]; with_reducible exact H2_) | (have H2_ := (Option.bind_some _ _).symm.trans H; with_reducible exact H2_) | with_reducible exact H | (rw [hy311]; exact H) | exact H
 have Ny311 := zaa.mk hy311; clear hy311; by_cases c2 : a0 < 0
 ·rw [if_pos c2] at H
  have c2b0 : decide (a0 < 0) = true := decide_eq_true c2; clear c2; obtain rfl := Option.some.inj H; go_enter Tryd.func44, Tryd.ntmps44
  go_wp2_with (first | ((with_reducible refine za6 (N := 4) rfl ?_); (try (refine zbM (by rfl) ?_; dsimp only)); refine Kd.R_lit (Kd.int .u8) _ 5 ?hg (N := 4) ?hd (xs := ([0, 1, 36, 2, 4, 4, 3, 6, 7, 9, 9, 8, 26, 27, 38, 28, 29, 30, 31, 32, 5, 39, 5, 40, 20, 21, 22, 23, 24, 25, 33, 34, 35, 37, 5] : List Int)) (inner := [.int .u8 0, .int .u8 1, .int .u8 36, .int .u8 2, .int .u8 4, .int .u8 4, .int .u8 3, .int .u8 6, .int .u8 7, .int .u8 9, .int .u8 9, .int .u8 8, .int .u8 26, .int .u8 27, .int .u8 38, .int .u8 28, .int .u8 29, .int .u8 30, .int .u8 31, .int .u8 32, .int .u8 5, .int .u8 39, .int .u8 5, .int .u8 40, .int .u8 20, .int .u8 21, .int .u8 22, .int .u8 23, .int .u8 24, .int .u8 25, .int .u8 33, .int .u8 34, .int .u8 35, .int .u8 37, .int .u8 5]) (ok := fun _ => True) (okp := fun _ => True) ?hr ?hp (fun _ hk => hk) trivial (Below.refl _ _) (Nat.le_refl _) (by simp) ?_; (case hd => rfl); (case hg => rfl); (case hr => first | (go_simp; done) | (go_simp; rfl)); (case hp => exact (Reps.one (show Kd.M (Kd.int .u8) _ _ _ 0 [.int .u8 0] from rfl) (Reps.one (show Kd.M (Kd.int .u8) _ _ _ 1 [.int .u8 1] from rfl) (Reps.one (show Kd.M (Kd.int .u8) _ _ _ 36 [.int .u8 36] from rfl) (Reps.one (show Kd.M (Kd.int .u8) _ _ _ 2 [.int .u8 2] from rfl) (Reps.one (show Kd.M (Kd.int .u8) _ _ _ 4 [.int .u8 4] from rfl) (Reps.one (show Kd.M (Kd.int .u8) _ _ _ 4 [.int .u8 4] from rfl) (Reps.one (show Kd.M (Kd.int .u8) _ _ _ 3 [.int .u8 3] from rfl) (Reps.one (show Kd.M (Kd.int .u8) _ _ _ 6 [.int .u8 6] from rfl) (Reps.one (show Kd.M (Kd.int .u8) _ _ _ 7 [.int .u8 7] from rfl) (Reps.one (show Kd.M (Kd.int .u8) _ _ _ 9 [.int .u8 9] from rfl) (Reps.one (show Kd.M (Kd.int .u8) _ _ _ 9 [.int .u8 9] from rfl) (Reps.one (show Kd.M (Kd.int .u8) _ _ _ 8 [.int .u8 8] from rfl) (Reps.one (show Kd.M (Kd.int .u8) _ _ _ 26 [.int .u8 26] from rfl) (Reps.one (show Kd.M (Kd.int .u8) _ _ _ 27 [.int .u8 27] from rfl) (Reps.one (show Kd.M (Kd.int .u8) _ _ _ 38 [.int .u8 38] from rfl) (Reps.one (show Kd.M (Kd.int .u8) _ _ _ 28 [.int .u8 28] from rfl) (Reps.one (show Kd.M (Kd.int .u8) _ _ _ 29 [.int .u8 29] from rfl) (Reps.one (show Kd.M (Kd.int .u8) _ _ _ 30 [.int .u8 30] from rfl) (Reps.one (show Kd.M (Kd.int .u8) _ _ _ 31 [.int .u8 31] from rfl) (Reps.one (show Kd.M (Kd.int .u8) _ _ _ 32 [.int .u8 32] from rfl) (Reps.one (show Kd.M (Kd.int .u8) _ _ _ 5 [.int .u8 5] from rfl) (Reps.one (show Kd.M (Kd.int .u8) _ _ _ 39 [.int .u8 39] from rfl) (Reps.one (show Kd.M (Kd.int .u8) _ _ _ 5 [.int .u8 5] from rfl) (Reps.one (show Kd.M (Kd.int .u8) _ _ _ 40 [.int .u8 40] from rfl) (Reps.one (show Kd.M (Kd.int .u8) _ _ _ 20 [.int .u8 20] from rfl) (Reps.one (show Kd.M (Kd.int .u8) _ _ _ 21 [.int .u8 21] from rfl) (Reps.one (show Kd.M (Kd.int .u8) _ _ _ 22 [.int .u8 22] from rfl) (Reps.one (show Kd.M (Kd.int .u8) _ _ _ 23 [.int .u8 23] from rfl) (Reps.one (show Kd.M (Kd.int .u8) _ _ _ 24 [.int .u8 24] from rfl) (Reps.one (show Kd.M (Kd.int .u8) _ _ _ 25 [.int .u8 25] from rfl) (Reps.one (show Kd.M (Kd.int .u8) _ _ _ 33 [.int .u8 33] from rfl) (Reps.one (show Kd.M (Kd.int .u8) _ _ _ 34 [.int .u8 34] from rfl) (Reps.one (show Kd.M (Kd.int .u8) _ _ _ 35 [.int .u8 35] from rfl) (Reps.one (show Kd.M (Kd.int .u8) _ _ _ 37 [.int .u8 37] from rfl) (Reps.one (show Kd.M (Kd.int .u8) _ _ _ 5 [.int .u8 5] from rfl) (Reps.none _ _))))))))))))))))))))))))))))))))))))); intro v312 w3 ho4 hb hg_ hnew_; clear hg_ hnew_; (first | rw [← Ny311.out] at ho4 | (simp only [Int.reduceToNat] at ho4; rw [← Ny311.out] at ho4)); have n0_ := zaa.mk (Kd.zbz ho4 (zax (by repeat (first | exact HB.out | apply zad | apply zac | apply zae)))); have n1_ := zaa.mk (zai (by repeat (first | exact HB.out | apply zad | apply zac | apply zae)) hb); clear HB; have HO313 := n0_; have HB := n1_; clear n0_ n1_; clear hb ho4))
  go_ret
  exact ⟨by first | rfl | (simp [*, zaz, zay] <;> rfl), by repeat (first | exact HB.out | apply zad | apply zac | apply zae)⟩
 ·rw [if_neg c2] at H
  have c2b0 : decide (a0 < 0) = false := decide_eq_false c2; clear c2; by_cases c5 : a0 ≥ (y311.length : Int)
  ·rw [if_pos c5] at H
   have c5b0 : decide ((y311.length : Int) ≤ a0) = true := decide_eq_true c5; clear c5; obtain rfl := Option.some.inj H; go_enter Tryd.func44, Tryd.ntmps44
   go_wp2_with (first | ((with_reducible refine za6 (N := 4) rfl ?_); (try (refine zbM (by rfl) ?_; dsimp only)); refine Kd.R_lit (Kd.int .u8) _ 5 ?hg (N := 4) ?hd (xs := ([0, 1, 36, 2, 4, 4, 3, 6, 7, 9, 9, 8, 26, 27, 38, 28, 29, 30, 31, 32, 5, 39, 5, 40, 20, 21, 22, 23, 24, 25, 33, 34, 35, 37, 5] : List Int)) (inner := [.int .u8 0, .int .u8 1, .int .u8 36, .int .u8 2, .int .u8 4, .int .u8 4, .int .u8 3, .int .u8 6, .int .u8 7, .int .u8 9, .int .u8 9, .int .u8 8, .int .u8 26, .int .u8 27, .int .u8 38, .int .u8 28, .int .u8 29, .int .u8 30, .int .u8 31, .int .u8 32, .int .u8 5, .int .u8 39, .int .u8 5, .int .u8 40, .int .u8 20, .int .u8 21, .int .u8 22, .int .u8 23, .int .u8 24, .int .u8 25, .int .u8 33, .int .u8 34, .int .u8 35, .int .u8 37, .int .u8 5]) (ok := fun _ => True) (okp := fun _ => True) ?hr ?hp (fun _ hk => hk) trivial (Below.refl _ _) (Nat.le_refl _) (by simp) ?_; (case hd => rfl); (case hg => rfl); (case hr => first | (go_simp; done) | (go_simp; rfl)); (case hp => exact (Reps.one (show Kd.M (Kd.int .u8) _ _ _ 0 [.int .u8 0] from rfl) (Reps.one (show Kd.M (Kd.int .u8) _ _ _ 1 [.int .u8 1] from rfl) (Reps.one (show Kd.M (Kd.int .u8) _ _ _ 36 [.int .u8 36] from rfl) (Reps.one (show Kd.M (Kd.int .u8) _ _ _ 2 [.int .u8 2] from rfl) (Reps.one (show Kd.M (Kd.int .u8) _ _ _ 4 [.int .u8 4] from rfl) (Reps.one (show Kd.M (Kd.int .u8) _ _ _ 4 [.int .u8 4] from rfl) (Reps.one (show Kd.M (Kd.int .u8) _ _ _ 3 [.int .u8 3] from rfl) (Reps.one (show Kd.M (Kd.int .u8) _ _ _ 6 [.int .u8 6] from rfl) (Reps.one (show Kd.M (Kd.int .u8) _ _ _ 7 [.int .u8 7] from rfl) (Reps.one (show Kd.M (Kd.int .u8) _ _ _ 9 [.int .u8 9] from rfl) (Reps.one (show Kd.M (Kd.int .u8) _ _ _ 9 [.int .u8 9] from rfl) (Reps.one (show Kd.M (Kd.int .u8) _ _ _ 8 [.int .u8 8] from rfl) (Reps.one (show Kd.M (Kd.int .u8) _ _ _ 26 [.int .u8 26] from rfl) (Reps.one (show Kd.M (Kd.int .u8) _ _ _ 27 [.int .u8 27] from rfl) (Reps.one (show Kd.M (Kd.int .u8) _ _ _ 38 [.int .u8 38] from rfl) (Reps.one (show Kd.M (Kd.int .u8) _ _ _ 28 [.int .u8 28] from rfl) (Reps.one (show Kd.M (Kd.int .u8) _ _ _ 29 [.int .u8 29] from rfl) (Reps.one (show Kd.M (Kd.int .u8) _ _ _ 30 [.int .u8 30] from rfl) (Reps.one (show Kd.M (Kd.int .u8) _ _ _ 31 [.int .u8 31] from rfl) (Reps.one (show Kd.M (Kd.int .u8) _ _ _ 32 [.int .u8 32] from rfl) (Reps.one (show Kd.M (Kd.int .u8) _ _ _ 5 [.int .u8 5] from rfl) (Reps.one (show Kd.M (Kd.int .u8) _ _ _ 39 [.int .u8 39] from rfl) (Reps.one (show Kd.M (Kd.int .u8) _ _ _ 5 [.int .u8 5] from rfl) (Reps.one (show Kd.M (Kd.int .u8) _ _ _ 40 [.int .u8 40] from rfl) (Reps.one (show Kd.M (Kd.int .u8) _ _ _ 20 [.int .u8 20] from rfl) (Reps.one (show Kd.M (Kd.int .u8) _ _ _ 21 [.int .u8 21] from rfl) (Reps.one (show Kd.M (Kd.int .u8) _ _ _ 22 [.int .u8 22] from rfl) (Reps.one (show Kd.M (Kd.int .u8) _ _ _ 23 [.int .u8 23] from rfl) (Reps.one (show Kd.M (Kd.int .u8) _ _ _ 24 [.int .u8 24] from rfl) (Reps.one (show Kd.M (Kd.int .u8) _ _ _ 25 [.int .u8 25] from rfl) (Reps.one (show Kd.M (Kd.int .u8) _ _ _ 33 [.int .u8 33] from rfl) (Reps.one (show Kd.M (Kd.int .u8) _ _ _ 34 [.int .u8 34] from rfl) (Reps.one (show Kd.M (Kd.int .u8) _ _ _ 35 [.int .u8 35] from rfl) (Reps.one (show Kd.M (Kd.int .u8) _ _ _ 37 [.int .u8 37] from rfl) (Reps.one (show Kd.M (Kd.int .u8) _ _ _ 5 [.int .u8 5] from rfl) (Reps.none _ _))))))))))))))))))))))))))))))))))))); intro v312 w6 ho7 hb hg_ hnew_; clear hg_ hnew_; (first | rw [← Ny311.out] at ho7 | (simp only [Int.reduceToNat] at ho7; rw [← Ny311.out] at ho7)); have n0_ := zaa.mk (Kd.zbz ho7 (zax (by repeat (first | exact HB.out | apply zad | apply zac | apply zae)))); have n1_ := zaa.mk (zai (by repeat (first | exact HB.out | apply zad | apply zac | apply zae)) hb); clear HB; have HO313 := n0_; have HB := n1_; clear n0_ n1_; clear hb ho7; obtain ⟨Ao8, co8, eo8⟩ := Kd.zbo HO313.out; subst eo8))
   go_ret
   exact ⟨by first | rfl | (simp [*, zaz, zay] <;> rfl), by repeat (first | exact HB.out | apply zad | apply zac | apply zae)⟩
  ·rw [if_neg c5] at H
   have c5b0 : decide ((y311.length : Int) ≤ a0) = false := decide_eq_false c5; clear c5; by_cases c9 : 0 ≤ a0
   ·rw [if_pos c9] at H
    have c9b0 : decide (0 ≤ a0) = true := decide_eq_true c9; clear c9; by_cases c10 : a0 < (y311.length : Int)
    ·rw [if_pos c10] at H
     have c10b0 : decide (a0 < (y311.length : Int)) = true := decide_eq_true c10; clear c10; obtain rfl := Option.some.inj H; go_enter Tryd.func44, Tryd.ntmps44
     go_wp2_with (first | ((with_reducible refine za6 (N := 4) rfl ?_); (try (refine zbM (by rfl) ?_; dsimp only)); refine Kd.R_lit (Kd.int .u8) _ 5 ?hg (N := 4) ?hd (xs := ([0, 1, 36, 2, 4, 4, 3, 6, 7, 9, 9, 8, 26, 27, 38, 28, 29, 30, 31, 32, 5, 39, 5, 40, 20, 21, 22, 23, 24, 25, 33, 34, 35, 37, 5] : List Int)) (inner := [.int .u8 0, .int .u8 1, .int .u8 36, .int .u8 2, .int .u8 4, .int .u8 4, .int .u8 3, .int .u8 6, .int .u8 7, .int .u8 9, .int .u8 9, .int .u8 8, .int .u8 26, .int .u8 27, .int .u8 38, .int .u8 28, .int .u8 29, .int .u8 30, .int .u8 31, .int .u8 32, .int .u8 5, .int .u8 39, .int .u8 5, .int .u8 40, .int .u8 20, .int .u8 21, .int .u8 22, .int .u8 23, .int .u8 24, .int .u8 25, .int .u8 33, .int .u8 34, .int .u8 35, .int .u8 37, .int .u8 5]) (ok := fun _ => True) (okp := fun _ => True) ?hr ?hp (fun _ hk => hk) trivial (Below.refl _ _) (Nat.le_refl _) (by simp) ?_; (case hd => rfl); (case hg => rfl); (case hr => first | (go_simp; done) | (go_simp; rfl)); (case hp => exact (Reps.one (show Kd.M (Kd.int .u8) _ _ _ 0 [.int .u8 0] from rfl) (Reps.one (show Kd.M (Kd.int .u8) _ _ _ 1 [.int .u8 1] from rfl) (Reps.one (show Kd.M (Kd.int .u8) _ _ _ 36 [.int .u8 36] from rfl) (Reps.one (show Kd.M (Kd.int .u8) _ _ _ 2 [.int .u8 2] from rfl) (Reps.one (show Kd.M (Kd.int .u8) _ _ _ 4 [.int .u8 4] from rfl) (Reps.one (show Kd.M (Kd.int .u8) _ _ _ 4 [.int .u8 4] from rfl) (Reps.one (show Kd.M (Kd.int .u8) _ _ _ 3 [.int .u8 3] from rfl) (Reps.one (show Kd.M (Kd.int .u8) _ _ _ 6 [.int .u8 6] from rfl) (Reps.one (show Kd.M (Kd.int .u8) _ _ _ 7 [.int .u8 7] from rfl) (Reps.one (show Kd.M (Kd.int .u8) _ _ _ 9 [.int .u8 9] from rfl) (Reps.one (show Kd.M (Kd.int .u8) _ _ _ 9 [.int .u8 9] from rfl) (Reps.one (show Kd.M (Kd.int .u8) _ _ _ 8 [.int .u8 8] from rfl) (Reps.one (show Kd.M (Kd.int .u8) _ _ _ 26 [.int .u8 26] from rfl) (Reps.one (show Kd.M (Kd.int .u8) _ _ _ 27 [.int .u8 27] from rfl) (Reps.one (show Kd.M (Kd.int .u8) _ _ _ 38 [.int .u8 38] from rfl) (Reps.one (show Kd.M (Kd.int .u8) _ _ _ 28 [.int .u8 28] from rfl) (Reps.one (show Kd.M (Kd.int .u8) _ _ _ 29 [.int .u8 29] from rfl) (Reps.one (show Kd.M (Kd.int .u8) _ _ _ 30 [.int .u8 30] from rfl) (Reps.one (show Kd.M (Kd.int .u8) _ _ _ 31 [.int .u8 31] from rfl) (Reps.one (show Kd.M (Kd.int .u8) _ _ _ 32 [.int .u8 32] from rfl) (Reps.one (show Kd.M (Kd.int .u8) _ _ _ 5 [.int .u8 5] from rfl) (Reps.one (show Kd.M (Kd.int .u8) _ _ _ 39 [.int .u8 39] from rfl) (Reps.one (show Kd.M (Kd.int .u8) _ _ _ 5 [.int .u8 5] from rfl) (Reps.one (show Kd.M (Kd.int .u8) _ _ _ 40 [.int .u8 40] from rfl) (Reps.one (show Kd.M (Kd.int .u8) _ _ _ 20 [.int .u8 20] from rfl) (Reps.one (show Kd.M (Kd.int .u8) _ _ _ 21 [.int .u8 21] from rfl) (Reps.one (show Kd.M (Kd.int .u8) _ _ _ 22 [.int .u8 22] from rfl) (Reps.one (show Kd.M (Kd.int .u8) _ _ _ 23 [.int .u8 23] from rfl) (Reps.one (show Kd.M (Kd.int .u8) _ _ _ 24 [.int .u8 24] from rfl) (Reps.one (show Kd.M (Kd.int .u8) _ _ _ 25 [.int .u8 25] from rfl) (Reps.one (show Kd.M (Kd.int .u8) _ _ _ 33 [.int .u8 33] from rfl) (Reps.one (show Kd.M (Kd.int .u8) _ _ _ 34 [.int .u8 34] from rfl) (Reps.one (show Kd.M (Kd.int .u8) _ _ _ 35 [.int .u8 35] from rfl) (Reps.one (show Kd.M (Kd.int .u8) _ _ _ 37 [.int .u8 37] from rfl) (Reps.one (show Kd.M (Kd.int .u8) _ _ _ 5 [.int .u8 5] from rfl) (Reps.none _ _))))))))))))))))))))))))))))))))))))); intro v312 w11 ho12 hb hg_ hnew_; clear hg_ hnew_; (first | rw [← Ny311.out] at ho12 | (simp only [Int.reduceToNat] at ho12; rw [← Ny311.out] at ho12)); have n0_ := zaa.mk (Kd.zbz ho12 (zax (by repeat (first | exact HB.out | apply zad | apply zac | apply zae)))); have n1_ := zaa.mk (zai (by repeat (first | exact HB.out | apply zad | apply zac | apply zae)) hb); clear HB; have HO313 := n0_; have HB := n1_; clear n0_ n1_; clear hb ho12; obtain ⟨Ao13, co13, eo13⟩ := Kd.zbo HO313.out; subst eo13; have p314 : 0 ≤ (a0 : Int) := of_decide_eq_true (by assumption); have q314 : a0 < (y311.length : Int) := of_decide_eq_true (by assumption); obtain ⟨ad314, e314, hx314_0⟩ := Kd.at_int (Kd.za0 HO313.out).2.2 a0 p314 q314; cases e314; replace p314 := eq_true p314; replace q314 := eq_true q314))
     go_ret
     exact ⟨by first | rfl | (simp [*, zaz, zay] <;> rfl), by repeat (first | exact HB.out | apply zad | apply zac | apply zae)⟩
    ·rw [if_neg c10] at H
     exact absurd H (by simp)
   ·rw [if_neg c9] at H
    exact absurd H (by simp)
mutual
def zaJ.l0 : Nat → ByteArray → Int → Option (Int)
 | 0, _, _ => none
 | k + 1, x0, x3 => if x3 < (x0.size : Int) then (if 0 ≤ x3 then ((zam.f k (wrap32 (bt x0 x3))).bind fun t315 => (if t315 = 3 then (if x3 = 0 then (if t315 = 4 then (some 0) else (zaJ.l0 k x0 (wrap64 (x3 + 1)))) else (zaJ.l0 k x0 (wrap64 (x3 + 1)))) else (if t315 = 4 then (if x3 = 0 then (some 0) else (zaJ.l0 k x0 (wrap64 (x3 + 1)))) else (some 0)))) else (none)) else (zaJ.l1 k x0 (([(⟨#[108, 101, 116]⟩ : ByteArray), (⟨#[102, 110]⟩ : ByteArray), (⟨#[105, 102]⟩ : ByteArray), (⟨#[101, 108, 115, 101]⟩ : ByteArray), (⟨#[119, 104, 105, 108, 101]⟩ : ByteArray), (⟨#[114, 101, 116, 117, 114, 110]⟩ : ByteArray), (⟨#[116, 114, 117, 101]⟩ : ByteArray), (⟨#[102, 97, 108, 115, 101]⟩ : ByteArray)] : List ByteArray)) 0)
def zaJ.l1 : Nat → ByteArray → List ByteArray → Int → Option (Int)
 | 0, _, _, _ => none
 | k + 1, x0, x5, x6 => if x6 < (x5.length : Int) then (if 0 ≤ x6 then (if x0.toList = (rdOf ByteArray.empty x5 x6).toList then (some ((wrap64 (10 + x6)) % 256)) else (zaJ.l1 k x0 x5 (wrap64 (x6 + 1)))) else (none)) else (some 6)
end
def zaJ.f (k : Nat) (a0 : ByteArray) : Option (Int) := if a0.toList = ([] : List UInt8) then (some 0) else (zaJ.l0 k a0 0)
theorem zaJ.calls (k : Nat) (a0 : ByteArray) (r : Int) (w : World) (h : zaJ.f k a0 = some r) :
  Calls Tryd.prog 45 #[.string a0] w fun e w' => e = .returned (.int .u8 r) ∧ Below w.heap.size w w' := by
 have HB := zaa.mk (Below.refl w.heap.size w); have H : (if a0.toList = ([] : List UInt8) then (some 0) else (zaJ.l0 k a0 0)) = some r := h
 clear h; by_cases c2 : a0.toList = ([] : List UInt8)
 ·rw [if_pos c2] at H
  have c2b0 : (a0.toList == ([] : List UInt8)) = true := beq_iff_eq.mpr c2; have c2b1 : (a0.toList != ([] : List UInt8)) = false := bne_eq_false_iff_eq.mpr c2; clear c2; obtain rfl := Option.some.inj H; go_enter Tryd.func45, Tryd.ntmps45
  go_wp2
  go_ret
  exact ⟨by first | rfl | (simp [*, zaz, zay] <;> rfl), by repeat (first | exact HB.out | apply zad | apply zac | apply zae)⟩
 ·rw [if_neg c2] at H
  have c2b0 : (a0.toList == ([] : List UInt8)) = false := beq_eq_false_iff_ne.mpr c2; have c2b1 : (a0.toList != ([] : List UInt8)) = true := bne_iff_ne.mpr c2; have H' := zaa.mk H; clear H; go_enter Tryd.func45, Tryd.ntmps45
  go_wp2
  go_loopg [3] k (fun kq v3 w' => ∃ (x3_1 : Int), v3 = .int .i64 x3_1 ∧ zaa (zaJ.l0 kq a0 x3_1 = some r) ∧ zaa (kq ≤ k) ∧ zaa (Below w.heap.size w w'))
  case atStart => exact ⟨(0), (by first | rfl | (simp; done) | simp [*]), H', ⟨Nat.le_refl _⟩, ⟨by repeat (first | exact HB.out | apply zad | apply zac | apply zae)⟩⟩
  case round =>
   clear H'; try clear c2
   try clear c2b0
   try clear c2b1
   try clear p2
   obtain ⟨x3_1, rfl, HA, HK1, HB⟩ := hrel; cases gk with
   | zero => exact absurd HA.out (by simp [zaJ.l0])
   | succ k1 =>
    have H := HA.out; clear HA; simp only [zaJ.l0] at H; by_cases c3 : x3_1 < (a0.size : Int)
    ·rw [if_pos c3] at H
     have c3b0 : decide (x3_1 < (a0.size : Int)) = true := decide_eq_true c3; clear c3; by_cases c4 : 0 ≤ x3_1
     ·rw [if_pos c4] at H
      have c4b0 : decide (0 ≤ x3_1) = true := decide_eq_true c4; clear c4; replace H := Option.bind_eq_some_iff.mp H; obtain ⟨t315, A60, H⟩ := H; replace H : (if t315 = 3 then (if x3_1 = 0 then (if t315 = 4 then (some 0) else (zaJ.l0 k1 a0 (wrap64 (x3_1 + 1)))) else (zaJ.l0 k1 a0 (wrap64 (x3_1 + 1)))) else (if t315 = 4 then (if x3_1 = 0 then (some 0) else (zaJ.l0 k1 a0 (wrap64 (x3_1 + 1)))) else (some 0))) = some r := H
      have A6 := zaa.mk A60; clear A60; by_cases c7 : t315 = 3
      ·rw [if_pos c7] at H
       have c7b0 : (t315 == 3) = true := beq_iff_eq.mpr c7; have c7b1 : (t315 != 3) = false := bne_eq_false_iff_eq.mpr c7; clear c7; by_cases c8 : x3_1 = 0
       ·rw [if_pos c8] at H
        have c8b0 : (x3_1 == 0) = true := beq_iff_eq.mpr c8; have c8b1 : (x3_1 != 0) = false := bne_eq_false_iff_eq.mpr c8; clear c8; by_cases c9 : t315 = 4
        ·rw [if_pos c9] at H
         have c9b0 : (t315 == 4) = true := beq_iff_eq.mpr c9; have c9b1 : (t315 != 4) = false := bne_eq_false_iff_eq.mpr c9; clear c9; obtain rfl := Option.some.inj H; have p5 : 0 ≤ (x3_1 : Int) := of_decide_eq_true (by assumption)
         have q5 : x3_1 < (a0.size : Int) := of_decide_eq_true (by assumption)
         have hx5 := bt_at a0 x3_1; replace p5 := eq_true p5; replace q5 := eq_true q5; go_wp2_with (first | ((with_reducible refine zaK (f := 43) rfl ?_); refine zbk (some 19) rfl rfl Tryd.func43 (by kernel_rfl) rfl #[.int .i32 (wrap32 (bt a0 x3_1))] rfl (by (try simp only [List.map_toArray, List.map_cons, List.map_nil]); first | done | rfl | (simp only [List.length_drop, List.length_take]; rfl)) ?_; (with_reducible refine (zam.calls k1 (wrap32 (bt a0 x3_1)) t315 _ A6.out).mono ?_); rintro e w' ⟨rfl, ⟨nd, rfl⟩⟩; refine ⟨_, rfl, ?_⟩))
         go_ret
         exact ⟨by first | rfl | (simp [*, zaz, zay] <;> rfl), by repeat (first | exact HB.out | apply zad | apply zac | apply zae)⟩
        ·rw [if_neg c9] at H
         have c9b0 : (t315 == 4) = false := beq_eq_false_iff_ne.mpr c9; have c9b1 : (t315 != 4) = true := bne_iff_ne.mpr c9; have H' := zaa.mk H; clear H; have p5 : 0 ≤ (x3_1 : Int) := of_decide_eq_true (by assumption)
         have q5 : x3_1 < (a0.size : Int) := of_decide_eq_true (by assumption)
         have hx5 := bt_at a0 x3_1; replace p5 := eq_true p5; replace q5 := eq_true q5; go_wp2_with (first | ((with_reducible refine zaK (f := 43) rfl ?_); refine zbk (some 19) rfl rfl Tryd.func43 (by kernel_rfl) rfl #[.int .i32 (wrap32 (bt a0 x3_1))] rfl (by (try simp only [List.map_toArray, List.map_cons, List.map_nil]); first | done | rfl | (simp only [List.length_drop, List.length_take]; rfl)) ?_; (with_reducible refine (zam.calls k1 (wrap32 (bt a0 x3_1)) t315 _ A6.out).mono ?_); rintro e w' ⟨rfl, ⟨nd, rfl⟩⟩; refine ⟨_, rfl, ?_⟩))
         go_roundg k1
         case measure => have := HK1.out; omega
         case rel => exact ⟨(wrap64 (x3_1 + 1)), (by first | rfl | (simp; done) | simp [*]), H', ⟨by have := HK1.out; omega⟩, ⟨by repeat (first | exact HB.out | apply zad | apply zac | apply zae)⟩⟩
       ·rw [if_neg c8] at H
        have c8b0 : (x3_1 == 0) = false := beq_eq_false_iff_ne.mpr c8; have c8b1 : (x3_1 != 0) = true := bne_iff_ne.mpr c8; have H' := zaa.mk H; clear H; have p5 : 0 ≤ (x3_1 : Int) := of_decide_eq_true (by assumption)
        have q5 : x3_1 < (a0.size : Int) := of_decide_eq_true (by assumption)
        have hx5 := bt_at a0 x3_1; replace p5 := eq_true p5; replace q5 := eq_true q5; go_wp2_with (first | ((with_reducible refine zaK (f := 43) rfl ?_); refine zbk (some 19) rfl rfl Tryd.func43 (by kernel_rfl) rfl #[.int .i32 (wrap32 (bt a0 x3_1))] rfl (by (try simp only [List.map_toArray, List.map_cons, List.map_nil]); first | done | rfl | (simp only [List.length_drop, List.length_take]; rfl)) ?_; (with_reducible refine (zam.calls k1 (wrap32 (bt a0 x3_1)) t315 _ A6.out).mono ?_); rintro e w' ⟨rfl, ⟨nd, rfl⟩⟩; refine ⟨_, rfl, ?_⟩))
        go_roundg k1
        case measure => have := HK1.out; omega
        case rel => exact ⟨(wrap64 (x3_1 + 1)), (by first | rfl | (simp; done) | simp [*]), H', ⟨by have := HK1.out; omega⟩, ⟨by repeat (first | exact HB.out | apply zad | apply zac | apply zae)⟩⟩
      ·rw [if_neg c7] at H
       have c7b0 : (t315 == 3) = false := beq_eq_false_iff_ne.mpr c7; have c7b1 : (t315 != 3) = true := bne_iff_ne.mpr c7; by_cases c10 : t315 = 4
       ·rw [if_pos c10] at H
        have c10b0 : (t315 == 4) = true := beq_iff_eq.mpr c10; have c10b1 : (t315 != 4) = false := bne_eq_false_iff_eq.mpr c10; clear c10; by_cases c11 : x3_1 = 0
        ·rw [if_pos c11] at H
         have c11b0 : (x3_1 == 0) = true := beq_iff_eq.mpr c11; have c11b1 : (x3_1 != 0) = false := bne_eq_false_iff_eq.mpr c11; clear c11; obtain rfl := Option.some.inj H; have p5 : 0 ≤ (x3_1 : Int) := of_decide_eq_true (by assumption)
         have q5 : x3_1 < (a0.size : Int) := of_decide_eq_true (by assumption)
         have hx5 := bt_at a0 x3_1; replace p5 := eq_true p5; replace q5 := eq_true q5; go_wp2_with (first | ((with_reducible refine zaK (f := 43) rfl ?_); refine zbk (some 19) rfl rfl Tryd.func43 (by kernel_rfl) rfl #[.int .i32 (wrap32 (bt a0 x3_1))] rfl (by (try simp only [List.map_toArray, List.map_cons, List.map_nil]); first | done | rfl | (simp only [List.length_drop, List.length_take]; rfl)) ?_; (with_reducible refine (zam.calls k1 (wrap32 (bt a0 x3_1)) t315 _ A6.out).mono ?_); rintro e w' ⟨rfl, ⟨nd, rfl⟩⟩; refine ⟨_, rfl, ?_⟩))
         go_ret
         exact ⟨by first | rfl | (simp [*, zaz, zay] <;> rfl), by repeat (first | exact HB.out | apply zad | apply zac | apply zae)⟩
        ·rw [if_neg c11] at H
         have c11b0 : (x3_1 == 0) = false := beq_eq_false_iff_ne.mpr c11; have c11b1 : (x3_1 != 0) = true := bne_iff_ne.mpr c11; have H' := zaa.mk H; clear H; have p5 : 0 ≤ (x3_1 : Int) := of_decide_eq_true (by assumption)
         have q5 : x3_1 < (a0.size : Int) := of_decide_eq_true (by assumption)
         have hx5 := bt_at a0 x3_1; replace p5 := eq_true p5; replace q5 := eq_true q5; go_wp2_with (first | ((with_reducible refine zaK (f := 43) rfl ?_); refine zbk (some 19) rfl rfl Tryd.func43 (by kernel_rfl) rfl #[.int .i32 (wrap32 (bt a0 x3_1))] rfl (by (try simp only [List.map_toArray, List.map_cons, List.map_nil]); first | done | rfl | (simp only [List.length_drop, List.length_take]; rfl)) ?_; (with_reducible refine (zam.calls k1 (wrap32 (bt a0 x3_1)) t315 _ A6.out).mono ?_); rintro e w' ⟨rfl, ⟨nd, rfl⟩⟩; refine ⟨_, rfl, ?_⟩))
         go_roundg k1
         case measure => have := HK1.out; omega
         case rel => exact ⟨(wrap64 (x3_1 + 1)), (by first | rfl | (simp; done) | simp [*]), H', ⟨by have := HK1.out; omega⟩, ⟨by repeat (first | exact HB.out | apply zad | apply zac | apply zae)⟩⟩
       ·rw [if_neg c10] at H
        have c10b0 : (t315 == 4) = false := beq_eq_false_iff_ne.mpr c10; have c10b1 : (t315 != 4) = true := bne_iff_ne.mpr c10; obtain rfl := Option.some.inj H; have p5 : 0 ≤ (x3_1 : Int) := of_decide_eq_true (by assumption)
        have q5 : x3_1 < (a0.size : Int) := of_decide_eq_true (by assumption)
        have hx5 := bt_at a0 x3_1; replace p5 := eq_true p5; replace q5 := eq_true q5; go_wp2_with (first | ((with_reducible refine zaK (f := 43) rfl ?_); refine zbk (some 19) rfl rfl Tryd.func43 (by kernel_rfl) rfl #[.int .i32 (wrap32 (bt a0 x3_1))] rfl (by (try simp only [List.map_toArray, List.map_cons, List.map_nil]); first | done | rfl | (simp only [List.length_drop, List.length_take]; rfl)) ?_; (with_reducible refine (zam.calls k1 (wrap32 (bt a0 x3_1)) t315 _ A6.out).mono ?_); rintro e w' ⟨rfl, ⟨nd, rfl⟩⟩; refine ⟨_, rfl, ?_⟩))
        go_ret
        exact ⟨by first | rfl | (simp [*, zaz, zay] <;> rfl), by repeat (first | exact HB.out | apply zad | apply zac | apply zae)⟩
     ·rw [if_neg c4] at H
      exact absurd H (by simp)
    ·rw [if_neg c3] at H
     have c3b0 : decide (x3_1 < (a0.size : Int)) = false := decide_eq_false c3; clear c3; obtain ⟨y316, hy316⟩ : ∃ y_ : List ByteArray, y_ = (([(⟨#[108, 101, 116]⟩ : ByteArray), (⟨#[102, 110]⟩ : ByteArray), (⟨#[105, 102]⟩ : ByteArray), (⟨#[101, 108, 115, 101]⟩ : ByteArray), (⟨#[119, 104, 105, 108, 101]⟩ : ByteArray), (⟨#[114, 101, 116, 117, 114, 110]⟩ : ByteArray), (⟨#[116, 114, 117, 101]⟩ : ByteArray), (⟨#[102, 97, 108, 115, 101]⟩ : ByteArray)] : List ByteArray)) := ⟨_, rfl⟩; replace H : (zaJ.l1 k1 a0 y316 0) = some r := by first | (rw [hy316]; with_reducible exact H) | (have H2_ := (Option.bind_some _ _).symm.trans H; rw [hy316]; with_reducible exact H2_) | (have H2_ := (Option.bind_some _ _).symm.trans H; with_reducible exact H2_) | with_reducible exact H | (rw [hy316]; exact H) | exact H
     have Ny316 := zaa.mk hy316; clear hy316; have H' := zaa.mk H; clear H; go_wp2_with (first | ((with_reducible refine za6 (N := 34) rfl ?_); refine Kd.R_lit Kd.string _ 9 ?hg (N := 34) ?hd (xs := ([(⟨#[108, 101, 116]⟩ : ByteArray), (⟨#[102, 110]⟩ : ByteArray), (⟨#[105, 102]⟩ : ByteArray), (⟨#[101, 108, 115, 101]⟩ : ByteArray), (⟨#[119, 104, 105, 108, 101]⟩ : ByteArray), (⟨#[114, 101, 116, 117, 114, 110]⟩ : ByteArray), (⟨#[116, 114, 117, 101]⟩ : ByteArray), (⟨#[102, 97, 108, 115, 101]⟩ : ByteArray)] : List ByteArray)) (inner := [.string (⟨#[108, 101, 116]⟩ : ByteArray), .string (⟨#[102, 110]⟩ : ByteArray), .string (⟨#[105, 102]⟩ : ByteArray), .string (⟨#[101, 108, 115, 101]⟩ : ByteArray), .string (⟨#[119, 104, 105, 108, 101]⟩ : ByteArray), .string (⟨#[114, 101, 116, 117, 114, 110]⟩ : ByteArray), .string (⟨#[116, 114, 117, 101]⟩ : ByteArray), .string (⟨#[102, 97, 108, 115, 101]⟩ : ByteArray)]) (ok := fun _ => True) (okp := fun _ => True) ?hr ?hp (fun _ hk => hk) trivial (Below.refl _ _) (Nat.le_refl _) (by simp) ?_; (case hd => rfl); (case hg => rfl); (case hr => first | (go_simp; done) | (go_simp; rfl)); (case hp => exact (Reps.one (show Kd.M Kd.string _ _ _ (⟨#[108, 101, 116]⟩ : ByteArray) [.string (⟨#[108, 101, 116]⟩ : ByteArray)] from rfl) (Reps.one (show Kd.M Kd.string _ _ _ (⟨#[102, 110]⟩ : ByteArray) [.string (⟨#[102, 110]⟩ : ByteArray)] from rfl) (Reps.one (show Kd.M Kd.string _ _ _ (⟨#[105, 102]⟩ : ByteArray) [.string (⟨#[105, 102]⟩ : ByteArray)] from rfl) (Reps.one (show Kd.M Kd.string _ _ _ (⟨#[101, 108, 115, 101]⟩ : ByteArray) [.string (⟨#[101, 108, 115, 101]⟩ : ByteArray)] from rfl) (Reps.one (show Kd.M Kd.string _ _ _ (⟨#[119, 104, 105, 108, 101]⟩ : ByteArray) [.string (⟨#[119, 104, 105, 108, 101]⟩ : ByteArray)] from rfl) (Reps.one (show Kd.M Kd.string _ _ _ (⟨#[114, 101, 116, 117, 114, 110]⟩ : ByteArray) [.string (⟨#[114, 101, 116, 117, 114, 110]⟩ : ByteArray)] from rfl) (Reps.one (show Kd.M Kd.string _ _ _ (⟨#[116, 114, 117, 101]⟩ : ByteArray) [.string (⟨#[116, 114, 117, 101]⟩ : ByteArray)] from rfl) (Reps.one (show Kd.M Kd.string _ _ _ (⟨#[102, 97, 108, 115, 101]⟩ : ByteArray) [.string (⟨#[102, 97, 108, 115, 101]⟩ : ByteArray)] from rfl) (Reps.none _ _)))))))))); intro v317 w12 ho13 hb hg_ hnew_; clear hg_ hnew_; (first | rw [← Ny316.out] at ho13 | (simp only [Int.reduceToNat] at ho13; rw [← Ny316.out] at ho13)); have n0_ := zaa.mk (Kd.zbz ho13 (zax (by repeat (first | exact HB.out | apply zad | apply zac | apply zae)))); have n1_ := zaa.mk (zai (by repeat (first | exact HB.out | apply zad | apply zac | apply zae)) hb); clear HB; have HO318 := n0_; have HB := n1_; clear n0_ n1_; clear hb ho13))
     go_loopg [6] k1 (fun kq v6 w' => ∃ (x6_2 : Int), v6 = .int .i64 x6_2 ∧ zaa (zaJ.l1 kq a0 y316 x6_2 = some r) ∧ zaa (kq ≤ k1) ∧ zaa (Kd.R Kd.string 9 w' w.heap.size (fun _ => True) v317 y316) ∧ zaa (Below w.heap.size w w'))
     case atStart => exact ⟨(0), (by first | rfl | (simp; done) | simp [*]), H', ⟨Nat.le_refl _⟩, ⟨by (with_reducible repeat (first | apply Kd.za4 | apply Kd.zbu | apply Kd.zbC)); exact HO318.out⟩, ⟨by repeat (first | exact HB.out | apply zad | apply zac | apply zae)⟩⟩
     case round =>
      clear H'; try clear c1
      try clear c2
      try clear c2b0
      try clear c2b1
      try clear p2
      try clear c3
      try clear c3b0
      try clear p3
      try clear c4
      try clear c4b0
      try clear p5
      try clear q5
      try clear hx5
      try clear p6
      try clear c7
      try clear c7b0
      try clear c7b1
      try clear c8
      try clear c8b0
      try clear c8b1
      try clear c9
      try clear c9b0
      try clear c9b1
      try clear c10
      try clear c10b0
      try clear c10b1
      try clear c11
      try clear c11b0
      try clear c11b1
      try clear p2
      try clear p5
      try clear q5
      obtain ⟨x6_2, rfl, HA, HK2, HO_5, HB⟩ := hrel; cases gk with
      | zero => exact absurd HA.out (by simp [zaJ.l1])
      | succ k2 =>
       have H := HA.out; clear HA; simp only [zaJ.l1] at H; by_cases c14 : x6_2 < (y316.length : Int)
       ·rw [if_pos c14] at H
        have c14b0 : decide (x6_2 < (y316.length : Int)) = true := decide_eq_true c14; clear c14; by_cases c15 : 0 ≤ x6_2
        ·rw [if_pos c15] at H
         have c15b0 : decide (0 ≤ x6_2) = true := decide_eq_true c15; clear c15; by_cases c16 : a0.toList = (rdOf ByteArray.empty y316 x6_2).toList
         ·rw [if_pos c16] at H
          have c16b0 : (a0.toList == (rdOf ByteArray.empty y316 x6_2).toList) = true := beq_iff_eq.mpr c16; have c16b1 : (a0.toList != (rdOf ByteArray.empty y316 x6_2).toList) = false := bne_eq_false_iff_eq.mpr c16; clear c16; obtain rfl := Option.some.inj H; obtain ⟨Ao17, co17, eo17⟩ := Kd.zbo HO_5.out; subst eo17; have p319 : 0 ≤ (x6_2 : Int) := of_decide_eq_true (by assumption)
          have q319 : x6_2 < (y316.length : Int) := of_decide_eq_true (by assumption)
          obtain ⟨ad319, e319, hx319_0⟩ := Kd.at_string (Kd.za0 HO_5.out).2.2 x6_2 p319 q319; cases e319; replace p319 := eq_true p319; replace q319 := eq_true q319; go_wp2
          go_ret
          exact ⟨by first | rfl | (simp [*, zaz, zay] <;> rfl), by repeat (first | exact HB.out | apply zad | apply zac | apply zae)⟩
         ·rw [if_neg c16] at H
          have c16b0 : (a0.toList == (rdOf ByteArray.empty y316 x6_2).toList) = false := beq_eq_false_iff_ne.mpr c16; have c16b1 : (a0.toList != (rdOf ByteArray.empty y316 x6_2).toList) = true := bne_iff_ne.mpr c16; have H' := zaa.mk H; clear H; obtain ⟨Ao18, co18, eo18⟩ := Kd.zbo HO_5.out; subst eo18; have p319 : 0 ≤ (x6_2 : Int) := of_decide_eq_true (by assumption)
          have q319 : x6_2 < (y316.length : Int) := of_decide_eq_true (by assumption)
          obtain ⟨ad319, e319, hx319_0⟩ := Kd.at_string (Kd.za0 HO_5.out).2.2 x6_2 p319 q319; cases e319; replace p319 := eq_true p319; replace q319 := eq_true q319; go_wp2
          go_roundg k2
          case measure => have := HK1.out; have := HK2.out; omega
          case rel => exact ⟨(wrap64 (x6_2 + 1)), (by first | rfl | (simp; done) | simp [*]), H', ⟨by have := HK1.out; have := HK2.out; omega⟩, ⟨by (with_reducible repeat (first | apply Kd.za4 | apply Kd.zbu | apply Kd.zbC)); exact HO_5.out⟩, ⟨by repeat (first | exact HB.out | apply zad | apply zac | apply zae)⟩⟩
        ·rw [if_neg c15] at H
         exact absurd H (by simp)
       ·rw [if_neg c14] at H
        have c14b0 : decide (x6_2 < (y316.length : Int)) = false := decide_eq_false c14; clear c14; obtain rfl := Option.some.inj H; obtain ⟨Ao19, co19, eo19⟩ := Kd.zbo HO_5.out; subst eo19; go_wp2
        go_ret
        exact ⟨by first | rfl | (simp [*, zaz, zay] <;> rfl), by repeat (first | exact HB.out | apply zad | apply zac | apply zae)⟩
def zaW.l0 : Nat → Int → Int → Option (Bool)
 | 0, _, _ => none
 | k + 1, x0, x3 => if x3 < 24 then ((zaw.f k x0 x3).bind fun t320 => (if t320 ≥ 0 then (some false) else (zaW.l0 k x0 (wrap64 (x3 + 1))))) else (some true)
def zaW.f (k : Nat) (a0 : Int) : Option (Bool) := zaW.l0 k a0 0
theorem zaW.calls (k : Nat) (a0 : Int) (r : Bool) (w : World) (h : zaW.f k a0 = some r) :
  Calls Tryd.prog 46 #[.int .i64 a0] w fun e w' => e = .returned (.bool r) ∧ Below w.heap.size w w' := by
 have HB := zaa.mk (Below.refl w.heap.size w); have H : (zaW.l0 k a0 0) = some r := h; clear h; have H' := zaa.mk H; clear H; go_enter Tryd.func46, Tryd.ntmps46
 go_wp2
 go_loopg [3] k (fun kq v3 w' => ∃ (x3_1 : Int), v3 = .int .i64 x3_1 ∧ zaa (zaW.l0 kq a0 x3_1 = some r) ∧ zaa (kq ≤ k) ∧ zaa (Below w.heap.size w w'))
 case atStart => exact ⟨(0), (by first | rfl | (simp; done) | simp [*]), H', ⟨Nat.le_refl _⟩, ⟨by repeat (first | exact HB.out | apply zad | apply zac | apply zae)⟩⟩
 case round =>
  clear H'; obtain ⟨x3_1, rfl, HA, HK1, HB⟩ := hrel; cases gk with
  | zero => exact absurd HA.out (by simp [zaW.l0])
  | succ k1 =>
   have H := HA.out; clear HA; simp only [zaW.l0] at H; by_cases c2 : x3_1 < 24
   ·rw [if_pos c2] at H
    have c2b0 : decide (x3_1 < 24) = true := decide_eq_true c2; clear c2; replace H := Option.bind_eq_some_iff.mp H; obtain ⟨t320, A30, H⟩ := H; replace H : (if t320 ≥ 0 then (some false) else (zaW.l0 k1 a0 (wrap64 (x3_1 + 1)))) = some r := H
    have A3 := zaa.mk A30; clear A30; by_cases c4 : t320 ≥ 0
    ·rw [if_pos c4] at H
     have c4b0 : decide (0 ≤ t320) = true := decide_eq_true c4; clear c4; obtain rfl := Option.some.inj H; go_wp2_with (first | ((with_reducible refine zaK (f := 42) rfl ?_); refine zbk (some 10) rfl rfl Tryd.func42 (by kernel_rfl) rfl #[.int .i64 a0, .int .i64 x3_1] rfl (by (try simp only [List.map_toArray, List.map_cons, List.map_nil]); first | done | rfl | (simp only [List.length_drop, List.length_take]; rfl)) ?_; (with_reducible refine (zaw.calls k1 a0 x3_1 t320 _ A3.out).mono ?_); rintro e w5 ⟨rfl, hb⟩; refine ⟨_, rfl, ?_⟩; have n0_ := zaa.mk (zai (by repeat (first | exact HB.out | apply zad | apply zac | apply zae)) hb); clear HB; have HB := n0_; clear n0_; (try clear hb); (try clear hb2); (try clear hk); (try clear hi)))
     go_ret
     exact ⟨by first | rfl | (simp [*, zaz, zay] <;> rfl), by repeat (first | exact HB.out | apply zad | apply zac | apply zae)⟩
    ·rw [if_neg c4] at H
     have c4b0 : decide (0 ≤ t320) = false := decide_eq_false c4; clear c4; have H' := zaa.mk H; clear H; go_wp2_with (first | ((with_reducible refine zaK (f := 42) rfl ?_); refine zbk (some 10) rfl rfl Tryd.func42 (by kernel_rfl) rfl #[.int .i64 a0, .int .i64 x3_1] rfl (by (try simp only [List.map_toArray, List.map_cons, List.map_nil]); first | done | rfl | (simp only [List.length_drop, List.length_take]; rfl)) ?_; (with_reducible refine (zaw.calls k1 a0 x3_1 t320 _ A3.out).mono ?_); rintro e w6 ⟨rfl, hb⟩; refine ⟨_, rfl, ?_⟩; have n0_ := zaa.mk (zai (by repeat (first | exact HB.out | apply zad | apply zac | apply zae)) hb); clear HB; have HB := n0_; clear n0_; (try clear hb); (try clear hb2); (try clear hk); (try clear hi)))
     go_roundg k1
     case measure => have := HK1.out; omega
     case rel => exact ⟨(wrap64 (x3_1 + 1)), (by first | rfl | (simp; done) | simp [*]), H', ⟨by have := HK1.out; omega⟩, ⟨by repeat (first | exact HB.out | apply zad | apply zac | apply zae)⟩⟩
   ·rw [if_neg c2] at H
    have c2b0 : decide (x3_1 < 24) = false := decide_eq_false c2; clear c2; obtain rfl := Option.some.inj H; go_wp2
    go_ret
    exact ⟨by first | rfl | (simp [*, zaz, zay] <;> rfl), by repeat (first | exact HB.out | apply zad | apply zac | apply zae)⟩
mutual
def zal.j0 : Nat → ByteArray → Int → Bool → Option (Int × Int × Int × Bool)
 | 0, _, _, _ => none
 | k + 1, x0, x1, x21 => if x21 = true then (some (0, 0, 0, false)) else (zal.l0 k x0 x1 0 x1 false)
def zal.j3 : Nat → ByteArray → Int → Int → Int → Bool → Option (Int × Int × Int × Bool)
 | 0, _, _, _, _, _ => none
 | k + 1, x0, x1, x6, x7, x8 => (zbG.f x6).bind fun t327 => (if x6 = 7 then (if 0 ≤ x1 then (if x1 ≤ x7 then (if x7 ≤ (x0.size : Int) then ((zaJ.f k (x0.extract (x1 : Int).toNat (x7 : Int).toNat)).bind fun t329 => (zal.j4 k x0 x6 x7 x8 t329 (wrap64 (x7 - x1)) 0)) else (none)) else (none)) else (none)) else (zal.j4 k x0 x6 x7 x8 t327 (wrap64 (x7 - x1)) 0))
def zal.j4 : Nat → ByteArray → Int → Int → Bool → Int → Int → Int → Option (Int × Int × Int × Bool)
 | 0, _, _, _, _, _, _, _ => none
 | k + 1, x0, x6, x7, x8, x329000, x329001, x329002 => (zaW.f k x6).bind fun t330 => (if t330 = true then (if x8 = true then (if (wrap64 ((wrap64 ((x0.size : Int) - x7)) + 1)) > 3 then (some (x329000, x329001, 3, true)) else (some (x329000, x329001, wrap64 ((wrap64 ((x0.size : Int) - x7)) + 1), true))) else (some (x329000, x329001, x329002, true))) else (some (x329000, x329001, 1, true)))
def zal.l0 : Nat → ByteArray → Int → Int → Int → Bool → Option (Int × Int × Int × Bool)
 | 0, _, _, _, _, _ => none
 | k + 1, x0, x1, x6, x7, x8 => if x7 < (x0.size : Int) then ((zan.f k x0 x7).bind fun bt322 => (if bt322.2.2 = true then (zal.j2 k x0 x1 x6 x7 x8 bt322.1 bt322.2.1 bt322.2.2) else (zal.j2 k x0 x1 x6 x7 x8 65533 1 bt322.2.2))) else (zal.j3 k x0 x1 x6 x7 x8)
def zal.j2 : Nat → ByteArray → Int → Int → Int → Bool → Int → Int → Bool → Option (Int × Int × Int × Bool)
 | 0, _, _, _, _, _, _, _, _ => none
 | k + 1, x0, x1, x6, x7, x8, x9, x10, x11 => (zam.f k x9).bind fun t325 => ((zaw.f k x6 t325).bind fun t326 => (if t326 < 0 then (zal.j3 k x0 x1 x6 x7 x8) else (if x6 = 0 then (zal.l0 k x0 x1 t326 (wrap64 (x7 + x10)) (!x11)) else (zal.l0 k x0 x1 t326 (wrap64 (x7 + x10)) false))))
end
def zal.f (k : Nat) (a0 : ByteArray) (a1 : Int) : Option (Int × Int × Int × Bool) := if a1 < 0 then (zal.j0 k a0 a1 true) else (zal.j0 k a0 a1 (decide (a1 ≥ (a0.size : Int))))
theorem zal.calls (k : Nat) (a0 : ByteArray) (a1 : Int) (r1 : Int) (r2 : Int) (r3 : Int) (r4 : Bool) (w : World) (h : zal.f k a0 a1 = some (r1, r2, r3, r4)) :
  Calls Tryd.prog 19 #[.string a0, .int .i64 a1] w fun e w' => e = .returned (.tuple #[.agg #[.int .u8 r1, .int .i64 r2, .int .i64 r3], .bool r4]) ∧ Below w.heap.size w w' := by
 have hu63 := Tryd.underlying63; have HB := zaa.mk (Below.refl w.heap.size w); have H : (if a1 < 0 then (zal.j0 k a0 a1 true) else (zal.j0 k a0 a1 (decide (a1 ≥ (a0.size : Int))))) = some (r1, r2, r3, r4) := h
 clear h; have HC3 := zaa.mk H; clear H; go_enter Tryd.func19, Tryd.ntmps19
 go_upto_region 1 with (first | ((with_reducible refine za6 (N := 4) rfl ?_); (try (refine zbM (by rfl) ?_; dsimp only)); refine zbl ?hg (N := 4) ?hd (cs := #[.int .u8 0, .int .i64 0, .int .i64 0]) (t := 63) ?hr ?_; (case hd => rfl); (case hg => rfl); (case hr => first | (go_simp; done) | (go_simp; rfl)); intro gb321 hg w4 hbox hb; have n0_ := zaa.mk (zai (by repeat (first | exact HB.out | apply zad | apply zac | apply zae)) hb); have n1_ := zaa.mk (hbox); have n2_ := zaa.mk ((by rw [hg]; exact (zax (by repeat (first | exact HB.out | apply zad | apply zac | apply zae))) : w.heap.size ≤ gb321)); have n3_ := zaa.mk ((by rw [hg]; exact (zax (by repeat (first | exact HB.out | apply zad | apply zac | apply zae))) : w.heap.size ≤ gb321)); clear HB; have HB := n0_; have BK321 := n1_; have GW321 := n2_; have GE321 := n3_; clear n0_ n1_ n2_ n3_; clear hb hbox hg))
 (try simp only [Act.put, zaj])
 go_cut [21] (fun v21 wc => ∃ (kq : Nat) (x21_2 : Bool), v21 = .bool x21_2 ∧ zaa (zal.j0 kq a0 a1 x21_2 = some (r1, r2, r3, r4)) ∧ zaa (kq ≤ k) ∧ zaa (wc.heap[gb321]? = some (.cells #[.int .u8 0, .int .i64 0, .int .i64 0] 63 (0, 0))) ∧ zaa (Below w.heap.size w wc))
 case first =>
  have H := HC3.out; clear HC3; by_cases c5 : a1 < 0
  ·rw [if_pos c5] at H
   have c5b0 : decide (a1 < 0) = true := decide_eq_true c5; clear c5
   (first | rw [c5b0] | (simp only [i64_w, i32_w]; rw [c5b0]) | skip)
   have H' := zaa.mk H; clear H; go_wp2
   go_meet
   case rel => exact ⟨_, (true), (by first | rfl | (simp; done) | simp [*]), H', ⟨by first | omega | exact Nat.le_refl _⟩, ⟨by (with_reducible repeat (first | refine zau ?_ _ | refine zaF ?_ | refine zav ?_ _)); exact BK321.out⟩, ⟨by repeat (first | (with_reducible first | exact HB.out | apply zad | apply zac | apply zae | refine zaB ?_ GE321.out) | exact HB.out)⟩⟩
  ·rw [if_neg c5] at H
   have c5b0 : decide (a1 < 0) = false := decide_eq_false c5; clear c5
   (first | rw [c5b0] | (simp only [i64_w, i32_w]; rw [c5b0]) | skip)
   have H' := zaa.mk H; clear H; go_wp2
   go_meet
   case rel => exact ⟨_, (decide (a1 ≥ (a0.size : Int))), (by first | rfl | (simp; done) | simp [*]), H', ⟨by first | omega | exact Nat.le_refl _⟩, ⟨by (with_reducible repeat (first | refine zau ?_ _ | refine zaF ?_ | refine zav ?_ _)); exact BK321.out⟩, ⟨by repeat (first | (with_reducible first | exact HB.out | apply zad | apply zac | apply zae | refine zaB ?_ GE321.out) | exact HB.out)⟩⟩
 case rest =>
  clear HC3; try clear c1
  try clear p2
  try clear c5
  try clear c5b0
  obtain ⟨kq, x21_2, rfl, HA, HJ2, BK321, HB⟩ := hcut; cases kq with
  | zero => exact absurd HA.out (by simp [zal.j0])
  | succ kj2 =>
   have H := HA.out; clear HA; simp only [zal.j0] at H; by_cases c6 : x21_2 = true
   ·subst c6
    have H1 : (some (0, 0, 0, false)) = some (r1, r2, r3, r4) := by rw [if_pos rfl] at H; exact H
    clear H; have H := H1; clear H1; simp only [Option.some.injEq, Prod.mk.injEq] at H; obtain ⟨rfl, rfl, rfl, rfl⟩ := H; have hcz7_0 : wc.cell? ⟨gb321, 0, none⟩ = some (.int .u8 0) := (zaf BK321.out 0).trans rfl; have hcz7_1 : wc.cell? ⟨gb321, 1, none⟩ = some (.int .i64 0) := (zaf BK321.out 1).trans rfl; have hcz7_2 : wc.cell? ⟨gb321, 2, none⟩ = some (.int .i64 0) := (zaf BK321.out 2).trans rfl; have hfz7_0 := zab BK321.out 0; have hfz7_1 := zab BK321.out 1; have hfz7_2 := zab BK321.out 2; go_wp2
    refine bodyPost_ret (zb0 rfl _ _ gb321 63 #[.int .u8 0, .int .i64 0, .int .i64 0] (0, 0) _ rfl (by (with_reducible repeat (first | refine zau ?_ _ | refine zaF ?_ | refine zav ?_ _)); refine zbv (cs := #[.int .u8 0, .int .i64 0, .int .i64 0]) ?_ 2 _ rfl; (with_reducible repeat (first | refine zau ?_ _ | refine zaF ?_ | refine zav ?_ _)); refine zbv (cs := #[.int .u8 0, .int .i64 0, .int .i64 0]) ?_ 1 _ rfl; (with_reducible repeat (first | refine zau ?_ _ | refine zaF ?_ | refine zav ?_ _)); refine zbv (cs := #[.int .u8 0, .int .i64 0, .int .i64 0]) ?_ 0 _ rfl; (with_reducible repeat (first | refine zau ?_ _ | refine zaF ?_ | refine zav ?_ _)); exact BK321.out) Tryd.underlying63 rfl (by kernel_rfl)) rfl ?_
    exact ⟨by first | rfl | (simp [*, zaz, zay] <;> rfl), by repeat (first | (with_reducible first | exact HB.out | apply zad | apply zac | apply zae | refine zaB ?_ GE321.out) | exact HB.out)⟩
   ·replace c6 := Bool.eq_false_iff.mpr c6
    subst c6; have H1 : (zal.l0 kj2 a0 a1 0 a1 false) = some (r1, r2, r3, r4) := by rw [if_neg (show ¬ (false = true) by decide)] at H; exact H
    clear H; have H := H1; clear H1; have HC8 := zaa.mk H; clear H
    go_upto_block 0 with (fail)
    go_cut [6, 7, 8] (fun v6 v7 v8 wc => ∃ (kq : Nat) (x6_7 : Int) (x7_7 : Int) (x8_7 : Bool), v6 = .int .i64 x6_7 ∧ v7 = .int .i64 x7_7 ∧ v8 = .bool x8_7 ∧ zaa (zal.j3 kq a0 a1 x6_7 x7_7 x8_7 = some (r1, r2, r3, r4)) ∧ zaa (kq ≤ kj2) ∧ zaa (wc.heap[gb321]? = some (.cells #[.int .u8 0, .int .i64 0, .int .i64 0] 63 (0, 0))) ∧ zaa (Below w.heap.size w wc))
    case first =>
     have H := HC8.out; clear HC8; have H' := zaa.mk H; clear H; go_wp2
     go_loopg [6, 7, 8] kj2 (fun kq v6 v7 v8 w' => ∃ (x6_2 : Int) (x7_2 : Int) (x8_2 : Bool), v6 = .int .i64 x6_2 ∧ v7 = .int .i64 x7_2 ∧ v8 = .bool x8_2 ∧ zaa (zal.l0 kq a0 a1 x6_2 x7_2 x8_2 = some (r1, r2, r3, r4)) ∧ zaa (kq ≤ kj2) ∧ zaa (w'.heap[gb321]? = some (.cells #[.int .u8 0, .int .i64 0, .int .i64 0] 63 (0, 0))) ∧ zaa (Below w.heap.size w w'))
     case atStart => exact ⟨(0), (a1), (false), (by first | rfl | (simp; done) | simp [*]), (by first | rfl | (simp; done) | simp [*]), (by first | rfl | (simp; done) | simp [*]), H', ⟨Nat.le_refl _⟩, ⟨by (with_reducible repeat (first | refine zau ?_ _ | refine zaF ?_ | refine zav ?_ _)); exact BK321.out⟩, ⟨by repeat (first | (with_reducible first | exact HB.out | apply zad | apply zac | apply zae | refine zaB ?_ GE321.out) | exact HB.out)⟩⟩
     case round =>
      clear H'; try clear c1
      try clear p2
      try clear c5
      try clear c5b0
      try clear c6
      try clear hcz7_0
      try clear hcz7_1
      try clear hcz7_2
      try clear hfz7_0
      try clear hfz7_1
      try clear hfz7_2
      try clear p2
      obtain ⟨x6_2, x7_2, x8_2, rfl, rfl, rfl, HA, HK2, BK321, HB⟩ := hrel; cases gk with
      | zero => exact absurd HA.out (by simp [zal.l0])
      | succ k2 =>
       have H := HA.out; clear HA; simp only [zal.l0] at H; by_cases c9 : x7_2 < (a0.size : Int)
       ·rw [if_pos c9] at H
        have c9b0 : decide (x7_2 < (a0.size : Int)) = true := decide_eq_true c9; clear c9
        (first | rw [c9b0] | (simp only [i64_w, i32_w]; rw [c9b0]) | skip)
        replace H := Option.bind_eq_some_iff.mp H; obtain ⟨⟨t322, t323, t324⟩, A100, H⟩ := H; replace H : (if t324 = true then (zal.j2 k2 a0 a1 x6_2 x7_2 x8_2 t322 t323 t324) else (zal.j2 k2 a0 a1 x6_2 x7_2 x8_2 65533 1 t324)) = some (r1, r2, r3, r4) := H
        have A10 := zaa.mk A100; clear A100; have HC11 := zaa.mk H; clear H
        go_upto_if 36 with (first | ((with_reducible refine zaK (f := 41) rfl ?_); refine zbk (some 31) rfl rfl Tryd.func41 (by kernel_rfl) rfl #[.string a0, .int .i64 x7_2] rfl (by (try simp only [List.map_toArray, List.map_cons, List.map_nil]); first | done | rfl | (simp only [List.length_drop, List.length_take]; rfl)) ?_; (with_reducible refine (zan.calls k2 a0 x7_2 t322 t323 t324 _ A10.out).mono ?_); rintro e w12 ⟨rfl, hb⟩; refine ⟨_, rfl, ?_⟩; have n0_ := zaa.mk (zat (g := gb321) (o := .cells #[.int .u8 0, .int .i64 0, .int .i64 0] 63 (0, 0)) (by (with_reducible repeat (first | refine zau ?_ _ | refine zaF ?_ | refine zav ?_ _)); exact BK321.out) hb); have n1_ := zaa.mk (zai (by repeat (first | (with_reducible first | exact HB.out | apply zad | apply zac | apply zae | refine zaB ?_ GE321.out) | exact HB.out)) hb); clear BK321; clear HB; have BK321 := n0_; have HB := n1_; clear n0_ n1_; (try clear hb); (try clear hb2); (try clear hk); (try clear hi)))
        (try simp only [Act.put, zaj])
        go_cut [9, 10] (fun v9 v10 wc => ∃ (kq : Nat) (x9_10 : Int) (x10_10 : Int), v9 = .int .i32 x9_10 ∧ v10 = .int .i64 x10_10 ∧ zaa (zal.j2 kq a0 a1 x6_2 x7_2 x8_2 x9_10 x10_10 t324 = some (r1, r2, r3, r4)) ∧ zaa (kq ≤ k2) ∧ zaa (wc.heap[gb321]? = some (.cells #[.int .u8 0, .int .i64 0, .int .i64 0] 63 (0, 0))) ∧ zaa (Below w.heap.size w wc))
        case first =>
         have H := HC11.out; clear HC11; by_cases c13 : t324 = true
         ·subst c13
          have H1 : (zal.j2 k2 a0 a1 x6_2 x7_2 x8_2 t322 t323 true) = some (r1, r2, r3, r4) := by rw [if_pos rfl] at H; exact H
          clear H; have H := H1; clear H1; have H' := zaa.mk H; clear H; go_wp2
          go_meet
          case rel => exact ⟨_, (t322), (t323), (by first | rfl | (simp; done) | simp [*]), (by first | rfl | (simp; done) | simp [*]), H', ⟨by have := HJ2.out; have := HK2.out; first | omega | exact Nat.le_refl _⟩, ⟨by (with_reducible repeat (first | refine zau ?_ _ | refine zaF ?_ | refine zav ?_ _)); exact BK321.out⟩, ⟨by repeat (first | (with_reducible first | exact HB.out | apply zad | apply zac | apply zae | refine zaB ?_ GE321.out) | exact HB.out)⟩⟩
         ·replace c13 := Bool.eq_false_iff.mpr c13
          subst c13; have H1 : (zal.j2 k2 a0 a1 x6_2 x7_2 x8_2 65533 1 false) = some (r1, r2, r3, r4) := by rw [if_neg (show ¬ (false = true) by decide)] at H; exact H
          clear H; have H := H1; clear H1; have H' := zaa.mk H; clear H; go_wp2
          go_meet
          case rel => exact ⟨_, (65533), (1), (by first | rfl | (simp; done) | simp [*]), (by first | rfl | (simp; done) | simp [*]), H', ⟨by have := HJ2.out; have := HK2.out; first | omega | exact Nat.le_refl _⟩, ⟨by (with_reducible repeat (first | refine zau ?_ _ | refine zaF ?_ | refine zav ?_ _)); exact BK321.out⟩, ⟨by repeat (first | (with_reducible first | exact HB.out | apply zad | apply zac | apply zae | refine zaB ?_ GE321.out) | exact HB.out)⟩⟩
        case rest =>
         clear HC11; try clear c1
         try clear p2
         try clear c4
         try clear c5
         try clear c5b0
         try clear c6
         try clear c9
         try clear c9b0
         try clear c13
         try clear hcz7_0
         try clear hcz7_1
         try clear hcz7_2
         try clear hfz7_0
         try clear hfz7_1
         try clear hfz7_2
         try clear p2
         obtain ⟨kq, x9_10, x10_10, rfl, rfl, HA, HJ10, BK321, HB⟩ := hcut; cases kq with
         | zero => exact absurd HA.out (by simp [zal.j2])
         | succ kj10 =>
          have H := HA.out; clear HA; simp only [zal.j2] at H; replace H := Option.bind_eq_some_iff.mp H; obtain ⟨t325, A140, H⟩ := H; replace H : ((zaw.f kj10 x6_2 t325).bind fun t326 => (if t326 < 0 then (zal.j3 kj10 a0 a1 x6_2 x7_2 x8_2) else (if x6_2 = 0 then (zal.l0 kj10 a0 a1 t326 (wrap64 (x7_2 + x10_10)) (!t324)) else (zal.l0 kj10 a0 a1 t326 (wrap64 (x7_2 + x10_10)) false)))) = some (r1, r2, r3, r4) := H
          have A14 := zaa.mk A140; clear A140; replace H := Option.bind_eq_some_iff.mp H; obtain ⟨t326, A150, H⟩ := H; replace H : (if t326 < 0 then (zal.j3 kj10 a0 a1 x6_2 x7_2 x8_2) else (if x6_2 = 0 then (zal.l0 kj10 a0 a1 t326 (wrap64 (x7_2 + x10_10)) (!t324)) else (zal.l0 kj10 a0 a1 t326 (wrap64 (x7_2 + x10_10)) false))) = some (r1, r2, r3, r4) := H
          have A15 := zaa.mk A150; clear A150; by_cases c16 : t326 < 0
          ·rw [if_pos c16] at H
           have c16b0 : decide (t326 < 0) = true := decide_eq_true c16; clear c16; have H' := zaa.mk H; clear H; go_wp2_with (first | ((with_reducible refine zaK (f := 43) rfl ?_); refine zbk (some 39) rfl rfl Tryd.func43 (by kernel_rfl) rfl #[.int .i32 x9_10] rfl (by (try simp only [List.map_toArray, List.map_cons, List.map_nil]); first | done | rfl | (simp only [List.length_drop, List.length_take]; rfl)) ?_; (with_reducible refine (zam.calls kj10 x9_10 t325 _ A14.out).mono ?_); rintro e w' ⟨rfl, ⟨nd, rfl⟩⟩; refine ⟨_, rfl, ?_⟩) | ((with_reducible refine zaK (f := 42) rfl ?_); refine zbk (some 40) rfl rfl Tryd.func42 (by kernel_rfl) rfl #[.int .i64 x6_2, .int .i64 t325] rfl (by (try simp only [List.map_toArray, List.map_cons, List.map_nil]); first | done | rfl | (simp only [List.length_drop, List.length_take]; rfl)) ?_; (with_reducible refine (zaw.calls kj10 x6_2 t325 t326 _ A15.out).mono ?_); rintro e w17 ⟨rfl, hb⟩; refine ⟨_, rfl, ?_⟩; have n0_ := zaa.mk (zat (g := gb321) (o := .cells #[.int .u8 0, .int .i64 0, .int .i64 0] 63 (0, 0)) (by (with_reducible repeat (first | refine zau ?_ _ | refine zaF ?_ | refine zav ?_ _)); exact BK321.out) hb); have n1_ := zaa.mk (zai (by repeat (first | (with_reducible first | exact HB.out | apply zad | apply zac | apply zae | refine zaB ?_ GE321.out) | exact HB.out)) hb); clear BK321; clear HB; have BK321 := n0_; have HB := n1_; clear n0_ n1_; (try clear hb); (try clear hb2); (try clear hk); (try clear hi)))
           go_meet
           case rel => exact ⟨_, (x6_2), (x7_2), (x8_2), (by first | rfl | (simp; done) | simp [*]), (by first | rfl | (simp; done) | simp [*]), (by first | rfl | (simp; done) | simp [*]), H', ⟨by have := HJ2.out; have := HK2.out; have := HJ10.out; first | omega | exact Nat.le_refl _⟩, ⟨by (with_reducible repeat (first | refine zau ?_ _ | refine zaF ?_ | refine zav ?_ _)); exact BK321.out⟩, ⟨by repeat (first | (with_reducible first | exact HB.out | apply zad | apply zac | apply zae | refine zaB ?_ GE321.out) | exact HB.out)⟩⟩
          ·rw [if_neg c16] at H
           have c16b0 : decide (t326 < 0) = false := decide_eq_false c16; clear c16; by_cases c18 : x6_2 = 0
           ·rw [if_pos c18] at H
            have c18b0 : (x6_2 == 0) = true := beq_iff_eq.mpr c18; have c18b1 : (x6_2 != 0) = false := bne_eq_false_iff_eq.mpr c18; clear c18; have H' := zaa.mk H; clear H; go_wp2_with (first | ((with_reducible refine zaK (f := 43) rfl ?_); refine zbk (some 39) rfl rfl Tryd.func43 (by kernel_rfl) rfl #[.int .i32 x9_10] rfl (by (try simp only [List.map_toArray, List.map_cons, List.map_nil]); first | done | rfl | (simp only [List.length_drop, List.length_take]; rfl)) ?_; (with_reducible refine (zam.calls kj10 x9_10 t325 _ A14.out).mono ?_); rintro e w' ⟨rfl, ⟨nd, rfl⟩⟩; refine ⟨_, rfl, ?_⟩) | ((with_reducible refine zaK (f := 42) rfl ?_); refine zbk (some 40) rfl rfl Tryd.func42 (by kernel_rfl) rfl #[.int .i64 x6_2, .int .i64 t325] rfl (by (try simp only [List.map_toArray, List.map_cons, List.map_nil]); first | done | rfl | (simp only [List.length_drop, List.length_take]; rfl)) ?_; (with_reducible refine (zaw.calls kj10 x6_2 t325 t326 _ A15.out).mono ?_); rintro e w19 ⟨rfl, hb⟩; refine ⟨_, rfl, ?_⟩; have n0_ := zaa.mk (zat (g := gb321) (o := .cells #[.int .u8 0, .int .i64 0, .int .i64 0] 63 (0, 0)) (by (with_reducible repeat (first | refine zau ?_ _ | refine zaF ?_ | refine zav ?_ _)); exact BK321.out) hb); have n1_ := zaa.mk (zai (by repeat (first | (with_reducible first | exact HB.out | apply zad | apply zac | apply zae | refine zaB ?_ GE321.out) | exact HB.out)) hb); clear BK321; clear HB; have BK321 := n0_; have HB := n1_; clear n0_ n1_; (try clear hb); (try clear hb2); (try clear hk); (try clear hi)))
            go_roundg kj10
            case measure => have := HJ2.out; have := HK2.out; have := HJ10.out; omega
            case rel => exact ⟨(t326), (wrap64 (x7_2 + x10_10)), (!t324), (by first | rfl | (simp; done) | simp [*]), (by first | rfl | (simp; done) | simp [*]), (by first | rfl | (simp; done) | simp [*]), H', ⟨by have := HJ2.out; have := HK2.out; have := HJ10.out; omega⟩, ⟨by (with_reducible repeat (first | refine zau ?_ _ | refine zaF ?_ | refine zav ?_ _)); exact BK321.out⟩, ⟨by repeat (first | (with_reducible first | exact HB.out | apply zad | apply zac | apply zae | refine zaB ?_ GE321.out) | exact HB.out)⟩⟩
           ·rw [if_neg c18] at H
            have c18b0 : (x6_2 == 0) = false := beq_eq_false_iff_ne.mpr c18; have c18b1 : (x6_2 != 0) = true := bne_iff_ne.mpr c18; have H' := zaa.mk H; clear H; go_wp2_with (first | ((with_reducible refine zaK (f := 43) rfl ?_); refine zbk (some 39) rfl rfl Tryd.func43 (by kernel_rfl) rfl #[.int .i32 x9_10] rfl (by (try simp only [List.map_toArray, List.map_cons, List.map_nil]); first | done | rfl | (simp only [List.length_drop, List.length_take]; rfl)) ?_; (with_reducible refine (zam.calls kj10 x9_10 t325 _ A14.out).mono ?_); rintro e w' ⟨rfl, ⟨nd, rfl⟩⟩; refine ⟨_, rfl, ?_⟩) | ((with_reducible refine zaK (f := 42) rfl ?_); refine zbk (some 40) rfl rfl Tryd.func42 (by kernel_rfl) rfl #[.int .i64 x6_2, .int .i64 t325] rfl (by (try simp only [List.map_toArray, List.map_cons, List.map_nil]); first | done | rfl | (simp only [List.length_drop, List.length_take]; rfl)) ?_; (with_reducible refine (zaw.calls kj10 x6_2 t325 t326 _ A15.out).mono ?_); rintro e w20 ⟨rfl, hb⟩; refine ⟨_, rfl, ?_⟩; have n0_ := zaa.mk (zat (g := gb321) (o := .cells #[.int .u8 0, .int .i64 0, .int .i64 0] 63 (0, 0)) (by (with_reducible repeat (first | refine zau ?_ _ | refine zaF ?_ | refine zav ?_ _)); exact BK321.out) hb); have n1_ := zaa.mk (zai (by repeat (first | (with_reducible first | exact HB.out | apply zad | apply zac | apply zae | refine zaB ?_ GE321.out) | exact HB.out)) hb); clear BK321; clear HB; have BK321 := n0_; have HB := n1_; clear n0_ n1_; (try clear hb); (try clear hb2); (try clear hk); (try clear hi)))
            go_roundg kj10
            case measure => have := HJ2.out; have := HK2.out; have := HJ10.out; omega
            case rel => exact ⟨(t326), (wrap64 (x7_2 + x10_10)), (false), (by first | rfl | (simp; done) | simp [*]), (by first | rfl | (simp; done) | simp [*]), (by first | rfl | (simp; done) | simp [*]), H', ⟨by have := HJ2.out; have := HK2.out; have := HJ10.out; omega⟩, ⟨by (with_reducible repeat (first | refine zau ?_ _ | refine zaF ?_ | refine zav ?_ _)); exact BK321.out⟩, ⟨by repeat (first | (with_reducible first | exact HB.out | apply zad | apply zac | apply zae | refine zaB ?_ GE321.out) | exact HB.out)⟩⟩
       ·rw [if_neg c9] at H
        have c9b0 : decide (x7_2 < (a0.size : Int)) = false := decide_eq_false c9; clear c9
        (first | rw [c9b0] | (simp only [i64_w, i32_w]; rw [c9b0]) | skip)
        have H' := zaa.mk H; clear H; go_wp2
        go_meet
        case rel => exact ⟨_, (x6_2), (x7_2), (x8_2), (by first | rfl | (simp; done) | simp [*]), (by first | rfl | (simp; done) | simp [*]), (by first | rfl | (simp; done) | simp [*]), H', ⟨by have := HJ2.out; have := HK2.out; first | omega | exact Nat.le_refl _⟩, ⟨by (with_reducible repeat (first | refine zau ?_ _ | refine zaF ?_ | refine zav ?_ _)); exact BK321.out⟩, ⟨by repeat (first | (with_reducible first | exact HB.out | apply zad | apply zac | apply zae | refine zaB ?_ GE321.out) | exact HB.out)⟩⟩
    case rest =>
     clear HC8; try clear c1
     try clear p2
     try clear c4
     try clear c5
     try clear c5b0
     try clear c6
     try clear p6
     try clear c9
     try clear c9b0
     try clear c13
     try clear c16
     try clear c16b0
     try clear c18
     try clear c18b0
     try clear c18b1
     try clear c19
     try clear hcz7_0
     try clear hcz7_1
     try clear hcz7_2
     try clear hfz7_0
     try clear hfz7_1
     try clear hfz7_2
     try clear p2
     obtain ⟨kq, x6_7, x7_7, x8_7, rfl, rfl, rfl, HA, HJ7, BK321, HB⟩ := hcut; cases kq with
     | zero => exact absurd HA.out (by simp [zal.j3])
     | succ kj7 =>
      have H := HA.out; clear HA; simp only [zal.j3] at H; replace H := Option.bind_eq_some_iff.mp H; obtain ⟨t327, A210, H⟩ := H; replace H : (if x6_7 = 7 then (if 0 ≤ a1 then (if a1 ≤ x7_7 then (if x7_7 ≤ (a0.size : Int) then ((zaJ.f kj7 (a0.extract (a1 : Int).toNat (x7_7 : Int).toNat)).bind fun t329 => (zal.j4 kj7 a0 x6_7 x7_7 x8_7 t329 (wrap64 (x7_7 - a1)) 0)) else (none)) else (none)) else (none)) else (zal.j4 kj7 a0 x6_7 x7_7 x8_7 t327 (wrap64 (x7_7 - a1)) 0)) = some (r1, r2, r3, r4) := H
      have A21 := zaa.mk A210; clear A210; have HC22 := zaa.mk H; clear H
      go_upto_if 60 with (first | ((with_reducible refine zaK (f := 44) rfl ?_); refine zbk (some 54) rfl rfl Tryd.func44 (by kernel_rfl) rfl #[.int .i64 x6_7] rfl (by (try simp only [List.map_toArray, List.map_cons, List.map_nil]); first | done | rfl | (simp only [List.length_drop, List.length_take]; rfl)) ?_; (with_reducible refine (zbG.calls x6_7 t327 _ A21.out).mono ?_); rintro e w23 ⟨rfl, hb⟩; refine ⟨_, rfl, ?_⟩; have n0_ := zaa.mk (zat (g := gb321) (o := .cells #[.int .u8 0, .int .i64 0, .int .i64 0] 63 (0, 0)) (by (with_reducible repeat (first | refine zau ?_ _ | refine zaF ?_ | refine zav ?_ _)); exact BK321.out) hb); have n1_ := zaa.mk (zai (by repeat (first | (with_reducible first | exact HB.out | apply zad | apply zac | apply zae | refine zaB ?_ GE321.out) | exact HB.out)) hb); clear BK321; clear HB; have BK321 := n0_; have HB := n1_; clear n0_ n1_; (try clear hb); (try clear hb2); (try clear hk); (try clear hi)) | ((with_reducible refine za6 (N := 13) rfl ?_); (try (refine zbM (by rfl) ?_; dsimp only)); refine zbl ?hg (N := 13) ?hd (cs := #[.int .u8 0, .int .i64 0, .int .i64 0]) (t := 63) ?hr ?_; (case hd => rfl); (case hg => rfl); (case hr => first | (go_simp; done) | (go_simp; rfl)); intro gb328 hg w24 hbox hb; have n0_ := zaa.mk (zat (g := gb321) (o := .cells #[.int .u8 0, .int .i64 0, .int .i64 0] 63 (0, 0)) (by (with_reducible repeat (first | refine zau ?_ _ | refine zaF ?_ | refine zav ?_ _)); exact BK321.out) hb); have n1_ := zaa.mk (zai (by repeat (first | (with_reducible first | exact HB.out | apply zad | apply zac | apply zae | refine zaB ?_ GE321.out) | exact HB.out)) hb); have n2_ := zaa.mk (hbox); have n3_ := zaa.mk ((by rw [hg]; exact (zax (by repeat (first | (with_reducible first | exact HB.out | apply zad | apply zac | apply zae | refine zaB ?_ GE321.out) | exact HB.out))) : w.heap.size ≤ gb328)); have n4_ := zaa.mk ((by rw [hg]; exact (zax (by repeat (first | (with_reducible first | exact HB.out | apply zad | apply zac | apply zae | refine zaB ?_ GE321.out) | exact HB.out))) : w.heap.size ≤ gb328)); have n5_ := zaa.mk ((by rw [hg]; exact Nat.ne_of_lt (zaO (g := gb321) (o := .cells #[.int .u8 0, .int .i64 0, .int .i64 0] 63 (0, 0)) (by (with_reducible repeat (first | refine zau ?_ _ | refine zaF ?_ | refine zav ?_ _)); exact BK321.out)) : gb321 ≠ gb328)); have n6_ := zaa.mk ((by rw [hg]; exact Nat.ne_of_gt (zaO (g := gb321) (o := .cells #[.int .u8 0, .int .i64 0, .int .i64 0] 63 (0, 0)) (by (with_reducible repeat (first | refine zau ?_ _ | refine zaF ?_ | refine zav ?_ _)); exact BK321.out)) : gb328 ≠ gb321)); clear BK321; clear HB; have BK321 := n0_; have HB := n1_; have BK328 := n2_; have GW328 := n3_; have GE328 := n4_; have NB321_328 := n5_; have NB328_321 := n6_; clear n0_ n1_ n2_ n3_ n4_ n5_ n6_; clear hb hbox hg; have hnb25 := NB328_321.out; have hnc25 := NB321_328.out; have hcz26_0 : w24.cell? ⟨gb328, 0, none⟩ = some (.int .u8 0) := (zaf BK328.out 0).trans rfl; have hcz26_1 : w24.cell? ⟨gb328, 1, none⟩ = some (.int .i64 0) := (zaf BK328.out 1).trans rfl; have hcz26_2 : w24.cell? ⟨gb328, 2, none⟩ = some (.int .i64 0) := (zaf BK328.out 2).trans rfl; have hfz26_0 := zab BK328.out 0; have hfz26_1 := zab BK328.out 1; have hfz26_2 := zab BK328.out 2))
      (try simp only [Act.put, zaj])
      go_cut [] (fun wc => ∃ (kq : Nat) (x329000_21 : Int), zaa (zal.j4 kq a0 x6_7 x7_7 x8_7 x329000_21 (wrap64 (x7_7 - a1)) 0 = some (r1, r2, r3, r4)) ∧ zaa (kq ≤ kj7) ∧ zaa (wc.heap[gb321]? = some (.cells #[.int .u8 0, .int .i64 0, .int .i64 0] 63 (0, 0))) ∧ zaa (wc.heap[gb328]? = some (.cells #[.int .u8 x329000_21, .int .i64 (wrap64 (x7_7 - a1)), .int .i64 0] 63 (0, 0))) ∧ zaa (Below w.heap.size w wc))
      case first =>
       have H := HC22.out; clear HC22; by_cases c27 : x6_7 = 7
       ·rw [if_pos c27] at H
        have c27b0 : (x6_7 == 7) = true := beq_iff_eq.mpr c27; have c27b1 : (x6_7 != 7) = false := bne_eq_false_iff_eq.mpr c27; clear c27
        (first | rw [c27b0] | (simp only [i64_w, i32_w]; rw [c27b0]) | skip)
        by_cases c28 : 0 ≤ a1
        ·rw [if_pos c28] at H
         have c28b0 := eq_true c28; have c28b1 : decide (0 ≤ a1) = true := decide_eq_true c28; clear c28; by_cases c29 : a1 ≤ x7_7
         ·rw [if_pos c29] at H
          have c29b0 := eq_true c29; have c29b1 : decide (a1 ≤ x7_7) = true := decide_eq_true c29; clear c29; by_cases c30 : x7_7 ≤ (a0.size : Int)
          ·rw [if_pos c30] at H
           have c30b0 := eq_true c30; have c30b1 : decide (x7_7 ≤ (a0.size : Int)) = true := decide_eq_true c30; clear c30; replace H := Option.bind_eq_some_iff.mp H; obtain ⟨t329, A310, H⟩ := H; replace H : (zal.j4 kj7 a0 x6_7 x7_7 x8_7 t329 (wrap64 (x7_7 - a1)) 0) = some (r1, r2, r3, r4) := H; have A31 := zaa.mk A310; clear A310; have H' := zaa.mk H; clear H; go_wp2_with (first | ((with_reducible refine zaK (f := 45) rfl ?_); refine zbk (some 65) rfl rfl Tryd.func45 (by kernel_rfl) rfl #[.string (a0.extract (a1 : Int).toNat (x7_7 : Int).toNat)] rfl (by (try simp only [List.map_toArray, List.map_cons, List.map_nil]); first | done | rfl | (simp only [List.length_drop, List.length_take]; rfl)) ?_; (with_reducible refine (zaJ.calls kj7 (a0.extract (a1 : Int).toNat (x7_7 : Int).toNat) t329 _ A31.out).mono ?_); rintro e w32 ⟨rfl, hb⟩; refine ⟨_, rfl, ?_⟩; have n0_ := zaa.mk (zat (g := gb321) (o := .cells #[.int .u8 0, .int .i64 0, .int .i64 0] 63 (0, 0)) (by (with_reducible repeat (first | refine zau ?_ _ | refine zaF ?_ | refine zav ?_ _)); refine zb3 ?_ NB321_328.out _; (with_reducible repeat (first | refine zau ?_ _ | refine zaF ?_ | refine zav ?_ _)); refine zb3 ?_ NB321_328.out _; (with_reducible repeat (first | refine zau ?_ _ | refine zaF ?_ | refine zav ?_ _)); refine zb3 ?_ NB321_328.out _; (with_reducible repeat (first | refine zau ?_ _ | refine zaF ?_ | refine zav ?_ _)); exact BK321.out) hb); have n1_ := zaa.mk (zat (g := gb328) (o := .cells #[.int .u8 t327, .int .i64 (wrap64 (x7_7 - a1)), .int .i64 0] 63 (0, 0)) (by (with_reducible repeat (first | refine zau ?_ _ | refine zaF ?_ | refine zav ?_ _)); refine zbv (cs := #[.int .u8 t327, .int .i64 (wrap64 (x7_7 - a1)), .int .i64 0]) ?_ 2 _ rfl; (with_reducible repeat (first | refine zau ?_ _ | refine zaF ?_ | refine zav ?_ _)); refine zbv (cs := #[.int .u8 t327, .int .i64 0, .int .i64 0]) ?_ 1 _ rfl; (with_reducible repeat (first | refine zau ?_ _ | refine zaF ?_ | refine zav ?_ _)); refine zbv (cs := #[.int .u8 0, .int .i64 0, .int .i64 0]) ?_ 0 _ rfl; (with_reducible repeat (first | refine zau ?_ _ | refine zaF ?_ | refine zav ?_ _)); exact BK328.out) hb); have n2_ := zaa.mk (zai (by repeat (first | (with_reducible first | exact HB.out | apply zad | apply zac | apply zae | refine zaB ?_ GE321.out | refine zaB ?_ GE328.out) | exact HB.out)) hb); clear BK321; clear BK328; clear HB; have BK321 := n0_; have BK328 := n1_; have HB := n2_; clear n0_ n1_ n2_; (try clear hb); (try clear hb2); (try clear hk); (try clear hi); have hnb33 := NB328_321.out; have hnc33 := NB321_328.out; have hcz34_0 : w32.cell? ⟨gb328, 0, none⟩ = some (.int .u8 t327) := (zaf BK328.out 0).trans rfl; have hcz34_1 : w32.cell? ⟨gb328, 1, none⟩ = some (.int .i64 (wrap64 (x7_7 - a1))) := (zaf BK328.out 1).trans rfl; have hcz34_2 : w32.cell? ⟨gb328, 2, none⟩ = some (.int .i64 0) := (zaf BK328.out 2).trans rfl; have hfz34_0 := zab BK328.out 0; have hfz34_1 := zab BK328.out 1; have hfz34_2 := zab BK328.out 2))
           go_meet
           case rel => exact ⟨_, (t329), H', ⟨by have := HJ2.out; have := HJ7.out; first | omega | exact Nat.le_refl _⟩, ⟨by (with_reducible repeat (first | refine zau ?_ _ | refine zaF ?_ | refine zav ?_ _)); refine zb3 ?_ NB321_328.out _; (with_reducible repeat (first | refine zau ?_ _ | refine zaF ?_ | refine zav ?_ _)); exact BK321.out⟩, ⟨by (with_reducible repeat (first | refine zau ?_ _ | refine zaF ?_ | refine zav ?_ _)); refine zbv (cs := #[.int .u8 t327, .int .i64 (wrap64 (x7_7 - a1)), .int .i64 0]) ?_ 0 _ rfl; (with_reducible repeat (first | refine zau ?_ _ | refine zaF ?_ | refine zav ?_ _)); exact BK328.out⟩, ⟨by repeat (first | (with_reducible first | exact HB.out | apply zad | apply zac | apply zae | refine zaB ?_ GE321.out | refine zaB ?_ GE328.out) | exact HB.out)⟩⟩
          ·rw [if_neg c30] at H
           exact absurd H (by simp)
         ·rw [if_neg c29] at H
          exact absurd H (by simp)
        ·rw [if_neg c28] at H
         exact absurd H (by simp)
       ·rw [if_neg c27] at H
        have c27b0 : (x6_7 == 7) = false := beq_eq_false_iff_ne.mpr c27; have c27b1 : (x6_7 != 7) = true := bne_iff_ne.mpr c27
        (first | rw [c27b0] | (simp only [i64_w, i32_w]; rw [c27b0]) | skip)
        have H' := zaa.mk H; clear H; go_wp2
        go_meet
        case rel => exact ⟨_, (t327), H', ⟨by have := HJ2.out; have := HJ7.out; first | omega | exact Nat.le_refl _⟩, ⟨by (with_reducible repeat (first | refine zau ?_ _ | refine zaF ?_ | refine zav ?_ _)); refine zb3 ?_ NB321_328.out _; (with_reducible repeat (first | refine zau ?_ _ | refine zaF ?_ | refine zav ?_ _)); refine zb3 ?_ NB321_328.out _; (with_reducible repeat (first | refine zau ?_ _ | refine zaF ?_ | refine zav ?_ _)); refine zb3 ?_ NB321_328.out _; (with_reducible repeat (first | refine zau ?_ _ | refine zaF ?_ | refine zav ?_ _)); exact BK321.out⟩, ⟨by (with_reducible repeat (first | refine zau ?_ _ | refine zaF ?_ | refine zav ?_ _)); refine zbv (cs := #[.int .u8 t327, .int .i64 (wrap64 (x7_7 - a1)), .int .i64 0]) ?_ 2 _ rfl; (with_reducible repeat (first | refine zau ?_ _ | refine zaF ?_ | refine zav ?_ _)); refine zbv (cs := #[.int .u8 t327, .int .i64 0, .int .i64 0]) ?_ 1 _ rfl; (with_reducible repeat (first | refine zau ?_ _ | refine zaF ?_ | refine zav ?_ _)); refine zbv (cs := #[.int .u8 0, .int .i64 0, .int .i64 0]) ?_ 0 _ rfl; (with_reducible repeat (first | refine zau ?_ _ | refine zaF ?_ | refine zav ?_ _)); exact BK328.out⟩, ⟨by repeat (first | (with_reducible first | exact HB.out | apply zad | apply zac | apply zae | refine zaB ?_ GE321.out | refine zaB ?_ GE328.out) | exact HB.out)⟩⟩
      case rest =>
       clear HC22; try clear c1
       try clear c2
       try clear p2
       try clear c3
       try clear c4
       try clear c5
       try clear c5b0
       try clear c6
       try clear p6
       try clear c9
       try clear c9b0
       try clear c13
       try clear c16
       try clear c16b0
       try clear c18
       try clear c18b0
       try clear c18b1
       try clear c19
       try clear c25
       try clear c27
       try clear c27b0
       try clear c27b1
       try clear c28
       try clear c28b0
       try clear c28b1
       try clear c29
       try clear c29b0
       try clear c29b1
       try clear c30
       try clear c30b0
       try clear c30b1
       try clear c33
       try clear hcz26_0
       try clear hcz26_1
       try clear hcz26_2
       try clear hcz34_0
       try clear hcz34_1
       try clear hcz34_2
       try clear hcz7_0
       try clear hcz7_1
       try clear hcz7_2
       try clear hfz26_0
       try clear hfz26_1
       try clear hfz26_2
       try clear hfz34_0
       try clear hfz34_1
       try clear hfz34_2
       try clear hfz7_0
       try clear hfz7_1
       try clear hfz7_2
       try clear p2
       try clear p6
       obtain ⟨kq, x329000_21, HA, HJ21, BK321, BK328, HB⟩ := hcut; cases kq with
       | zero => exact absurd HA.out (by simp [zal.j4])
       | succ kj21 =>
        have H := HA.out; clear HA; simp only [zal.j4] at H; replace H := Option.bind_eq_some_iff.mp H; obtain ⟨t330, A350, H⟩ := H; replace H : (if t330 = true then (if x8_7 = true then (if (wrap64 ((wrap64 ((a0.size : Int) - x7_7)) + 1)) > 3 then (some (x329000_21, (wrap64 (x7_7 - a1)), 3, true)) else (some (x329000_21, (wrap64 (x7_7 - a1)), wrap64 ((wrap64 ((a0.size : Int) - x7_7)) + 1), true))) else (some (x329000_21, (wrap64 (x7_7 - a1)), 0, true))) else (some (x329000_21, (wrap64 (x7_7 - a1)), 1, true))) = some (r1, r2, r3, r4) := H
        have A35 := zaa.mk A350; clear A350; by_cases c36 : t330 = true
        ·subst c36
         have H1 : (if x8_7 = true then (if (wrap64 ((wrap64 ((a0.size : Int) - x7_7)) + 1)) > 3 then (some (x329000_21, (wrap64 (x7_7 - a1)), 3, true)) else (some (x329000_21, (wrap64 (x7_7 - a1)), wrap64 ((wrap64 ((a0.size : Int) - x7_7)) + 1), true))) else (some (x329000_21, (wrap64 (x7_7 - a1)), 0, true))) = some (r1, r2, r3, r4) := by rw [if_pos rfl] at H; exact H
         clear H; have H := H1; clear H1; by_cases c37 : x8_7 = true
         ·subst c37
          have H1 : (if (wrap64 ((wrap64 ((a0.size : Int) - x7_7)) + 1)) > 3 then (some (x329000_21, (wrap64 (x7_7 - a1)), 3, true)) else (some (x329000_21, (wrap64 (x7_7 - a1)), wrap64 ((wrap64 ((a0.size : Int) - x7_7)) + 1), true))) = some (r1, r2, r3, r4) := by rw [if_pos rfl] at H; exact H
          clear H; have H := H1; clear H1; by_cases c38 : (wrap64 ((wrap64 ((a0.size : Int) - x7_7)) + 1)) > 3
          ·rw [if_pos c38] at H
           have c38b0 : decide (3 < (wrap64 ((wrap64 ((a0.size : Int) - x7_7)) + 1))) = true := decide_eq_true c38; clear c38; simp only [Option.some.injEq, Prod.mk.injEq] at H; obtain ⟨rfl, rfl, rfl, rfl⟩ := H; go_wp2_with (first | ((with_reducible refine zaK (f := 46) rfl ?_); refine zbk (some 68) rfl rfl Tryd.func46 (by kernel_rfl) rfl #[.int .i64 x6_7] rfl (by (try simp only [List.map_toArray, List.map_cons, List.map_nil]); first | done | rfl | (simp only [List.length_drop, List.length_take]; rfl)) ?_; (with_reducible refine (zaW.calls kj21 x6_7 true _ A35.out).mono ?_); rintro e w39 ⟨rfl, hb⟩; refine ⟨_, rfl, ?_⟩; have n0_ := zaa.mk (zat (g := gb321) (o := .cells #[.int .u8 0, .int .i64 0, .int .i64 0] 63 (0, 0)) (by (with_reducible repeat (first | refine zau ?_ _ | refine zaF ?_ | refine zav ?_ _)); exact BK321.out) hb); have n1_ := zaa.mk (zat (g := gb328) (o := .cells #[.int .u8 x329000_21, .int .i64 (wrap64 (x7_7 - a1)), .int .i64 0] 63 (0, 0)) (by (with_reducible repeat (first | refine zau ?_ _ | refine zaF ?_ | refine zav ?_ _)); exact BK328.out) hb); have n2_ := zaa.mk (zai (by repeat (first | (with_reducible first | exact HB.out | apply zad | apply zac | apply zae | refine zaB ?_ GE321.out | refine zaB ?_ GE328.out) | exact HB.out)) hb); clear BK321; clear BK328; clear HB; have BK321 := n0_; have BK328 := n1_; have HB := n2_; clear n0_ n1_ n2_; (try clear hb); (try clear hb2); (try clear hk); (try clear hi); have hnb40 := NB328_321.out; have hnc40 := NB321_328.out; have hcz41_0 : w39.cell? ⟨gb328, 0, none⟩ = some (.int .u8 x329000_21) := (zaf BK328.out 0).trans rfl; have hcz41_1 : w39.cell? ⟨gb328, 1, none⟩ = some (.int .i64 (wrap64 (x7_7 - a1))) := (zaf BK328.out 1).trans rfl; have hcz41_2 : w39.cell? ⟨gb328, 2, none⟩ = some (.int .i64 0) := (zaf BK328.out 2).trans rfl; have hfz41_0 := zab BK328.out 0; have hfz41_1 := zab BK328.out 1; have hfz41_2 := zab BK328.out 2; have hcz42_0 : w39.cell? ⟨gb321, 0, none⟩ = some (.int .u8 0) := (zaf BK321.out 0).trans rfl; have hcz42_1 : w39.cell? ⟨gb321, 1, none⟩ = some (.int .i64 0) := (zaf BK321.out 1).trans rfl; have hcz42_2 : w39.cell? ⟨gb321, 2, none⟩ = some (.int .i64 0) := (zaf BK321.out 2).trans rfl; have hfz42_0 := zab BK321.out 0; have hfz42_1 := zab BK321.out 1; have hfz42_2 := zab BK321.out 2))
           refine bodyPost_ret (zb0 rfl _ _ gb321 63 #[.int .u8 x329000_21, .int .i64 (wrap64 (x7_7 - a1)), .int .i64 3] (0, 0) _ rfl (by (with_reducible repeat (first | refine zau ?_ _ | refine zaF ?_ | refine zav ?_ _)); refine zbv (cs := #[.int .u8 x329000_21, .int .i64 (wrap64 (x7_7 - a1)), .int .i64 0]) ?_ 2 _ rfl; (with_reducible repeat (first | refine zau ?_ _ | refine zaF ?_ | refine zav ?_ _)); refine zbv (cs := #[.int .u8 x329000_21, .int .i64 0, .int .i64 0]) ?_ 1 _ rfl; (with_reducible repeat (first | refine zau ?_ _ | refine zaF ?_ | refine zav ?_ _)); refine zbv (cs := #[.int .u8 0, .int .i64 0, .int .i64 0]) ?_ 0 _ rfl; (with_reducible repeat (first | refine zau ?_ _ | refine zaF ?_ | refine zav ?_ _)); refine zb3 ?_ NB321_328.out _; (with_reducible repeat (first | refine zau ?_ _ | refine zaF ?_ | refine zav ?_ _)); refine zb3 ?_ NB321_328.out _; (with_reducible repeat (first | refine zau ?_ _ | refine zaF ?_ | refine zav ?_ _)); exact BK321.out) Tryd.underlying63 rfl (by kernel_rfl)) rfl ?_
           exact ⟨by first | rfl | (simp [*, zaz, zay] <;> rfl), by repeat (first | (with_reducible first | exact HB.out | apply zad | apply zac | apply zae | refine zaB ?_ GE321.out | refine zaB ?_ GE328.out) | exact HB.out)⟩
          ·rw [if_neg c38] at H
           have c38b0 : decide (3 < (wrap64 ((wrap64 ((a0.size : Int) - x7_7)) + 1))) = false := decide_eq_false c38; clear c38; simp only [Option.some.injEq, Prod.mk.injEq] at H; obtain ⟨rfl, rfl, rfl, rfl⟩ := H; go_wp2_with (first | ((with_reducible refine zaK (f := 46) rfl ?_); refine zbk (some 68) rfl rfl Tryd.func46 (by kernel_rfl) rfl #[.int .i64 x6_7] rfl (by (try simp only [List.map_toArray, List.map_cons, List.map_nil]); first | done | rfl | (simp only [List.length_drop, List.length_take]; rfl)) ?_; (with_reducible refine (zaW.calls kj21 x6_7 true _ A35.out).mono ?_); rintro e w43 ⟨rfl, hb⟩; refine ⟨_, rfl, ?_⟩; have n0_ := zaa.mk (zat (g := gb321) (o := .cells #[.int .u8 0, .int .i64 0, .int .i64 0] 63 (0, 0)) (by (with_reducible repeat (first | refine zau ?_ _ | refine zaF ?_ | refine zav ?_ _)); exact BK321.out) hb); have n1_ := zaa.mk (zat (g := gb328) (o := .cells #[.int .u8 x329000_21, .int .i64 (wrap64 (x7_7 - a1)), .int .i64 0] 63 (0, 0)) (by (with_reducible repeat (first | refine zau ?_ _ | refine zaF ?_ | refine zav ?_ _)); exact BK328.out) hb); have n2_ := zaa.mk (zai (by repeat (first | (with_reducible first | exact HB.out | apply zad | apply zac | apply zae | refine zaB ?_ GE321.out | refine zaB ?_ GE328.out) | exact HB.out)) hb); clear BK321; clear BK328; clear HB; have BK321 := n0_; have BK328 := n1_; have HB := n2_; clear n0_ n1_ n2_; (try clear hb); (try clear hb2); (try clear hk); (try clear hi); have hnb44 := NB328_321.out; have hnc44 := NB321_328.out; have hcz45_0 : w43.cell? ⟨gb328, 0, none⟩ = some (.int .u8 x329000_21) := (zaf BK328.out 0).trans rfl; have hcz45_1 : w43.cell? ⟨gb328, 1, none⟩ = some (.int .i64 (wrap64 (x7_7 - a1))) := (zaf BK328.out 1).trans rfl; have hcz45_2 : w43.cell? ⟨gb328, 2, none⟩ = some (.int .i64 0) := (zaf BK328.out 2).trans rfl; have hfz45_0 := zab BK328.out 0; have hfz45_1 := zab BK328.out 1; have hfz45_2 := zab BK328.out 2; have hcz46_0 : w43.cell? ⟨gb321, 0, none⟩ = some (.int .u8 0) := (zaf BK321.out 0).trans rfl; have hcz46_1 : w43.cell? ⟨gb321, 1, none⟩ = some (.int .i64 0) := (zaf BK321.out 1).trans rfl; have hcz46_2 : w43.cell? ⟨gb321, 2, none⟩ = some (.int .i64 0) := (zaf BK321.out 2).trans rfl; have hfz46_0 := zab BK321.out 0; have hfz46_1 := zab BK321.out 1; have hfz46_2 := zab BK321.out 2))
           refine bodyPost_ret (zb0 rfl _ _ gb321 63 #[.int .u8 x329000_21, .int .i64 (wrap64 (x7_7 - a1)), .int .i64 (wrap64 ((wrap64 ((a0.size : Int) - x7_7)) + 1))] (0, 0) _ rfl (by (with_reducible repeat (first | refine zau ?_ _ | refine zaF ?_ | refine zav ?_ _)); refine zbv (cs := #[.int .u8 x329000_21, .int .i64 (wrap64 (x7_7 - a1)), .int .i64 0]) ?_ 2 _ rfl; (with_reducible repeat (first | refine zau ?_ _ | refine zaF ?_ | refine zav ?_ _)); refine zbv (cs := #[.int .u8 x329000_21, .int .i64 0, .int .i64 0]) ?_ 1 _ rfl; (with_reducible repeat (first | refine zau ?_ _ | refine zaF ?_ | refine zav ?_ _)); refine zbv (cs := #[.int .u8 0, .int .i64 0, .int .i64 0]) ?_ 0 _ rfl; (with_reducible repeat (first | refine zau ?_ _ | refine zaF ?_ | refine zav ?_ _)); refine zb3 ?_ NB321_328.out _; (with_reducible repeat (first | refine zau ?_ _ | refine zaF ?_ | refine zav ?_ _)); exact BK321.out) Tryd.underlying63 rfl (by kernel_rfl)) rfl ?_
           exact ⟨by first | rfl | (simp [*, zaz, zay] <;> rfl), by repeat (first | (with_reducible first | exact HB.out | apply zad | apply zac | apply zae | refine zaB ?_ GE321.out | refine zaB ?_ GE328.out) | exact HB.out)⟩
         ·replace c37 := Bool.eq_false_iff.mpr c37
          subst c37; have H1 : (some (x329000_21, (wrap64 (x7_7 - a1)), 0, true)) = some (r1, r2, r3, r4) := by rw [if_neg (show ¬ (false = true) by decide)] at H; exact H
          clear H; have H := H1; clear H1; simp only [Option.some.injEq, Prod.mk.injEq] at H; obtain ⟨rfl, rfl, rfl, rfl⟩ := H; go_wp2_with (first | ((with_reducible refine zaK (f := 46) rfl ?_); refine zbk (some 68) rfl rfl Tryd.func46 (by kernel_rfl) rfl #[.int .i64 x6_7] rfl (by (try simp only [List.map_toArray, List.map_cons, List.map_nil]); first | done | rfl | (simp only [List.length_drop, List.length_take]; rfl)) ?_; (with_reducible refine (zaW.calls kj21 x6_7 true _ A35.out).mono ?_); rintro e w47 ⟨rfl, hb⟩; refine ⟨_, rfl, ?_⟩; have n0_ := zaa.mk (zat (g := gb321) (o := .cells #[.int .u8 0, .int .i64 0, .int .i64 0] 63 (0, 0)) (by (with_reducible repeat (first | refine zau ?_ _ | refine zaF ?_ | refine zav ?_ _)); exact BK321.out) hb); have n1_ := zaa.mk (zat (g := gb328) (o := .cells #[.int .u8 x329000_21, .int .i64 (wrap64 (x7_7 - a1)), .int .i64 0] 63 (0, 0)) (by (with_reducible repeat (first | refine zau ?_ _ | refine zaF ?_ | refine zav ?_ _)); exact BK328.out) hb); have n2_ := zaa.mk (zai (by repeat (first | (with_reducible first | exact HB.out | apply zad | apply zac | apply zae | refine zaB ?_ GE321.out | refine zaB ?_ GE328.out) | exact HB.out)) hb); clear BK321; clear BK328; clear HB; have BK321 := n0_; have BK328 := n1_; have HB := n2_; clear n0_ n1_ n2_; (try clear hb); (try clear hb2); (try clear hk); (try clear hi); have hnb48 := NB328_321.out; have hnc48 := NB321_328.out; have hcz49_0 : w47.cell? ⟨gb328, 0, none⟩ = some (.int .u8 x329000_21) := (zaf BK328.out 0).trans rfl; have hcz49_1 : w47.cell? ⟨gb328, 1, none⟩ = some (.int .i64 (wrap64 (x7_7 - a1))) := (zaf BK328.out 1).trans rfl; have hcz49_2 : w47.cell? ⟨gb328, 2, none⟩ = some (.int .i64 0) := (zaf BK328.out 2).trans rfl; have hfz49_0 := zab BK328.out 0; have hfz49_1 := zab BK328.out 1; have hfz49_2 := zab BK328.out 2; have hcz50_0 : w47.cell? ⟨gb321, 0, none⟩ = some (.int .u8 0) := (zaf BK321.out 0).trans rfl; have hcz50_1 : w47.cell? ⟨gb321, 1, none⟩ = some (.int .i64 0) := (zaf BK321.out 1).trans rfl; have hcz50_2 : w47.cell? ⟨gb321, 2, none⟩ = some (.int .i64 0) := (zaf BK321.out 2).trans rfl; have hfz50_0 := zab BK321.out 0; have hfz50_1 := zab BK321.out 1; have hfz50_2 := zab BK321.out 2))
          refine bodyPost_ret (zb0 rfl _ _ gb321 63 #[.int .u8 x329000_21, .int .i64 (wrap64 (x7_7 - a1)), .int .i64 0] (0, 0) _ rfl (by (with_reducible repeat (first | refine zau ?_ _ | refine zaF ?_ | refine zav ?_ _)); refine zbv (cs := #[.int .u8 x329000_21, .int .i64 (wrap64 (x7_7 - a1)), .int .i64 0]) ?_ 2 _ rfl; (with_reducible repeat (first | refine zau ?_ _ | refine zaF ?_ | refine zav ?_ _)); refine zbv (cs := #[.int .u8 x329000_21, .int .i64 0, .int .i64 0]) ?_ 1 _ rfl; (with_reducible repeat (first | refine zau ?_ _ | refine zaF ?_ | refine zav ?_ _)); refine zbv (cs := #[.int .u8 0, .int .i64 0, .int .i64 0]) ?_ 0 _ rfl; (with_reducible repeat (first | refine zau ?_ _ | refine zaF ?_ | refine zav ?_ _)); exact BK321.out) Tryd.underlying63 rfl (by kernel_rfl)) rfl ?_
          exact ⟨by first | rfl | (simp [*, zaz, zay] <;> rfl), by repeat (first | (with_reducible first | exact HB.out | apply zad | apply zac | apply zae | refine zaB ?_ GE321.out | refine zaB ?_ GE328.out) | exact HB.out)⟩
        ·replace c36 := Bool.eq_false_iff.mpr c36
         subst c36; have H1 : (some (x329000_21, (wrap64 (x7_7 - a1)), 1, true)) = some (r1, r2, r3, r4) := by rw [if_neg (show ¬ (false = true) by decide)] at H; exact H
         clear H; have H := H1; clear H1; simp only [Option.some.injEq, Prod.mk.injEq] at H; obtain ⟨rfl, rfl, rfl, rfl⟩ := H; go_wp2_with (first | ((with_reducible refine zaK (f := 46) rfl ?_); refine zbk (some 68) rfl rfl Tryd.func46 (by kernel_rfl) rfl #[.int .i64 x6_7] rfl (by (try simp only [List.map_toArray, List.map_cons, List.map_nil]); first | done | rfl | (simp only [List.length_drop, List.length_take]; rfl)) ?_; (with_reducible refine (zaW.calls kj21 x6_7 false _ A35.out).mono ?_); rintro e w51 ⟨rfl, hb⟩; refine ⟨_, rfl, ?_⟩; have n0_ := zaa.mk (zat (g := gb321) (o := .cells #[.int .u8 0, .int .i64 0, .int .i64 0] 63 (0, 0)) (by (with_reducible repeat (first | refine zau ?_ _ | refine zaF ?_ | refine zav ?_ _)); exact BK321.out) hb); have n1_ := zaa.mk (zat (g := gb328) (o := .cells #[.int .u8 x329000_21, .int .i64 (wrap64 (x7_7 - a1)), .int .i64 0] 63 (0, 0)) (by (with_reducible repeat (first | refine zau ?_ _ | refine zaF ?_ | refine zav ?_ _)); exact BK328.out) hb); have n2_ := zaa.mk (zai (by repeat (first | (with_reducible first | exact HB.out | apply zad | apply zac | apply zae | refine zaB ?_ GE321.out | refine zaB ?_ GE328.out) | exact HB.out)) hb); clear BK321; clear BK328; clear HB; have BK321 := n0_; have BK328 := n1_; have HB := n2_; clear n0_ n1_ n2_; (try clear hb); (try clear hb2); (try clear hk); (try clear hi); have hnb52 := NB328_321.out; have hnc52 := NB321_328.out; have hcz53_0 : w51.cell? ⟨gb328, 0, none⟩ = some (.int .u8 x329000_21) := (zaf BK328.out 0).trans rfl; have hcz53_1 : w51.cell? ⟨gb328, 1, none⟩ = some (.int .i64 (wrap64 (x7_7 - a1))) := (zaf BK328.out 1).trans rfl; have hcz53_2 : w51.cell? ⟨gb328, 2, none⟩ = some (.int .i64 0) := (zaf BK328.out 2).trans rfl; have hfz53_0 := zab BK328.out 0; have hfz53_1 := zab BK328.out 1; have hfz53_2 := zab BK328.out 2; have hcz54_0 : w51.cell? ⟨gb321, 0, none⟩ = some (.int .u8 0) := (zaf BK321.out 0).trans rfl; have hcz54_1 : w51.cell? ⟨gb321, 1, none⟩ = some (.int .i64 0) := (zaf BK321.out 1).trans rfl; have hcz54_2 : w51.cell? ⟨gb321, 2, none⟩ = some (.int .i64 0) := (zaf BK321.out 2).trans rfl; have hfz54_0 := zab BK321.out 0; have hfz54_1 := zab BK321.out 1; have hfz54_2 := zab BK321.out 2))
         refine bodyPost_ret (zb0 rfl _ _ gb321 63 #[.int .u8 x329000_21, .int .i64 (wrap64 (x7_7 - a1)), .int .i64 1] (0, 0) _ rfl (by (with_reducible repeat (first | refine zau ?_ _ | refine zaF ?_ | refine zav ?_ _)); refine zbv (cs := #[.int .u8 x329000_21, .int .i64 (wrap64 (x7_7 - a1)), .int .i64 0]) ?_ 2 _ rfl; (with_reducible repeat (first | refine zau ?_ _ | refine zaF ?_ | refine zav ?_ _)); refine zbv (cs := #[.int .u8 x329000_21, .int .i64 0, .int .i64 0]) ?_ 1 _ rfl; (with_reducible repeat (first | refine zau ?_ _ | refine zaF ?_ | refine zav ?_ _)); refine zbv (cs := #[.int .u8 0, .int .i64 0, .int .i64 0]) ?_ 0 _ rfl; (with_reducible repeat (first | refine zau ?_ _ | refine zaF ?_ | refine zav ?_ _)); refine zb3 ?_ NB321_328.out _; (with_reducible repeat (first | refine zau ?_ _ | refine zaF ?_ | refine zav ?_ _)); exact BK321.out) Tryd.underlying63 rfl (by kernel_rfl)) rfl ?_
         exact ⟨by first | rfl | (simp [*, zaz, zay] <;> rfl), by repeat (first | (with_reducible first | exact HB.out | apply zad | apply zac | apply zae | refine zaB ?_ GE321.out | refine zaB ?_ GE328.out) | exact HB.out)⟩
def za2.l0 : Nat → ByteArray → List (S63) → Int → Option ((List (S63)))
 | 0, _, _, _ => none
 | k + 1, x0, x3, x4 => if x4 < (x0.size : Int) then ((zar.f k x0 x4).bind fun bt331 => ((zal.f k x0 x4).bind fun bt333 => (if x3.length < 5864062014805 then (za2.l0 k x0 (x3 ++ [(⟨bt331.1, wrap64 (bt331.2 - x4), bt333.2.2.1⟩ : S63)]) bt331.2) else (none)))) else (some x3)
def za2.f (k : Nat) (a0 : ByteArray) : Option ((List (S63))) := za2.l0 k a0 ([] : List (S63)) 0
theorem za2.calls (k : Nat) (a0 : ByteArray) (r : List (S63)) (w : World) (h : za2.f k a0 = some r) :
  Calls Tryd.prog 8 #[.string a0] w fun e w' => ∃ v0_ : Value, e = .returned (v0_) ∧ Kd.R k63 63 w' w.heap.size (fun _ => True) v0_ r ∧ Below w.heap.size w w' := by
 have hu63 := Tryd.underlying63; have HB := zaa.mk (Below.refl w.heap.size w); have H : (za2.l0 k a0 ([] : List (S63)) 0) = some r := h; clear h; have H' := zaa.mk H; clear H; go_enter Tryd.func8, Tryd.ntmps8
 go_wp2
 go_loopg [3, 4] k (fun kq v3 v4 w' => ∃ (x3_1 : List (S63)) (x4_1 : Int), v4 = .int .i64 x4_1 ∧ zaa (za2.l0 kq a0 x3_1 x4_1 = some r) ∧ zaa (kq ≤ k) ∧ zaa (Kd.R k63 63 w' w.heap.size (fun _ => True) v3 x3_1) ∧ zaa (Below w.heap.size w w'))
 case atStart => exact ⟨(([] : List (S63))), (0), (by first | rfl | (simp; done) | simp [*]), H', ⟨Nat.le_refl _⟩, ⟨by first | exact Kd.R_nil _ _ _ _ _ | exact Kd.N_nil _ _ _ _ _ | exact Kd.V_nil _ _ _ _ _ | exact Kd.Q_nil _ _ _ _ _ | exact Kd.S_nil _ _ _ _ _⟩, ⟨by repeat (first | exact HB.out | apply zad | apply zac | apply zae)⟩⟩
 case round =>
  clear H'; obtain ⟨x3_1, x4_1, rfl, HA, HK1, HO_3, HB⟩ := hrel; cases gk with
  | zero => exact absurd HA.out (by simp [za2.l0])
  | succ k1 =>
   have H := HA.out; clear HA; simp only [za2.l0] at H; by_cases c2 : x4_1 < (a0.size : Int)
   ·rw [if_pos c2] at H
    have c2b0 : decide (x4_1 < (a0.size : Int)) = true := decide_eq_true c2; clear c2; replace H := Option.bind_eq_some_iff.mp H; obtain ⟨⟨t331, t332⟩, A30, H⟩ := H; replace H : ((zal.f k1 a0 x4_1).bind fun bt333 => (if x3_1.length < 5864062014805 then (za2.l0 k1 a0 (x3_1 ++ [(⟨t331, wrap64 (t332 - x4_1), bt333.2.2.1⟩ : S63)]) t332) else (none))) = some r := H
    have A3 := zaa.mk A30; clear A30; replace H := Option.bind_eq_some_iff.mp H; obtain ⟨⟨t333, t334, t335, t336⟩, A40, H⟩ := H; replace H : (if x3_1.length < 5864062014805 then (za2.l0 k1 a0 (x3_1 ++ [(⟨t331, wrap64 (t332 - x4_1), t335⟩ : S63)]) t332) else (none)) = some r := H
    have A4 := zaa.mk A40; clear A40; by_cases c5 : x3_1.length < 5864062014805
    ·rw [if_pos c5] at H
     have LMc5 := zaa.mk c5; clear c5; obtain ⟨y338, hy338⟩ : ∃ y_ : List (S63), y_ = (x3_1 ++ [(⟨t331, wrap64 (t332 - x4_1), t335⟩ : S63)]) := ⟨_, rfl⟩; replace H : (za2.l0 k1 a0 y338 t332) = some r := by first | (rw [hy338]; with_reducible exact H) | (have H2_ := (Option.bind_some _ _).symm.trans H; rw [hy338]; with_reducible exact H2_) | (have H2_ := (Option.bind_some _ _).symm.trans H; with_reducible exact H2_) | with_reducible exact H | (rw [hy338]; exact H) | exact H
     have Ny338 := zaa.mk hy338; clear hy338; have H' := zaa.mk H; clear H; go_wp2_with (first | ((with_reducible refine zaK (f := 18) rfl ?_); refine zbk (some 16) rfl rfl Tryd.func18 (by kernel_rfl) rfl #[.string a0, .int .i64 x4_1] rfl (by (try simp only [List.map_toArray, List.map_cons, List.map_nil]); first | done | rfl | (simp only [List.length_drop, List.length_take]; rfl)) ?_; (with_reducible refine (zar.calls k1 a0 x4_1 t331 t332 _ A3.out).mono ?_); rintro e w6 ⟨rfl, hb⟩; refine ⟨_, rfl, ?_⟩; have n0_ := zaa.mk (Kd.zbm (by (with_reducible repeat (first | apply Kd.za4 | apply Kd.zbu | apply Kd.zbC)); exact HO_3.out) hb); have n1_ := zaa.mk (zai (by repeat (first | exact HB.out | apply zad | apply zac | apply zae)) hb); clear HO_3; clear HB; have HO_3 := n0_; have HB := n1_; clear n0_ n1_; (try clear hb); (try clear hb2); (try clear hk); (try clear hi)) | ((with_reducible refine zaK (f := 19) rfl ?_); refine zbk (some 22) rfl rfl Tryd.func19 (by kernel_rfl) rfl #[.string a0, .int .i64 x4_1] rfl (by (try simp only [List.map_toArray, List.map_cons, List.map_nil]); first | done | rfl | (simp only [List.length_drop, List.length_take]; rfl)) ?_; (with_reducible refine (zal.calls k1 a0 x4_1 t333 t334 t335 t336 _ A4.out).mono ?_); rintro e w7 ⟨rfl, hb⟩; refine ⟨_, rfl, ?_⟩; have n0_ := zaa.mk (Kd.zbm (by (with_reducible repeat (first | apply Kd.za4 | apply Kd.zbu | apply Kd.zbC)); exact HO_3.out) hb); have n1_ := zaa.mk (zai (by repeat (first | exact HB.out | apply zad | apply zac | apply zae)) hb); clear HO_3; clear HB; have HO_3 := n0_; have HB := n1_; clear n0_ n1_; (try clear hb); (try clear hb2); (try clear hk); (try clear hi)) | ((with_reducible refine za6 (N := 7) rfl ?_); refine zbl ?hg (N := 7) ?hd (cs := #[.int .u8 0, .int .i64 0, .int .i64 0]) (t := 63) ?hr ?_; (case hd => rfl); (case hg => rfl); (case hr => first | (go_simp; done) | (go_simp; rfl)); intro gb337 hg w8 hbox hb; have n0_ := zaa.mk (Kd.zbm (Kd.R_elderB (by (with_reducible repeat (first | apply Kd.za4 | apply Kd.zbu | apply Kd.zbC)); exact HO_3.out) gb337 (Nat.le_of_eq hg.symm)) hb); have n1_ := zaa.mk (zai (by repeat (first | exact HB.out | apply zad | apply zac | apply zae)) hb); have n2_ := zaa.mk (hbox); have n3_ := zaa.mk ((by rw [hg]; exact (zax (by repeat (first | exact HB.out | apply zad | apply zac | apply zae))) : w.heap.size ≤ gb337)); have n4_ := zaa.mk ((by rw [hg]; exact (zax (by repeat (first | exact HB.out | apply zad | apply zac | apply zae))) : w.heap.size ≤ gb337)); clear HO_3; clear HB; have HO_3 := n0_; have HB := n1_; have BK337 := n2_; have GW337 := n3_; have GE337 := n4_; clear n0_ n1_ n2_ n3_ n4_; clear hb hbox hg; have hcz9_0 : w8.cell? ⟨gb337, 0, none⟩ = some (.int .u8 0) := (zaf BK337.out 0).trans rfl; have hcz9_1 : w8.cell? ⟨gb337, 1, none⟩ = some (.int .i64 0) := (zaf BK337.out 1).trans rfl; have hcz9_2 : w8.cell? ⟨gb337, 2, none⟩ = some (.int .i64 0) := (zaf BK337.out 2).trans rfl; have hfz9_0 := zab BK337.out 0; have hfz9_1 := zab BK337.out 1; have hfz9_2 := zab BK337.out 2) | ((with_reducible refine gate_builtin (b := .append) (xs := #[.tmp 25, .tmp 33]) rfl ?_); at_builtin; refine Kd.R_append k63 (w0 := w) w.heap.size rfl (.tmp 25) (.tmp 33) 36 63 (.agg #[(.int .u8 0), (.int .i64 0), (.int .i64 0)]) 24 rfl Tryd.underlying36 info63 rfl (by decide) (by omega) u3 x3_1 (⟨t331, wrap64 (t332 - x4_1), t335⟩ : S63) [.int .u8 t331, .int .i64 (wrap64 (t332 - x4_1)), .int .i64 t335] (fun k_ => k_ ≠ gb337) (fun _ => False) rfl (by first | (go_simp; done) | (go_simp; rfl)) ?aP (fun _ hk => hk.elim) ?aF ?aO ?aB ?aS ?aL ?_; (case aP => exact k63_mkM _ _ _ (⟨t331, wrap64 (t332 - x4_1), t335⟩ : S63)); (case aB => exact (by repeat (first | (with_reducible first | exact HB.out | apply zad | apply zac | apply zae | refine zaB ?_ GE337.out) | exact HB.out))); (case aF => exact (fun k_ hk => Kd.freshB (g := gb337) (o := .cells #[.int .u8 t333, .int .i64 t334, .int .i64 t335] 63 (0, 0)) (by (with_reducible repeat (first | refine zau ?_ _ | refine zaF ?_ | refine zav ?_ _)); refine zbv (cs := #[.int .u8 t333, .int .i64 t334, .int .i64 0]) ?_ 2 _ rfl; (with_reducible repeat (first | refine zau ?_ _ | refine zaF ?_ | refine zav ?_ _)); refine zbv (cs := #[.int .u8 t333, .int .i64 0, .int .i64 0]) ?_ 1 _ rfl; (with_reducible repeat (first | refine zau ?_ _ | refine zaF ?_ | refine zav ?_ _)); refine zbv (cs := #[.int .u8 0, .int .i64 0, .int .i64 0]) ?_ 0 _ rfl; (with_reducible repeat (first | refine zau ?_ _ | refine zaF ?_ | refine zav ?_ _)); exact BK337.out) k_ hk)); (case aO => exact (by (with_reducible repeat (first | apply Kd.za4 | apply Kd.zbu | apply Kd.zbC)); exact Kd.zbT (Kd.R_far (p := ⟨gb337, 2, none⟩) (Kd.R_far (p := ⟨gb337, 1, none⟩) (Kd.R_far (p := ⟨gb337, 0, none⟩) (Kd.zbT HO_3.out (fun k_ hk => (⟨hk, hk.2⟩ : _ ∧ k_ ≠ gb337))) (fun _ hk => hk.2) (.int .u8 t333)) (fun _ hk => hk.2) (.int .i64 t334)) (fun _ hk => hk.2) (.int .i64 t335)) (fun _ hk => hk.1.2))); (case aS => exact (zax (by repeat (first | (with_reducible first | exact HB.out | apply zad | apply zac | apply zae | refine zaB ?_ GE337.out) | exact HB.out)))); (case aL => have := LMc5.out; omega); intro v339 w10 ho hb hg hat; rw [← Ny338.out] at ho; have n0_ := zaa.mk (blk_grown (g := gb337) (o := .cells #[.int .u8 t333, .int .i64 t334, .int .i64 t335] 63 (0, 0)) (by (with_reducible repeat (first | refine zau ?_ _ | refine zaF ?_ | refine zav ?_ _)); refine zbv (cs := #[.int .u8 t333, .int .i64 t334, .int .i64 0]) ?_ 2 _ rfl; (with_reducible repeat (first | refine zau ?_ _ | refine zaF ?_ | refine zav ?_ _)); refine zbv (cs := #[.int .u8 t333, .int .i64 0, .int .i64 0]) ?_ 1 _ rfl; (with_reducible repeat (first | refine zau ?_ _ | refine zaF ?_ | refine zav ?_ _)); refine zbv (cs := #[.int .u8 0, .int .i64 0, .int .i64 0]) ?_ 0 _ rfl; (with_reducible repeat (first | refine zau ?_ _ | refine zaF ?_ | refine zav ?_ _)); exact BK337.out) hg (Kd.R_away HO_3.out (fun _ hk => hk.2))); have n1_ := zaa.mk (hb); have n2_ := zaa.mk (ho); clear BK337; clear HB; clear HO_3; have BK337 := n0_; have HB := n1_; have HO340 := n2_; clear n0_ n1_ n2_; clear ho hb hg hat))
     go_roundg k1
     case measure => have := HK1.out; omega
     case rel => exact ⟨(y338), (t332), (by first | rfl | (simp; done) | simp [*]), H', ⟨by have := HK1.out; omega⟩, ⟨by (with_reducible repeat (first | apply Kd.za4 | apply Kd.zbu | apply Kd.zbC)); exact Kd.zbT HO340.out (fun _ hk => trivial)⟩, ⟨by repeat (first | (with_reducible first | exact HB.out | apply zad | apply zac | apply zae | refine zaB ?_ GE337.out) | exact HB.out)⟩⟩
    ·rw [if_neg c5] at H
     exact absurd H (by simp)
   ·rw [if_neg c2] at H
    have c2b0 : decide (x4_1 < (a0.size : Int)) = false := decide_eq_false c2; clear c2; obtain rfl := Option.some.inj H; go_wp2
    go_ret
    exact ⟨_, by first | rfl | (simp [*, zaz, zay] <;> rfl), by (with_reducible repeat (first | apply Kd.za4 | apply Kd.zbu | apply Kd.zbC)); exact HO_3.out, by repeat (first | exact HB.out | apply zad | apply zac | apply zae)⟩
end
def Tot {α : Type} (g : Nat → Option α) (p : α → Prop) : Prop := ∃ v, Ev g v ∧ p v
section
variable {α β : Type} {f g : Nat → Option α} {p q : α → Prop}
theorem Tot.some {v : α} (h : p v) : Tot (fun _ => some v) p := ⟨v, ⟨0, fun _ _ => rfl⟩, h⟩
theorem Tot.step (h : ∀ k, g (k + 1) = f k) (t : Tot f p) : Tot g p := by
 obtain ⟨v, hv, hp⟩ := t; exact ⟨v, Ev.step h hv, hp⟩
theorem Tot.ite {c : Prop} [Decidable c] (h : c → Tot f p) (h' : ¬ c → Tot g p) : Tot (fun k => if c then f k else g k) p := by
 by_cases hc : c
 ·simpa [hc] using h hc
 ·simpa [hc] using h' hc
theorem Tot.bind {u : Nat → Option β} {r : β → Prop} {g : Nat → β → Option α} (h : Tot u r) (h' : ∀ v, r v → Tot (fun k => g k v) p) : Tot (fun k => (u k).bind (g k)) p := by
 obtain ⟨v, hv, hr⟩ := h; obtain ⟨w, hw, hp⟩ := h' v hr; exact ⟨w, Ev.bind hv hw, hp⟩
theorem Tot.mono (h : Tot f p) (hq : ∀ v, p v → q v) : Tot f q := by
 obtain ⟨v, hv, hp⟩ := h; exact ⟨v, hv, hq v hp⟩
theorem Tot.const {o : Option α} {v : α} (h : o = Option.some v) (hp : p v) : Tot (fun _ => o) p := ⟨v, ⟨0, fun _ _ => h⟩, hp⟩
end
theorem zbj {x : Int} (h0 : -9223372036854775808 ≤ x) (h1 : x ≤ 9223372036854775807) : wrap64 x = x := by unfold wrap64; omega
theorem blank_tot (c : Int) : ∃ b, za1.f c = some b := by
 unfold za1.f
 repeat' split
 all_goals exact ⟨_, rfl⟩
theorem letter_tot (c : Int) : ∃ b, zaX.f c = some b := by
 unfold zaX.f
 repeat' split
 all_goals exact ⟨_, rfl⟩
theorem digit_tot (c : Int) : ∃ b, zaP.f c = some b := by
 unfold zaP.f
 repeat' split
 all_goals exact ⟨_, rfl⟩
def OneP (s : ByteArray) (at_ : Int) (v : Int × Int) : Prop := (0 ≤ v.1 ∧ v.1 ≤ 255) ∧ at_ < v.2 ∧ v.2 ≤ s.size
theorem one_l0 (s : ByteArray) (hs : (s.size : Int) ≤ 3000) (at_ : Int) (h0 : 0 ≤ at_) : ∀ (n : Nat) (i : Int), (s.size : Int) - i ≤ n → (at_ < i ∨ (i = at_ ∧ i < s.size ∧ za1.f (bt s i) = some true)) → i ≤ s.size → Tot (fun k => zar.l0 k s i) (OneP s at_)
 | n, i, hn, hi, hi2 => by
  apply Tot.step
  ·intro k; rw [zar.l0]
  refine Tot.ite (fun hc => ?_) (fun hc => Tot.some ⟨by constructor <;> simp, by simp only; omega, hi2⟩)
  refine Tot.ite (fun hc2 => ?_) (fun hc2 => absurd (show (0 : Int) ≤ i by omega) hc2)
  obtain ⟨b, hb⟩ := blank_tot (bt s i); refine Tot.bind (Tot.const hb (p := fun v => v = b) rfl) (fun v hv => ?_)
  refine Tot.ite (fun hc3 => ?_) (fun hc3 => Tot.some ⟨by constructor <;> simp, ?_, hi2⟩)
  rotate_left
  ·rcases hi with hi | ⟨rfl, _, hi⟩
   ·exact hi
   ·rw [hi] at hb; exact absurd (hv.trans (Option.some.inj hb).symm) hc3
  rw [zbj (x := i + 1) (by omega) (by omega)]
  match n, hn with
  | 0, hn => omega
  | n + 1, hn => exact one_l0 s hs at_ h0 n (i + 1) (by omega) (.inl (by omega)) (by omega)
theorem one_l2 (s : ByteArray) (hs : (s.size : Int) ≤ 3000) (at_ : Int) (h0 : 0 ≤ at_) : ∀ (n : Nat) (i : Int), (s.size : Int) - i ≤ n → (at_ < i ∨ (i = at_ ∧ i < s.size ∧ zaP.f (bt s i) = some true)) → i ≤ s.size → Tot (fun k => zar.l2 k s i) (OneP s at_)
 | n, i, hn, hi, hi2 => by
  apply Tot.step
  ·intro k; rw [zar.l2]
  refine Tot.ite (fun hc => ?_) (fun hc => Tot.some ⟨by constructor <;> simp, by simp only; omega, hi2⟩)
  refine Tot.ite (fun hc2 => ?_) (fun hc2 => absurd (show (0 : Int) ≤ i by omega) hc2)
  obtain ⟨b, hb⟩ := digit_tot (bt s i); refine Tot.bind (Tot.const hb (p := fun v => v = b) rfl) (fun v hv => ?_)
  refine Tot.ite (fun hc3 => ?_) (fun hc3 => Tot.some ⟨by constructor <;> simp, ?_, hi2⟩)
  rotate_left
  ·rcases hi with hi | ⟨rfl, _, hi⟩
   ·exact hi
   ·rw [hi] at hb; exact absurd (hv.trans (Option.some.inj hb).symm) hc3
  rw [zbj (x := i + 1) (by omega) (by omega)]
  match n, hn with
  | 0, hn => omega
  | n + 1, hn => exact one_l2 s hs at_ h0 n (i + 1) (by omega) (.inl (by omega)) (by omega)
theorem word_l0 (w : ByteArray) (l : List ByteArray) (hl : l.length = 8) : ∀ (n : Nat) (i : Int), 8 - i ≤ n → 0 ≤ i → i ≤ 8 → Tot (fun k => zaU.l0 k w l i) (fun v => 0 ≤ v ∧ v ≤ 255)
 | n, i, hn, hi, hi2 => by
  apply Tot.step
  ·intro k; rw [zaU.l0]
  refine Tot.ite (fun hc => ?_) (fun hc => Tot.some (by decide))
  refine Tot.ite (fun hc2 => ?_) (fun hc2 => absurd hi hc2)
  refine Tot.ite (fun hc3 => Tot.some (by omega)) (fun hc3 => ?_)
  rw [zbj (x := i + 1) (by omega) (by omega)]
  match n, hn with
  | 0, hn => omega
  | n + 1, hn => exact word_l0 w l hl n (i + 1) (by omega) (by omega) (by omega)
theorem word_tot (w : ByteArray) : Tot (fun k => zaU.f k w) (fun v => 0 ≤ v ∧ v ≤ 255) := word_l0 w _ rfl 8 0 (by omega) (by omega) (by omega)
theorem one_l1 (s : ByteArray) (hs : (s.size : Int) ≤ 3000) (at_ : Int) (h0 : 0 ≤ at_) : ∀ (n : Nat) (i : Int), (s.size : Int) - i ≤ n → (at_ < i ∨ (i = at_ ∧ i < s.size ∧ zaX.f (bt s i) = some true)) → i ≤ s.size → Tot (fun k => zar.l1 k s at_ i) (OneP s at_)
 | n, i, hn, hi, hi2 => by
  have hw : at_ < i → ∀ (w : ByteArray), Tot (fun k => (zaU.f k w).bind fun t => some (t, i)) (OneP s at_) := fun hi w =>
   Tot.bind (g := fun _ t => some (t, i)) (word_tot w) (fun v hv => Tot.some ⟨hv, hi, hi2⟩)
  have hstep : Tot (fun k => zar.l1 k s at_ (wrap64 (i + 1))) (OneP s at_) ∨ ¬ i < (s.size : Int) := by
   by_cases hc : i < (s.size : Int)
   ·refine .inl ?_
    rw [zbj (x := i + 1) (by omega) (by omega)]
    match n, hn with
    | 0, hn => omega
    | n + 1, hn => exact one_l1 s hs at_ h0 n (i + 1) (by omega) (.inl (by omega)) (by omega)
   ·exact .inr hc
  apply Tot.step
  ·intro k; rw [zar.l1]
  refine Tot.ite (fun hc => ?_) (fun hc => ?_)
  ·have hst := hstep.resolve_right (fun h => h hc)
   refine Tot.ite (fun hc2 => ?_) (fun hc2 => absurd (show (0 : Int) ≤ i by omega) hc2)
   obtain ⟨b, hb⟩ := letter_tot (bt s i); refine Tot.bind (Tot.const hb (p := fun v => v = b) rfl) (fun v hv => ?_)
   refine Tot.ite (fun hc3 => hst) (fun hc3 => ?_)
   have hlt : at_ < i := by
    rcases hi with hi | ⟨rfl, _, hi⟩
    ·exact hi
    ·rw [hi] at hb; exact absurd (hv.trans (Option.some.inj hb).symm) hc3
   obtain ⟨b2, hb2⟩ := digit_tot (bt s i); refine Tot.bind (Tot.const hb2 (p := fun _ => True) trivial) (fun v _ => ?_)
   refine Tot.ite (fun hc3 => hst) (fun hc3 => ?_)
   refine Tot.ite (fun _ => ?_) (fun h => absurd h0 h)
   refine Tot.ite (fun _ => ?_) (fun h => absurd (show at_ ≤ i by omega) h)
   refine Tot.ite (fun _ => hw (by omega) _) (fun h => absurd hi2 h)
  ·refine Tot.ite (fun _ => ?_) (fun h => absurd h0 h)
   refine Tot.ite (fun _ => ?_) (fun h => absurd (show at_ ≤ i by omega) h)
   refine Tot.ite (fun _ => hw (by omega) _) (fun h => absurd hi2 h)
theorem slash_l0 (s : ByteArray) (hs : (s.size : Int) ≤ 3000) (at_ : Int) (h0 : 0 ≤ at_) (ha : at_ < s.size) : ∀ (n : Nat) (i : Int), (s.size : Int) - i ≤ n → (at_ < i ∨ (i = at_ ∧ bt s i = 47)) → i ≤ s.size → Tot (fun k => zao.l0 k s i) (OneP s at_)
 | n, i, hn, hi, hi2 => by
  apply Tot.step
  ·intro k; rw [zao.l0]
  refine Tot.ite (fun hc => ?_) (fun hc => Tot.some ⟨by constructor <;> simp, by simp only; omega, hi2⟩)
  refine Tot.ite (fun hc2 => ?_) (fun hc2 => absurd (show (0 : Int) ≤ i by omega) hc2)
  refine Tot.ite (fun hc3 => Tot.some ⟨by constructor <;> simp, by simp only; omega, hi2⟩) (fun hc3 => ?_)
  refine Tot.ite (fun hc4 => Tot.some ⟨by constructor <;> simp, by simp only; omega, hi2⟩) (fun hc4 => ?_)
  rw [zbj (x := i + 1) (by omega) (by omega)]
  match n, hn with
  | 0, hn => omega
  | n + 1, hn => exact slash_l0 s hs at_ h0 ha n (i + 1) (by omega) (.inl (by omega)) (by omega)
theorem slash_l1 (s : ByteArray) (hs : (s.size : Int) ≤ 3000) (at_ : Int) (h0 : 0 ≤ at_) (ha : at_ < s.size) : ∀ (n : Nat) (i : Int), (s.size : Int) + 3 - i ≤ n → at_ < i → i ≤ s.size + 2 → Tot (fun k => zao.l1 k s i) (OneP s at_)
 | n, i, hn, hi, hi2 => by
  apply Tot.step
  ·intro k; rw [zao.l1]
  rw [zbj (x := i + 1) (by omega) (by omega), zbj (x := i + 2) (by omega) (by omega)]
  refine Tot.ite (fun hc => ?_) (fun hc => Tot.some ⟨by constructor <;> simp, by simp only; omega, by simp only; omega⟩)
  have hst : Tot (fun k => zao.l1 k s (i + 1)) (OneP s at_) := by
   match n, hn with
   | 0, hn => omega
   | n + 1, hn => exact slash_l1 s hs at_ h0 ha n (i + 1) (by omega) (by omega) (by omega)
  refine Tot.ite (fun hc2 => ?_) (fun hc2 => absurd (show (0 : Int) ≤ i by omega) hc2)
  refine Tot.ite (fun hc2 => ?_) (fun hc2 => absurd (show i < (s.size : Int) by omega) hc2)
  refine Tot.ite (fun hc3 => ?_) (fun hc3 => hst)
  refine Tot.ite (fun hc4 => ?_) (fun hc4 => absurd (show (0 : Int) ≤ i + 1 by omega) hc4)
  exact Tot.ite (fun hc5 => Tot.some ⟨by constructor <;> simp, by simp only; omega, by simp only; omega⟩) (fun hc5 => hst)
theorem slash_tot (s : ByteArray) (hs : (s.size : Int) ≤ 3000) (at_ : Int) (h0 : 0 ≤ at_) (ha : at_ < s.size) (h47 : bt s at_ = 47) : Tot (fun k => zao.f k s at_) (OneP s at_) := by
 have hj2 : ∀ b, Tot (fun k => zao.j2 k s at_ b) (OneP s at_) := fun b => by
  apply Tot.step
  ·intro k; rw [zao.j2]
  refine Tot.ite (fun _ => ?_) (fun _ => ?_)
  ·rw [zbj (x := at_ + 2) (by omega) (by omega)]
   exact slash_l1 s hs at_ h0 ha ((s.size : Int) + 3).toNat (at_ + 2) (by omega) (by omega) (by omega)
  ·rw [zbj (x := at_ + 1) (by omega) (by omega)]
   exact Tot.some ⟨by constructor <;> simp, by simp only; omega, by simp only; omega⟩
 have hj0 : ∀ b, Tot (fun k => zao.j0 k s at_ b) (OneP s at_) := fun b => by
  apply Tot.step
  ·intro k; rw [zao.j0]
  rw [zbj (x := at_ + 1) (by omega) (by omega)]
  refine Tot.ite (fun _ => slash_l0 s hs at_ h0 ha (s.size : Int).toNat at_ (by omega) (.inr ⟨rfl, h47⟩) (by omega)) (fun _ => ?_)
  refine Tot.ite (fun _ => ?_) (fun _ => hj2 _)
  exact Tot.ite (fun _ => hj2 _) (fun h => absurd (show (0 : Int) ≤ at_ + 1 by omega) h)
 unfold zao.f
 rw [zbj (x := at_ + 1) (by omega) (by omega)]
 refine Tot.ite (fun _ => ?_) (fun _ => hj0 _)
 exact Tot.ite (fun _ => hj0 _) (fun h => absurd (show (0 : Int) ≤ at_ + 1 by omega) h)
def NextP (s : ByteArray) (i : Int) (v : Int × Int × Bool) : Prop := v.2.2 = true → 1 ≤ v.2.1 ∧ i + v.2.1 ≤ s.size
theorem next_no (s : ByteArray) (i a b : Int) : NextP s i (a, b, false) := fun h => by cases h
theorem next_l0 (s : ByteArray) (hs : (s.size : Int) ≤ 3000) (i : Int) (h0 : 0 ≤ i) (c : Int) (hc0 : 1 ≤ c) (hc1 : c ≤ 4) (hi : i + c ≤ s.size) : ∀ (n : Nat) (x j : Int), c - j ≤ n → 0 ≤ j → j ≤ c → Tot (fun k => zan.l0 k s i c x j) (NextP s i)
 | n, x, j, hn, hj, hj2 => by
  apply Tot.step
  ·intro k; rw [zan.l0]
  rw [zbj (x := i + j) (by omega) (by omega)]
  refine Tot.ite (fun hc => ?_) (fun hc => ?_)
  ·refine Tot.ite (fun _ => ?_) (fun h => absurd (show 0 ≤ i + j by omega) h)
   refine Tot.ite (fun _ => ?_) (fun h => absurd (show i + j < (s.size : Int) by omega) h)
   refine Tot.ite (fun _ => Tot.some (next_no s i _ _)) (fun _ => ?_)
   refine Tot.ite (fun _ => Tot.some (next_no s i _ _)) (fun _ => ?_)
   rw [zbj (x := j + 1) (by omega) (by omega)]
   match n, hn with
   | 0, hn => omega
   | n + 1, hn => exact next_l0 s hs i h0 c hc0 hc1 hi n _ (j + 1) (by omega) (by omega) (by omega)
  ·refine Tot.bind (g := fun _ y => if 0 ≤ c then if c < (y.length : Int) then _ else _ else _) (Tot.const rfl (p := fun y => y = [0, 0, 128, 2048, 65536]) rfl) (fun y hy => ?_)
   subst hy; refine Tot.ite (fun _ => ?_) (fun h => absurd (show 0 ≤ c by omega) h)
   refine Tot.ite (fun _ => ?_) (fun h => absurd (show c < (([0, 0, 128, 2048, 65536] : List Int).length : Int) by simp; omega) h)
   have hy : Tot (fun _ => some (wrap32 x, c, true)) (NextP s i) := Tot.some (fun _ => ⟨hc0, hi⟩)
   refine Tot.ite (fun _ => Tot.some (next_no s i _ _)) (fun _ => ?_)
   refine Tot.ite (fun _ => Tot.some (next_no s i _ _)) (fun _ => ?_)
   refine Tot.ite (fun _ => ?_) (fun _ => hy)
   exact Tot.ite (fun _ => Tot.some (next_no s i _ _)) (fun _ => hy)
theorem next_tot (s : ByteArray) (hs : (s.size : Int) ≤ 3000) (i : Int) (h0 : 0 ≤ i) (hi : i ≤ s.size) : Tot (fun k => zan.f k s i) (NextP s i) := by
 have hj3 : ∀ c x : Int, 1 ≤ c → c ≤ 4 → Tot (fun k => zan.j3 k s i c x) (NextP s i) := fun c x c0 c1 => by
  apply Tot.step
  ·intro k; rw [zan.j3]
  rw [zbj (x := i + c) (by omega) (by omega)]
  exact Tot.ite (fun _ => Tot.some (next_no s i _ _)) (fun h => next_l0 s hs i h0 c c0 c1 (by omega) c.toNat x 1 (by omega) (by omega) (by omega))
 have hj2 : ∀ (x : Int) (b : Bool), Tot (fun k => zan.j2 k s i x b) (NextP s i) := fun x b => by
  apply Tot.step
  ·intro k; rw [zan.j2]
  refine Tot.ite (fun _ => hj3 _ _ (by omega) (by omega)) (fun _ => ?_)
  refine Tot.ite (fun _ => ?_) (fun _ => Tot.some (next_no s i _ _))
  exact Tot.ite (fun _ => hj3 _ _ (by omega) (by omega)) (fun _ => Tot.some (next_no s i _ _))
 have hj1 : ∀ (x : Int) (b : Bool), Tot (fun k => zan.j1 k s i x b) (NextP s i) := fun x b => by
  apply Tot.step
  ·intro k; rw [zan.j1]
  refine Tot.ite (fun _ => hj3 _ _ (by omega) (by omega)) (fun _ => ?_)
  exact Tot.ite (fun _ => hj2 _ _) (fun _ => hj2 _ _)
 have hj0 : ∀ (b : Bool), (b = false → i < s.size) → Tot (fun k => zan.j0 k s i b) (NextP s i) := fun b hb => by
  apply Tot.step
  ·intro k; rw [zan.j0]
  refine Tot.ite (fun _ => Tot.some (next_no s i _ _)) (fun hbn => ?_)
  have hlt := hb (by simpa using hbn)
  refine Tot.ite (fun _ => ?_) (fun h => absurd h0 h)
  refine Tot.ite (fun _ => ?_) (fun h => absurd hlt h)
  refine Tot.ite (fun _ => Tot.some (fun _ => ⟨by simp, by simp only; omega⟩)) (fun _ => ?_)
  exact Tot.ite (fun _ => hj1 _ _) (fun _ => hj1 _ _)
 unfold zan.f
 refine Tot.ite (fun h => absurd h0 (by omega)) (fun _ => hj0 _ (fun h => ?_))
 have := of_decide_eq_false h; omega
theorem size_tot (s : ByteArray) (hs : (s.size : Int) ≤ 3000) (i : Int) (h0 : 0 ≤ i) (hi : i < s.size) : Tot (fun k => za3.f k s i) (fun v => 1 ≤ v ∧ i + v ≤ s.size) := by
 unfold za3.f
 refine Tot.bind (g := fun _ b => if b.2.2 = true then some b.2.1 else some 1) (next_tot s hs i h0 (by omega)) (fun v hv => ?_)
 exact Tot.ite (fun h => Tot.some (hv h)) (fun _ => Tot.some ⟨by omega, by omega⟩)
theorem quoted_tot (s : ByteArray) (hs : (s.size : Int) ≤ 3000) (at_ : Int) (h0 : 0 ≤ at_) : ∀ (n : Nat) (i : Int), (s.size : Int) - i ≤ n → at_ < i → i ≤ s.size → Tot (fun k => zaA.l0 k s i) (OneP s at_)
 | n, i, hn, hi, hi2 => by
  have hj1 : ∀ b : Bool, (b = true → i < s.size) → Tot (fun k => zaA.j1 k s i b) (OneP s at_) := fun b hb => by
   apply Tot.step
   ·intro k; rw [zaA.j1]
   refine Tot.ite (fun hbt => ?_) (fun _ => Tot.some ⟨by constructor <;> simp, hi, hi2⟩)
   have hlt := hb hbt; have hsz : ∀ j : Int, i ≤ j → j < s.size → Tot (fun k => (za3.f k s j).bind fun t => zaA.l0 k s (wrap64 (j + t))) (OneP s at_) := fun j hj hj2 =>
    Tot.bind (g := fun k t => zaA.l0 k s (wrap64 (j + t))) (size_tot s hs j (by omega) hj2) (fun v hv => by
     rw [zbj (x := j + v) (by omega) (by omega)]
     match n, hn with
     | 0, hn => omega
     | n + 1, hn => exact quoted_tot s hs at_ h0 n (j + v) (by omega) (by omega) (by omega))
   refine Tot.ite (fun _ => ?_) (fun h => absurd (show 0 ≤ i by omega) h)
   refine Tot.ite (fun _ => ?_) (fun h => absurd hlt h)
   rw [zbj (x := i + 1) (by omega) (by omega)]
   refine Tot.ite (fun _ => Tot.some ⟨by constructor <;> simp, by simp only; omega, by simp only; omega⟩) (fun _ => ?_)
   refine Tot.ite (fun _ => ?_) (fun _ => hsz i (by omega) hlt)
   refine Tot.ite (fun _ => Tot.some ⟨by constructor <;> simp, by simp only; omega, by simp only; omega⟩) (fun hne => ?_)
   refine Tot.ite (fun _ => ?_) (fun h => absurd (show 0 ≤ i + 1 by omega) h)
   refine Tot.ite (fun _ => ?_) (fun h => absurd (show i + 1 < (s.size : Int) by omega) h)
   refine Tot.ite (fun _ => Tot.some ⟨by constructor <;> simp, by simp only; omega, by simp only; omega⟩) (fun _ => ?_)
   refine Tot.ite (fun _ => Tot.some ⟨by constructor <;> simp, by simp only; omega, by simp only; omega⟩) (fun _ => ?_)
   exact hsz (i + 1) (by omega) (by omega)
  apply Tot.step
  ·intro k; rw [zaA.l0]
  refine Tot.ite (fun hc => ?_) (fun hc => hj1 _ (fun h => by cases h))
  refine Tot.ite (fun _ => ?_) (fun h => absurd (show 0 ≤ i by omega) h)
  exact Tot.ite (fun _ => hj1 _ (fun h => by cases h)) (fun _ => hj1 _ (fun _ => hc))
theorem rd_byte (l : List Int) (h : ∀ x ∈ l, 0 ≤ x ∧ x ≤ 255) (i : Int) : 0 ≤ rd l i ∧ rd l i ≤ 255 := by
 unfold rd
 rw [List.getD_eq_getElem?_getD]; rcases Nat.lt_or_ge i.toNat l.length with hk | hk
 ·rw [List.getElem?_eq_getElem hk]
  exact h _ (List.getElem_mem hk)
 ·rw [List.getElem?_eq_none hk]
  exact ⟨by simp, by simp⟩
theorem sign_l1 (s : ByteArray) (hs : (s.size : Int) ≤ 3000) (at_ : Int) (h0 : 0 ≤ at_) (ha : at_ < s.size) (b : ByteArray) (l : List Int) (hb : b.size = 14) (hl : l.length = 14) (hk : ∀ x ∈ l, 0 ≤ x ∧ x ≤ 255) :
  ∀ (n : Nat) (i : Int), 14 - i ≤ n → 0 ≤ i → i ≤ 14 → Tot (fun k => zaI.l1 k s at_ b l i) (OneP s at_)
 | n, i, hn, hi, hi2 => by
  apply Tot.step
  ·intro k; rw [zaI.l1]
  refine Tot.ite (fun hc => ?_) (fun hc => ?_)
  ·refine Tot.ite (fun _ => ?_) (fun h => absurd h0 h)
   refine Tot.ite (fun _ => ?_) (fun h => absurd ha h)
   refine Tot.ite (fun _ => ?_) (fun h => absurd hi h)
   refine Tot.ite (fun _ => ?_) (fun _ => ?_)
   ·refine Tot.ite (fun _ => Tot.some ⟨rd_byte l hk i, ?_, ?_⟩) (fun h => absurd (show i < (l.length : Int) by omega) h)
    ·rw [zbj (x := at_ + 1) (by omega) (by omega)]; simp only; omega
    ·rw [zbj (x := at_ + 1) (by omega) (by omega)]; simp only; omega
   ·rw [zbj (x := i + 1) (by omega) (by omega)]
    match n, hn with
    | 0, hn => omega
    | n + 1, hn => exact sign_l1 s hs at_ h0 ha b l hb hl hk n (i + 1) (by omega) (by omega) (by omega)
  ·refine Tot.bind (g := fun _ t => some (5, wrap64 (at_ + t))) (size_tot s hs at_ h0 ha) (fun v hv => ?_)
   rw [zbj (x := at_ + v) (by omega) (by omega)]
   exact Tot.some ⟨by constructor <;> simp, by simp only; omega, by simp only; omega⟩
theorem sign_l0 (s : ByteArray) (hs : (s.size : Int) ≤ 3000) (at_ : Int) (h0 : 0 ≤ at_) (ha : at_ < s.size) (b : List ByteArray) (l : List Int) (hb : b.length = 6) (hl : l.length = 6) (hk : ∀ x ∈ l, 0 ≤ x ∧ x ≤ 255) :
  ∀ (n : Nat) (i : Int), 6 - i ≤ n → 0 ≤ i → i ≤ 6 → Tot (fun k => zaI.l0 k s at_ b l i) (OneP s at_)
 | n, i, hn, hi, hi2 => by
  apply Tot.step
  ·intro k; rw [zaI.l0]
  rw [zbj (x := at_ + 2) (by omega) (by omega)]
  have hst : i < (b.length : Int) → Tot (fun k => zaI.l0 k s at_ b l (wrap64 (i + 1))) (OneP s at_) := fun hlt => by
   rw [zbj (x := i + 1) (by omega) (by omega)]
   match n, hn with
   | 0, hn => omega
   | n + 1, hn => exact sign_l0 s hs at_ h0 ha b l hb hl hk n (i + 1) (by omega) (by omega) (by omega)
  refine Tot.ite (fun hc => ?_) (fun hc => ?_)
  ·refine Tot.ite (fun hc2 => ?_) (fun _ => hst hc)
   refine Tot.ite (fun _ => ?_) (fun h => absurd h0 h)
   refine Tot.ite (fun _ => ?_) (fun h => absurd (show at_ ≤ at_ + 2 by omega) h)
   refine Tot.ite (fun _ => ?_) (fun h => absurd hi h)
   refine Tot.ite (fun _ => ?_) (fun _ => hst hc)
   exact Tot.ite (fun _ => Tot.some ⟨rd_byte l hk i, by simp only; omega, by simp only; omega⟩) (fun h => absurd (show i < (l.length : Int) by omega) h)
  ·exact sign_l1 s hs at_ h0 ha _ _ rfl rfl (by decide) 14 0 (by omega) (by omega) (by omega)
theorem sign_tot (s : ByteArray) (hs : (s.size : Int) ≤ 3000) (at_ : Int) (h0 : 0 ≤ at_) (ha : at_ < s.size) : Tot (fun k => zaI.f k s at_) (OneP s at_) :=
 sign_l0 s hs at_ h0 ha _ _ rfl rfl (by decide) 6 0 (by omega) (by omega) (by omega)
theorem one_tot (s : ByteArray) (hs : (s.size : Int) ≤ 3000) (at_ : Int) (h0 : 0 ≤ at_) (ha : at_ < s.size) : Tot (fun k => zar.f k s at_) (OneP s at_) := by
 unfold zar.f
 refine Tot.ite (fun _ => ?_) (fun h => absurd h0 h)
 refine Tot.ite (fun _ => ?_) (fun h => absurd ha h)
 obtain ⟨b, hb⟩ := blank_tot (bt s at_); refine Tot.bind (Tot.const hb (p := fun v => v = b) rfl) (fun v hv => ?_)
 refine Tot.ite (fun hc => one_l0 s hs at_ h0 (s.size : Int).toNat at_ (by omega) (.inr ⟨rfl, ha, by rw [hb, ← hv, hc]⟩) (by omega)) (fun _ => ?_)
 have hpair : ∀ (g : Nat → Option (Int × Int)), Tot g (OneP s at_) → Tot (fun k => (g k).bind fun b => some (b.1, b.2)) (OneP s at_) := fun g hg =>
  Tot.bind (g := fun _ b => some (b.1, b.2)) hg (fun v hv => Tot.some hv)
 refine Tot.ite (fun h47 => hpair _ (slash_tot s hs at_ h0 ha h47)) (fun _ => ?_)
 obtain ⟨b2, hb2⟩ := letter_tot (bt s at_); refine Tot.bind (Tot.const hb2 (p := fun v => v = b2) rfl) (fun v hv => ?_)
 refine Tot.ite (fun hc => one_l1 s hs at_ h0 (s.size : Int).toNat at_ (by omega) (.inr ⟨rfl, ha, by rw [hb2, ← hv, hc]⟩) (by omega)) (fun _ => ?_)
 obtain ⟨b3, hb3⟩ := digit_tot (bt s at_); refine Tot.bind (Tot.const hb3 (p := fun v => v = b3) rfl) (fun v hv => ?_)
 refine Tot.ite (fun hc => one_l2 s hs at_ h0 (s.size : Int).toNat at_ (by omega) (.inr ⟨rfl, ha, by rw [hb3, ← hv, hc]⟩) (by omega)) (fun _ => ?_)
 refine Tot.ite (fun _ => hpair _ ?_) (fun _ => hpair _ (sign_tot s hs at_ h0 ha))
 unfold zaA.f
 rw [zbj (x := at_ + 1) (by omega) (by omega)]
 exact quoted_tot s hs at_ h0 (s.size : Int).toNat (at_ + 1) (by omega) (by omega) (by omega)
theorem step_tot (x c : Int) : Tot (fun k => zaw.f k x c) (fun _ => True) := by
 have hj2 : ∀ (y : Int) (b : Bool), Tot (fun k => zaw.j2 k x c y b) (fun _ => True) := fun y b => by
  apply Tot.step
  ·intro k; rw [zaw.j2]
  repeat' first | exact Tot.some trivial | refine Tot.ite (fun _ => ?_) (fun _ => ?_)
 have hj1 : ∀ (y : Int) (b : Bool), Tot (fun k => zaw.j1 k x c y b) (fun _ => True) := fun y b => by
  apply Tot.step
  ·intro k; rw [zaw.j1]
  repeat' first | exact Tot.some trivial | exact hj2 _ _ | refine Tot.ite (fun _ => ?_) (fun _ => ?_)
 have hj0 : ∀ (b : Bool), (b = false → 0 ≤ c ∧ c ≤ 23) → Tot (fun k => zaw.j0 k x c b) (fun _ => True) := fun b hb => by
  apply Tot.step
  ·intro k; rw [zaw.j0]
  refine Tot.ite (fun _ => Tot.some trivial) (fun hbn => ?_)
  have hr := hb (by simpa using hbn)
  refine Tot.ite (fun _ => ?_) (fun _ => ?_)
  ·refine Tot.bind (g := fun _ y => if 0 ≤ c then if c < (y.length : Int) then some (rd y c) else none else none) (Tot.const rfl (p := fun y => y = [34, 1, 1, 7, 8, 9, 34, 2, 32, 12, 14, 16, 18, 20, 22, 24, 25, 26, 27, 28, 29, 30, 31, 33]) rfl) (fun y hy => ?_)
   have hy : y.length = 24 := by rw [hy]; rfl
   refine Tot.ite (fun _ => ?_) (fun h => absurd hr.1 h)
   exact Tot.ite (fun _ => Tot.some trivial) (fun h => absurd (show c < (y.length : Int) by omega) h)
  ·repeat' first | exact Tot.some trivial | exact hj1 _ _ | refine Tot.ite (fun _ => ?_) (fun _ => ?_)
 unfold zaw.f
 refine Tot.ite (fun _ => hj0 _ (fun h => by cases h)) (fun h => hj0 _ (fun h2 => ?_))
 have := of_decide_eq_false h2; omega
theorem class_tot (x : Int) : Tot (fun k => zam.f k x) (fun _ => True) := by
 have hj3 : ∀ (b : Bool), Tot (fun k => zam.j3 k x b) (fun _ => True) := fun b => by
  apply Tot.step
  ·intro k; rw [zam.j3]
  repeat' first | exact Tot.some trivial | refine Tot.ite (fun _ => ?_) (fun _ => ?_)
 have hj2 : ∀ (b : Bool), Tot (fun k => zam.j2 k x b) (fun _ => True) := fun b => by
  apply Tot.step
  ·intro k; rw [zam.j2]
  repeat' first | exact Tot.some trivial | exact hj3 _ | refine Tot.ite (fun _ => ?_) (fun _ => ?_)
 have hj1 : ∀ (b : Bool), Tot (fun k => zam.j1 k x b) (fun _ => True) := fun b => by
  apply Tot.step
  ·intro k; rw [zam.j1]
  repeat' first | exact Tot.some trivial | exact hj2 _ | refine Tot.ite (fun _ => ?_) (fun _ => ?_)
 have hl0 : ∀ (b : ByteArray) (hb : b.size = 19) (n : Nat) (i : Int), 19 - i ≤ n → 0 ≤ i → i ≤ 19 → Tot (fun k => zam.l0 k x b i) (fun _ => True) := by
  intro b hb n
  induction n with
  | zero =>
   intro i hn hi hi2
   apply Tot.step
   ·intro k; rw [zam.l0]
   refine Tot.ite (fun hc => absurd hc (by omega)) (fun _ => ?_)
   exact Tot.ite (fun _ => hj1 _) (fun _ => hj1 _)
  | succ n ih =>
   intro i hn hi hi2
   apply Tot.step
   ·intro k; rw [zam.l0]
   refine Tot.ite (fun hc => ?_) (fun _ => Tot.ite (fun _ => hj1 _) (fun _ => hj1 _))
   refine Tot.ite (fun _ => ?_) (fun h => absurd hi h)
   refine Tot.ite (fun _ => Tot.some trivial) (fun _ => ?_)
   rw [zbj (x := i + 1) (by omega) (by omega)]
   exact ih (i + 1) (by omega) (by omega) (by omega)
 exact hl0 _ rfl 19 0 (by omega) (by omega) (by omega)
theorem ends_tot (x : Int) : Tot (fun k => zaW.f k x) (fun _ => True) := by
 have hl0 : ∀ (n : Nat) (i : Int), 24 - i ≤ n → 0 ≤ i → i ≤ 24 → Tot (fun k => zaW.l0 k x i) (fun _ => True) := by
  intro n
  induction n with
  | zero =>
   intro i hn hi hi2
   apply Tot.step
   ·intro k; rw [zaW.l0]
   exact Tot.ite (fun hc => absurd hc (by omega)) (fun _ => Tot.some trivial)
  | succ n ih =>
   intro i hn hi hi2
   apply Tot.step
   ·intro k; rw [zaW.l0]
   refine Tot.ite (fun hc => ?_) (fun _ => Tot.some trivial)
   refine Tot.bind (g := fun k t => if t ≥ 0 then some false else zaW.l0 k x (wrap64 (i + 1))) (step_tot x i) (fun v _ => ?_)
   refine Tot.ite (fun _ => Tot.some trivial) (fun _ => ?_)
   rw [zbj (x := i + 1) (by omega) (by omega)]
   exact ih (i + 1) (by omega) (by omega) (by omega)
 exact hl0 24 0 (by omega) (by omega) (by omega)
theorem kind_tot (x : Int) : ∃ v, zbG.f x = some v := by
 unfold zbG.f
 rw [Option.bind_some]
 split
 ·exact ⟨_, rfl⟩
 ·split
  ·exact ⟨_, rfl⟩
  ·rw [if_pos (by omega), if_pos (by omega)]
   exact ⟨_, rfl⟩
theorem word11_tot (w : ByteArray) (hw : (w.size : Int) ≤ 3000) : Tot (fun k => zaJ.f k w) (fun _ => True) := by
 have hl1 : ∀ (l : List ByteArray) (hl : l.length = 8) (n : Nat) (i : Int), 8 - i ≤ n → 0 ≤ i → i ≤ 8 → Tot (fun k => zaJ.l1 k w l i) (fun _ => True) := by
  intro l hl n
  induction n with
  | zero =>
   intro i hn hi hi2
   apply Tot.step
   ·intro k; rw [zaJ.l1]
   exact Tot.ite (fun hc => absurd hc (by omega)) (fun _ => Tot.some trivial)
  | succ n ih =>
   intro i hn hi hi2
   apply Tot.step
   ·intro k; rw [zaJ.l1]
   refine Tot.ite (fun hc => ?_) (fun _ => Tot.some trivial)
   refine Tot.ite (fun _ => ?_) (fun h => absurd hi h)
   refine Tot.ite (fun _ => Tot.some trivial) (fun _ => ?_)
   rw [zbj (x := i + 1) (by omega) (by omega)]
   exact ih (i + 1) (by omega) (by omega) (by omega)
 have hl0 : ∀ (n : Nat) (i : Int), (w.size : Int) - i ≤ n → 0 ≤ i → i ≤ w.size → Tot (fun k => zaJ.l0 k w i) (fun _ => True) := by
  intro n
  induction n with
  | zero =>
   intro i hn hi hi2
   apply Tot.step
   ·intro k; rw [zaJ.l0]
   exact Tot.ite (fun hc => absurd hc (by omega)) (fun _ => hl1 _ rfl 8 0 (by omega) (by omega) (by omega))
  | succ n ih =>
   intro i hn hi hi2
   apply Tot.step
   ·intro k; rw [zaJ.l0]
   refine Tot.ite (fun hc => ?_) (fun _ => hl1 _ rfl 8 0 (by omega) (by omega) (by omega))
   refine Tot.ite (fun _ => ?_) (fun h => absurd hi h)
   rw [zbj (x := i + 1) (by omega) (by omega)]
   have hst := ih (i + 1) (by omega) (by omega) (by omega)
   refine Tot.bind (r := fun _ => True) (class_tot _) (fun v _ => ?_)
   repeat' first | exact Tot.some trivial | exact hst | refine Tot.ite (fun _ => ?_) (fun _ => ?_)
 unfold zaJ.f
 exact Tot.ite (fun _ => Tot.some trivial) (fun _ => hl0 (w.size : Int).toNat 0 (by omega) (by omega) (by omega))
theorem scan_tot (s : ByteArray) (hs : (s.size : Int) ≤ 3000) (at_ : Int) (h0 : 0 ≤ at_) (ha : at_ < s.size) : Tot (fun k => zal.f k s at_) (fun _ => True) := by
 have hj4 : ∀ (x i : Int) (b : Bool) (a1 a2 a3 : Int), Tot (fun k => zal.j4 k s x i b a1 a2 a3) (fun _ => True) := fun x i b a1 a2 a3 => by
  apply Tot.step
  ·intro k; rw [zal.j4]
  refine Tot.bind (r := fun _ => True) (ends_tot x) (fun v _ => ?_)
  repeat' first | exact Tot.some trivial | refine Tot.ite (fun _ => ?_) (fun _ => ?_)
 have hj3 : ∀ (x i : Int) (b : Bool), at_ ≤ i → i ≤ s.size → Tot (fun k => zal.j3 k s at_ x i b) (fun _ => True) := fun x i b hi hi2 => by
  apply Tot.step
  ·intro k; rw [zal.j3]
  obtain ⟨kd, hkd⟩ := kind_tot x; refine Tot.bind (Tot.const hkd (p := fun _ => True) trivial) (fun v _ => ?_)
  refine Tot.ite (fun _ => ?_) (fun _ => hj4 _ _ _ _ _ _)
  refine Tot.ite (fun _ => ?_) (fun h => absurd h0 h)
  refine Tot.ite (fun _ => ?_) (fun h => absurd hi h)
  refine Tot.ite (fun _ => ?_) (fun h => absurd hi2 h)
  refine Tot.bind (r := fun _ => True) (word11_tot _ (by rw [ByteArray.size_extract]; omega)) (fun v _ => hj4 _ _ _ _ _ _)
 have hl0 : ∀ (n : Nat) (x i : Int) (b : Bool), (s.size : Int) - i ≤ n → at_ ≤ i → i ≤ s.size → Tot (fun k => zal.l0 k s at_ x i b) (fun _ => True) := by
  intro n
  induction n with
  | zero =>
   intro x i b hn hi hi2
   apply Tot.step
   ·intro k; rw [zal.l0]
   exact Tot.ite (fun hc => absurd hc (by omega)) (fun _ => hj3 _ _ _ hi hi2)
  | succ n ih =>
   intro x i b hn hi hi2
   have hj2 : ∀ (c m : Int) (ok : Bool), 1 ≤ m → i + m ≤ s.size → Tot (fun k => zal.j2 k s at_ x i b c m ok) (fun _ => True) := fun c m ok hm hm2 => by
    apply Tot.step
    ·intro k; rw [zal.j2]
    refine Tot.bind (r := fun _ => True) (class_tot c) (fun v _ => ?_)
    refine Tot.bind (r := fun _ => True) (step_tot x v) (fun u _ => ?_)
    rw [zbj (x := i + m) (by omega) (by omega)]
    refine Tot.ite (fun _ => hj3 _ _ _ hi hi2) (fun _ => ?_)
    exact Tot.ite (fun _ => ih _ _ _ (by omega) (by omega) (by omega)) (fun _ => ih _ _ _ (by omega) (by omega) (by omega))
   apply Tot.step
   ·intro k; rw [zal.l0]
   refine Tot.ite (fun hc => ?_) (fun _ => hj3 _ _ _ hi hi2)
   refine Tot.bind (next_tot s hs i (by omega) hi2) (fun v hv => ?_)
   exact Tot.ite (fun h => hj2 _ _ _ (hv h).1 (hv h).2) (fun _ => hj2 _ _ _ (by omega) (by omega))
 have hj0 : ∀ (b : Bool), Tot (fun k => zal.j0 k s at_ b) (fun _ => True) := fun b => by
  apply Tot.step
  ·intro k; rw [zal.j0]
  exact Tot.ite (fun _ => Tot.some trivial) (fun _ => hl0 (s.size : Int).toNat 0 at_ false (by omega) (by omega) (by omega))
 unfold zal.f
 exact Tot.ite (fun _ => hj0 _) (fun _ => hj0 _)
def LexP (s : ByteArray) (l : List S63) : Prop := l.length ≤ s.size ∧ ∀ t ∈ l, 0 ≤ t.f0 ∧ t.f0 ≤ 255
theorem all_tot (s : ByteArray) (hs : (s.size : Int) ≤ 3000) : Tot (fun k => za2.f k s) (LexP s) := by
 have hl0 : ∀ (n : Nat) (l : List S63) (i : Int), (s.size : Int) - i ≤ n → 0 ≤ i → i ≤ s.size → (l.length : Int) ≤ i → (∀ t ∈ l, 0 ≤ t.f0 ∧ t.f0 ≤ 255) → Tot (fun k => za2.l0 k s l i) (LexP s) := by
  intro n
  induction n with
  | zero =>
   intro l i hn hi hi2 hl hk
   apply Tot.step
   ·intro k; rw [za2.l0]
   exact Tot.ite (fun hc => absurd hc (by omega)) (fun _ => Tot.some ⟨by omega, hk⟩)
  | succ n ih =>
   intro l i hn hi hi2 hl hk
   apply Tot.step
   ·intro k; rw [za2.l0]
   refine Tot.ite (fun hc => ?_) (fun _ => Tot.some ⟨by omega, hk⟩)
   refine Tot.bind (one_tot s hs i hi hc) (fun v hv => ?_)
   refine Tot.bind (r := fun _ => True) (scan_tot s hs i hi hc) (fun u _ => ?_)
   refine Tot.ite (fun _ => ?_) (fun h => absurd (show l.length < 5864062014805 by omega) h)
   obtain ⟨hv0, hv1, hv2⟩ := hv; refine ih _ v.2 (by omega) (by omega) hv2 (by rw [List.length_append, List.length_singleton]; omega) (fun t ht => ?_)
   rcases List.mem_append.1 ht with h | h
   ·exact hk t h
   ·rw [List.mem_singleton] at h
    subst h; exact hv0
 exact hl0 (s.size : Int).toNat [] 0 (by omega) (by omega) (by omega) (by simp) (by simp)
theorem lex_all (s : ByteArray) (hs : s.size ≤ 3000) : ∃ k l, za2.f k s = some l ∧ l.length ≤ 3000 ∧ ∀ t ∈ l, 0 ≤ t.f0 ∧ t.f0 ≤ 255 := by
 obtain ⟨l, ⟨n, hn⟩, h1, h2⟩ := all_tot s (by omega)
 exact ⟨n, l, hn n (Nat.le_refl _), by omega, h2⟩
section
attribute [local go_sem] zbi zbg zbs zbr za8 za7 zbh zbf
def zaS.l0 : Nat → List (S63) → Int → Int → Option (Int)
 | 0, _, _, _ => none
 | k + 1, x0, x1, x5 => if x5 < (x0.length : Int) then (if x5 ≥ x1 then (if 0 ≤ x5 then ((zaY.f ((zbI x0 x5).f0)).bind fun t342 => (if t342 = true then (some x5) else (zaS.l0 k x0 x1 (wrap64 (x5 + 1))))) else (none)) else (zaS.l0 k x0 x1 (wrap64 (x5 + 1)))) else (some (x0.length : Int))
def zaS.f (k : Nat) (l0 : List (S63)) (a1 : Int) : Option (Int) := zaS.l0 k l0 a1 0
theorem zaS.calls (k : Nat) (A0 : Option Addr) (c0 : Nat) (l0 : List (S63)) (a1 : Int) (r : Int) (w : World) (hr0 : Kd.C k63 w A0 l0.length l0) (hc0 : l0.length ≤ c0) (h : zaS.f k l0 a1 = some r) :
  Calls Tryd.prog 71 #[.slice A0 l0.length c0, .int .i64 a1] w fun e w' => e = .returned (.int .i64 r) ∧ zaq w w' := by
 have HR0 := zaa.mk hr0; have HC0 := zaa.mk hc0; clear hr0 hc0; have H : (zaS.l0 k l0 a1 0) = some r := h; clear h; have H' := zaa.mk H; clear H; go_enter Tryd.func71, Tryd.ntmps71
 go_wp2
 go_loopg [5] k (fun kq v5 w' => ∃ (x5_1 : Int), v5 = .int .i64 x5_1 ∧ zaa (zaS.l0 kq l0 a1 x5_1 = some r) ∧ zaa (kq ≤ k) ∧ zaq w w')
 case atStart => exact ⟨(0), (by first | rfl | (simp; done) | simp [*]), H', ⟨Nat.le_refl _⟩, by repeat (first | exact zaq.refl _ | apply zaq.step)⟩
 case round =>
  clear H'; try clear p2
  obtain ⟨x5_1, rfl, HA, HK1, ⟨m1, rfl⟩⟩ := hrel; cases gk with
  | zero => exact absurd HA.out (by simp [zaS.l0])
  | succ k1 =>
   have H := HA.out; clear HA; simp only [zaS.l0] at H; by_cases c3 : x5_1 < (l0.length : Int)
   ·rw [if_pos c3] at H
    have c3b0 : decide (x5_1 < (l0.length : Int)) = true := decide_eq_true c3; clear c3; by_cases c4 : x5_1 ≥ a1
    ·rw [if_pos c4] at H
     have c4b0 : decide (a1 ≤ x5_1) = true := decide_eq_true c4; clear c4; by_cases c5 : 0 ≤ x5_1
     ·rw [if_pos c5] at H
      have c5b0 : decide (0 ≤ x5_1) = true := decide_eq_true c5; clear c5; replace H := Option.bind_eq_some_iff.mp H; obtain ⟨t342, A60, H⟩ := H; replace H : (if t342 = true then (some x5_1) else (zaS.l0 k1 l0 a1 (wrap64 (x5_1 + 1)))) = some r := H
      have A6 := zaa.mk A60; clear A60; by_cases c7 : t342 = true
      ·subst c7
       have H1 : (some x5_1) = some r := by rw [if_pos rfl] at H; exact H
       clear H; have H := H1; clear H1; obtain rfl := Option.some.inj H; have p341 : 0 ≤ (x5_1 : Int) := of_decide_eq_true (by assumption)
       have q341 : x5_1 < (l0.length : Int) := of_decide_eq_true (by assumption)
       obtain ⟨ad341, e341, hx341_0, hx341_1, hx341_2⟩ := at_T63 HR0.out x5_1 p341 q341; cases e341; replace p341 := eq_true p341; replace q341 := eq_true q341; go_wp2_with (first | (go_at_call 78; (with_reducible refine (zaY.calls ((zbI l0 x5_1).f0) true _ A6.out).mono ?_); rintro e w' ⟨rfl, ⟨nd, rfl⟩⟩))
       go_ret
       exact ⟨by first | rfl | (simp; done) | simp [*], by repeat (first | exact zaq.refl _ | apply zaq.step)⟩
      ·replace c7 := Bool.eq_false_iff.mpr c7
       subst c7; have H1 : (zaS.l0 k1 l0 a1 (wrap64 (x5_1 + 1))) = some r := by rw [if_neg (show ¬ (false = true) by decide)] at H; exact H
       clear H; have H := H1; clear H1; have H' := zaa.mk H; clear H; have p341 : 0 ≤ (x5_1 : Int) := of_decide_eq_true (by assumption)
       have q341 : x5_1 < (l0.length : Int) := of_decide_eq_true (by assumption)
       obtain ⟨ad341, e341, hx341_0, hx341_1, hx341_2⟩ := at_T63 HR0.out x5_1 p341 q341; cases e341; replace p341 := eq_true p341; replace q341 := eq_true q341; go_wp2_with (first | (go_at_call 78; (with_reducible refine (zaY.calls ((zbI l0 x5_1).f0) false _ A6.out).mono ?_); rintro e w' ⟨rfl, ⟨nd, rfl⟩⟩))
       go_roundg k1
       case measure => have := HK1.out; omega
       case rel => exact ⟨(wrap64 (x5_1 + 1)), (by first | rfl | (simp; done) | simp [*]), H', ⟨by have := HK1.out; omega⟩, by repeat (first | exact zaq.refl _ | apply zaq.step)⟩
     ·rw [if_neg c5] at H
      exact absurd H (by simp)
    ·rw [if_neg c4] at H
     have c4b0 : decide (a1 ≤ x5_1) = false := decide_eq_false c4; clear c4; have H' := zaa.mk H; clear H; go_wp2
     go_roundg k1
     case measure => have := HK1.out; omega
     case rel => exact ⟨(wrap64 (x5_1 + 1)), (by first | rfl | (simp; done) | simp [*]), H', ⟨by have := HK1.out; omega⟩, by repeat (first | exact zaq.refl _ | apply zaq.step)⟩
   ·rw [if_neg c3] at H
    have c3b0 : decide (x5_1 < (l0.length : Int)) = false := decide_eq_false c3; clear c3; obtain rfl := Option.some.inj H; go_wp2
    go_ret
    exact ⟨by first | rfl | (simp; done) | simp [*], by repeat (first | exact zaq.refl _ | apply zaq.step)⟩
end
theorem token12_tot (x : Int) : ∃ b, zaQ.f x = some b := by
 unfold zaQ.f
 repeat' split
 all_goals exact ⟨_, rfl⟩
theorem counts12_tot (x : Int) : ∃ b, zaY.f x = some b := by
 obtain ⟨b, hb⟩ := token12_tot x; unfold zaY.f
 rw [hb]; repeat' split
 all_goals exact ⟨_, rfl⟩
theorem next12_tot (l : List S63) (hl : l.length ≤ 3000) : Tot (fun k => zaS.f k l 0) (fun i => 0 ≤ i ∧ i ≤ l.length) := by
 have hl0 : ∀ (n : Nat) (i : Int), (l.length : Int) - i ≤ n → 0 ≤ i → i ≤ l.length → Tot (fun k => zaS.l0 k l 0 i) (fun i => 0 ≤ i ∧ i ≤ l.length) := by
  intro n
  induction n with
  | zero =>
   intro i hn hi hi2
   apply Tot.step
   ·intro k; rw [zaS.l0]
   exact Tot.ite (fun hc => absurd hc (by omega)) (fun _ => Tot.some ⟨by omega, by omega⟩)
  | succ n ih =>
   intro i hn hi hi2
   apply Tot.step
   ·intro k; rw [zaS.l0]
   refine Tot.ite (fun hc => ?_) (fun _ => Tot.some ⟨by omega, by omega⟩)
   rw [zbj (x := i + 1) (by omega) (by omega)]
   have hst := ih (i + 1) (by omega) (by omega) (by omega)
   refine Tot.ite (fun _ => ?_) (fun _ => hst)
   refine Tot.ite (fun _ => ?_) (fun h => absurd hi h)
   obtain ⟨b, hb⟩ := counts12_tot ((zbI l i).f0); refine Tot.bind (Tot.const hb (p := fun _ => True) trivial) (fun v _ => ?_)
   exact Tot.ite (fun _ => Tot.some ⟨hi, hi2⟩) (fun _ => hst)
 exact hl0 l.length 0 (by omega) (by omega) (by omega)
section
attribute [local go_sem] zbi zbg zbs zbr za8 za7 zbh zbf
def zaG.f (a0 : Int) : Option (Bool) := if a0 = 6 then (some true) else (if a0 = 7 then (some true) else (if a0 = 8 then (some true) else (if a0 = 16 then (some true) else (if a0 = 17 then (some true) else (if a0 = 20 then (some true) else (if a0 = 34 then (some true) else (if a0 = 38 then (some true) else (some false))))))))
theorem zaG.calls (a0 : Int) (r : Bool) (w : World) (h : zaG.f a0 = some r) :
  Calls Tryd.prog 72 #[.int .u8 a0] w fun e w' => e = .returned (.bool r) ∧ zaq w w' := by
 have H : (if a0 = 6 then (some true) else (if a0 = 7 then (some true) else (if a0 = 8 then (some true) else (if a0 = 16 then (some true) else (if a0 = 17 then (some true) else (if a0 = 20 then (some true) else (if a0 = 34 then (some true) else (if a0 = 38 then (some true) else (some false))))))))) = some r := h
 clear h; by_cases c2 : a0 = 6
 ·rw [if_pos c2] at H
  have c2b0 : (a0 == 6) = true := beq_iff_eq.mpr c2; have c2b1 : (a0 != 6) = false := bne_eq_false_iff_eq.mpr c2; clear c2; obtain rfl := Option.some.inj H; go_enter Tryd.func72, Tryd.ntmps72
  go_wp2
  go_ret
  exact ⟨by first | rfl | (simp; done) | simp [*], by repeat (first | exact zaq.refl _ | apply zaq.step)⟩
 ·rw [if_neg c2] at H
  have c2b0 : (a0 == 6) = false := beq_eq_false_iff_ne.mpr c2; have c2b1 : (a0 != 6) = true := bne_iff_ne.mpr c2; by_cases c3 : a0 = 7
  ·rw [if_pos c3] at H
   have c3b0 : (a0 == 7) = true := beq_iff_eq.mpr c3; have c3b1 : (a0 != 7) = false := bne_eq_false_iff_eq.mpr c3; clear c3; obtain rfl := Option.some.inj H; go_enter Tryd.func72, Tryd.ntmps72
   go_wp2
   go_ret
   exact ⟨by first | rfl | (simp; done) | simp [*], by repeat (first | exact zaq.refl _ | apply zaq.step)⟩
  ·rw [if_neg c3] at H
   have c3b0 : (a0 == 7) = false := beq_eq_false_iff_ne.mpr c3; have c3b1 : (a0 != 7) = true := bne_iff_ne.mpr c3; by_cases c4 : a0 = 8
   ·rw [if_pos c4] at H
    have c4b0 : (a0 == 8) = true := beq_iff_eq.mpr c4; have c4b1 : (a0 != 8) = false := bne_eq_false_iff_eq.mpr c4; clear c4; obtain rfl := Option.some.inj H; go_enter Tryd.func72, Tryd.ntmps72
    go_wp2
    go_ret
    exact ⟨by first | rfl | (simp; done) | simp [*], by repeat (first | exact zaq.refl _ | apply zaq.step)⟩
   ·rw [if_neg c4] at H
    have c4b0 : (a0 == 8) = false := beq_eq_false_iff_ne.mpr c4; have c4b1 : (a0 != 8) = true := bne_iff_ne.mpr c4; by_cases c5 : a0 = 16
    ·rw [if_pos c5] at H
     have c5b0 : (a0 == 16) = true := beq_iff_eq.mpr c5; have c5b1 : (a0 != 16) = false := bne_eq_false_iff_eq.mpr c5; clear c5; obtain rfl := Option.some.inj H; go_enter Tryd.func72, Tryd.ntmps72
     go_wp2
     go_ret
     exact ⟨by first | rfl | (simp; done) | simp [*], by repeat (first | exact zaq.refl _ | apply zaq.step)⟩
    ·rw [if_neg c5] at H
     have c5b0 : (a0 == 16) = false := beq_eq_false_iff_ne.mpr c5; have c5b1 : (a0 != 16) = true := bne_iff_ne.mpr c5; by_cases c6 : a0 = 17
     ·rw [if_pos c6] at H
      have c6b0 : (a0 == 17) = true := beq_iff_eq.mpr c6; have c6b1 : (a0 != 17) = false := bne_eq_false_iff_eq.mpr c6; clear c6; obtain rfl := Option.some.inj H; go_enter Tryd.func72, Tryd.ntmps72
      go_wp2
      go_ret
      exact ⟨by first | rfl | (simp; done) | simp [*], by repeat (first | exact zaq.refl _ | apply zaq.step)⟩
     ·rw [if_neg c6] at H
      have c6b0 : (a0 == 17) = false := beq_eq_false_iff_ne.mpr c6; have c6b1 : (a0 != 17) = true := bne_iff_ne.mpr c6; by_cases c7 : a0 = 20
      ·rw [if_pos c7] at H
       have c7b0 : (a0 == 20) = true := beq_iff_eq.mpr c7; have c7b1 : (a0 != 20) = false := bne_eq_false_iff_eq.mpr c7; clear c7; obtain rfl := Option.some.inj H; go_enter Tryd.func72, Tryd.ntmps72
       go_wp2
       go_ret
       exact ⟨by first | rfl | (simp; done) | simp [*], by repeat (first | exact zaq.refl _ | apply zaq.step)⟩
      ·rw [if_neg c7] at H
       have c7b0 : (a0 == 20) = false := beq_eq_false_iff_ne.mpr c7; have c7b1 : (a0 != 20) = true := bne_iff_ne.mpr c7; by_cases c8 : a0 = 34
       ·rw [if_pos c8] at H
        have c8b0 : (a0 == 34) = true := beq_iff_eq.mpr c8; have c8b1 : (a0 != 34) = false := bne_eq_false_iff_eq.mpr c8; clear c8; obtain rfl := Option.some.inj H; go_enter Tryd.func72, Tryd.ntmps72
        go_wp2
        go_ret
        exact ⟨by first | rfl | (simp; done) | simp [*], by repeat (first | exact zaq.refl _ | apply zaq.step)⟩
       ·rw [if_neg c8] at H
        have c8b0 : (a0 == 34) = false := beq_eq_false_iff_ne.mpr c8; have c8b1 : (a0 != 34) = true := bne_iff_ne.mpr c8; by_cases c9 : a0 = 38
        ·rw [if_pos c9] at H
         have c9b0 : (a0 == 38) = true := beq_iff_eq.mpr c9; have c9b1 : (a0 != 38) = false := bne_eq_false_iff_eq.mpr c9; clear c9; obtain rfl := Option.some.inj H; go_enter Tryd.func72, Tryd.ntmps72
         go_wp2
         go_ret
         exact ⟨by first | rfl | (simp; done) | simp [*], by repeat (first | exact zaq.refl _ | apply zaq.step)⟩
        ·rw [if_neg c9] at H
         have c9b0 : (a0 == 38) = false := beq_eq_false_iff_ne.mpr c9; have c9b1 : (a0 != 38) = true := bne_iff_ne.mpr c9; obtain rfl := Option.some.inj H; go_enter Tryd.func72, Tryd.ntmps72
         go_wp2
         go_ret
         exact ⟨by first | rfl | (simp; done) | simp [*], by repeat (first | exact zaq.refl _ | apply zaq.step)⟩
end
end Go.Proofs.YtobgkpnigjfhmaaDoor.H
