-- printed by wip/printx.py, a call of the kit's printer over this seat (with contracts of our own for the functions that it does not take)
import Derived.Test.YtejdjnfcfnppaaaDoorHx0
namespace Go.Proofs.YtejdjnfcfnppaaaDoor.H
open Go.RowKit Go.Proofs.YtejdjnfcfnppaaaDoorW.PrintWords Go.Proofs.YtejdjnfcfnppaaaDoorW.PrintLast Go.Proofs.YtejdjnfcfnppaaaDoorW.PrintMore
attribute [local go_sem] max2_int min2_int max_two min_two max_three min_three max_four min_four   -- for this text's walks alone
set_option linter.unusedVariables false
set_option linter.unusedSimpArgs false

/-! ### glossatorref22_Modifiers: function 7 -/
def glossatorref22_Modifiers.f  : Option (List ByteArray) := some (([(⟨#[100, 101, 99, 108, 97, 114, 97, 116, 105, 111, 110]⟩ : ByteArray), (⟨#[117, 110, 114, 101, 115, 111, 108, 118, 101, 100]⟩ : ByteArray), (⟨#[114, 101, 100, 101, 99, 108, 97, 114, 101, 100]⟩ : ByteArray)] : List ByteArray))
set_option maxHeartbeats 8000000 in
set_option maxRecDepth 100000 in
theorem glossatorref22_Modifiers.calls  (r : List ByteArray) (w : World) (h : glossatorref22_Modifiers.f  = some r) :
    Calls Tryd.prog 7 #[] w fun e w' => ∃ v0_ : Value, e = .returned (v0_) ∧ Kd.R Kd.string 9 w' w.heap.size (fun _ => True) v0_ r ∧ Below w.heap.size w w' := by
  have HB := Aside0.mk (Below.refl w.heap.size w)
  have H : (some (([(⟨#[100, 101, 99, 108, 97, 114, 97, 116, 105, 111, 110]⟩ : ByteArray), (⟨#[117, 110, 114, 101, 115, 111, 108, 118, 101, 100]⟩ : ByteArray), (⟨#[114, 101, 100, 101, 99, 108, 97, 114, 101, 100]⟩ : ByteArray)] : List ByteArray))) = some r := h
  clear h
  obtain ⟨y104, hy104⟩ : ∃ y_ : List ByteArray, y_ = (([(⟨#[100, 101, 99, 108, 97, 114, 97, 116, 105, 111, 110]⟩ : ByteArray), (⟨#[117, 110, 114, 101, 115, 111, 108, 118, 101, 100]⟩ : ByteArray), (⟨#[114, 101, 100, 101, 99, 108, 97, 114, 101, 100]⟩ : ByteArray)] : List ByteArray)) := ⟨_, rfl⟩
  replace H : (some y104) = some r := by first | (rw [hy104]; with_reducible exact H) | (have H2_ := (Option.bind_some _ _).symm.trans H; rw [hy104]; with_reducible exact H2_) | (have H2_ := (Option.bind_some _ _).symm.trans H; with_reducible exact H2_) | with_reducible exact H | (rw [hy104]; exact H) | exact H
  have Ny104 := Aside0.mk hy104
  clear hy104
  obtain rfl := Option.some.inj H
  go_enter Tryd.func7, Tryd.ntmps7
  go_wp2_with (first | ((with_reducible refine gate_dst (N := 1) rfl ?_); refine Kd.R_lit Kd.string _ 9 ?hg (N := 1) ?hd (xs := ([(⟨#[100, 101, 99, 108, 97, 114, 97, 116, 105, 111, 110]⟩ : ByteArray), (⟨#[117, 110, 114, 101, 115, 111, 108, 118, 101, 100]⟩ : ByteArray), (⟨#[114, 101, 100, 101, 99, 108, 97, 114, 101, 100]⟩ : ByteArray)] : List ByteArray)) (inner := [.string (⟨#[100, 101, 99, 108, 97, 114, 97, 116, 105, 111, 110]⟩ : ByteArray), .string (⟨#[117, 110, 114, 101, 115, 111, 108, 118, 101, 100]⟩ : ByteArray), .string (⟨#[114, 101, 100, 101, 99, 108, 97, 114, 101, 100]⟩ : ByteArray)]) (ok := fun _ => True) (okp := fun _ => True) ?hr ?hp (fun _ hk => hk) trivial (Below.refl _ _) (Nat.le_refl _) (by simp) ?_; (case hd => rfl); (case hg => rfl); (case hr => first | (go_simp; done) | (go_simp; rfl)); (case hp => exact (Reps.one (show Kd.M Kd.string _ _ _ (⟨#[100, 101, 99, 108, 97, 114, 97, 116, 105, 111, 110]⟩ : ByteArray) [.string (⟨#[100, 101, 99, 108, 97, 114, 97, 116, 105, 111, 110]⟩ : ByteArray)] from rfl) (Reps.one (show Kd.M Kd.string _ _ _ (⟨#[117, 110, 114, 101, 115, 111, 108, 118, 101, 100]⟩ : ByteArray) [.string (⟨#[117, 110, 114, 101, 115, 111, 108, 118, 101, 100]⟩ : ByteArray)] from rfl) (Reps.one (show Kd.M Kd.string _ _ _ (⟨#[114, 101, 100, 101, 99, 108, 97, 114, 101, 100]⟩ : ByteArray) [.string (⟨#[114, 101, 100, 101, 99, 108, 97, 114, 101, 100]⟩ : ByteArray)] from rfl) (Reps.none _ _))))); intro v105 w1 ho2 hb hg_ hnew_; clear hg_ hnew_; (first | rw [← Ny104.out] at ho2 | (simp only [Int.reduceToNat] at ho2; rw [← Ny104.out] at ho2)); have n0_ := Aside0.mk (Kd.R_lower ho2 (below_size (by repeat (first | (with_reducible first | exact HB.out | apply below_alloc | apply pw_below_drewN | apply below_drew1) | exact HB.out)))); have n1_ := Aside0.mk (below_step (by repeat (first | (with_reducible first | exact HB.out | apply below_alloc | apply pw_below_drewN | apply below_drew1) | exact HB.out)) hb); clear HB; have HO106 := n0_; have HB := n1_; clear n0_ n1_; clear hb ho2))
  go_ret
  exact ⟨_, by first | rfl | (simp [errW_none, errW_some] <;> rfl) | (simp [*, errW_none, errW_some] <;> rfl), by (with_reducible repeat (first | apply Kd.R_alloc | apply Kd.R_drewN | apply Kd.R_drew)); exact HO106.out, by repeat (first | (with_reducible first | exact HB.out | apply below_alloc | apply pw_below_drewN | apply below_drew1) | exact HB.out)⟩

end Go.Proofs.YtejdjnfcfnppaaaDoor.H
