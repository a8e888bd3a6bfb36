/- The contract of tree.Leaves in the printer's own form. -/
import Derived.Test.YtghbfjmmjfklfaaQHTreeLeaves
import Derived.Test.YtghbfjmmjfklfaaQHErase
set_option linter.unusedVariables false
set_option linter.unusedSimpArgs false
namespace Go.Proofs.Ytghbfjmmjfklfaa.H
open Go.RowKit Go.Proofs.YtghbfjmmjfklfaaW.PrintWords Go.Proofs.YtghbfjmmjfklfaaW.PrintLast Go.Proofs.YtghbfjmmjfklfaaW.PrintMore
def leavesS (xs : List (S27 × Int × Int)) : List S27 := (xs.filter fun x => decide (x.1.f0 ≤ 50)).map fun x => ⟨x.1.f0, x.1.f1, x.1.f2, []⟩
theorem leavesA_er (xs : List (AT × Int × Int)) : leavesA xs = leavesS (xs.map er) := by
  induction xs with
  | nil => rfl
  | cons x r ih =>
    have e0 : x.1.erase.f0 = x.1.k := by rw [erase_f]
    have e1 : x.1.erase.f1 = x.1.w := by rw [erase_f]
    have e2 : x.1.erase.f2 = x.1.wd := by rw [erase_f]
    unfold leavesA leavesS at ih ⊢
    simp only [List.map_cons, List.filter_cons, er, e0]
    split
    · simp only [List.map_cons, e0, e1, e2]
      rw [ih]
    · rw [ih]
def tree_Leaves.f (a0_0 : Int) (a0_1 : Int) (a0_2 : Int) (l0_3 : List (S27)) : Option (List (S27)) := if tsize ⟨a0_0, a0_1, a0_2, l0_3⟩ ≤ 2000000 then some (leavesS (allT ⟨a0_0, a0_1, a0_2, l0_3⟩)) else none
theorem tree_Leaves.calls (a0_0 : Int) (a0_1 : Int) (a0_2 : Int) (A0_3 : Option Addr) (c0_3 : Nat) (l0_3 : List (S27)) (r : List (S27)) (w : World) (hr0_3 : Kd.C k27 w A0_3 l0_3.length l0_3) (hc0_3 : l0_3.length ≤ c0_3) (h : tree_Leaves.f a0_0 a0_1 a0_2 l0_3 = some r) :
    Calls Try.prog 52 #[.agg #[.int .u8 a0_0, .int .u8 a0_1, .int .i64 a0_2, .slice A0_3 l0_3.length c0_3]] w fun e w' => ∃ v0_ : Value, e = .returned v0_ ∧ Kd.R k27 27 w' w.heap.size (fun _ => True) v0_ r ∧ Below w.heap.size w w' := by
  unfold tree_Leaves.f at h
  by_cases hsz : tsize ⟨a0_0, a0_1, a0_2, l0_3⟩ ≤ 2000000
  case neg => rw [if_neg hsz] at h; cases h
  rw [if_pos hsz] at h
  cases h
  obtain ⟨kids, he, hT⟩ := exists_AT w _ ⟨a0_0, a0_1, a0_2, l0_3⟩ (Nat.lt_succ_self _) A0_3 c0_3 hc0_3 hr0_3
  simp only at he hT
  subst he
  have hL := leaves_in (.node a0_0 a0_1 a0_2 A0_3 c0_3 kids) w hT (Nat.le_trans (all_length _) (by simpa only [AT.erase] using hsz))
  simp only [AT.k, AT.w, AT.wd, AT.A, AT.c, AT.kids] at hL
  rw [leavesA_er, er_all, AT.erase] at hL
  rw [eraseL_length]
  exact hL
end Go.Proofs.Ytghbfjmmjfklfaa.H
