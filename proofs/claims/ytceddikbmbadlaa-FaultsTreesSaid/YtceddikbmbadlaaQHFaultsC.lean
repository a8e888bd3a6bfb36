import Derived.Test.YtceddikbmbadlaaQHFaultsOf
import Derived.Test.YtceddikbmbadlaaQHErase
set_option linter.unusedVariables false
set_option linter.unusedSimpArgs false
namespace Go.Proofs.Ytceddikbmbadlaa.H
open Go.RowKit Go.Proofs.YtceddikbmbadlaaW.PrintWords Go.Proofs.YtceddikbmbadlaaW.PrintLast Go.Proofs.YtceddikbmbadlaaW.PrintMore
def faultS (x : S25 × Int × Int) : S44 := ⟨⟨x.2.1, wrap64 (x.2.1 + x.1.f2)⟩, x.1.f0, wantOf x.1.f0 x.1.f1⟩
def faultsS (xs : List (S25 × Int × Int)) : List S44 := (xs.filter fun x => faultB x.1.f0).map faultS
theorem faultsA_er (xs : List (AT × Int × Int)) : (xs.filter fun x => faultB x.1.k).map faultO = faultsS (xs.map er) := by
  induction xs with
  | nil => rfl
  | cons x r ih =>
    have e0 : x.1.erase.f0 = x.1.k := by rw [erase_f]
    have e1 : x.1.erase.f1 = x.1.w := by rw [erase_f]
    have e2 : x.1.erase.f2 = x.1.wd := by rw [erase_f]
    unfold faultsS at ih ⊢
    simp only [List.map_cons, List.filter_cons, er, e0]
    split
    · simp only [List.map_cons, faultO, faultS, e0, e1, e2]
      rw [ih]
    · rw [ih]
def faults_Of.f (a0_0 : Int) (a0_1 : Int) (a0_2 : Int) (l0_3 : List (S25)) : Option (List (S44)) := if tsize ⟨a0_0, a0_1, a0_2, l0_3⟩ ≤ 2000000 then some (faultsS (allT ⟨a0_0, a0_1, a0_2, l0_3⟩)) else none
theorem faults_Of.calls (a0_0 : Int) (a0_1 : Int) (a0_2 : Int) (A0_3 : Option Addr) (c0_3 : Nat) (l0_3 : List (S25)) (r : List (S44)) (w : World) (hr0_3 : Kd.C k25 w A0_3 l0_3.length l0_3) (hc0_3 : l0_3.length ≤ c0_3) (h : faults_Of.f a0_0 a0_1 a0_2 l0_3 = some r) :
    Calls Try.prog 12 #[.agg #[.int .u8 a0_0, .int .u8 a0_1, .int .i64 a0_2, .slice A0_3 l0_3.length c0_3]] w fun e w' => ∃ v0_ : Value, e = .returned v0_ ∧ Kd.R k44 44 w' w.heap.size (fun _ => True) v0_ r ∧ Below w.heap.size w w' := by
  unfold faults_Of.f at h
  by_cases hsz : tsize ⟨a0_0, a0_1, a0_2, l0_3⟩ ≤ 2000000
  case neg => rw [if_neg hsz] at h; cases h
  rw [if_pos hsz] at h
  cases h
  obtain ⟨kids, he, hT⟩ := exists_AT w _ ⟨a0_0, a0_1, a0_2, l0_3⟩ (Nat.lt_succ_self _) A0_3 c0_3 hc0_3 hr0_3
  simp only at he hT
  subst he
  have hL := faultsOf_in (.node a0_0 a0_1 a0_2 A0_3 c0_3 kids) w hT (Nat.le_trans (all_length _) (by simpa only [AT.erase] using hsz))
  rw [faultsA_er, er_all, AT.erase] at hL
  simp only [AT.k, AT.w, AT.wd, AT.A, AT.c, AT.kids] at hL
  rw [eraseL_length]
  exact hL
end Go.Proofs.Ytceddikbmbadlaa.H
