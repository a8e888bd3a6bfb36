import Derived.Test.YtceddikbmbadlaaQPureFaults
import Derived.Test.YtceddikbmbadlaaQHxglossatorlaw19FaultsTrees
set_option linter.unusedVariables false
set_option linter.unusedSimpArgs false
namespace Go.Proofs.Ytceddikbmbadlaa.Pure
open Go.RowKit Go.Proofs.Ytceddikbmbadlaa.H Go.Proofs.YtceddikbmbadlaaW.PrintWords Go.Proofs.YtceddikbmbadlaaW.PrintLast Go.Proofs.YtceddikbmbadlaaW.PrintMore
theorem FaultsTrees (l0 : List S54) (hb0 : l0.length * 24 ≤ 140737488351232) (hp0 : ∀ t ∈ l0, (Lit.int .i64 t.f0).wf = true ∧ (Lit.int .u8 t.f1).wf = true ∧ (Lit.int .u8 t.f2).wf = true ∧ (Lit.int .i64 t.f3).wf = true) :
    ∃ k, glossatorlaw19_FaultsTrees.f k l0 = some true := by
  obtain ⟨K, hK⟩ : Ev (fun m => glossatorlaw19_FaultsTrees.f m l0) true := by
    refine Ev.congr (fun m => by unfold glossatorlaw19_FaultsTrees.f; rfl) ?_
    rcases Grow_ev l0 (fun r hr => by
      have := hp0 r hr
      exact ⟨bounds_u8 this.2.1, bounds_u8 this.2.2.1⟩) with h | ⟨t, h, hb, ht⟩
    · exact Ev.bind h (Ev.congr (fun m => if_neg (by simp)) (Ev.now _))
    · exact Ev.bind h (Ev.congr (fun m => if_pos rfl) (Ev.bind (tells_ev t hb (by omega)) (Ev.now _)))
  exact ⟨K, hK K (Nat.le_refl _)⟩
end Go.Proofs.Ytceddikbmbadlaa.Pure
