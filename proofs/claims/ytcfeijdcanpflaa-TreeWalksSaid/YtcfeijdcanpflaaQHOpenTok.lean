import Derived.Test.YtcfeijdcanpflaaQHOpenRow
import Derived.Deep.Strs
set_option linter.unusedVariables false
set_option linter.unusedSimpArgs false
namespace Go.Proofs.Ytcfeijdcanpflaa.H
open Go.RowKit Go.Proofs.YtcfeijdcanpflaaW.PrintWords Go.Proofs.YtcfeijdcanpflaaW.PrintLast Go.Proofs.YtcfeijdcanpflaaW.PrintMore
instance : Inhabited S60 := ⟨z60⟩
theorem cells60 : Try.prog.cellsOf 60 = 3 := by kernel_rfl
theorem opensTok : Opens k60 Try.prog 60 (fun t => (Lit.int .u8 t.f0).wf = true ∧ (Lit.int .i64 t.f1).wf = true ∧ (Lit.int .i64 t.f2).wf = true) := ⟨cells60.symm, fun H enc w base spare held fuel cs x h hz => by
  obtain ⟨y0, y1, y2, n, rfl, hl, h0, h1, h2⟩ := Go.Deep.trod_struct3 Try.underlying60 h
  rw [cells60] at hl
  match cs, hl with
  | [c0, c1, c2], _ =>
    simp only [cells5, cellsI] at h0 h1 h2
    obtain ⟨f0, k0, p0⟩ := opens5.2 H enc w base spare held n _ _ h0 (fun m hm => hz m (by simp [DataW.weights, Try.underlying60, DataW.weightsEach, hm]))
    obtain ⟨f1, k1, p1⟩ := opensI.2 H enc w base spare held n _ _ h1 (fun m hm => hz m (by simp [DataW.weights, Try.underlying60, DataW.weightsEach, hm]))
    obtain ⟨f2, k2, p2⟩ := opensI.2 H enc w base spare held n _ _ h2 (fun m hm => hz m (by simp [DataW.weights, Try.underlying60, DataW.weightsEach, hm]))
    refine ⟨⟨f0, f1, f2⟩, ⟨[c0], [c1, c2], rfl, k0, ⟨[c1], [c2], rfl, k1, k2⟩⟩, p0, p1, p2⟩⟩
end Go.Proofs.Ytcfeijdcanpflaa.H
