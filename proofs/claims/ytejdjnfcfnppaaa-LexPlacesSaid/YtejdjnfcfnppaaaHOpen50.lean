/- How tokens read. -/
import Derived.Test.YtejdjnfcfnppaaaHx0
import Derived.Test.YtejdjnfcfnppaaaHOpen
import Derived.Deep.Strs
set_option linter.unusedVariables false
set_option linter.unusedSimpArgs false
namespace Go.Proofs.Ytejdjnfcfnppaaa.H
open Go.RowKit Go.Proofs.YtejdjnfcfnppaaaW.PrintWords Go.Proofs.YtejdjnfcfnppaaaW.PrintLast Go.Proofs.YtejdjnfcfnppaaaW.PrintMore
instance : Inhabited S50 := ⟨z50⟩
theorem cells5 : Try.prog.cellsOf 5 = 1 := by kernel_rfl
theorem cellsI : Try.prog.cellsOf 3 = 1 := by kernel_rfl
theorem cells50 : Try.prog.cellsOf 50 = 3 := by kernel_rfl
theorem opens5 : Opens (Kd.int .u8) Try.prog 5 (fun n => (Lit.int .u8 n).wf = true) := opens_int Try.underlying5 cells5
theorem opensI : Opens (Kd.int .i64) Try.prog 3 (fun n => (Lit.int .i64 n).wf = true) := opens_int Try.underlying3 cellsI
theorem opens50 : Opens k50 Try.prog 50 (fun t => (Lit.int .u8 t.f0).wf = true ∧ (Lit.int .i64 t.f1).wf = true ∧ (Lit.int .i64 t.f2).wf = true) := ⟨cells50.symm, fun H enc w base spare held fuel cs x h hz => by
  obtain ⟨y0, y1, y2, n, rfl, hl, h0, h1, h2⟩ := Deep.trod_struct3 Try.underlying50 h
  rw [cells50] at hl
  match cs, hl with
  | [c0, c1, c2], _ =>
    simp only [cells5, cellsI] at h0 h1 h2
    obtain ⟨f0, k0, p0⟩ := opens5.2 H enc w base spare held n _ _ h0 (fun m hm => hz m (by simp [DataW.weights, Try.underlying50, DataW.weightsEach, hm]))
    obtain ⟨f1, k1, p1⟩ := opensI.2 H enc w base spare held n _ _ h1 (fun m hm => hz m (by simp [DataW.weights, Try.underlying50, DataW.weightsEach, hm]))
    obtain ⟨f2, k2, p2⟩ := opensI.2 H enc w base spare held n _ _ h2 (fun m hm => hz m (by simp [DataW.weights, Try.underlying50, DataW.weightsEach, hm]))
    refine ⟨⟨f0, f1, f2⟩, ⟨[c0], [c1, c2], rfl, k0, ⟨[c1], [c2], rfl, k1, k2⟩⟩, p0, p1, p2⟩⟩
end Go.Proofs.Ytejdjnfcfnppaaa.H
