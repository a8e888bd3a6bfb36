/- How splices read. -/
import Derived.Test.YtejdjnfcfnppaaaHx0
import Derived.Test.YtejdjnfcfnppaaaHOpen
import Derived.Deep.Strs
set_option linter.unusedVariables false
set_option linter.unusedSimpArgs false
namespace Go.Proofs.Ytejdjnfcfnppaaa.H
open Go.RowKit Go.Proofs.YtejdjnfcfnppaaaW.PrintWords Go.Proofs.YtejdjnfcfnppaaaW.PrintLast Go.Proofs.YtejdjnfcfnppaaaW.PrintMore
instance : Inhabited S27 := ⟨z27⟩
/-- What holds of a splice that came in. -/
def P27 (s : S27) : Prop := (Lit.int .i64 s.f0).wf = true ∧ (Lit.int .i64 s.f1).wf = true ∧ s.f2.length * 8 ≤ 140737488351232 ∧ ∀ y ∈ s.f2, (Lit.int .i64 y).wf = true
theorem cells3 : Try.prog.cellsOf 3 = 1 := by kernel_rfl
theorem cells22 : Try.prog.cellsOf 22 = 1 := by kernel_rfl
theorem cells27 : Try.prog.cellsOf 27 = 3 := by kernel_rfl
theorem opens3 : Opens (Kd.int .i64) Try.prog 3 (fun n => (Lit.int .i64 n).wf = true) := opens_int Try.underlying3 cells3
theorem opens22 : Opens (Kd.slice 3 (Kd.int .i64)) Try.prog 22 (fun l => l.length * 8 ≤ 140737488351232 ∧ ∀ y ∈ l, (Lit.int .i64 y).wf = true) := opens_slice Try.underlying22 cells22 (by kernel_rfl) opens3
theorem opens27 : Opens k27 Try.prog 27 P27 := ⟨cells27.symm, fun H enc w base spare held fuel cs x h hz => by
  obtain ⟨y0, y1, y2, n, rfl, hl, h0, h1, h2⟩ := Deep.trod_struct3 Try.underlying27 h
  rw [cells27] at hl
  have hw : ∀ m, m ∈ y2.1.weights Try.prog 22 → m ≤ reachBytes := fun m hm => hz m (by simp [DataW.weights, Try.underlying27, DataW.weightsEach, hm])
  match cs, hl with
  | [c0, c1, c2], _ =>
    simp only [cells3, cells22] at h0 h1 h2
    obtain ⟨f0, k0, p0⟩ := opens3.2 H enc w base spare held n _ _ h0 (fun m hm => hz m (by simp [DataW.weights, Try.underlying27, DataW.weightsEach, hm]))
    obtain ⟨f1, k1, p1⟩ := opens3.2 H enc w base spare held n _ _ h1 (fun m hm => hz m (by simp [DataW.weights, Try.underlying27, DataW.weightsEach, hm]))
    obtain ⟨f2, k2, p2⟩ := opens22.2 H enc w base spare held n _ _ h2 hw
    refine ⟨⟨f0, f1, f2⟩, ⟨[c0], [c1, c2], rfl, k0, ⟨[c1], [c2], rfl, k1, k2⟩⟩, p0, p1, p2⟩⟩
end Go.Proofs.Ytejdjnfcfnppaaa.H
