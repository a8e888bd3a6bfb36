/- How the rows a tree grows from read. -/
import Derived.Test.YtobgkpnigjfhmaaDoorQHx0
import Derived.Test.YtobgkpnigjfhmaaDoorQHOpen
import Derived.Lib.SmallJoins
set_option linter.unusedVariables false
set_option linter.unusedSimpArgs false
namespace Go.Proofs.YtobgkpnigjfhmaaDoor.H
open Go.RowKit Go.Proofs.YtobgkpnigjfhmaaDoorW.PrintWords Go.Proofs.YtobgkpnigjfhmaaDoorW.PrintLast Go.Proofs.YtobgkpnigjfhmaaDoorW.PrintMore
instance : Inhabited S80 := ⟨z80⟩
theorem cells5 : Tryd.prog.cellsOf 5 = 1 := by kernel_rfl
theorem cellsI : Tryd.prog.cellsOf 3 = 1 := by kernel_rfl
theorem cells80 : Tryd.prog.cellsOf 80 = 4 := by kernel_rfl
theorem opens5 : Opens (Kd.int .u8) Tryd.prog 5 (fun n => (Lit.int .u8 n).wf = true) := opens_int Tryd.underlying5 cells5
theorem opensI : Opens (Kd.int .i64) Tryd.prog 3 (fun n => (Lit.int .i64 n).wf = true) := opens_int Tryd.underlying3 cellsI
set_option maxRecDepth 100000 in
theorem opensRow : Opens k80 Tryd.prog 80 (fun t => (Lit.int .i64 t.f0).wf = true ∧ (Lit.int .u8 t.f1).wf = true ∧ (Lit.int .u8 t.f2).wf = true ∧ (Lit.int .i64 t.f3).wf = true) := ⟨cells80.symm, fun H enc w base spare held fuel cs x h hz => by
  obtain ⟨y0, y1, y2, y3, n, rfl, hl, h0, h1, h2, h3⟩ := Go.Joins.trod_struct4 Tryd.underlying80 h
  rw [cells80] at hl
  match cs, hl with
  | [c0, c1, c2, c3], _ =>
    simp only [cells5, cellsI] at h0 h1 h2 h3
    obtain ⟨f0, k0, p0⟩ := opensI.2 H enc w base spare held n _ _ h0 (fun m hm => hz m (by simp [DataW.weights, Tryd.underlying80, DataW.weightsEach, hm]))
    obtain ⟨f1, k1, p1⟩ := opens5.2 H enc w base spare held n _ _ h1 (fun m hm => hz m (by simp [DataW.weights, Tryd.underlying80, DataW.weightsEach, hm]))
    obtain ⟨f2, k2, p2⟩ := opens5.2 H enc w base spare held n _ _ h2 (fun m hm => hz m (by simp [DataW.weights, Tryd.underlying80, DataW.weightsEach, hm]))
    obtain ⟨f3, k3, p3⟩ := opensI.2 H enc w base spare held n _ _ h3 (fun m hm => hz m (by simp [DataW.weights, Tryd.underlying80, DataW.weightsEach, hm]))
    refine ⟨⟨f0, f1, f2, f3⟩, ⟨[c0], [c1, c2, c3], rfl, k0, ⟨[c1], [c2, c3], rfl, k1, ⟨[c2], [c3], rfl, k2, k3⟩⟩⟩, p0, p1, p2, p3⟩⟩
end Go.Proofs.YtobgkpnigjfhmaaDoor.H
