/- How an act reads. -/
import Derived.Test.YtaphacgdokhmmaaDoorVHx0
import Derived.Test.YtaphacgdokhmmaaDoorVHOpen
import Derived.Lib.SmallJoins
set_option linter.unusedVariables false
set_option linter.unusedSimpArgs false
namespace Go.Proofs.YtaphacgdokhmmaaDoor.H
open Go.RowKit Go.Proofs.YtaphacgdokhmmaaDoorW.PrintWords Go.Proofs.YtaphacgdokhmmaaDoorW.PrintLast Go.Proofs.YtaphacgdokhmmaaDoorW.PrintMore
instance : Inhabited S36 := ⟨z36⟩
theorem cells9 : Tryd.prog.cellsOf 9 = 1 := by kernel_rfl
theorem cells3 : Tryd.prog.cellsOf 3 = 1 := by kernel_rfl
theorem cells34 : Tryd.prog.cellsOf 34 = 1 := by kernel_rfl
theorem cells4 : Tryd.prog.cellsOf 4 = 1 := by kernel_rfl
theorem cells36 : Tryd.prog.cellsOf 36 = 4 := by kernel_rfl
theorem opens_bool {P : Program} {e : TypeId} (he : P.underlying e = some .bool) (hc : P.cellsOf e = 1) : Opens Kd.bool P e (fun _ => True) :=
  ⟨hc.symm, fun H enc w base spare held fuel cs x h _ => by
    obtain ⟨b, rfl, _⟩ := DataW.trod_bool he h
    exact ⟨b, rfl, trivial⟩⟩
theorem opensB : Opens Kd.bool Tryd.prog 4 (fun _ => True) := opens_bool Tryd.underlying4 cells4
theorem opensI : Opens (Kd.int .i64) Tryd.prog 3 (fun n => (Lit.int .i64 n).wf = true) := opens_int Tryd.underlying3 cells3
theorem opensS : Opens Kd.string Tryd.prog 9 (fun s => s.size ≤ 140737488351232) := opens_string Tryd.underlying9 cells9
theorem opensL : Opens (Kd.slice 3 (Kd.int .i64)) Tryd.prog 34 (fun l => l.length * 8 ≤ 140737488351232 ∧ ∀ y ∈ l, (Lit.int .i64 y).wf = true) := opens_slice Tryd.underlying34 cells34 (by kernel_rfl) opensI
set_option maxRecDepth 100000 in
theorem opensAct : Opens k36 Tryd.prog 36 (fun t => (Lit.int .i64 t.f0).wf = true ∧ t.f1.size ≤ 140737488351232 ∧ t.f2.size ≤ 140737488351232 ∧ t.f3.length * 8 ≤ 140737488351232) := ⟨cells36.symm, fun H enc w base spare held fuel cs x h hz => by
  obtain ⟨y0, y1, y2, y3, n, rfl, hl, h0, h1, h2, h3⟩ := Go.Joins.trod_struct4 Tryd.underlying36 h
  rw [cells36] at hl
  match cs, hl with
  | [c0, c1, c2, c3], _ =>
    simp only [cells9, cells3, cells34] at h0 h1 h2 h3
    obtain ⟨f0, k0, p0⟩ := opensI.2 H enc w base spare held n _ _ h0 (fun m hm => hz m (by simp [DataW.weights, Tryd.underlying36, DataW.weightsEach, hm]))
    obtain ⟨f1, k1, p1⟩ := opensS.2 H enc w base spare held n _ _ h1 (fun m hm => hz m (by simp [DataW.weights, Tryd.underlying36, DataW.weightsEach, hm]))
    obtain ⟨f2, k2, p2⟩ := opensS.2 H enc w base spare held n _ _ h2 (fun m hm => hz m (by simp [DataW.weights, Tryd.underlying36, DataW.weightsEach, hm]))
    obtain ⟨f3, k3, p3⟩ := opensL.2 H enc w base spare held n _ _ h3 (fun m hm => hz m (by simp [DataW.weights, Tryd.underlying36, DataW.weightsEach, hm]))
    refine ⟨⟨f0, f1, f2, f3⟩, ⟨[c0], [c1, c2, c3], rfl, k0, ⟨[c1], [c2, c3], rfl, k1, ⟨[c2], [c3], rfl, k2, k3⟩⟩⟩, p0, p1, p2, p3.1⟩⟩
end Go.Proofs.YtaphacgdokhmmaaDoor.H
