/- How the rows a tree grows from read. -/
import Derived.Test.YtghbfjmmjfklfaaQHx0
import Derived.Test.YtghbfjmmjfklfaaQHOpen
import Derived.Lib.SmallJoins
import Derived.Deep.Strs
import Derived.Test.YtghbfjmmjfklfaaQHSpotKey
set_option linter.unusedVariables false
set_option linter.unusedSimpArgs false
namespace Go.Proofs.Ytghbfjmmjfklfaa.H
open Go.RowKit Go.Proofs.YtghbfjmmjfklfaaW.PrintWords Go.Proofs.YtghbfjmmjfklfaaW.PrintLast Go.Proofs.YtghbfjmmjfklfaaW.PrintMore
instance : Inhabited S94 := ⟨z94⟩
theorem cells5 : Try.prog.cellsOf 5 = 1 := by kernel_rfl
theorem cellsI : Try.prog.cellsOf 3 = 1 := by kernel_rfl
theorem cells94 : Try.prog.cellsOf 94 = 4 := by kernel_rfl
theorem opens5 : Opens (Kd.int .u8) Try.prog 5 (fun n => (Lit.int .u8 n).wf = true) := opens_int Try.underlying5 cells5
theorem opensI : Opens (Kd.int .i64) Try.prog 3 (fun n => (Lit.int .i64 n).wf = true) := opens_int Try.underlying3 cellsI
set_option maxRecDepth 100000 in
theorem opensRow : Opens k94 Try.prog 94 (fun t => (Lit.int .i64 t.f0).wf = true ∧ (Lit.int .u8 t.f1).wf = true ∧ (Lit.int .u8 t.f2).wf = true ∧ (Lit.int .i64 t.f3).wf = true) := ⟨cells94.symm, fun H enc w base spare held fuel cs x h hz => by
  obtain ⟨y0, y1, y2, y3, n, rfl, hl, h0, h1, h2, h3⟩ := Go.Joins.trod_struct4 Try.underlying94 h
  rw [cells94] at hl
  match cs, hl with
  | [c0, c1, c2, c3], _ =>
    simp only [cells5, cellsI] at h0 h1 h2 h3
    obtain ⟨f0, k0, p0⟩ := opensI.2 H enc w base spare held n _ _ h0 (fun m hm => hz m (by simp [DataW.weights, Try.underlying94, DataW.weightsEach, hm]))
    obtain ⟨f1, k1, p1⟩ := opens5.2 H enc w base spare held n _ _ h1 (fun m hm => hz m (by simp [DataW.weights, Try.underlying94, DataW.weightsEach, hm]))
    obtain ⟨f2, k2, p2⟩ := opens5.2 H enc w base spare held n _ _ h2 (fun m hm => hz m (by simp [DataW.weights, Try.underlying94, DataW.weightsEach, hm]))
    obtain ⟨f3, k3, p3⟩ := opensI.2 H enc w base spare held n _ _ h3 (fun m hm => hz m (by simp [DataW.weights, Try.underlying94, DataW.weightsEach, hm]))
    refine ⟨⟨f0, f1, f2, f3⟩, ⟨[c0], [c1, c2, c3], rfl, k0, ⟨[c1], [c2, c3], rfl, k1, ⟨[c2], [c3], rfl, k2, k3⟩⟩⟩, p0, p1, p2, p3⟩⟩
end Go.Proofs.Ytghbfjmmjfklfaa.H
/- How tokens read. -/
set_option linter.unusedVariables false
set_option linter.unusedSimpArgs false
namespace Go.Proofs.Ytghbfjmmjfklfaa.H
open Go.RowKit Go.Proofs.YtghbfjmmjfklfaaW.PrintWords Go.Proofs.YtghbfjmmjfklfaaW.PrintLast Go.Proofs.YtghbfjmmjfklfaaW.PrintMore
instance : Inhabited S39 := ⟨z39⟩
theorem cells39 : Try.prog.cellsOf 39 = 3 := by kernel_rfl
set_option maxRecDepth 100000 in
theorem opensTok : Opens k39 Try.prog 39 (fun t => (Lit.int .u8 t.f0).wf = true ∧ (Lit.int .i64 t.f1).wf = true ∧ (Lit.int .i64 t.f2).wf = true) := ⟨cells39.symm, fun H enc w base spare held fuel cs x h hz => by
  obtain ⟨y0, y1, y2, n, rfl, hl, h0, h1, h2⟩ := Go.Deep.trod_struct3 Try.underlying39 h
  rw [cells39] at hl
  match cs, hl with
  | [c0, c1, c2], _ =>
    simp only [cells5, cellsI] at h0 h1 h2
    obtain ⟨f0, k0, p0⟩ := opens5.2 H enc w base spare held n _ _ h0 (fun m hm => hz m (by simp [DataW.weights, Try.underlying39, DataW.weightsEach, hm]))
    obtain ⟨f1, k1, p1⟩ := opensI.2 H enc w base spare held n _ _ h1 (fun m hm => hz m (by simp [DataW.weights, Try.underlying39, DataW.weightsEach, hm]))
    obtain ⟨f2, k2, p2⟩ := opensI.2 H enc w base spare held n _ _ h2 (fun m hm => hz m (by simp [DataW.weights, Try.underlying39, DataW.weightsEach, hm]))
    refine ⟨⟨f0, f1, f2⟩, ⟨[c0], [c1, c2], rfl, k0, ⟨[c1], [c2], rfl, k1, k2⟩⟩, p0, p1, p2⟩⟩
end Go.Proofs.Ytghbfjmmjfklfaa.H
/- How questions read. -/
set_option linter.unusedVariables false
set_option linter.unusedSimpArgs false
namespace Go.Proofs.Ytghbfjmmjfklfaa.H
open Go.RowKit Go.ChangeShapes Go.WideShapes Go.Proofs.YtghbfjmmjfklfaaW.PrintWords Go.Proofs.YtghbfjmmjfklfaaW.PrintLast Go.Proofs.YtghbfjmmjfklfaaW.PrintMore
structure AskS where
  f0 : Int
  f1 : Int
def zAsk : AskS := ⟨0, 0⟩
instance : Inhabited AskS := ⟨zAsk⟩
def kAsk : Kd AskS := Kd.iso (Kd.pair (Kd.int .u8) (Kd.int .i64)) (fun x : AskS => (x.f0, x.f1))
theorem kAsk_open {w : World} {x : AskS} {cs : List Value} (h : kAsk.K w x cs) : cs = [.int .u8 x.f0, .int .i64 x.f1] := by
  obtain ⟨_, _, rfl, rfl, rfl⟩ := h
  exact rfl
theorem cellsAsk : Try.prog.cellsOf 54 = 2 := by kernel_rfl
set_option maxRecDepth 100000 in
theorem opensAsk : Opens kAsk Try.prog 54 (fun t => (Lit.int .u8 t.f0).wf = true ∧ (Lit.int .i64 t.f1).wf = true) := ⟨cellsAsk.symm, fun H enc w base spare held fuel cs x h hz => by
  obtain ⟨y0, y1, n, rfl, hl, h0, h1⟩ := trod_struct2 Try.underlying54 h
  rw [cellsAsk] at hl
  match cs, hl with
  | [c0, c1], _ =>
    simp only [cells5, cellsI] at h0 h1
    obtain ⟨f0, k0, p0⟩ := opens5.2 H enc w base spare held n _ _ h0 (fun m hm => hz m (by simp [DataW.weights, Try.underlying54, DataW.weightsEach, hm]))
    obtain ⟨f1, k1, p1⟩ := opensI.2 H enc w base spare held n _ _ h1 (fun m hm => hz m (by simp [DataW.weights, Try.underlying54, DataW.weightsEach, hm]))
    exact ⟨⟨f0, f1⟩, ⟨[c0], [c1], rfl, k0, k1⟩, p0, p1⟩⟩
theorem ask_at {W : World} {A : Option Addr} {l : List AskS} (h : Kd.C kAsk W A l.length l) (i : Nat) (hi : i < l.length) (x : AskS) (hx : l[i]? = some x) : ∃ ad, A = some ad ∧ W.cell? (ad.add (i * 2)) = some (.int .u8 x.f0) ∧ W.cell? ⟨(ad.add (i * 2)).block, (ad.add (i * 2)).off + 1, none⟩ = some (.int .i64 x.f1) := by
  obtain ⟨ad, c, e, _, hK, hc0⟩ := Kd.C_get h zAsk (i : Int) (by omega) (by simpa using hi)
  have hc : ∀ j u, c[j]? = some u → W.cell? (ad.add (i * 2 + j)) = some u := fun j u hu => by have := hc0 j u hu; rw [Int.toNat_natCast] at this; exact this
  have hxe : l.getD i zAsk = x := by rw [List.getD_eq_getElem?_getD, hx]; rfl
  have hc' : c = [.int .u8 x.f0, .int .i64 x.f1] := by
    have := kAsk_open hK
    rw [Int.toNat_natCast, hxe] at this
    exact this
  subst hc'
  exact ⟨ad, e, by simpa using hc 0 _ rfl, by rw [← add_field _ _ 1 (by omega)]; exact hc 1 _ rfl⟩
end Go.Proofs.Ytghbfjmmjfklfaa.H
