/- cache.Cache's Get, Kept, Drop. -/
import Derived.Test.YtaphacgdokhmmaaDoorQHCache
set_option linter.unusedVariables false
set_option linter.unusedSimpArgs false
namespace Go.Proofs.YtaphacgdokhmmaaDoor.H
open Go.RowKit Go.Proofs.YtaphacgdokhmmaaDoorW.PrintWords Go.Proofs.YtaphacgdokhmmaaDoorW.PrintLast Go.Proofs.YtaphacgdokhmmaaDoorW.PrintMore
open Go.MuLone
open Go.Maps (Keyed IsMap)
def fnd (l : List Res) (id : ByteArray) : Option Res := l.find? (fun x => x.1.toList == id.toList)
theorem turned_keep {W W' : World} {bm : Nat} (h : W.mapTurned W' bm) : ∀ q, q ≠ bm → W'.heap[q]? = W.heap[q]? := by
  obtain ⟨es, clock, es', clock', hb, rfl⟩ := h
  intro q hq
  exact Go.ChangeMaps.heap_setBlock_other hb _ hq
theorem turned_same {W W' : World} {bm : Nat} (h : W.mapTurned W' bm) : W'.os = W.os ∧ W'.tape = W.tape ∧ W'.output = W.output ∧ W'.heap.size = W.heap.size := by
  obtain ⟨es, clock, es', clock', hb, rfl⟩ := h
  exact ⟨rfl, rfl, rfl, by simp [ChangeMaps.setBlock]⟩
structure Chg (Fp : Nat → Prop) (W W' : World) : Prop where
  os : W'.os = W.os
  tape : W'.tape = W.tape
  output : W'.output = W.output
  size : W.heap.size ≤ W'.heap.size
  block : ∀ q, q < W.heap.size → ¬ Fp q → W'.heap[q]? = W.heap[q]?
def dropM (M : ByteArray → List Res) (u : ByteArray) : ByteArray → List Res := fun x => if x = u then [] else M x
end Go.Proofs.YtaphacgdokhmmaaDoor.H
