/- CacheNone: the law walked. -/
import Derived.Test.YtaphacgdokhmmaaDoorVHCacheNew
import Derived.Lib.AppendIntMem
set_option linter.unusedVariables false
set_option linter.unusedSimpArgs false
namespace Go.Proofs.YtaphacgdokhmmaaDoor.H
open Go.RowKit Go.Shelf Go.Proofs.YtaphacgdokhmmaaDoorW.PrintWords Go.Proofs.YtaphacgdokhmmaaDoorW.PrintLast Go.Proofs.YtaphacgdokhmmaaDoorW.PrintMore
open Go.MuLone
theorem tab_heap {W W' : World} (h : Tab W) (hk : ∀ q, q < W.heap.size → W'.heap[q]? = W.heap[q]?) : Tab W' := by
  have hs : W.heap.size ≤ W'.heap.size := by
    rcases Nat.eq_zero_or_pos W.heap.size with e | e
    · omega
    · have h1 := (hk (W.heap.size - 1) (by omega)).trans (Array.getElem?_eq_getElem (by omega))
      have := (Array.getElem?_eq_some_iff.1 h1).1
      omega
  have := Lib.tabBelow_of_tabIs h { W' with os := W.os, tape := W.tape, output := W.output } ⟨rfl, rfl, rfl, hs, hk⟩
  exact this
end Go.Proofs.YtaphacgdokhmmaaDoor.H
