/- CacheLast: the law walked. -/
import Derived.Test.YtaphacgdokhmmaaDoorVHCacheRows
set_option linter.unusedVariables false
set_option linter.unusedSimpArgs false
namespace Go.Proofs.YtaphacgdokhmmaaDoor.H
open Go.RowKit Go.Shelf Go.Proofs.YtaphacgdokhmmaaDoorW.PrintWords Go.Proofs.YtaphacgdokhmmaaDoorW.PrintLast Go.Proofs.YtaphacgdokhmmaaDoorW.PrintMore
theorem C_nil_ {α : Type} (d : Kd α) (W : World) (A : Option Addr) : Kd.C d W A ([] : List α).length [] := ⟨rfl, Nat.zero_le _, fun h => absurd h (Nat.lt_irrefl 0)⟩
end Go.Proofs.YtaphacgdokhmmaaDoor.H
