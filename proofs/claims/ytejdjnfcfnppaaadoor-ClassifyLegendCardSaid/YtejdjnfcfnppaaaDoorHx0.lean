-- printed by wip/printx.py, a call of the kit's printer over this seat (with contracts of our own for the functions that it does not take)
import Derived.Test.YtejdjnfcfnppaaaDoorProg
import Derived.Below
import Derived.Deep.Draws
import Derived.Deep.AppendLies
import Derived.Maps.AppendAt
import Derived.OwnWalk
import Derived.Laws.BytesArg
import Derived.Laws.MakeOwn
import Derived.Laws.OwnMore
import Derived.Deep.OwnRows
import Derived.Tactics
import Derived.Lib.ConvBytes
import Derived.Laws.Slices
import Derived.WalkKit
import Derived.KernelRfl
import Derived.RowKit3
import Derived.Deep.LoopGhost
import Derived.Deep.QuietTactic
import Derived.BigQuiet
import Derived.WideLaws
import Derived.Deep.DeepCutAuto
import Derived.Deep.CutBlock
import Derived.Deep.RegionHeld3
import Derived.Laws.Rows
import Derived.Lib.AppendStr
import Derived.ArgAppend
import Derived.Laws.IdiomCopy
import Derived.OrdersHeld
import Derived.Laws.BitsLemmas
import Derived.RowKit
import Derived.Test.YtejdjnfcfnppaaaDoorWWords
import Derived.Test.YtejdjnfcfnppaaaDoorWLast
import Derived.Test.YtejdjnfcfnppaaaDoorWTab
import Derived.Test.YtejdjnfcfnppaaaDoorWFour
import Derived.Test.YtejdjnfcfnppaaaDoorWQPut
import Derived.Test.YtejdjnfcfnppaaaDoorWApart
import Derived.Test.YtejdjnfcfnppaaaDoorWArr
import Derived.Test.YtejdjnfcfnppaaaDoorWZeros
import Derived.Test.YtejdjnfcfnppaaaDoorWFoot
import Derived.Test.YtejdjnfcfnppaaaDoorWKept
import Derived.Test.YtejdjnfcfnppaaaDoorWShare
import Derived.Test.YtejdjnfcfnppaaaDoorWN
import Derived.Test.YtejdjnfcfnppaaaDoorWFootNe
import Derived.Test.YtejdjnfcfnppaaaDoorWAt
import Derived.Test.YtejdjnfcfnppaaaDoorWEqStruct
import Derived.Test.YtejdjnfcfnppaaaDoorWRepsOne
import Derived.Test.YtejdjnfcfnppaaaDoorWInv
import Derived.Test.YtejdjnfcfnppaaaDoorWInvWords
import Derived.Test.YtejdjnfcfnppaaaDoorWGuard
import Derived.Test.YtejdjnfcfnppaaaDoorWNEv
import Derived.Test.YtejdjnfcfnppaaaDoorWMore
namespace Go.Proofs.YtejdjnfcfnppaaaDoor.H
open Go.RowKit Go.Proofs.YtejdjnfcfnppaaaDoorW.PrintWords Go.Proofs.YtejdjnfcfnppaaaDoorW.PrintLast Go.Proofs.YtejdjnfcfnppaaaDoorW.PrintMore
attribute [local go_sem] max2_int min2_int max_two min_two max_three min_three max_four min_four   -- for this text's walks alone
set_option linter.unusedVariables false
set_option linter.unusedSimpArgs false



def errW : Option Int → Value
  | none => .nilIface
  | some c => .iface 0 (.int .i64 c)
theorem errW_none : errW none = .nilIface := rfl
theorem errW_some (c : Int) : errW (some c) = .iface 0 (.int .i64 c) := rfl

theorem info9 : (Tryd.prog.info? 9).map (fun i => (i.zero, i.size, i.bytes)) = some (some (.string ⟨#[]⟩), 1, 16) := by kernel_rfl
-- the values' own types

end Go.Proofs.YtejdjnfcfnppaaaDoor.H
