-- printed by wip/printx.py, a call of the kit's printer over this seat (with contracts of our own for the functions that it does not take)
import Derived.Test.YtceddikbmbadlaaDoorProg
import Derived.Below
import Derived.Deep.Draws
import Derived.Deep.AppendLies
import Derived.Maps.AppendAt
import Derived.OwnWalk
import Derived.Laws.BytesArg
import Derived.Laws.MakeOwn
import Derived.Laws.OwnMore
import Derived.Deep.OwnRows
import Derived.Tactics
import Derived.Lib.ConvBytes
import Derived.Laws.Slices
import Derived.WalkKit
import Derived.KernelRfl
import Derived.RowKit3
import Derived.Deep.LoopGhost
import Derived.Deep.QuietTactic
import Derived.BigQuiet
import Derived.WideLaws
import Derived.Deep.DeepCutAuto
import Derived.Deep.CutBlock
import Derived.Deep.RegionHeld3
import Derived.Laws.Rows
import Derived.Lib.AppendStr
import Derived.ArgAppend
import Derived.Laws.IdiomCopy
import Derived.OrdersHeld
import Derived.Laws.BitsLemmas
import Derived.RowKit
import Derived.Test.YtceddikbmbadlaaDoorWWords
import Derived.Test.YtceddikbmbadlaaDoorWLast
import Derived.Test.YtceddikbmbadlaaDoorWTab
import Derived.Test.YtceddikbmbadlaaDoorWFour
import Derived.Test.YtceddikbmbadlaaDoorWQPut
import Derived.Test.YtceddikbmbadlaaDoorWApart
import Derived.Test.YtceddikbmbadlaaDoorWArr
import Derived.Test.YtceddikbmbadlaaDoorWZeros
import Derived.Test.YtceddikbmbadlaaDoorWFoot
import Derived.Test.YtceddikbmbadlaaDoorWKept
import Derived.Test.YtceddikbmbadlaaDoorWShare
import Derived.Test.YtceddikbmbadlaaDoorWN
import Derived.Test.YtceddikbmbadlaaDoorWFootNe
import Derived.Test.YtceddikbmbadlaaDoorWAt
import Derived.Test.YtceddikbmbadlaaDoorWEqStruct
import Derived.Test.YtceddikbmbadlaaDoorWRepsOne
import Derived.Test.YtceddikbmbadlaaDoorWInv
import Derived.Test.YtceddikbmbadlaaDoorWInvWords
import Derived.Test.YtceddikbmbadlaaDoorWGuard
import Derived.Test.YtceddikbmbadlaaDoorWNEv
import Derived.Test.YtceddikbmbadlaaDoorWMore
namespace Go.Proofs.YtceddikbmbadlaaDoor.H
open Go.RowKit Go.Proofs.YtceddikbmbadlaaDoorW.PrintWords Go.Proofs.YtceddikbmbadlaaDoorW.PrintLast Go.Proofs.YtceddikbmbadlaaDoorW.PrintMore
attribute [local go_sem] max2_int min2_int max_two min_two max_three min_three max_four min_four   -- for this text's walks alone
set_option linter.unusedVariables false
set_option linter.unusedSimpArgs false



def errW : Option Int → Value
  | none => .nilIface
  | some c => .iface 0 (.int .i64 c)
theorem errW_none : errW none = .nilIface := rfl
theorem errW_some (c : Int) : errW (some c) = .iface 0 (.int .i64 c) := rfl

theorem info9 : (Tryd.prog.info? 9).map (fun i => (i.zero, i.size, i.bytes)) = some (some (.string ⟨#[]⟩), 1, 16) := by kernel_rfl
-- the values' own types

end Go.Proofs.YtceddikbmbadlaaDoor.H
