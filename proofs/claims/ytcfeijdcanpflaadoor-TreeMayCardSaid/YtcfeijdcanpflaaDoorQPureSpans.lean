/- Spans of kids fill their parent's: what the law's stack goes through, of lists alone. -/
import Derived.Test.YtcfeijdcanpflaaDoorQPureAround
set_option linter.unusedVariables false
set_option linter.unusedSimpArgs false
namespace Go.Proofs.YtcfeijdcanpflaaDoor.H
open Go.RowKit Go.Proofs.YtcfeijdcanpflaaDoorW.PrintWords Go.Proofs.YtcfeijdcanpflaaDoorW.PrintLast Go.Proofs.YtcfeijdcanpflaaDoorW.PrintMore
abbrev Op3 := Int × Int × Int
def popS : List Op3 → Option (List Op3)
  | [] => some []
  | o :: st => if o.1 = 0 then (if o.2.1 = o.2.2 then popS st else none) else some (o :: st)
def headS (first : Bool) (st : List Op3) (f t : Int) : Option (List Op3) :=
  if first then (if f = 0 then some st else none) else match st with
    | [] => none
    | o :: r => if o.2.1 = f ∧ t ≤ o.2.2 then some ((wrap64 (o.1 - 1), t, o.2.2) :: r) else none
def stepS (first : Bool) (st : List Op3) (x : S25 × Int × Int) : Option (List Op3) :=
  (headS first st x.2.1 (wrap64 (x.2.1 + x.1.f2))).bind fun s => if wrap64 (wrap64 (x.2.1 + x.1.f2) - x.2.1) = x.1.f2 then popS (((x.1.f3.length : Int), (if x.1.f0 ≤ 50 then wrap64 (x.2.1 + x.1.f2) else x.2.1), wrap64 (x.2.1 + x.1.f2)) :: s) else none
def runS : Bool → List Op3 → List (S25 × Int × Int) → Option (List Op3)
  | _, st, [] => some st
  | b, st, x :: xs => (stepS b st x).bind fun s => runS false s xs
end Go.Proofs.YtcfeijdcanpflaaDoor.H
