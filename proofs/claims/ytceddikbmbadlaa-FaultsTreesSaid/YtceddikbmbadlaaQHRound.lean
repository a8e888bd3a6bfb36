import Derived.Deep.RegionHeld3
import Derived.OrdersIn
import Derived.StillTail
import Derived.RangeFuncCalls
set_option linter.unusedVariables false
set_option linter.unusedSimpArgs false
namespace Go.Proofs.Ytceddikbmbadlaa.H
open Go.RowKit
def noDefer (ops : Array Oper) : Bool := ops.all fun o => match o.op with | .defer _ => false | _ => true
section
variable {P : Program} {ops : Array Oper} {Q : Exit → Act → World → Prop} {md : Region.Mode} {l n : Nat}
def wpAnyN (P : Program) (md : Region.Mode) (ops : Array Oper) (Q : Exit → Act → World → Prop) (need : List Nat) (S : World → Prop) : Nat → Array Bool → Act → World → Prop
  | 0, listed, a, w => Region.ready md ops listed = [] ∧ Q .normal a w
  | fuel + 1, listed, a, w =>
    (Region.ready md ops listed = [] → Q .normal a w) ∧
    ∀ i ∈ Region.ready md ops listed, wpOp P ops Q i (fun a' w' => (need.contains i = true → S w') ∧ wpAnyN P md ops Q need S fuel (listed.setIfInBounds i true) a' w') a w
variable {S : World → Prop} {need : List Nat}
def waits (md : Region.Mode) (ops : Array Oper) (need : List Nat) (i : Nat) : Bool := (List.range ops.size).all fun j => need.contains j || Region.waitsFor md ops j i
end
end Go.Proofs.Ytceddikbmbadlaa.H
