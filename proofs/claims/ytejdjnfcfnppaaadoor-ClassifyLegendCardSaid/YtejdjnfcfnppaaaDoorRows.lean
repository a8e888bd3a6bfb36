/-
  NARROWER THAN 'FOR EVERY INPUT', by the rows' own cells (each row's printed sentence says how): ClassifyLegend: laid.
  DERIVED. THE GIVEN ROWS OF THIS SEAT. 1 by the template 'for every input the law returns true; each argument reads behind the call as it read before'; 0 by the template 'total and deterministic' (their statements: YtejdjnfcfnppaaaDoorTotals.lean).
  GIVEN WITH THE SEED: the statements are not yours to turn. If you find one false, say at which input.
  Laid BY PROGRAM, IN A SANDBOX (cutbox-rows.mjs): the forced cells as the released guide's own fill.sh prints them over the translation 55cba2f9f165b82a… (all of the seat's roots in one cut). By AI agents, Wed Nov 11 2026. No macro, syntax, notation, axiom, sorry.
-/
import Derived.Test.YtejdjnfcfnppaaaDoorChecked
import GoSem.Claim
import GoSem.ClaimJoined
import GoSem.ClaimMapViews
import Derived.JoinedTies
import Derived.KernelRfl
namespace Go.Proofs.YtejdjnfcfnppaaaDoor
/- THE CELL 'sum', in the pinned program and in every row, IS THE sha256 OF THE DUMP (.gsa) THAT YtejdjnfcfnppaaaDoorProg.lean LOADS. Nothing in Lean hashes anything: it is a label: what it is worth is what the hold of that sum in a sandbox is worth. -/
noncomputable def Tryd.pinned : Pinned := { name := "ytejdjnfcfnppaaadoor", sum := "55cba2f9f165b82a82cbe9585f54fb90953d51dc3e91972c63c60b1929c68a4d", checked := Tryd.checked }
namespace Rows
def none {H : Type} : Left H := { results := [], args := [] }

/- WHAT THE LISTED PACKAGE-LEVEL VARIABLES READ AS WHEN THE CALL BEGINS. Each datum BY PROGRAM (the guide's laid-datum.mjs) off the statement by which the dump's own 'gosem.cut.vars' lays the variable. In a bare row this is a premise. The card (YtejdjnfcfnppaaaDoorCards.lean) ties it to the program's text. -/
def laid_glossator_classify_legend {H : Type} : DataW H := .agg [.slice [.lit (.string [107, 101, 121, 119, 111, 114, 100]), .lit (.string [99, 111, 109, 109, 101, 110, 116]), .lit (.string [115, 116, 114, 105, 110, 103]), .lit (.string [110, 117, 109, 98, 101, 114]), .lit (.string [111, 112, 101, 114, 97, 116, 111, 114]), .lit (.string [118, 97, 114, 105, 97, 98, 108, 101]), .lit (.string [112, 97, 114, 97, 109, 101, 116, 101, 114]), .lit (.string [102, 117, 110, 99, 116, 105, 111, 110])] [], .slice [.lit (.string [100, 101, 99, 108, 97, 114, 97, 116, 105, 111, 110]), .lit (.string [117, 110, 114, 101, 115, 111, 108, 118, 101, 100]), .lit (.string [114, 101, 100, 101, 99, 108, 97, 114, 101, 100])] []]

/-- 'glossatorlaw22.ClassifyLegend': WHATEVER THE INPUT: true; the input reads as it did. -/
def classifyLegendSpec : ChangeSpec := { name := "classifyLegend", fn := fun _ => fun
  | [] => { results := [.lit (.bool true)], args := [] }
  | _ => none }
def classifyLegendRow : OpenClaim := { program := "ytejdjnfcfnppaaadoor", sum := "55cba2f9f165b82a82cbe9585f54fb90953d51dc3e91972c63c60b1929c68a4d", func := "glossator/glossatorlaw22.ClassifyLegend", spec := "classifyLegend", named := ["glossator/classify.legend"], apart := false, laid := [("glossator/classify.legend", laid_glossator_classify_legend)] }
def ClassifyLegendSaid : Prop := classifyLegendRow.holds Tryd.pinned (OpenSpec.ofChange classifyLegendSpec)

/-- ITS FALSE NEIGHBOUR: 'it returns false'. Refute it at one input. -/
def classifyLegendWrong : ChangeSpec := { name := "classifyLegend", fn := fun _ => fun
  | [] => { results := [.lit (.bool false)], args := [] }
  | _ => none }
def ClassifyLegendWrongFalsely : Prop := classifyLegendRow.holds Tryd.pinned (OpenSpec.ofChange classifyLegendWrong)

/- THE SECOND FORM. 'bulk': how many values and letters a reading holds, each counted each time it is reached (what is shared counts as often as it is met; a slice's spare places count too). A statement '..UptoSaid' is the law's where the arguments, and the package variables that the reading takes, are together of bulk at most 1048576: NARROWER than '..Said'. Prove '..Said' where nothing that the law and all that it calls make is longer than what came in: it says more and counts as full. Else prove '..UptoSaid'. A law counts once. -/
mutual
def uptoBulk {H : Type} : DataW H → Nat
  | .lit (.string bytes) => bytes.length + 1
  | .lit _ => 1
  | .nil => 1
  | .ptr d => uptoBulk d + 1
  | .slice elems spare => uptoBulkAll elems + uptoBulkAll spare + 1
  | .agg parts => uptoBulkAll parts + 1
  | .iface _ d => uptoBulk d + 1
  | .map entries => uptoBulkEntries entries + 1
  | .held _ => 1
def uptoBulkAll {H : Type} : List (DataW H) → Nat
  | [] => 0
  | d :: r => uptoBulk d + uptoBulkAll r
def uptoBulkEntries {H : Type} : List (Lit × DataW H) → Nat
  | [] => 0
  | x :: r => uptoBulkEntry x + uptoBulkEntries r
def uptoBulkEntry {H : Type} : Lit × DataW H → Nat
  | (.string bytes, d) => bytes.length + uptoBulk d + 1
  | (_, d) => uptoBulk d + 1
 end
def uptoSmall : (H : Type) → List (DataW H) → Bool := fun _ ds => decide (uptoBulkAll ds ≤ 1048576)
def OpenSpec.upto (s : _root_.Go.ChangeSpec) : _root_.Go.OpenSpec := { _root_.Go.OpenSpec.ofChange s with cond := some uptoSmall }

/-- 'glossatorlaw22.ClassifyLegend', WHERE WHAT IT READS IS OF BULK AT MOST 1048576: true; the input reads as it did. -/
def classifyLegendUptoRow : OpenClaim := { program := "ytejdjnfcfnppaaadoor", sum := "55cba2f9f165b82a82cbe9585f54fb90953d51dc3e91972c63c60b1929c68a4d", func := "glossator/glossatorlaw22.ClassifyLegend", spec := "classifyLegend", named := ["glossator/classify.legend"], apart := false, laid := [("glossator/classify.legend", laid_glossator_classify_legend)], narrowed := true }
def ClassifyLegendUptoSaid : Prop := classifyLegendUptoRow.holds Tryd.pinned (OpenSpec.upto classifyLegendSpec)

end Rows
end Go.Proofs.YtejdjnfcfnppaaaDoor
