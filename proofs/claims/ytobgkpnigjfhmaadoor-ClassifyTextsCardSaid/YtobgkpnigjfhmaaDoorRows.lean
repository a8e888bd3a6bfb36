/-
  NARROWER THAN 'FOR EVERY INPUT', by the rows' own cells (each row's printed sentence says how): ClassifyTrees: laid · ClassifyTexts: laid.
  DERIVED. THE GIVEN ROWS OF THIS SEAT. 2 by the template 'for every input the law returns true; each argument reads behind the call as it read before'; 0 by the template 'total and deterministic' (their statements: YtobgkpnigjfhmaaDoorTotals.lean).
  GIVEN WITH THE SEED: the statements are not yours to turn. If you find one false, say at which input.
  Laid BY PROGRAM, IN A SANDBOX (cutbox-rows.mjs): the forced cells as the released guide's own fill.sh prints them over the translation 846ea64de0c86311… (all of the seat's roots in one cut). By AI agents, Wed Nov 11 2026. No macro, syntax, notation, axiom, sorry.
-/
import Derived.Test.YtobgkpnigjfhmaaDoorChecked
import GoSem.Claim
import GoSem.ClaimJoined
import GoSem.ClaimMapViews
import Derived.JoinedTies
import Derived.KernelRfl
namespace Go.Proofs.YtobgkpnigjfhmaaDoor
/- THE CELL 'sum', in the pinned program and in every row, IS THE sha256 OF THE DUMP (.gsa) THAT YtobgkpnigjfhmaaDoorProg.lean LOADS. Nothing in Lean hashes anything: it is a label: what it is worth is what the hold of that sum in a sandbox is worth. -/
noncomputable def Tryd.pinned : Pinned := { name := "ytobgkpnigjfhmaadoor", sum := "846ea64de0c863111dfa6ea13e7aab8466c06c11de99fd3b7b2ef2331847e1a4", checked := Tryd.checked }
namespace Rows
def none {H : Type} : Left H := { results := [], args := [] }

/- WHAT THE LISTED PACKAGE-LEVEL VARIABLES READ AS WHEN THE CALL BEGINS. Each datum BY PROGRAM (the guide's laid-datum.mjs) off the statement by which the dump's own 'gosem.cut.vars' lays the variable. In a bare row this is a premise. The card (YtobgkpnigjfhmaaDoorCards.lean) ties it to the program's text. -/
def laid_glossator_classify_colours {H : Type} : DataW H := .agg [.lit (.int .i64 0), .lit (.int .i64 0), .lit (.int .i64 2), .lit (.int .i64 2), .lit (.int .i64 2), .lit (.int .i64 0), .lit (.int .i64 0), .lit (.int .i64 4), .lit (.int .i64 3), .lit (.int .i64 3), .lit (.int .i64 1), .lit (.int .i64 1), .lit (.int .i64 1), .lit (.int .i64 1), .lit (.int .i64 1), .lit (.int .i64 1), .lit (.int .i64 1), .lit (.int .i64 1), .lit (.int .i64 0), .lit (.int .i64 0), .lit (.int .i64 0), .lit (.int .i64 0), .lit (.int .i64 0), .lit (.int .i64 0), .lit (.int .i64 0), .lit (.int .i64 0), .lit (.int .i64 5), .lit (.int .i64 5), .lit (.int .i64 5), .lit (.int .i64 5), .lit (.int .i64 5), .lit (.int .i64 5), .lit (.int .i64 5), .lit (.int .i64 5), .lit (.int .i64 5), .lit (.int .i64 5), .lit (.int .i64 5), .lit (.int .i64 5), .lit (.int .i64 5), .lit (.int .i64 5), .lit (.int .i64 5)]

/-- 'glossatorlaw22.ClassifyTrees': WHATEVER THE INPUT: true; the input reads as it did. -/
def classifyTreesSpec : ChangeSpec := { name := "classifyTrees", fn := fun _ => fun
  | [d1, d2, d3] => { results := [.lit (.bool true)], args := [d1, d2, d3] }
  | _ => none }
def classifyTreesRow : OpenClaim := { program := "ytobgkpnigjfhmaadoor", sum := "846ea64de0c863111dfa6ea13e7aab8466c06c11de99fd3b7b2ef2331847e1a4", func := "glossator/glossatorlaw22.ClassifyTrees", spec := "classifyTrees", unfollowed := true, recurses := true, named := ["glossator/classify.colours"], plainKeys := false, apart := false, laid := [("glossator/classify.colours", laid_glossator_classify_colours)] }
def ClassifyTreesSaid : Prop := classifyTreesRow.holds Tryd.pinned (OpenSpec.ofChange classifyTreesSpec)

/-- ITS FALSE NEIGHBOUR: 'it returns false'. Refute it at one input. -/
def classifyTreesWrong : ChangeSpec := { name := "classifyTrees", fn := fun _ => fun
  | [d1, d2, d3] => { results := [.lit (.bool false)], args := [d1, d2, d3] }
  | _ => none }
def ClassifyTreesWrongFalsely : Prop := classifyTreesRow.holds Tryd.pinned (OpenSpec.ofChange classifyTreesWrong)

/-- 'glossatorlaw22.ClassifyTexts': WHATEVER THE INPUT: true; the input reads as it did. -/
def classifyTextsSpec : ChangeSpec := { name := "classifyTexts", fn := fun _ => fun
  | [d1, d2, d3] => { results := [.lit (.bool true)], args := [d1, d2, d3] }
  | _ => none }
def classifyTextsRow : OpenClaim := { program := "ytobgkpnigjfhmaadoor", sum := "846ea64de0c863111dfa6ea13e7aab8466c06c11de99fd3b7b2ef2331847e1a4", func := "glossator/glossatorlaw22.ClassifyTexts", spec := "classifyTexts", unfollowed := true, recurses := true, named := ["glossator/classify.colours"], plainKeys := false, apart := false, laid := [("glossator/classify.colours", laid_glossator_classify_colours)] }
def ClassifyTextsSaid : Prop := classifyTextsRow.holds Tryd.pinned (OpenSpec.ofChange classifyTextsSpec)

/-- ITS FALSE NEIGHBOUR: 'it returns false'. Refute it at one input. -/
def classifyTextsWrong : ChangeSpec := { name := "classifyTexts", fn := fun _ => fun
  | [d1, d2, d3] => { results := [.lit (.bool false)], args := [d1, d2, d3] }
  | _ => none }
def ClassifyTextsWrongFalsely : Prop := classifyTextsRow.holds Tryd.pinned (OpenSpec.ofChange classifyTextsWrong)

/- THE SECOND FORM. 'bulk': how many values and letters a reading holds, each counted each time it is reached (what is shared counts as often as it is met; a slice's spare places count too). A statement '..UptoSaid' is the law's where the arguments, and the package variables that the reading takes, are together of bulk at most 1048576: NARROWER than '..Said'. Prove '..Said' where nothing that the law and all that it calls make is longer than what came in: it says more and counts as full. Else prove '..UptoSaid'. A law counts once. -/
mutual
def uptoBulk {H : Type} : DataW H → Nat
  | .lit (.string bytes) => bytes.length + 1
  | .lit _ => 1
  | .nil => 1
  | .ptr d => uptoBulk d + 1
  | .slice elems spare => uptoBulkAll elems + uptoBulkAll spare + 1
  | .agg parts => uptoBulkAll parts + 1
  | .iface _ d => uptoBulk d + 1
  | .map entries => uptoBulkEntries entries + 1
  | .held _ => 1
def uptoBulkAll {H : Type} : List (DataW H) → Nat
  | [] => 0
  | d :: r => uptoBulk d + uptoBulkAll r
def uptoBulkEntries {H : Type} : List (Lit × DataW H) → Nat
  | [] => 0
  | x :: r => uptoBulkEntry x + uptoBulkEntries r
def uptoBulkEntry {H : Type} : Lit × DataW H → Nat
  | (.string bytes, d) => bytes.length + uptoBulk d + 1
  | (_, d) => uptoBulk d + 1
 end
def uptoSmall : (H : Type) → List (DataW H) → Bool := fun _ ds => decide (uptoBulkAll ds ≤ 1048576)
def OpenSpec.upto (s : _root_.Go.ChangeSpec) : _root_.Go.OpenSpec := { _root_.Go.OpenSpec.ofChange s with cond := some uptoSmall }

/-- 'glossatorlaw22.ClassifyTrees', WHERE WHAT IT READS IS OF BULK AT MOST 1048576: true; the input reads as it did. -/
def classifyTreesUptoRow : OpenClaim := { program := "ytobgkpnigjfhmaadoor", sum := "846ea64de0c863111dfa6ea13e7aab8466c06c11de99fd3b7b2ef2331847e1a4", func := "glossator/glossatorlaw22.ClassifyTrees", spec := "classifyTrees", unfollowed := true, recurses := true, named := ["glossator/classify.colours"], plainKeys := false, apart := false, laid := [("glossator/classify.colours", laid_glossator_classify_colours)], narrowed := true }
def ClassifyTreesUptoSaid : Prop := classifyTreesUptoRow.holds Tryd.pinned (OpenSpec.upto classifyTreesSpec)

/-- 'glossatorlaw22.ClassifyTexts', WHERE WHAT IT READS IS OF BULK AT MOST 1048576: true; the input reads as it did. -/
def classifyTextsUptoRow : OpenClaim := { program := "ytobgkpnigjfhmaadoor", sum := "846ea64de0c863111dfa6ea13e7aab8466c06c11de99fd3b7b2ef2331847e1a4", func := "glossator/glossatorlaw22.ClassifyTexts", spec := "classifyTexts", unfollowed := true, recurses := true, named := ["glossator/classify.colours"], plainKeys := false, apart := false, laid := [("glossator/classify.colours", laid_glossator_classify_colours)], narrowed := true }
def ClassifyTextsUptoSaid : Prop := classifyTextsUptoRow.holds Tryd.pinned (OpenSpec.upto classifyTextsSpec)

end Rows
end Go.Proofs.YtobgkpnigjfhmaaDoor
