/-
  No cell of these rows narrows 'for every input' (looked for: loops, veiled, ifaces, maps, wideKeys, modest, calm, conditions, laid).
  DERIVED. THE GIVEN ROWS OF THIS SEAT. 2 by the template 'for every input the law returns true; each argument reads behind the call as it read before'; 0 by the template 'total and deterministic' (their statements: YtghbfjmmjfklfaaTotals.lean).
  GIVEN WITH THE SEED: the statements are not yours to turn. If you find one false, say at which input.
  Laid BY PROGRAM, IN A SANDBOX (cutbox-rows.mjs): the forced cells as the released guide's own fill.sh prints them over the translation cc8154b5afc39be0… (all of the seat's roots in one cut). By AI agents, Wed Nov 11 2026. No macro, syntax, notation, axiom, sorry.
-/
import Derived.Test.YtghbfjmmjfklfaaChecked
import GoSem.Claim
import GoSem.ClaimJoined
import GoSem.ClaimMapViews
import Derived.JoinedTies
import Derived.KernelRfl
namespace Go.Proofs.Ytghbfjmmjfklfaa
/- THE CELL 'sum', in the pinned program and in every row, IS THE sha256 OF THE DUMP (.gsa) THAT YtghbfjmmjfklfaaProg.lean LOADS. Nothing in Lean hashes anything: it is a label: what it is worth is what the hold of that sum in a sandbox is worth. -/
noncomputable def Try.pinned : Pinned := { name := "ytghbfjmmjfklfaa", sum := "cc8154b5afc39be0d02b3a399323997197e26986baaa91378c4e234d618e1486", checked := Try.checked }
namespace Rows
def none {H : Type} : Left H := { results := [], args := [] }

/-- 'glossatorlaw17.CursorTexts': WHATEVER THE INPUT: true; the input reads as it did. -/
def cursorTextsSpec : ChangeSpec := { name := "cursorTexts", fn := fun _ => fun
  | [d1, d2, d3, d4, d5] => { results := [.lit (.bool true)], args := [d1, d2, d3, d4, d5] }
  | _ => none }
def cursorTextsRow : OpenClaim := { program := "ytghbfjmmjfklfaa", sum := "cc8154b5afc39be0d02b3a399323997197e26986baaa91378c4e234d618e1486", func := "glossator/glossatorlaw17.CursorTexts", spec := "cursorTexts", unfollowed := true, recurses := true, plainKeys := false, apart := false }
def CursorTextsSaid : Prop := cursorTextsRow.holds Try.pinned (OpenSpec.ofChange cursorTextsSpec)

/-- ITS FALSE NEIGHBOUR: 'it returns false'. Refute it at one input. -/
def cursorTextsWrong : ChangeSpec := { name := "cursorTexts", fn := fun _ => fun
  | [d1, d2, d3, d4, d5] => { results := [.lit (.bool false)], args := [d1, d2, d3, d4, d5] }
  | _ => none }
def CursorTextsWrongFalsely : Prop := cursorTextsRow.holds Try.pinned (OpenSpec.ofChange cursorTextsWrong)

/-- 'glossatorlaw17.CursorTrees': WHATEVER THE INPUT: true; the input reads as it did. -/
def cursorTreesSpec : ChangeSpec := { name := "cursorTrees", fn := fun _ => fun
  | [d1, d2, d3, d4, d5, d6] => { results := [.lit (.bool true)], args := [d1, d2, d3, d4, d5, d6] }
  | _ => none }
def cursorTreesRow : OpenClaim := { program := "ytghbfjmmjfklfaa", sum := "cc8154b5afc39be0d02b3a399323997197e26986baaa91378c4e234d618e1486", func := "glossator/glossatorlaw17.CursorTrees", spec := "cursorTrees", unfollowed := true, recurses := true, plainKeys := false, apart := false }
def CursorTreesSaid : Prop := cursorTreesRow.holds Try.pinned (OpenSpec.ofChange cursorTreesSpec)

/-- ITS FALSE NEIGHBOUR: 'it returns false'. Refute it at one input. -/
def cursorTreesWrong : ChangeSpec := { name := "cursorTrees", fn := fun _ => fun
  | [d1, d2, d3, d4, d5, d6] => { results := [.lit (.bool false)], args := [d1, d2, d3, d4, d5, d6] }
  | _ => none }
def CursorTreesWrongFalsely : Prop := cursorTreesRow.holds Try.pinned (OpenSpec.ofChange cursorTreesWrong)

/- THE SECOND FORM. 'bulk': how many values and letters a reading holds, each counted each time it is reached (what is shared counts as often as it is met; a slice's spare places count too). A statement '..UptoSaid' is the law's where the arguments, and the package variables that the reading takes, are together of bulk at most 1048576: NARROWER than '..Said'. Prove '..Said' where nothing that the law and all that it calls make is longer than what came in: it says more and counts as full. Else prove '..UptoSaid'. A law counts once. -/
mutual
def uptoBulk {H : Type} : DataW H → Nat
  | .lit (.string bytes) => bytes.length + 1
  | .lit _ => 1
  | .nil => 1
  | .ptr d => uptoBulk d + 1
  | .slice elems spare => uptoBulkAll elems + uptoBulkAll spare + 1
  | .agg parts => uptoBulkAll parts + 1
  | .iface _ d => uptoBulk d + 1
  | .map entries => uptoBulkEntries entries + 1
  | .held _ => 1
def uptoBulkAll {H : Type} : List (DataW H) → Nat
  | [] => 0
  | d :: r => uptoBulk d + uptoBulkAll r
def uptoBulkEntries {H : Type} : List (Lit × DataW H) → Nat
  | [] => 0
  | x :: r => uptoBulkEntry x + uptoBulkEntries r
def uptoBulkEntry {H : Type} : Lit × DataW H → Nat
  | (.string bytes, d) => bytes.length + uptoBulk d + 1
  | (_, d) => uptoBulk d + 1
 end
def uptoSmall : (H : Type) → List (DataW H) → Bool := fun _ ds => decide (uptoBulkAll ds ≤ 1048576)
def OpenSpec.upto (s : _root_.Go.ChangeSpec) : _root_.Go.OpenSpec := { _root_.Go.OpenSpec.ofChange s with cond := some uptoSmall }

/-- 'glossatorlaw17.CursorTexts', WHERE WHAT IT READS IS OF BULK AT MOST 1048576: true; the input reads as it did. -/
def cursorTextsUptoRow : OpenClaim := { program := "ytghbfjmmjfklfaa", sum := "cc8154b5afc39be0d02b3a399323997197e26986baaa91378c4e234d618e1486", func := "glossator/glossatorlaw17.CursorTexts", spec := "cursorTexts", unfollowed := true, recurses := true, plainKeys := false, apart := false, narrowed := true }
def CursorTextsUptoSaid : Prop := cursorTextsUptoRow.holds Try.pinned (OpenSpec.upto cursorTextsSpec)

/-- 'glossatorlaw17.CursorTrees', WHERE WHAT IT READS IS OF BULK AT MOST 1048576: true; the input reads as it did. -/
def cursorTreesUptoRow : OpenClaim := { program := "ytghbfjmmjfklfaa", sum := "cc8154b5afc39be0d02b3a399323997197e26986baaa91378c4e234d618e1486", func := "glossator/glossatorlaw17.CursorTrees", spec := "cursorTrees", unfollowed := true, recurses := true, plainKeys := false, apart := false, narrowed := true }
def CursorTreesUptoSaid : Prop := cursorTreesUptoRow.holds Try.pinned (OpenSpec.upto cursorTreesSpec)

end Rows
end Go.Proofs.Ytghbfjmmjfklfaa
