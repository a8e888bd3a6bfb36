/-
  No cell of these rows narrows 'for every input' (looked for: loops, veiled, ifaces, maps, wideKeys, modest, calm, conditions, laid).
  DERIVED. THE GIVEN ROWS OF THIS SEAT. 2 by the template 'for every input the law returns true; each argument reads behind the call as it read before'; 0 by the template 'total and deterministic' (their statements: YtceddikbmbadlaaTotals.lean).
  GIVEN WITH THE SEED: the statements are not yours to turn. If you find one false, say at which input.
  Laid BY PROGRAM, IN A SANDBOX (cutbox-rows.mjs): the forced cells as the released guide's own fill.sh prints them over the translation 3c0c8cbd754415b8… (all of the seat's roots in one cut). By AI agents, Wed Nov 11 2026. No macro, syntax, notation, axiom, sorry.
-/
import Derived.Test.YtceddikbmbadlaaChecked
import GoSem.Claim
import GoSem.ClaimJoined
import GoSem.ClaimMapViews
import Derived.JoinedTies
import Derived.KernelRfl
namespace Go.Proofs.Ytceddikbmbadlaa
/- THE CELL 'sum', in the pinned program and in every row, IS THE sha256 OF THE DUMP (.gsa) THAT YtceddikbmbadlaaProg.lean LOADS. Nothing in Lean hashes anything: it is a label: what it is worth is what the hold of that sum in a sandbox is worth. -/
noncomputable def Try.pinned : Pinned := { name := "ytceddikbmbadlaa", sum := "3c0c8cbd754415b8dd9df825d83f0fa8b87db6658f301c3963dbdbd6c58c0e94", checked := Try.checked }
namespace Rows
def none {H : Type} : Left H := { results := [], args := [] }

/-- 'glossatorlaw19.FaultsTrees': WHATEVER THE INPUT: true; the input reads as it did. -/
def faultsTreesSpec : ChangeSpec := { name := "faultsTrees", fn := fun _ => fun
  | [d] => { results := [.lit (.bool true)], args := [d] }
  | _ => none }
def faultsTreesRow : OpenClaim := { program := "ytceddikbmbadlaa", sum := "3c0c8cbd754415b8dd9df825d83f0fa8b87db6658f301c3963dbdbd6c58c0e94", func := "glossator/glossatorlaw19.FaultsTrees", spec := "faultsTrees", unfollowed := true, recurses := true, apart := false }
def FaultsTreesSaid : Prop := faultsTreesRow.holds Try.pinned (OpenSpec.ofChange faultsTreesSpec)

/-- ITS FALSE NEIGHBOUR: 'it returns false'. Refute it at one input. -/
def faultsTreesWrong : ChangeSpec := { name := "faultsTrees", fn := fun _ => fun
  | [d] => { results := [.lit (.bool false)], args := [d] }
  | _ => none }
def FaultsTreesWrongFalsely : Prop := faultsTreesRow.holds Try.pinned (OpenSpec.ofChange faultsTreesWrong)

/-- 'glossatorlaw19.FaultsTexts': WHATEVER THE INPUT: true; the input reads as it did. -/
def faultsTextsSpec : ChangeSpec := { name := "faultsTexts", fn := fun _ => fun
  | [d] => { results := [.lit (.bool true)], args := [d] }
  | _ => none }
def faultsTextsRow : OpenClaim := { program := "ytceddikbmbadlaa", sum := "3c0c8cbd754415b8dd9df825d83f0fa8b87db6658f301c3963dbdbd6c58c0e94", func := "glossator/glossatorlaw19.FaultsTexts", spec := "faultsTexts", unfollowed := true, recurses := true, apart := false }
def FaultsTextsSaid : Prop := faultsTextsRow.holds Try.pinned (OpenSpec.ofChange faultsTextsSpec)

/-- ITS FALSE NEIGHBOUR: 'it returns false'. Refute it at one input. -/
def faultsTextsWrong : ChangeSpec := { name := "faultsTexts", fn := fun _ => fun
  | [d] => { results := [.lit (.bool false)], args := [d] }
  | _ => none }
def FaultsTextsWrongFalsely : Prop := faultsTextsRow.holds Try.pinned (OpenSpec.ofChange faultsTextsWrong)

/- THE SECOND FORM. 'bulk': how many values and letters a reading holds, each counted each time it is reached (what is shared counts as often as it is met; a slice's spare places count too). A statement '..UptoSaid' is the law's where the arguments, and the package variables that the reading takes, are together of bulk at most 1048576: NARROWER than '..Said'. Prove '..Said' where nothing that the law and all that it calls make is longer than what came in: it says more and counts as full. Else prove '..UptoSaid'. A law counts once. -/
mutual
def uptoBulk {H : Type} : DataW H → Nat
  | .lit (.string bytes) => bytes.length + 1
  | .lit _ => 1
  | .nil => 1
  | .ptr d => uptoBulk d + 1
  | .slice elems spare => uptoBulkAll elems + uptoBulkAll spare + 1
  | .agg parts => uptoBulkAll parts + 1
  | .iface _ d => uptoBulk d + 1
  | .map entries => uptoBulkEntries entries + 1
  | .held _ => 1
def uptoBulkAll {H : Type} : List (DataW H) → Nat
  | [] => 0
  | d :: r => uptoBulk d + uptoBulkAll r
def uptoBulkEntries {H : Type} : List (Lit × DataW H) → Nat
  | [] => 0
  | x :: r => uptoBulkEntry x + uptoBulkEntries r
def uptoBulkEntry {H : Type} : Lit × DataW H → Nat
  | (.string bytes, d) => bytes.length + uptoBulk d + 1
  | (_, d) => uptoBulk d + 1
 end
def uptoSmall : (H : Type) → List (DataW H) → Bool := fun _ ds => decide (uptoBulkAll ds ≤ 1048576)
def OpenSpec.upto (s : _root_.Go.ChangeSpec) : _root_.Go.OpenSpec := { _root_.Go.OpenSpec.ofChange s with cond := some uptoSmall }

/-- 'glossatorlaw19.FaultsTrees', WHERE WHAT IT READS IS OF BULK AT MOST 1048576: true; the input reads as it did. -/
def faultsTreesUptoRow : OpenClaim := { program := "ytceddikbmbadlaa", sum := "3c0c8cbd754415b8dd9df825d83f0fa8b87db6658f301c3963dbdbd6c58c0e94", func := "glossator/glossatorlaw19.FaultsTrees", spec := "faultsTrees", unfollowed := true, recurses := true, apart := false, narrowed := true }
def FaultsTreesUptoSaid : Prop := faultsTreesUptoRow.holds Try.pinned (OpenSpec.upto faultsTreesSpec)

/-- 'glossatorlaw19.FaultsTexts', WHERE WHAT IT READS IS OF BULK AT MOST 1048576: true; the input reads as it did. -/
def faultsTextsUptoRow : OpenClaim := { program := "ytceddikbmbadlaa", sum := "3c0c8cbd754415b8dd9df825d83f0fa8b87db6658f301c3963dbdbd6c58c0e94", func := "glossator/glossatorlaw19.FaultsTexts", spec := "faultsTexts", unfollowed := true, recurses := true, apart := false, narrowed := true }
def FaultsTextsUptoSaid : Prop := faultsTextsUptoRow.holds Try.pinned (OpenSpec.upto faultsTextsSpec)

end Rows
end Go.Proofs.Ytceddikbmbadlaa
