/-
  DERIVED. GIVEN WITH THE SEED: THE CARDS: each row of YtobgkpnigjfhmaaDoorRows.lean that lists a variable, with what it lists TIED to the program's text (the seventh form; the later family's looks); each row that meets fmt, with fmt's text TOLD by the authors' own Lean function (tested against real Go, not proved from fmt's source: count such statements apart). THE CARD IS WHAT COUNTS. Prove the row's statement (the work); the ties are given (YtobgkpnigjfhmaaDoorTie.lean); close each card by the builder's one call (the guide's Derived/Test/ToyasCard.lean, 'card_holds'). Laid BY PROGRAM, IN A SANDBOX (cutbox-door.mjs). By AI agents, Wed Nov 11 2026. No macro, syntax, notation, axiom, sorry.
-/
import Derived.Test.YtobgkpnigjfhmaaDoorRows
import GoSem.ClaimSeven
namespace Go.Proofs.YtobgkpnigjfhmaaDoor
namespace Rows

/-- THE TIED CARD OF 'glossatorlaw22.ClassifyTrees'. -/
def classifyTreesCard : Claim7 := { stood := { row := classifyTreesRow, standIns := [], harness := (true, "549d46ee4b252975cbc3560edc082ef1a4ed13305156980ae102dd57aa127453"), looks := false }, kinds := [], alts := [], laidByText := true, laidKinds := [.data], laidTests := true, laidLooks := .later }
def ClassifyTreesCardSaid : Prop := Claim7.holds Tryd.pinned (.plain (OpenSpec.ofChange classifyTreesSpec)) classifyTreesCard

/-- THE TIED CARD OF 'glossatorlaw22.ClassifyTexts'. -/
def classifyTextsCard : Claim7 := { stood := { row := classifyTextsRow, standIns := [], harness := (true, "549d46ee4b252975cbc3560edc082ef1a4ed13305156980ae102dd57aa127453"), looks := false }, kinds := [], alts := [], laidByText := true, laidKinds := [.data], laidTests := true, laidLooks := .later }
def ClassifyTextsCardSaid : Prop := Claim7.holds Tryd.pinned (.plain (OpenSpec.ofChange classifyTextsSpec)) classifyTextsCard

/-- THE SECOND FORM's CARD OF 'glossatorlaw22.ClassifyTrees'. -/
def classifyTreesUptoCard : Claim7 := { stood := { row := classifyTreesUptoRow, standIns := [], harness := (true, "549d46ee4b252975cbc3560edc082ef1a4ed13305156980ae102dd57aa127453"), looks := false }, kinds := [], alts := [], laidByText := true, laidKinds := [.data], laidTests := true, laidLooks := .later }
def ClassifyTreesUptoCardSaid : Prop := Claim7.holds Tryd.pinned (.plain (OpenSpec.upto classifyTreesSpec)) classifyTreesUptoCard

/-- THE SECOND FORM's CARD OF 'glossatorlaw22.ClassifyTexts'. -/
def classifyTextsUptoCard : Claim7 := { stood := { row := classifyTextsUptoRow, standIns := [], harness := (true, "549d46ee4b252975cbc3560edc082ef1a4ed13305156980ae102dd57aa127453"), looks := false }, kinds := [], alts := [], laidByText := true, laidKinds := [.data], laidTests := true, laidLooks := .later }
def ClassifyTextsUptoCardSaid : Prop := Claim7.holds Tryd.pinned (.plain (OpenSpec.upto classifyTextsSpec)) classifyTextsUptoCard
end Rows
end Go.Proofs.YtobgkpnigjfhmaaDoor
