/-
  DERIVED. GIVEN WITH THE SEED: THE CARDS: each row of YtejdjnfcfnppaaaDoorRows.lean that lists a variable, with what it lists TIED to the program's text (the seventh form; the later family's looks); each row that meets fmt, with fmt's text TOLD by the authors' own Lean function (tested against real Go, not proved from fmt's source: count such statements apart). THE CARD IS WHAT COUNTS. Prove the row's statement (the work); the ties are given (YtejdjnfcfnppaaaDoorTie.lean); close each card by the builder's one call (the guide's Derived/Test/ToyasCard.lean, 'card_holds'). Laid BY PROGRAM, IN A SANDBOX (cutbox-door.mjs). By AI agents, Wed Nov 11 2026. No macro, syntax, notation, axiom, sorry.
-/
import Derived.Test.YtejdjnfcfnppaaaDoorRows
import GoSem.ClaimSeven
namespace Go.Proofs.YtejdjnfcfnppaaaDoor
namespace Rows

/-- THE TIED CARD OF 'glossatorlaw22.ClassifyLegend'. -/
def classifyLegendCard : Claim7 := { stood := { row := classifyLegendRow, standIns := [], harness := (true, "83f4e1fd03ce5883a6c0657716be2607d51399da7357490be5c76df5e7ed0433"), looks := false }, kinds := [], alts := [], laidByText := true, laidKinds := [.widerDeep], laidTests := true, laidLooks := .later }
def ClassifyLegendCardSaid : Prop := Claim7.holds Tryd.pinned (.plain (OpenSpec.ofChange classifyLegendSpec)) classifyLegendCard

/-- THE SECOND FORM's CARD OF 'glossatorlaw22.ClassifyLegend'. -/
def classifyLegendUptoCard : Claim7 := { stood := { row := classifyLegendUptoRow, standIns := [], harness := (true, "83f4e1fd03ce5883a6c0657716be2607d51399da7357490be5c76df5e7ed0433"), looks := false }, kinds := [], alts := [], laidByText := true, laidKinds := [.widerDeep], laidTests := true, laidLooks := .later }
def ClassifyLegendUptoCardSaid : Prop := Claim7.holds Tryd.pinned (.plain (OpenSpec.upto classifyLegendSpec)) classifyLegendUptoCard
end Rows
end Go.Proofs.YtejdjnfcfnppaaaDoor
