/-
  DERIVED. GIVEN WITH THE SEED: THE CARDS: each row of YtceddikbmbadlaaDoorRows.lean that lists a variable, with what it lists TIED to the program's text (the seventh form; the later family's looks); each row that meets fmt, with fmt's text TOLD by the authors' own Lean function (tested against real Go, not proved from fmt's source: count such statements apart). THE CARD IS WHAT COUNTS. Prove the row's statement (the work); the ties are given (YtceddikbmbadlaaDoorTie.lean); close each card by the builder's one call (the guide's Derived/Test/ToyasCard.lean, 'card_holds'). Laid BY PROGRAM, IN A SANDBOX (cutbox-door.mjs). By AI agents, Wed Nov 11 2026. No macro, syntax, notation, axiom, sorry.
-/
import Derived.Test.YtceddikbmbadlaaDoorRows
import GoSem.ClaimSeven
namespace Go.Proofs.YtceddikbmbadlaaDoor
namespace Rows

/-- THE TIED CARD OF 'glossatorlaw19.FaultsLines'. -/
def faultsLinesCard : Claim7 := { stood := { row := faultsLinesRow, standIns := [], harness := (true, "c1f84063db75bb00eb72c67709696a58cd74f51136023ed3ee163b7cc1441f68"), looks := false }, kinds := [], alts := [], laidByText := true, laidKinds := [.data, .data, .data], laidTests := true, laidLooks := .later }
def FaultsLinesCardSaid : Prop := Claim7.holds Tryd.pinned (.plain (OpenSpec.ofChange faultsLinesSpec)) faultsLinesCard

/-- THE SECOND FORM's CARD OF 'glossatorlaw19.FaultsLines'. -/
def faultsLinesUptoCard : Claim7 := { stood := { row := faultsLinesUptoRow, standIns := [], harness := (true, "c1f84063db75bb00eb72c67709696a58cd74f51136023ed3ee163b7cc1441f68"), looks := false }, kinds := [], alts := [], laidByText := true, laidKinds := [.data, .data, .data], laidTests := true, laidLooks := .later }
def FaultsLinesUptoCardSaid : Prop := Claim7.holds Tryd.pinned (.plain (OpenSpec.upto faultsLinesSpec)) faultsLinesUptoCard
end Rows
end Go.Proofs.YtceddikbmbadlaaDoor
