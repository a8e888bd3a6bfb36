/-
  DERIVED. GIVEN WITH THE SEED: THE CARDS: each row of YtcfeijdcanpflaaDoorRows.lean that lists a variable, with what it lists TIED to the program's text (the seventh form; the later family's looks); each row that meets fmt, with fmt's text TOLD by the authors' own Lean function (tested against real Go, not proved from fmt's source: count such statements apart). THE CARD IS WHAT COUNTS. Prove the row's statement (the work); the ties are given (YtcfeijdcanpflaaDoorTie.lean); close each card by the builder's one call (the guide's Derived/Test/ToyasCard.lean, 'card_holds'). Laid BY PROGRAM, IN A SANDBOX (cutbox-door.mjs). By AI agents, Wed Nov 11 2026. No macro, syntax, notation, axiom, sorry.
-/
import Derived.Test.YtcfeijdcanpflaaDoorRows
import GoSem.ClaimSeven
namespace Go.Proofs.YtcfeijdcanpflaaDoor
namespace Rows

/-- THE TIED CARD OF 'glossatorlaw15.TreeSpans'. -/
def treeSpansCard : Claim7 := { stood := { row := treeSpansRow, standIns := [], harness := (true, "8c74bee0804d7d411a26fae7c4d3db1e0af69541271d339f75cd6fabdc71ad5f"), looks := false }, kinds := [], alts := [], laidByText := true, laidKinds := [.data, .data, .data], laidTests := true, laidLooks := .later }
def TreeSpansCardSaid : Prop := Claim7.holds Tryd.pinned (.plain (OpenSpec.ofChange treeSpansSpec)) treeSpansCard

/-- THE TIED CARD OF 'glossatorlaw15.TreeAround'. -/
def treeAroundCard : Claim7 := { stood := { row := treeAroundRow, standIns := [], harness := (true, "8c74bee0804d7d411a26fae7c4d3db1e0af69541271d339f75cd6fabdc71ad5f"), looks := false }, kinds := [], alts := [], laidByText := true, laidKinds := [.data, .data, .data], laidTests := true, laidLooks := .later }
def TreeAroundCardSaid : Prop := Claim7.holds Tryd.pinned (.plain (OpenSpec.ofChange treeAroundSpec)) treeAroundCard

/-- THE TIED CARD OF 'glossatorlaw15.TreeMay'. -/
def treeMayCard : Claim7 := { stood := { row := treeMayRow, standIns := [], harness := (true, "8c74bee0804d7d411a26fae7c4d3db1e0af69541271d339f75cd6fabdc71ad5f"), looks := false }, kinds := [], alts := [], laidByText := true, laidKinds := [.data, .data, .data], laidTests := true, laidLooks := .later }
def TreeMayCardSaid : Prop := Claim7.holds Tryd.pinned (.plain (OpenSpec.ofChange treeMaySpec)) treeMayCard

/-- THE SECOND FORM's CARD OF 'glossatorlaw15.TreeSpans'. -/
def treeSpansUptoCard : Claim7 := { stood := { row := treeSpansUptoRow, standIns := [], harness := (true, "8c74bee0804d7d411a26fae7c4d3db1e0af69541271d339f75cd6fabdc71ad5f"), looks := false }, kinds := [], alts := [], laidByText := true, laidKinds := [.data, .data, .data], laidTests := true, laidLooks := .later }
def TreeSpansUptoCardSaid : Prop := Claim7.holds Tryd.pinned (.plain (OpenSpec.upto treeSpansSpec)) treeSpansUptoCard

/-- THE SECOND FORM's CARD OF 'glossatorlaw15.TreeAround'. -/
def treeAroundUptoCard : Claim7 := { stood := { row := treeAroundUptoRow, standIns := [], harness := (true, "8c74bee0804d7d411a26fae7c4d3db1e0af69541271d339f75cd6fabdc71ad5f"), looks := false }, kinds := [], alts := [], laidByText := true, laidKinds := [.data, .data, .data], laidTests := true, laidLooks := .later }
def TreeAroundUptoCardSaid : Prop := Claim7.holds Tryd.pinned (.plain (OpenSpec.upto treeAroundSpec)) treeAroundUptoCard

/-- THE SECOND FORM's CARD OF 'glossatorlaw15.TreeMay'. -/
def treeMayUptoCard : Claim7 := { stood := { row := treeMayUptoRow, standIns := [], harness := (true, "8c74bee0804d7d411a26fae7c4d3db1e0af69541271d339f75cd6fabdc71ad5f"), looks := false }, kinds := [], alts := [], laidByText := true, laidKinds := [.data, .data, .data], laidTests := true, laidLooks := .later }
def TreeMayUptoCardSaid : Prop := Claim7.holds Tryd.pinned (.plain (OpenSpec.upto treeMaySpec)) treeMayUptoCard
end Rows
end Go.Proofs.YtcfeijdcanpflaaDoor
