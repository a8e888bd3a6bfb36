/-
  DERIVED. GIVEN WITH THE SEED: THE CARDS: each row of YtaphacgdokhmmaaDoorRows.lean that lists a variable, with what it lists TIED to the program's text (the seventh form; the later family's looks); each row that meets fmt, with fmt's text TOLD by the authors' own Lean function (tested against real Go, not proved from fmt's source: count such statements apart). THE CARD IS WHAT COUNTS. Prove the row's statement (the work); the ties are given (YtaphacgdokhmmaaDoorTie.lean); close each card by the builder's one call (the guide's Derived/Test/ToyasCard.lean, 'card_holds'). Laid BY PROGRAM, IN A SANDBOX (cutbox-door.mjs). By AI agents, Wed Nov 11 2026. No macro, syntax, notation, axiom, sorry.
-/
import Derived.Test.YtaphacgdokhmmaaDoorRows
import GoSem.ClaimSeven
namespace Go.Proofs.YtaphacgdokhmmaaDoor
namespace Rows

/-- THE TIED CARD OF 'glossatorlaw25.CachePlays'. -/
def cachePlaysCard : Claim7 := { stood := { row := cachePlaysRow, standIns := [], harness := (true, "904b95fa65ec50588f9792d9e11c8d3ce0eb98874247c0162750486a9d137742"), looks := false }, kinds := [], alts := [], laidByText := true, laidKinds := [.data, .data, .data], laidTests := true, laidLooks := .later }
def CachePlaysCardSaid : Prop := Claim7.holds Tryd.pinned (.plain (OpenSpec.ofChange cachePlaysSpec)) cachePlaysCard

/-- THE TIED CARD OF 'glossatorlaw25.CacheNone'. -/
def cacheNoneCard : Claim7 := { stood := { row := cacheNoneRow, standIns := [], harness := (true, "904b95fa65ec50588f9792d9e11c8d3ce0eb98874247c0162750486a9d137742"), looks := false }, kinds := [], alts := [], laidByText := true, laidKinds := [.data, .data, .data], laidTests := true, laidLooks := .later }
def CacheNoneCardSaid : Prop := Claim7.holds Tryd.pinned (.plain (OpenSpec.ofChange cacheNoneSpec)) cacheNoneCard

/-- THE TIED CARD OF 'glossatorlaw25.CacheLast'. -/
def cacheLastCard : Claim7 := { stood := { row := cacheLastRow, standIns := [], harness := (true, "904b95fa65ec50588f9792d9e11c8d3ce0eb98874247c0162750486a9d137742"), looks := false }, kinds := [], alts := [], laidByText := true, laidKinds := [.data, .data, .data], laidTests := true, laidLooks := .later }
def CacheLastCardSaid : Prop := Claim7.holds Tryd.pinned (.plain (OpenSpec.ofChange cacheLastSpec)) cacheLastCard

/-- THE TIED CARD OF 'glossatorlaw25.CacheApart'. -/
def cacheApartCard : Claim7 := { stood := { row := cacheApartRow, standIns := [], harness := (true, "904b95fa65ec50588f9792d9e11c8d3ce0eb98874247c0162750486a9d137742"), looks := false }, kinds := [], alts := [], laidByText := true, laidKinds := [.data, .data, .data], laidTests := true, laidLooks := .later }
def CacheApartCardSaid : Prop := Claim7.holds Tryd.pinned (.plain (OpenSpec.ofChange cacheApartSpec)) cacheApartCard

/-- THE SECOND FORM's CARD OF 'glossatorlaw25.CachePlays'. -/
def cachePlaysUptoCard : Claim7 := { stood := { row := cachePlaysUptoRow, standIns := [], harness := (true, "904b95fa65ec50588f9792d9e11c8d3ce0eb98874247c0162750486a9d137742"), looks := false }, kinds := [], alts := [], laidByText := true, laidKinds := [.data, .data, .data], laidTests := true, laidLooks := .later }
def CachePlaysUptoCardSaid : Prop := Claim7.holds Tryd.pinned (.plain (OpenSpec.upto cachePlaysSpec)) cachePlaysUptoCard

/-- THE SECOND FORM's CARD OF 'glossatorlaw25.CacheNone'. -/
def cacheNoneUptoCard : Claim7 := { stood := { row := cacheNoneUptoRow, standIns := [], harness := (true, "904b95fa65ec50588f9792d9e11c8d3ce0eb98874247c0162750486a9d137742"), looks := false }, kinds := [], alts := [], laidByText := true, laidKinds := [.data, .data, .data], laidTests := true, laidLooks := .later }
def CacheNoneUptoCardSaid : Prop := Claim7.holds Tryd.pinned (.plain (OpenSpec.upto cacheNoneSpec)) cacheNoneUptoCard

/-- THE SECOND FORM's CARD OF 'glossatorlaw25.CacheLast'. -/
def cacheLastUptoCard : Claim7 := { stood := { row := cacheLastUptoRow, standIns := [], harness := (true, "904b95fa65ec50588f9792d9e11c8d3ce0eb98874247c0162750486a9d137742"), looks := false }, kinds := [], alts := [], laidByText := true, laidKinds := [.data, .data, .data], laidTests := true, laidLooks := .later }
def CacheLastUptoCardSaid : Prop := Claim7.holds Tryd.pinned (.plain (OpenSpec.upto cacheLastSpec)) cacheLastUptoCard

/-- THE SECOND FORM's CARD OF 'glossatorlaw25.CacheApart'. -/
def cacheApartUptoCard : Claim7 := { stood := { row := cacheApartUptoRow, standIns := [], harness := (true, "904b95fa65ec50588f9792d9e11c8d3ce0eb98874247c0162750486a9d137742"), looks := false }, kinds := [], alts := [], laidByText := true, laidKinds := [.data, .data, .data], laidTests := true, laidLooks := .later }
def CacheApartUptoCardSaid : Prop := Claim7.holds Tryd.pinned (.plain (OpenSpec.upto cacheApartSpec)) cacheApartUptoCard
end Rows
end Go.Proofs.YtaphacgdokhmmaaDoor
