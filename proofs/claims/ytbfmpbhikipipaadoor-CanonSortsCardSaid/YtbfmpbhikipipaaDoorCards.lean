/-
  DERIVED. GIVEN WITH THE SEED: THE CARDS: each row of YtbfmpbhikipipaaDoorRows.lean that lists a variable, with what it lists TIED to the program's text (the seventh form; the later family's looks); each row that meets fmt, with fmt's text TOLD by the authors' own Lean function (tested against real Go, not proved from fmt's source: count such statements apart). THE CARD IS WHAT COUNTS. Prove the row's statement (the work); the ties are given (YtbfmpbhikipipaaDoorTie.lean); close each card by the builder's one call (the guide's Derived/Test/ToyasCard.lean, 'card_holds'). Laid BY PROGRAM, IN A SANDBOX (cutbox-door.mjs). By AI agents, Wed Nov 11 2026. No macro, syntax, notation, axiom, sorry.
-/
import Derived.Test.YtbfmpbhikipipaaDoorRows
import GoSem.ClaimSeven
namespace Go.Proofs.YtbfmpbhikipipaaDoor
namespace Rows

/-- THE TIED CARD OF 'cachetlaw13.CanonSorts'. -/
def canonSortsCard : Claim7 := { stood := { row := canonSortsRow, standIns := [], harness := (true, "07ec32e687b7c4875434244261a242734231490c0ae0c98ca39304aa291e2f9f"), looks := false }, kinds := [], alts := [], laidByText := true, laidKinds := [.data, .data, .data, .data, .pinned], laidTests := true, laidLooks := .later }
def CanonSortsCardSaid : Prop := Claim7.holds Tryd.pinned (.plain (OpenSpec.ofChange canonSortsSpec)) canonSortsCard

/-- THE TIED CARD OF 'cachetlaw13.CanonQuotes'. -/
def canonQuotesCard : Claim7 := { stood := { row := canonQuotesRow, standIns := [], harness := (true, "07ec32e687b7c4875434244261a242734231490c0ae0c98ca39304aa291e2f9f"), looks := false }, kinds := [], alts := [], laidByText := true, laidKinds := [.data, .data, .data, .data, .pinned], laidTests := true, laidLooks := .later }
def CanonQuotesCardSaid : Prop := Claim7.holds Tryd.pinned (.plain (OpenSpec.ofChange canonQuotesSpec)) canonQuotesCard

/-- THE SECOND FORM's CARD OF 'cachetlaw13.CanonSorts'. -/
def canonSortsUptoCard : Claim7 := { stood := { row := canonSortsUptoRow, standIns := [], harness := (true, "07ec32e687b7c4875434244261a242734231490c0ae0c98ca39304aa291e2f9f"), looks := false }, kinds := [], alts := [], laidByText := true, laidKinds := [.data, .data, .data, .data, .pinned], laidTests := true, laidLooks := .later }
def CanonSortsUptoCardSaid : Prop := Claim7.holds Tryd.pinned (.plain (OpenSpec.upto canonSortsSpec)) canonSortsUptoCard

/-- THE SECOND FORM's CARD OF 'cachetlaw13.CanonQuotes'. -/
def canonQuotesUptoCard : Claim7 := { stood := { row := canonQuotesUptoRow, standIns := [], harness := (true, "07ec32e687b7c4875434244261a242734231490c0ae0c98ca39304aa291e2f9f"), looks := false }, kinds := [], alts := [], laidByText := true, laidKinds := [.data, .data, .data, .data, .pinned], laidTests := true, laidLooks := .later }
def CanonQuotesUptoCardSaid : Prop := Claim7.holds Tryd.pinned (.plain (OpenSpec.upto canonQuotesSpec)) canonQuotesUptoCard
end Rows
end Go.Proofs.YtbfmpbhikipipaaDoor
