/-
  DERIVED. GIVEN WITH THE SEED: THE CARDS: each row of YtbfmpbhikipipaaGreatDoorRows.lean that lists a variable, with what it lists TIED to the program's text (the seventh form; the later family's looks); each row that meets fmt, with fmt's text TOLD by the authors' own Lean function (tested against real Go, not proved from fmt's source: count such statements apart). THE CARD IS WHAT COUNTS. Prove the row's statement (the work); the ties are given (YtbfmpbhikipipaaGreatDoorTie.lean); close each card by the builder's one call (the guide's Derived/Test/ToyasCard.lean, 'card_holds'). Laid BY PROGRAM, IN A SANDBOX (cutbox-door.mjs). By AI agents, Wed Nov 11 2026. No macro, syntax, notation, axiom, sorry.
-/
import Derived.Test.YtbfmpbhikipipaaGreatDoorRows
import GoSem.ClaimSeven
namespace Go.Proofs.YtbfmpbhikipipaaGreatDoor
namespace Rows

/-- THE TIED CARD OF 'cachetlaw13.CanonPuts'. -/
def canonPutsCard : Claim7 := { stood := { row := canonPutsRow, standIns := [], harness := (true, "96f112ddaa53a9669b1407e49c7fec3288a2b0206668b477cac8b6482f941e9e"), looks := true }, kinds := [], alts := [], laidByText := true, laidKinds := [.data, .data, .data, .data, .pinned], laidTests := true, laidLooks := .later }
def CanonPutsCardSaid : Prop := Claim7.holds Tryz.pinned (.plain (OpenSpec.ofChange canonPutsSpec)) canonPutsCard

/-- THE TIED CARD OF 'cachetlaw13.CanonIs'. -/
def canonIsCard : Claim7 := { stood := { row := canonIsRow, standIns := [], harness := (true, "96f112ddaa53a9669b1407e49c7fec3288a2b0206668b477cac8b6482f941e9e"), looks := true }, kinds := [], alts := [], laidByText := true, laidKinds := [.data, .data, .data, .data, .pinned], laidTests := true, laidLooks := .later }
def CanonIsCardSaid : Prop := Claim7.holds Tryz.pinned (.plain (OpenSpec.ofChange canonIsSpec)) canonIsCard

/-- THE TIED CARD OF 'cachetlaw13.CanonBack'. -/
def canonBackCard : Claim7 := { stood := { row := canonBackRow, standIns := [], harness := (true, "96f112ddaa53a9669b1407e49c7fec3288a2b0206668b477cac8b6482f941e9e"), looks := true }, kinds := [], alts := [], laidByText := true, laidKinds := [.data, .data, .data, .data, .pinned], laidTests := true, laidLooks := .later }
def CanonBackCardSaid : Prop := Claim7.holds Tryz.pinned (.plain (OpenSpec.ofChange canonBackSpec)) canonBackCard

/-- THE TIED CARD OF 'cachetlaw13.CanonOne'. -/
def canonOneCard : Claim7 := { stood := { row := canonOneRow, standIns := [], harness := (true, "96f112ddaa53a9669b1407e49c7fec3288a2b0206668b477cac8b6482f941e9e"), looks := true }, kinds := [], alts := [], laidByText := true, laidKinds := [.data, .data, .data, .data, .pinned], laidTests := true, laidLooks := .later }
def CanonOneCardSaid : Prop := Claim7.holds Tryz.pinned (.plain (OpenSpec.ofChange canonOneSpec)) canonOneCard

/-- THE SECOND FORM's CARD OF 'cachetlaw13.CanonPuts'. -/
def canonPutsUptoCard : Claim7 := { stood := { row := canonPutsUptoRow, standIns := [], harness := (true, "96f112ddaa53a9669b1407e49c7fec3288a2b0206668b477cac8b6482f941e9e"), looks := true }, kinds := [], alts := [], laidByText := true, laidKinds := [.data, .data, .data, .data, .pinned], laidTests := true, laidLooks := .later }
def CanonPutsUptoCardSaid : Prop := Claim7.holds Tryz.pinned (.plain (OpenSpec.upto canonPutsSpec)) canonPutsUptoCard

/-- THE SECOND FORM's CARD OF 'cachetlaw13.CanonIs'. -/
def canonIsUptoCard : Claim7 := { stood := { row := canonIsUptoRow, standIns := [], harness := (true, "96f112ddaa53a9669b1407e49c7fec3288a2b0206668b477cac8b6482f941e9e"), looks := true }, kinds := [], alts := [], laidByText := true, laidKinds := [.data, .data, .data, .data, .pinned], laidTests := true, laidLooks := .later }
def CanonIsUptoCardSaid : Prop := Claim7.holds Tryz.pinned (.plain (OpenSpec.upto canonIsSpec)) canonIsUptoCard

/-- THE SECOND FORM's CARD OF 'cachetlaw13.CanonBack'. -/
def canonBackUptoCard : Claim7 := { stood := { row := canonBackUptoRow, standIns := [], harness := (true, "96f112ddaa53a9669b1407e49c7fec3288a2b0206668b477cac8b6482f941e9e"), looks := true }, kinds := [], alts := [], laidByText := true, laidKinds := [.data, .data, .data, .data, .pinned], laidTests := true, laidLooks := .later }
def CanonBackUptoCardSaid : Prop := Claim7.holds Tryz.pinned (.plain (OpenSpec.upto canonBackSpec)) canonBackUptoCard

/-- THE SECOND FORM's CARD OF 'cachetlaw13.CanonOne'. -/
def canonOneUptoCard : Claim7 := { stood := { row := canonOneUptoRow, standIns := [], harness := (true, "96f112ddaa53a9669b1407e49c7fec3288a2b0206668b477cac8b6482f941e9e"), looks := true }, kinds := [], alts := [], laidByText := true, laidKinds := [.data, .data, .data, .data, .pinned], laidTests := true, laidLooks := .later }
def CanonOneUptoCardSaid : Prop := Claim7.holds Tryz.pinned (.plain (OpenSpec.upto canonOneSpec)) canonOneUptoCard
end Rows
end Go.Proofs.YtbfmpbhikipipaaGreatDoor
