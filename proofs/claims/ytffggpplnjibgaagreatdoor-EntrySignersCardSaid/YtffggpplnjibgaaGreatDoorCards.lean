/-
  DERIVED. GIVEN WITH THE SEED: THE CARDS: each row of YtffggpplnjibgaaGreatDoorRows.lean that lists a variable, with what it lists TIED to the program's text (the seventh form; the later family's looks); each row that meets fmt, with fmt's text TOLD by the authors' own Lean function (tested against real Go, not proved from fmt's source: count such statements apart). THE CARD IS WHAT COUNTS. Prove the row's statement (the work); the ties are given (YtffggpplnjibgaaGreatDoorTie.lean); close each card by the builder's one call (the guide's Derived/Test/ToyasCard.lean, 'card_holds'). Laid BY PROGRAM, IN A SANDBOX (cutbox-door.mjs). By AI agents, Wed Nov 11 2026. No macro, syntax, notation, axiom, sorry.
-/
import Derived.Test.YtffggpplnjibgaaGreatDoorRows
import GoSem.ClaimSeven
namespace Go.Proofs.YtffggpplnjibgaaGreatDoor
namespace Rows

/-- THE TIED CARD OF 'cachetlaw16.KeysRise'. -/
def keysRiseCard : Claim7 := { stood := { row := keysRiseRow, standIns := [], harness := (true, "1f2267904d80b00a8ba2e76a0712f33062180866748d8deb47feafccb97f310e"), looks := true }, kinds := [], alts := [], laidByText := true, laidKinds := [.data, .pinned], laidTests := true, laidLooks := .later }
def KeysRiseCardSaid : Prop := Claim7.holds Tryz.pinned (.plain (OpenSpec.ofChange keysRiseSpec)) keysRiseCard

/-- THE TIED CARD OF 'cachetlaw16.KeysMeet'. -/
def keysMeetCard : Claim7 := { stood := { row := keysMeetRow, standIns := [], harness := (true, "1f2267904d80b00a8ba2e76a0712f33062180866748d8deb47feafccb97f310e"), looks := true }, kinds := [], alts := [], laidByText := true, laidKinds := [.data, .pinned], laidTests := true, laidLooks := .later }
def KeysMeetCardSaid : Prop := Claim7.holds Tryz.pinned (.plain (OpenSpec.ofChange keysMeetSpec)) keysMeetCard

/-- THE TIED CARD OF 'cachetlaw16.KeysOf'. -/
def keysOfCard : Claim7 := { stood := { row := keysOfRow, standIns := [], harness := (true, "1f2267904d80b00a8ba2e76a0712f33062180866748d8deb47feafccb97f310e"), looks := true }, kinds := [], alts := [], laidByText := true, laidKinds := [.data, .data, .data, .data, .pinned], laidTests := true, laidLooks := .later }
def KeysOfCardSaid : Prop := Claim7.holds Tryz.pinned (.plain (OpenSpec.ofChange keysOfSpec)) keysOfCard

/-- THE TIED CARD OF 'cachetlaw15.EntryParses'. -/
def entryParsesCard : Claim7 := { stood := { row := entryParsesRow, standIns := [], harness := (true, "1f2267904d80b00a8ba2e76a0712f33062180866748d8deb47feafccb97f310e"), looks := true }, kinds := [], alts := [], laidByText := true, laidKinds := [.data, .data, .data, .data, .pinned], laidTests := true, laidLooks := .later }
def EntryParsesCardSaid : Prop := Claim7.holds Tryz.pinned (.plain (OpenSpec.ofChange entryParsesSpec)) entryParsesCard

/-- THE TIED CARD OF 'cachetlaw15.EntryOf'. -/
def entryOfCard : Claim7 := { stood := { row := entryOfRow, standIns := [], harness := (true, "1f2267904d80b00a8ba2e76a0712f33062180866748d8deb47feafccb97f310e"), looks := true }, kinds := [], alts := [], laidByText := true, laidKinds := [.data, .data, .data, .data, .pinned], laidTests := true, laidLooks := .later }
def EntryOfCardSaid : Prop := Claim7.holds Tryz.pinned (.plain (OpenSpec.ofChange entryOfSpec)) entryOfCard

/-- THE TIED CARD OF 'cachetlaw15.EntryBack'. -/
def entryBackCard : Claim7 := { stood := { row := entryBackRow, standIns := [], harness := (true, "1f2267904d80b00a8ba2e76a0712f33062180866748d8deb47feafccb97f310e"), looks := true }, kinds := [], alts := [], laidByText := true, laidKinds := [.data, .data, .data, .data, .pinned], laidTests := true, laidLooks := .later }
def EntryBackCardSaid : Prop := Claim7.holds Tryz.pinned (.plain (OpenSpec.ofChange entryBackSpec)) entryBackCard

/-- THE TIED CARD OF 'cachetlaw15.EntryTexts'. -/
def entryTextsCard : Claim7 := { stood := { row := entryTextsRow, standIns := [], harness := (true, "1f2267904d80b00a8ba2e76a0712f33062180866748d8deb47feafccb97f310e"), looks := true }, kinds := [], alts := [], laidByText := true, laidKinds := [.data, .data, .data, .data, .pinned], laidTests := true, laidLooks := .later }
def EntryTextsCardSaid : Prop := Claim7.holds Tryz.pinned (.plain (OpenSpec.ofChange entryTextsSpec)) entryTextsCard

/-- THE TIED CARD OF 'cachetlaw15.EntrySubjects'. -/
def entrySubjectsCard : Claim7 := { stood := { row := entrySubjectsRow, standIns := [], harness := (true, "1f2267904d80b00a8ba2e76a0712f33062180866748d8deb47feafccb97f310e"), looks := true }, kinds := [], alts := [], laidByText := true, laidKinds := [.data, .data, .data, .data, .pinned], laidTests := true, laidLooks := .later }
def EntrySubjectsCardSaid : Prop := Claim7.holds Tryz.pinned (.plain (OpenSpec.ofChange entrySubjectsSpec)) entrySubjectsCard

/-- THE TIED CARD OF 'cachetlaw15.EntryApart'. -/
def entryApartCard : Claim7 := { stood := { row := entryApartRow, standIns := [], harness := (true, "1f2267904d80b00a8ba2e76a0712f33062180866748d8deb47feafccb97f310e"), looks := true }, kinds := [], alts := [], laidByText := true, laidKinds := [.data, .data, .data, .data, .pinned], laidTests := true, laidLooks := .later }
def EntryApartCardSaid : Prop := Claim7.holds Tryz.pinned (.plain (OpenSpec.ofChange entryApartSpec)) entryApartCard

/-- THE TIED CARD OF 'cachetlaw15.EntrySigners'. -/
def entrySignersCard : Claim7 := { stood := { row := entrySignersRow, standIns := [], harness := (true, "1f2267904d80b00a8ba2e76a0712f33062180866748d8deb47feafccb97f310e"), looks := true }, kinds := [], alts := [], laidByText := true, laidKinds := [.data, .data, .data, .data, .pinned], laidTests := true, laidLooks := .later }
def EntrySignersCardSaid : Prop := Claim7.holds Tryz.pinned (.plain (OpenSpec.ofChange entrySignersSpec)) entrySignersCard

/-- THE TIED CARD OF 'cachetlaw15.EntrySigned'. -/
def entrySignedCard : Claim7 := { stood := { row := entrySignedRow, standIns := [], harness := (true, "1f2267904d80b00a8ba2e76a0712f33062180866748d8deb47feafccb97f310e"), looks := true }, kinds := [], alts := [], laidByText := true, laidKinds := [.data, .data, .data, .data, .pinned], laidTests := true, laidLooks := .later }
def EntrySignedCardSaid : Prop := Claim7.holds Tryz.pinned (.plain (OpenSpec.ofChange entrySignedSpec)) entrySignedCard

/-- THE SECOND FORM's CARD OF 'cachetlaw16.KeysRise'. -/
def keysRiseUptoCard : Claim7 := { stood := { row := keysRiseUptoRow, standIns := [], harness := (true, "1f2267904d80b00a8ba2e76a0712f33062180866748d8deb47feafccb97f310e"), looks := true }, kinds := [], alts := [], laidByText := true, laidKinds := [.data, .pinned], laidTests := true, laidLooks := .later }
def KeysRiseUptoCardSaid : Prop := Claim7.holds Tryz.pinned (.plain (OpenSpec.upto keysRiseSpec)) keysRiseUptoCard

/-- THE SECOND FORM's CARD OF 'cachetlaw16.KeysMeet'. -/
def keysMeetUptoCard : Claim7 := { stood := { row := keysMeetUptoRow, standIns := [], harness := (true, "1f2267904d80b00a8ba2e76a0712f33062180866748d8deb47feafccb97f310e"), looks := true }, kinds := [], alts := [], laidByText := true, laidKinds := [.data, .pinned], laidTests := true, laidLooks := .later }
def KeysMeetUptoCardSaid : Prop := Claim7.holds Tryz.pinned (.plain (OpenSpec.upto keysMeetSpec)) keysMeetUptoCard

/-- THE SECOND FORM's CARD OF 'cachetlaw16.KeysOf'. -/
def keysOfUptoCard : Claim7 := { stood := { row := keysOfUptoRow, standIns := [], harness := (true, "1f2267904d80b00a8ba2e76a0712f33062180866748d8deb47feafccb97f310e"), looks := true }, kinds := [], alts := [], laidByText := true, laidKinds := [.data, .data, .data, .data, .pinned], laidTests := true, laidLooks := .later }
def KeysOfUptoCardSaid : Prop := Claim7.holds Tryz.pinned (.plain (OpenSpec.upto keysOfSpec)) keysOfUptoCard

/-- THE SECOND FORM's CARD OF 'cachetlaw15.EntryParses'. -/
def entryParsesUptoCard : Claim7 := { stood := { row := entryParsesUptoRow, standIns := [], harness := (true, "1f2267904d80b00a8ba2e76a0712f33062180866748d8deb47feafccb97f310e"), looks := true }, kinds := [], alts := [], laidByText := true, laidKinds := [.data, .data, .data, .data, .pinned], laidTests := true, laidLooks := .later }
def EntryParsesUptoCardSaid : Prop := Claim7.holds Tryz.pinned (.plain (OpenSpec.upto entryParsesSpec)) entryParsesUptoCard

/-- THE SECOND FORM's CARD OF 'cachetlaw15.EntryOf'. -/
def entryOfUptoCard : Claim7 := { stood := { row := entryOfUptoRow, standIns := [], harness := (true, "1f2267904d80b00a8ba2e76a0712f33062180866748d8deb47feafccb97f310e"), looks := true }, kinds := [], alts := [], laidByText := true, laidKinds := [.data, .data, .data, .data, .pinned], laidTests := true, laidLooks := .later }
def EntryOfUptoCardSaid : Prop := Claim7.holds Tryz.pinned (.plain (OpenSpec.upto entryOfSpec)) entryOfUptoCard

/-- THE SECOND FORM's CARD OF 'cachetlaw15.EntryBack'. -/
def entryBackUptoCard : Claim7 := { stood := { row := entryBackUptoRow, standIns := [], harness := (true, "1f2267904d80b00a8ba2e76a0712f33062180866748d8deb47feafccb97f310e"), looks := true }, kinds := [], alts := [], laidByText := true, laidKinds := [.data, .data, .data, .data, .pinned], laidTests := true, laidLooks := .later }
def EntryBackUptoCardSaid : Prop := Claim7.holds Tryz.pinned (.plain (OpenSpec.upto entryBackSpec)) entryBackUptoCard

/-- THE SECOND FORM's CARD OF 'cachetlaw15.EntryTexts'. -/
def entryTextsUptoCard : Claim7 := { stood := { row := entryTextsUptoRow, standIns := [], harness := (true, "1f2267904d80b00a8ba2e76a0712f33062180866748d8deb47feafccb97f310e"), looks := true }, kinds := [], alts := [], laidByText := true, laidKinds := [.data, .data, .data, .data, .pinned], laidTests := true, laidLooks := .later }
def EntryTextsUptoCardSaid : Prop := Claim7.holds Tryz.pinned (.plain (OpenSpec.upto entryTextsSpec)) entryTextsUptoCard

/-- THE SECOND FORM's CARD OF 'cachetlaw15.EntrySubjects'. -/
def entrySubjectsUptoCard : Claim7 := { stood := { row := entrySubjectsUptoRow, standIns := [], harness := (true, "1f2267904d80b00a8ba2e76a0712f33062180866748d8deb47feafccb97f310e"), looks := true }, kinds := [], alts := [], laidByText := true, laidKinds := [.data, .data, .data, .data, .pinned], laidTests := true, laidLooks := .later }
def EntrySubjectsUptoCardSaid : Prop := Claim7.holds Tryz.pinned (.plain (OpenSpec.upto entrySubjectsSpec)) entrySubjectsUptoCard

/-- THE SECOND FORM's CARD OF 'cachetlaw15.EntryApart'. -/
def entryApartUptoCard : Claim7 := { stood := { row := entryApartUptoRow, standIns := [], harness := (true, "1f2267904d80b00a8ba2e76a0712f33062180866748d8deb47feafccb97f310e"), looks := true }, kinds := [], alts := [], laidByText := true, laidKinds := [.data, .data, .data, .data, .pinned], laidTests := true, laidLooks := .later }
def EntryApartUptoCardSaid : Prop := Claim7.holds Tryz.pinned (.plain (OpenSpec.upto entryApartSpec)) entryApartUptoCard

/-- THE SECOND FORM's CARD OF 'cachetlaw15.EntrySigners'. -/
def entrySignersUptoCard : Claim7 := { stood := { row := entrySignersUptoRow, standIns := [], harness := (true, "1f2267904d80b00a8ba2e76a0712f33062180866748d8deb47feafccb97f310e"), looks := true }, kinds := [], alts := [], laidByText := true, laidKinds := [.data, .data, .data, .data, .pinned], laidTests := true, laidLooks := .later }
def EntrySignersUptoCardSaid : Prop := Claim7.holds Tryz.pinned (.plain (OpenSpec.upto entrySignersSpec)) entrySignersUptoCard

/-- THE SECOND FORM's CARD OF 'cachetlaw15.EntrySigned'. -/
def entrySignedUptoCard : Claim7 := { stood := { row := entrySignedUptoRow, standIns := [], harness := (true, "1f2267904d80b00a8ba2e76a0712f33062180866748d8deb47feafccb97f310e"), looks := true }, kinds := [], alts := [], laidByText := true, laidKinds := [.data, .data, .data, .data, .pinned], laidTests := true, laidLooks := .later }
def EntrySignedUptoCardSaid : Prop := Claim7.holds Tryz.pinned (.plain (OpenSpec.upto entrySignedSpec)) entrySignedUptoCard
end Rows
end Go.Proofs.YtffggpplnjibgaaGreatDoor
