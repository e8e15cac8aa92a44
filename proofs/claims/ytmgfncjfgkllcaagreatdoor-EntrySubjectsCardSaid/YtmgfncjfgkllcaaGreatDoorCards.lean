/-
  DERIVED. GIVEN WITH THE SEED: THE CARDS: each row of YtmgfncjfgkllcaaGreatDoorRows.lean that lists a variable, with what it lists TIED to the program's text (the seventh form; the later family's looks); each row that meets fmt, with fmt's text TOLD by the authors' own Lean function (tested against real Go, not proved from fmt's source: count such statements apart). THE CARD IS WHAT COUNTS. Prove the row's statement (the work); the ties are given (YtmgfncjfgkllcaaGreatDoorTie.lean); close each card by the builder's one call (the guide's Derived/Test/ToyasCard.lean, 'card_holds'). Laid BY PROGRAM, IN A SANDBOX (cutbox-door.mjs). By AI agents, Wed Nov 11 2026. No macro, syntax, notation, axiom, sorry.
-/
import Derived.Test.YtmgfncjfgkllcaaGreatDoorRows
import GoSem.ClaimSeven
namespace Go.Proofs.YtmgfncjfgkllcaaGreatDoor
namespace Rows

/-- THE TIED CARD OF 'cachetlaw15.EntryBack'. -/
def entryBackCard : Claim7 := { stood := { row := entryBackRow, standIns := [], harness := (true, "290fd85658cd36ac37873190a02cbd0b3858379204d2906108449b14858026aa"), looks := true }, kinds := [], alts := [], laidByText := true, laidKinds := [.data, .data, .data, .data, .pinned], laidTests := true, laidLooks := .later }
def EntryBackCardSaid : Prop := Claim7.holds Tryz.pinned (.plain (OpenSpec.ofChange entryBackSpec)) entryBackCard

/-- THE TIED CARD OF 'cachetlaw15.EntryApart'. -/
def entryApartCard : Claim7 := { stood := { row := entryApartRow, standIns := [], harness := (true, "290fd85658cd36ac37873190a02cbd0b3858379204d2906108449b14858026aa"), looks := true }, kinds := [], alts := [], laidByText := true, laidKinds := [.data, .data, .data, .data, .pinned], laidTests := true, laidLooks := .later }
def EntryApartCardSaid : Prop := Claim7.holds Tryz.pinned (.plain (OpenSpec.ofChange entryApartSpec)) entryApartCard

/-- THE TIED CARD OF 'cachetlaw15.EntryTexts'. -/
def entryTextsCard : Claim7 := { stood := { row := entryTextsRow, standIns := [], harness := (true, "290fd85658cd36ac37873190a02cbd0b3858379204d2906108449b14858026aa"), looks := true }, kinds := [], alts := [], laidByText := true, laidKinds := [.data, .data, .data, .data, .pinned], laidTests := true, laidLooks := .later }
def EntryTextsCardSaid : Prop := Claim7.holds Tryz.pinned (.plain (OpenSpec.ofChange entryTextsSpec)) entryTextsCard

/-- THE TIED CARD OF 'cachetlaw15.EntrySubjects'. -/
def entrySubjectsCard : Claim7 := { stood := { row := entrySubjectsRow, standIns := [], harness := (true, "290fd85658cd36ac37873190a02cbd0b3858379204d2906108449b14858026aa"), looks := true }, kinds := [], alts := [], laidByText := true, laidKinds := [.data, .data, .data, .data, .pinned], laidTests := true, laidLooks := .later }
def EntrySubjectsCardSaid : Prop := Claim7.holds Tryz.pinned (.plain (OpenSpec.ofChange entrySubjectsSpec)) entrySubjectsCard

/-- THE TIED CARD OF 'cachetlaw15.EntryOf'. -/
def entryOfCard : Claim7 := { stood := { row := entryOfRow, standIns := [], harness := (true, "290fd85658cd36ac37873190a02cbd0b3858379204d2906108449b14858026aa"), looks := true }, kinds := [], alts := [], laidByText := true, laidKinds := [.data, .data, .data, .data, .pinned], laidTests := true, laidLooks := .later }
def EntryOfCardSaid : Prop := Claim7.holds Tryz.pinned (.plain (OpenSpec.ofChange entryOfSpec)) entryOfCard

/-- THE TIED CARD OF 'cachetlaw15.EntryParses'. -/
def entryParsesCard : Claim7 := { stood := { row := entryParsesRow, standIns := [], harness := (true, "290fd85658cd36ac37873190a02cbd0b3858379204d2906108449b14858026aa"), looks := true }, kinds := [], alts := [], laidByText := true, laidKinds := [.data, .data, .data, .data, .pinned], laidTests := true, laidLooks := .later }
def EntryParsesCardSaid : Prop := Claim7.holds Tryz.pinned (.plain (OpenSpec.ofChange entryParsesSpec)) entryParsesCard

/-- THE TIED CARD OF 'cachetlaw15.EntrySigned'. -/
def entrySignedCard : Claim7 := { stood := { row := entrySignedRow, standIns := [], harness := (true, "290fd85658cd36ac37873190a02cbd0b3858379204d2906108449b14858026aa"), looks := true }, kinds := [], alts := [], laidByText := true, laidKinds := [.data, .data, .data, .data, .pinned], laidTests := true, laidLooks := .later }
def EntrySignedCardSaid : Prop := Claim7.holds Tryz.pinned (.plain (OpenSpec.ofChange entrySignedSpec)) entrySignedCard

/-- THE TIED CARD OF 'cachetlaw20.IndexWhole'. -/
def indexWholeCard : Claim7 := { stood := { row := indexWholeRow, standIns := [], harness := (true, "290fd85658cd36ac37873190a02cbd0b3858379204d2906108449b14858026aa"), looks := true }, kinds := [], alts := [], laidByText := true, laidKinds := [.data, .pinned], laidTests := true, laidLooks := .later }
def IndexWholeCardSaid : Prop := Claim7.holds Tryz.pinned (.plain (OpenSpec.ofChange indexWholeSpec)) indexWholeCard

/-- THE TIED CARD OF 'cachetlaw20.IndexFalls'. -/
def indexFallsCard : Claim7 := { stood := { row := indexFallsRow, standIns := [], harness := (true, "290fd85658cd36ac37873190a02cbd0b3858379204d2906108449b14858026aa"), looks := true }, kinds := [], alts := [], laidByText := true, laidKinds := [.data, .pinned], laidTests := true, laidLooks := .later }
def IndexFallsCardSaid : Prop := Claim7.holds Tryz.pinned (.plain (OpenSpec.ofChange indexFallsSpec)) indexFallsCard

/-- THE TIED CARD OF 'cachetlaw20.IndexAdds'. -/
def indexAddsCard : Claim7 := { stood := { row := indexAddsRow, standIns := [], harness := (true, "290fd85658cd36ac37873190a02cbd0b3858379204d2906108449b14858026aa"), looks := true }, kinds := [], alts := [], laidByText := true, laidKinds := [.data, .pinned], laidTests := true, laidLooks := .later }
def IndexAddsCardSaid : Prop := Claim7.holds Tryz.pinned (.plain (OpenSpec.ofChange indexAddsSpec)) indexAddsCard

/-- THE TIED CARD OF 'cachetlaw20.IndexPages'. -/
def indexPagesCard : Claim7 := { stood := { row := indexPagesRow, standIns := [], harness := (true, "290fd85658cd36ac37873190a02cbd0b3858379204d2906108449b14858026aa"), looks := true }, kinds := [], alts := [], laidByText := true, laidKinds := [.data, .pinned], laidTests := true, laidLooks := .later }
def IndexPagesCardSaid : Prop := Claim7.holds Tryz.pinned (.plain (OpenSpec.ofChange indexPagesSpec)) indexPagesCard

/-- THE TIED CARD OF 'cachetlaw20.IndexNone'. -/
def indexNoneCard : Claim7 := { stood := { row := indexNoneRow, standIns := [], harness := (true, "290fd85658cd36ac37873190a02cbd0b3858379204d2906108449b14858026aa"), looks := true }, kinds := [], alts := [], laidByText := true, laidKinds := [.data, .pinned], laidTests := true, laidLooks := .later }
def IndexNoneCardSaid : Prop := Claim7.holds Tryz.pinned (.plain (OpenSpec.ofChange indexNoneSpec)) indexNoneCard

/-- THE SECOND FORM's CARD OF 'cachetlaw15.EntryBack'. -/
def entryBackUptoCard : Claim7 := { stood := { row := entryBackUptoRow, standIns := [], harness := (true, "290fd85658cd36ac37873190a02cbd0b3858379204d2906108449b14858026aa"), looks := true }, kinds := [], alts := [], laidByText := true, laidKinds := [.data, .data, .data, .data, .pinned], laidTests := true, laidLooks := .later }
def EntryBackUptoCardSaid : Prop := Claim7.holds Tryz.pinned (.plain (OpenSpec.upto entryBackSpec)) entryBackUptoCard

/-- THE SECOND FORM's CARD OF 'cachetlaw15.EntryApart'. -/
def entryApartUptoCard : Claim7 := { stood := { row := entryApartUptoRow, standIns := [], harness := (true, "290fd85658cd36ac37873190a02cbd0b3858379204d2906108449b14858026aa"), looks := true }, kinds := [], alts := [], laidByText := true, laidKinds := [.data, .data, .data, .data, .pinned], laidTests := true, laidLooks := .later }
def EntryApartUptoCardSaid : Prop := Claim7.holds Tryz.pinned (.plain (OpenSpec.upto entryApartSpec)) entryApartUptoCard

/-- THE SECOND FORM's CARD OF 'cachetlaw15.EntryTexts'. -/
def entryTextsUptoCard : Claim7 := { stood := { row := entryTextsUptoRow, standIns := [], harness := (true, "290fd85658cd36ac37873190a02cbd0b3858379204d2906108449b14858026aa"), looks := true }, kinds := [], alts := [], laidByText := true, laidKinds := [.data, .data, .data, .data, .pinned], laidTests := true, laidLooks := .later }
def EntryTextsUptoCardSaid : Prop := Claim7.holds Tryz.pinned (.plain (OpenSpec.upto entryTextsSpec)) entryTextsUptoCard

/-- THE SECOND FORM's CARD OF 'cachetlaw15.EntrySubjects'. -/
def entrySubjectsUptoCard : Claim7 := { stood := { row := entrySubjectsUptoRow, standIns := [], harness := (true, "290fd85658cd36ac37873190a02cbd0b3858379204d2906108449b14858026aa"), looks := true }, kinds := [], alts := [], laidByText := true, laidKinds := [.data, .data, .data, .data, .pinned], laidTests := true, laidLooks := .later }
def EntrySubjectsUptoCardSaid : Prop := Claim7.holds Tryz.pinned (.plain (OpenSpec.upto entrySubjectsSpec)) entrySubjectsUptoCard

/-- THE SECOND FORM's CARD OF 'cachetlaw15.EntryOf'. -/
def entryOfUptoCard : Claim7 := { stood := { row := entryOfUptoRow, standIns := [], harness := (true, "290fd85658cd36ac37873190a02cbd0b3858379204d2906108449b14858026aa"), looks := true }, kinds := [], alts := [], laidByText := true, laidKinds := [.data, .data, .data, .data, .pinned], laidTests := true, laidLooks := .later }
def EntryOfUptoCardSaid : Prop := Claim7.holds Tryz.pinned (.plain (OpenSpec.upto entryOfSpec)) entryOfUptoCard

/-- THE SECOND FORM's CARD OF 'cachetlaw15.EntryParses'. -/
def entryParsesUptoCard : Claim7 := { stood := { row := entryParsesUptoRow, standIns := [], harness := (true, "290fd85658cd36ac37873190a02cbd0b3858379204d2906108449b14858026aa"), looks := true }, kinds := [], alts := [], laidByText := true, laidKinds := [.data, .data, .data, .data, .pinned], laidTests := true, laidLooks := .later }
def EntryParsesUptoCardSaid : Prop := Claim7.holds Tryz.pinned (.plain (OpenSpec.upto entryParsesSpec)) entryParsesUptoCard

/-- THE SECOND FORM's CARD OF 'cachetlaw15.EntrySigned'. -/
def entrySignedUptoCard : Claim7 := { stood := { row := entrySignedUptoRow, standIns := [], harness := (true, "290fd85658cd36ac37873190a02cbd0b3858379204d2906108449b14858026aa"), looks := true }, kinds := [], alts := [], laidByText := true, laidKinds := [.data, .data, .data, .data, .pinned], laidTests := true, laidLooks := .later }
def EntrySignedUptoCardSaid : Prop := Claim7.holds Tryz.pinned (.plain (OpenSpec.upto entrySignedSpec)) entrySignedUptoCard

/-- THE SECOND FORM's CARD OF 'cachetlaw20.IndexWhole'. -/
def indexWholeUptoCard : Claim7 := { stood := { row := indexWholeUptoRow, standIns := [], harness := (true, "290fd85658cd36ac37873190a02cbd0b3858379204d2906108449b14858026aa"), looks := true }, kinds := [], alts := [], laidByText := true, laidKinds := [.data, .pinned], laidTests := true, laidLooks := .later }
def IndexWholeUptoCardSaid : Prop := Claim7.holds Tryz.pinned (.plain (OpenSpec.upto indexWholeSpec)) indexWholeUptoCard

/-- THE SECOND FORM's CARD OF 'cachetlaw20.IndexFalls'. -/
def indexFallsUptoCard : Claim7 := { stood := { row := indexFallsUptoRow, standIns := [], harness := (true, "290fd85658cd36ac37873190a02cbd0b3858379204d2906108449b14858026aa"), looks := true }, kinds := [], alts := [], laidByText := true, laidKinds := [.data, .pinned], laidTests := true, laidLooks := .later }
def IndexFallsUptoCardSaid : Prop := Claim7.holds Tryz.pinned (.plain (OpenSpec.upto indexFallsSpec)) indexFallsUptoCard

/-- THE SECOND FORM's CARD OF 'cachetlaw20.IndexAdds'. -/
def indexAddsUptoCard : Claim7 := { stood := { row := indexAddsUptoRow, standIns := [], harness := (true, "290fd85658cd36ac37873190a02cbd0b3858379204d2906108449b14858026aa"), looks := true }, kinds := [], alts := [], laidByText := true, laidKinds := [.data, .pinned], laidTests := true, laidLooks := .later }
def IndexAddsUptoCardSaid : Prop := Claim7.holds Tryz.pinned (.plain (OpenSpec.upto indexAddsSpec)) indexAddsUptoCard

/-- THE SECOND FORM's CARD OF 'cachetlaw20.IndexPages'. -/
def indexPagesUptoCard : Claim7 := { stood := { row := indexPagesUptoRow, standIns := [], harness := (true, "290fd85658cd36ac37873190a02cbd0b3858379204d2906108449b14858026aa"), looks := true }, kinds := [], alts := [], laidByText := true, laidKinds := [.data, .pinned], laidTests := true, laidLooks := .later }
def IndexPagesUptoCardSaid : Prop := Claim7.holds Tryz.pinned (.plain (OpenSpec.upto indexPagesSpec)) indexPagesUptoCard

/-- THE SECOND FORM's CARD OF 'cachetlaw20.IndexNone'. -/
def indexNoneUptoCard : Claim7 := { stood := { row := indexNoneUptoRow, standIns := [], harness := (true, "290fd85658cd36ac37873190a02cbd0b3858379204d2906108449b14858026aa"), looks := true }, kinds := [], alts := [], laidByText := true, laidKinds := [.data, .pinned], laidTests := true, laidLooks := .later }
def IndexNoneUptoCardSaid : Prop := Claim7.holds Tryz.pinned (.plain (OpenSpec.upto indexNoneSpec)) indexNoneUptoCard
end Rows
end Go.Proofs.YtmgfncjfgkllcaaGreatDoor
