/-
  DERIVED. GIVEN WITH THE SEED: THE CARDS: each row of YtcddlemkimbkcaaGreatDoorRows.lean that lists a variable, with what it lists TIED to the program's text (the seventh form; the later family's looks); each row that meets fmt, with fmt's text TOLD by the authors' own Lean function (tested against real Go, not proved from fmt's source: count such statements apart). THE CARD IS WHAT COUNTS. Prove the row's statement (the work); the ties are given (YtcddlemkimbkcaaGreatDoorTie.lean); close each card by the builder's one call (the guide's Derived/Test/ToyasCard.lean, 'card_holds'). Laid BY PROGRAM, IN A SANDBOX (cutbox-door.mjs). By AI agents, Wed Nov 11 2026. No macro, syntax, notation, axiom, sorry.
-/
import Derived.Test.YtcddlemkimbkcaaGreatDoorRows
import GoSem.ClaimSeven
namespace Go.Proofs.YtcddlemkimbkcaaGreatDoor
namespace Rows

/-- THE TIED CARD OF 'cachetlaw16.KeysAre'. -/
def keysAreCard : Claim7 := { stood := { row := keysAreRow, standIns := [], harness := (true, "eb036f92328cd45df9b5c8d8315096c1e899b274afc7a94fc2c5d7fb3a7fedca"), looks := true }, kinds := [], alts := [], laidByText := true, laidKinds := [.data, .pinned], laidTests := true, laidLooks := .later }
def KeysAreCardSaid : Prop := Claim7.holds Tryz.pinned (.plain (OpenSpec.ofChange keysAreSpec)) keysAreCard

/-- THE TIED CARD OF 'cachetlaw17.BindOnce'. -/
def bindOnceCard : Claim7 := { stood := { row := bindOnceRow, standIns := [], harness := (true, "eb036f92328cd45df9b5c8d8315096c1e899b274afc7a94fc2c5d7fb3a7fedca"), looks := true }, kinds := [], alts := [], laidByText := true, laidKinds := [.data, .pinned], laidTests := true, laidLooks := .later }
def BindOnceCardSaid : Prop := Claim7.holds Tryz.pinned (.plain (OpenSpec.ofChange bindOnceSpec)) bindOnceCard

/-- THE TIED CARD OF 'cachetlaw17.BindPast'. -/
def bindPastCard : Claim7 := { stood := { row := bindPastRow, standIns := [], harness := (true, "eb036f92328cd45df9b5c8d8315096c1e899b274afc7a94fc2c5d7fb3a7fedca"), looks := true }, kinds := [], alts := [], laidByText := true, laidKinds := [.data, .pinned], laidTests := true, laidLooks := .later }
def BindPastCardSaid : Prop := Claim7.holds Tryz.pinned (.plain (OpenSpec.ofChange bindPastSpec)) bindPastCard

/-- THE TIED CARD OF 'cachetlaw17.BindPlays'. -/
def bindPlaysCard : Claim7 := { stood := { row := bindPlaysRow, standIns := [], harness := (true, "eb036f92328cd45df9b5c8d8315096c1e899b274afc7a94fc2c5d7fb3a7fedca"), looks := true }, kinds := [], alts := [], laidByText := true, laidKinds := [.data, .pinned], laidTests := true, laidLooks := .later }
def BindPlaysCardSaid : Prop := Claim7.holds Tryz.pinned (.plain (OpenSpec.ofChange bindPlaysSpec)) bindPlaysCard

/-- THE TIED CARD OF 'cachetlaw17.BindCopies'. -/
def bindCopiesCard : Claim7 := { stood := { row := bindCopiesRow, standIns := [], harness := (true, "eb036f92328cd45df9b5c8d8315096c1e899b274afc7a94fc2c5d7fb3a7fedca"), looks := true }, kinds := [], alts := [], laidByText := true, laidKinds := [.data, .pinned], laidTests := true, laidLooks := .later }
def BindCopiesCardSaid : Prop := Claim7.holds Tryz.pinned (.plain (OpenSpec.ofChange bindCopiesSpec)) bindCopiesCard

/-- THE TIED CARD OF 'cachetlaw17.BindNone'. -/
def bindNoneCard : Claim7 := { stood := { row := bindNoneRow, standIns := [], harness := (true, "eb036f92328cd45df9b5c8d8315096c1e899b274afc7a94fc2c5d7fb3a7fedca"), looks := true }, kinds := [], alts := [], laidByText := true, laidKinds := [.data, .pinned], laidTests := true, laidLooks := .later }
def BindNoneCardSaid : Prop := Claim7.holds Tryz.pinned (.plain (OpenSpec.ofChange bindNoneSpec)) bindNoneCard

/-- THE TIED CARD OF 'cachetlaw20.IndexFalls'. -/
def indexFallsCard : Claim7 := { stood := { row := indexFallsRow, standIns := [], harness := (true, "eb036f92328cd45df9b5c8d8315096c1e899b274afc7a94fc2c5d7fb3a7fedca"), looks := true }, kinds := [], alts := [], laidByText := true, laidKinds := [.data, .pinned], laidTests := true, laidLooks := .later }
def IndexFallsCardSaid : Prop := Claim7.holds Tryz.pinned (.plain (OpenSpec.ofChange indexFallsSpec)) indexFallsCard

/-- THE TIED CARD OF 'cachetlaw20.IndexWhole'. -/
def indexWholeCard : Claim7 := { stood := { row := indexWholeRow, standIns := [], harness := (true, "eb036f92328cd45df9b5c8d8315096c1e899b274afc7a94fc2c5d7fb3a7fedca"), looks := true }, kinds := [], alts := [], laidByText := true, laidKinds := [.data, .pinned], laidTests := true, laidLooks := .later }
def IndexWholeCardSaid : Prop := Claim7.holds Tryz.pinned (.plain (OpenSpec.ofChange indexWholeSpec)) indexWholeCard

/-- THE TIED CARD OF 'cachetlaw20.IndexAdds'. -/
def indexAddsCard : Claim7 := { stood := { row := indexAddsRow, standIns := [], harness := (true, "eb036f92328cd45df9b5c8d8315096c1e899b274afc7a94fc2c5d7fb3a7fedca"), looks := true }, kinds := [], alts := [], laidByText := true, laidKinds := [.data, .pinned], laidTests := true, laidLooks := .later }
def IndexAddsCardSaid : Prop := Claim7.holds Tryz.pinned (.plain (OpenSpec.ofChange indexAddsSpec)) indexAddsCard

/-- THE TIED CARD OF 'cachetlaw20.IndexPages'. -/
def indexPagesCard : Claim7 := { stood := { row := indexPagesRow, standIns := [], harness := (true, "eb036f92328cd45df9b5c8d8315096c1e899b274afc7a94fc2c5d7fb3a7fedca"), looks := true }, kinds := [], alts := [], laidByText := true, laidKinds := [.data, .pinned], laidTests := true, laidLooks := .later }
def IndexPagesCardSaid : Prop := Claim7.holds Tryz.pinned (.plain (OpenSpec.ofChange indexPagesSpec)) indexPagesCard

/-- THE TIED CARD OF 'cachetlaw16.KeysRise'. -/
def keysRiseCard : Claim7 := { stood := { row := keysRiseRow, standIns := [], harness := (true, "eb036f92328cd45df9b5c8d8315096c1e899b274afc7a94fc2c5d7fb3a7fedca"), looks := true }, kinds := [], alts := [], laidByText := true, laidKinds := [.data, .pinned], laidTests := true, laidLooks := .later }
def KeysRiseCardSaid : Prop := Claim7.holds Tryz.pinned (.plain (OpenSpec.ofChange keysRiseSpec)) keysRiseCard

/-- THE TIED CARD OF 'cachetlaw16.KeysMeet'. -/
def keysMeetCard : Claim7 := { stood := { row := keysMeetRow, standIns := [], harness := (true, "eb036f92328cd45df9b5c8d8315096c1e899b274afc7a94fc2c5d7fb3a7fedca"), looks := true }, kinds := [], alts := [], laidByText := true, laidKinds := [.data, .pinned], laidTests := true, laidLooks := .later }
def KeysMeetCardSaid : Prop := Claim7.holds Tryz.pinned (.plain (OpenSpec.ofChange keysMeetSpec)) keysMeetCard

/-- THE SECOND FORM's CARD OF 'cachetlaw16.KeysAre'. -/
def keysAreUptoCard : Claim7 := { stood := { row := keysAreUptoRow, standIns := [], harness := (true, "eb036f92328cd45df9b5c8d8315096c1e899b274afc7a94fc2c5d7fb3a7fedca"), looks := true }, kinds := [], alts := [], laidByText := true, laidKinds := [.data, .pinned], laidTests := true, laidLooks := .later }
def KeysAreUptoCardSaid : Prop := Claim7.holds Tryz.pinned (.plain (OpenSpec.upto keysAreSpec)) keysAreUptoCard

/-- THE SECOND FORM's CARD OF 'cachetlaw17.BindOnce'. -/
def bindOnceUptoCard : Claim7 := { stood := { row := bindOnceUptoRow, standIns := [], harness := (true, "eb036f92328cd45df9b5c8d8315096c1e899b274afc7a94fc2c5d7fb3a7fedca"), looks := true }, kinds := [], alts := [], laidByText := true, laidKinds := [.data, .pinned], laidTests := true, laidLooks := .later }
def BindOnceUptoCardSaid : Prop := Claim7.holds Tryz.pinned (.plain (OpenSpec.upto bindOnceSpec)) bindOnceUptoCard

/-- THE SECOND FORM's CARD OF 'cachetlaw17.BindPast'. -/
def bindPastUptoCard : Claim7 := { stood := { row := bindPastUptoRow, standIns := [], harness := (true, "eb036f92328cd45df9b5c8d8315096c1e899b274afc7a94fc2c5d7fb3a7fedca"), looks := true }, kinds := [], alts := [], laidByText := true, laidKinds := [.data, .pinned], laidTests := true, laidLooks := .later }
def BindPastUptoCardSaid : Prop := Claim7.holds Tryz.pinned (.plain (OpenSpec.upto bindPastSpec)) bindPastUptoCard

/-- THE SECOND FORM's CARD OF 'cachetlaw17.BindPlays'. -/
def bindPlaysUptoCard : Claim7 := { stood := { row := bindPlaysUptoRow, standIns := [], harness := (true, "eb036f92328cd45df9b5c8d8315096c1e899b274afc7a94fc2c5d7fb3a7fedca"), looks := true }, kinds := [], alts := [], laidByText := true, laidKinds := [.data, .pinned], laidTests := true, laidLooks := .later }
def BindPlaysUptoCardSaid : Prop := Claim7.holds Tryz.pinned (.plain (OpenSpec.upto bindPlaysSpec)) bindPlaysUptoCard

/-- THE SECOND FORM's CARD OF 'cachetlaw17.BindCopies'. -/
def bindCopiesUptoCard : Claim7 := { stood := { row := bindCopiesUptoRow, standIns := [], harness := (true, "eb036f92328cd45df9b5c8d8315096c1e899b274afc7a94fc2c5d7fb3a7fedca"), looks := true }, kinds := [], alts := [], laidByText := true, laidKinds := [.data, .pinned], laidTests := true, laidLooks := .later }
def BindCopiesUptoCardSaid : Prop := Claim7.holds Tryz.pinned (.plain (OpenSpec.upto bindCopiesSpec)) bindCopiesUptoCard

/-- THE SECOND FORM's CARD OF 'cachetlaw17.BindNone'. -/
def bindNoneUptoCard : Claim7 := { stood := { row := bindNoneUptoRow, standIns := [], harness := (true, "eb036f92328cd45df9b5c8d8315096c1e899b274afc7a94fc2c5d7fb3a7fedca"), looks := true }, kinds := [], alts := [], laidByText := true, laidKinds := [.data, .pinned], laidTests := true, laidLooks := .later }
def BindNoneUptoCardSaid : Prop := Claim7.holds Tryz.pinned (.plain (OpenSpec.upto bindNoneSpec)) bindNoneUptoCard

/-- THE SECOND FORM's CARD OF 'cachetlaw20.IndexFalls'. -/
def indexFallsUptoCard : Claim7 := { stood := { row := indexFallsUptoRow, standIns := [], harness := (true, "eb036f92328cd45df9b5c8d8315096c1e899b274afc7a94fc2c5d7fb3a7fedca"), looks := true }, kinds := [], alts := [], laidByText := true, laidKinds := [.data, .pinned], laidTests := true, laidLooks := .later }
def IndexFallsUptoCardSaid : Prop := Claim7.holds Tryz.pinned (.plain (OpenSpec.upto indexFallsSpec)) indexFallsUptoCard

/-- THE SECOND FORM's CARD OF 'cachetlaw20.IndexWhole'. -/
def indexWholeUptoCard : Claim7 := { stood := { row := indexWholeUptoRow, standIns := [], harness := (true, "eb036f92328cd45df9b5c8d8315096c1e899b274afc7a94fc2c5d7fb3a7fedca"), looks := true }, kinds := [], alts := [], laidByText := true, laidKinds := [.data, .pinned], laidTests := true, laidLooks := .later }
def IndexWholeUptoCardSaid : Prop := Claim7.holds Tryz.pinned (.plain (OpenSpec.upto indexWholeSpec)) indexWholeUptoCard

/-- THE SECOND FORM's CARD OF 'cachetlaw20.IndexAdds'. -/
def indexAddsUptoCard : Claim7 := { stood := { row := indexAddsUptoRow, standIns := [], harness := (true, "eb036f92328cd45df9b5c8d8315096c1e899b274afc7a94fc2c5d7fb3a7fedca"), looks := true }, kinds := [], alts := [], laidByText := true, laidKinds := [.data, .pinned], laidTests := true, laidLooks := .later }
def IndexAddsUptoCardSaid : Prop := Claim7.holds Tryz.pinned (.plain (OpenSpec.upto indexAddsSpec)) indexAddsUptoCard

/-- THE SECOND FORM's CARD OF 'cachetlaw20.IndexPages'. -/
def indexPagesUptoCard : Claim7 := { stood := { row := indexPagesUptoRow, standIns := [], harness := (true, "eb036f92328cd45df9b5c8d8315096c1e899b274afc7a94fc2c5d7fb3a7fedca"), looks := true }, kinds := [], alts := [], laidByText := true, laidKinds := [.data, .pinned], laidTests := true, laidLooks := .later }
def IndexPagesUptoCardSaid : Prop := Claim7.holds Tryz.pinned (.plain (OpenSpec.upto indexPagesSpec)) indexPagesUptoCard

/-- THE SECOND FORM's CARD OF 'cachetlaw16.KeysRise'. -/
def keysRiseUptoCard : Claim7 := { stood := { row := keysRiseUptoRow, standIns := [], harness := (true, "eb036f92328cd45df9b5c8d8315096c1e899b274afc7a94fc2c5d7fb3a7fedca"), looks := true }, kinds := [], alts := [], laidByText := true, laidKinds := [.data, .pinned], laidTests := true, laidLooks := .later }
def KeysRiseUptoCardSaid : Prop := Claim7.holds Tryz.pinned (.plain (OpenSpec.upto keysRiseSpec)) keysRiseUptoCard

/-- THE SECOND FORM's CARD OF 'cachetlaw16.KeysMeet'. -/
def keysMeetUptoCard : Claim7 := { stood := { row := keysMeetUptoRow, standIns := [], harness := (true, "eb036f92328cd45df9b5c8d8315096c1e899b274afc7a94fc2c5d7fb3a7fedca"), looks := true }, kinds := [], alts := [], laidByText := true, laidKinds := [.data, .pinned], laidTests := true, laidLooks := .later }
def KeysMeetUptoCardSaid : Prop := Claim7.holds Tryz.pinned (.plain (OpenSpec.upto keysMeetSpec)) keysMeetUptoCard
end Rows
end Go.Proofs.YtcddlemkimbkcaaGreatDoor
