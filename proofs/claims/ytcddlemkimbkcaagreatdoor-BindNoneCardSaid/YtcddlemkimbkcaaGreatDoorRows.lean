/-
  NARROWER THAN 'FOR EVERY INPUT', by the rows' own cells (each row's printed sentence says how): KeysAre: laid · BindOnce: laid · BindPast: laid · BindPlays: laid · BindCopies: laid · BindNone: laid · IndexFalls: laid · IndexWhole: laid · IndexAdds: laid · IndexPages: laid · KeysRise: laid · KeysMeet: laid.
  DERIVED. THE GIVEN ROWS OF THIS SEAT. 12 by the template 'for every input the law returns true; each argument reads behind the call as it read before'; 0 by the template 'total and deterministic' (their statements: YtcddlemkimbkcaaGreatDoorTotals.lean).
  GIVEN WITH THE SEED: the statements are not yours to turn. If you find one false, say at which input.
  Laid BY PROGRAM, IN A SANDBOX (cutbox-rows.mjs): the forced cells as the released guide's own fill.sh prints them over the translation 139f80c44cd173cb… (all of the seat's roots in one cut). By AI agents, Wed Nov 11 2026. No macro, syntax, notation, axiom, sorry.
-/
import Derived.Test.YtcddlemkimbkcaaGreatDoorChecked
import GoSem.PinnedTables
import GoSem.Claim
import GoSem.ClaimJoined
import GoSem.ClaimMapViews
import Derived.JoinedTies
import Derived.KernelRfl
namespace Go.Proofs.YtcddlemkimbkcaaGreatDoor
/- THE CELL 'sum', in the pinned program and in every row, IS THE sha256 OF THE DUMP (.gsa) THAT YtcddlemkimbkcaaGreatDoorProg.lean LOADS. Nothing in Lean hashes anything: it is a label: what it is worth is what the hold of that sum in a sandbox is worth. -/
noncomputable def Tryz.pinned : Pinned := { name := "ytcddlemkimbkcaagreatdoor", sum := "139f80c44cd173cbc33a687aa15056db417251298714562c6af6a2efc7088140", checked := Tryz.checked }
namespace Rows
def none {H : Type} : Left H := { results := [], args := [] }

/- WHAT THE LISTED PACKAGE-LEVEL VARIABLES READ AS WHEN THE CALL BEGINS. Each datum BY PROGRAM (the guide's laid-datum.mjs) off the statement by which the dump's own 'gosem.cut.vars' lays the variable. In a bare row this is a premise. The card (YtcddlemkimbkcaaGreatDoorCards.lean) ties it to the program's text. -/
def laid_unicode_utf8_acceptRanges {H : Type} : DataW H := .agg [.agg [.lit (.int .u8 128), .lit (.int .u8 191)], .agg [.lit (.int .u8 160), .lit (.int .u8 191)], .agg [.lit (.int .u8 128), .lit (.int .u8 159)], .agg [.lit (.int .u8 144), .lit (.int .u8 191)], .agg [.lit (.int .u8 128), .lit (.int .u8 143)], .agg [.lit (.int .u8 0), .lit (.int .u8 0)], .agg [.lit (.int .u8 0), .lit (.int .u8 0)], .agg [.lit (.int .u8 0), .lit (.int .u8 0)], .agg [.lit (.int .u8 0), .lit (.int .u8 0)], .agg [.lit (.int .u8 0), .lit (.int .u8 0)], .agg [.lit (.int .u8 0), .lit (.int .u8 0)], .agg [.lit (.int .u8 0), .lit (.int .u8 0)], .agg [.lit (.int .u8 0), .lit (.int .u8 0)], .agg [.lit (.int .u8 0), .lit (.int .u8 0)], .agg [.lit (.int .u8 0), .lit (.int .u8 0)], .agg [.lit (.int .u8 0), .lit (.int .u8 0)]]
/-- One of Go's own tables, pinned by name: the form's constant. -/
def laid_unicode_utf8_first : DataW Unit := Go.Pinned.utf8First

/-- 'cachetlaw16.KeysAre': WHATEVER THE INPUT: true; the input reads as it did. -/
def keysAreSpec : ChangeSpec := { name := "keysAre", fn := fun _ => fun
  | [d1, d2, d3] => { results := [.lit (.bool true)], args := [d1, d2, d3] }
  | _ => none }
def keysAreRow : OpenClaim := { program := "ytcddlemkimbkcaagreatdoor", sum := "139f80c44cd173cbc33a687aa15056db417251298714562c6af6a2efc7088140", func := "cachet/cachetlaw16.KeysAre", spec := "keysAre", inPlace := ["internal/bytealg.IndexByteString", "internal/bytealg.IndexString", "internal/abi.NoEscape"], unfollowed := true, recurses := true, named := ["unicode/utf8.first", "unicode/utf8.acceptRanges", "internal/bytealg.MaxLen"], plainKeys := false, apart := false, laid := [("unicode/utf8.acceptRanges", laid_unicode_utf8_acceptRanges), ("unicode/utf8.first", laid_unicode_utf8_first)] }
def KeysAreSaid : Prop := keysAreRow.holds Tryz.pinned (OpenSpec.ofChange keysAreSpec)

/-- ITS FALSE NEIGHBOUR: 'it returns false'. Refute it at one input. -/
def keysAreWrong : ChangeSpec := { name := "keysAre", fn := fun _ => fun
  | [d1, d2, d3] => { results := [.lit (.bool false)], args := [d1, d2, d3] }
  | _ => none }
def KeysAreWrongFalsely : Prop := keysAreRow.holds Tryz.pinned (OpenSpec.ofChange keysAreWrong)

/-- 'cachetlaw17.BindOnce': WHATEVER THE INPUT: true; the input reads as it did. -/
def bindOnceSpec : ChangeSpec := { name := "bindOnce", fn := fun _ => fun
  | [d] => { results := [.lit (.bool true)], args := [d] }
  | _ => none }
def bindOnceRow : OpenClaim := { program := "ytcddlemkimbkcaagreatdoor", sum := "139f80c44cd173cbc33a687aa15056db417251298714562c6af6a2efc7088140", func := "cachet/cachetlaw17.BindOnce", spec := "bindOnce", inPlace := ["internal/bytealg.IndexByteString", "internal/bytealg.IndexString", "internal/abi.NoEscape"], unfollowed := true, recurses := true, named := ["unicode/utf8.first", "unicode/utf8.acceptRanges", "internal/bytealg.MaxLen"], plainKeys := false, apart := false, laid := [("unicode/utf8.acceptRanges", laid_unicode_utf8_acceptRanges), ("unicode/utf8.first", laid_unicode_utf8_first)] }
def BindOnceSaid : Prop := bindOnceRow.holds Tryz.pinned (OpenSpec.ofChange bindOnceSpec)

/-- ITS FALSE NEIGHBOUR: 'it returns false'. Refute it at one input. -/
def bindOnceWrong : ChangeSpec := { name := "bindOnce", fn := fun _ => fun
  | [d] => { results := [.lit (.bool false)], args := [d] }
  | _ => none }
def BindOnceWrongFalsely : Prop := bindOnceRow.holds Tryz.pinned (OpenSpec.ofChange bindOnceWrong)

/-- 'cachetlaw17.BindPast': WHATEVER THE INPUT: true; the input reads as it did. -/
def bindPastSpec : ChangeSpec := { name := "bindPast", fn := fun _ => fun
  | [d1, d2] => { results := [.lit (.bool true)], args := [d1, d2] }
  | _ => none }
def bindPastRow : OpenClaim := { program := "ytcddlemkimbkcaagreatdoor", sum := "139f80c44cd173cbc33a687aa15056db417251298714562c6af6a2efc7088140", func := "cachet/cachetlaw17.BindPast", spec := "bindPast", inPlace := ["internal/bytealg.IndexByteString", "internal/bytealg.IndexString", "internal/abi.NoEscape"], unfollowed := true, recurses := true, named := ["unicode/utf8.first", "unicode/utf8.acceptRanges", "internal/bytealg.MaxLen"], plainKeys := false, apart := false, laid := [("unicode/utf8.acceptRanges", laid_unicode_utf8_acceptRanges), ("unicode/utf8.first", laid_unicode_utf8_first)] }
def BindPastSaid : Prop := bindPastRow.holds Tryz.pinned (OpenSpec.ofChange bindPastSpec)

/-- ITS FALSE NEIGHBOUR: 'it returns false'. Refute it at one input. -/
def bindPastWrong : ChangeSpec := { name := "bindPast", fn := fun _ => fun
  | [d1, d2] => { results := [.lit (.bool false)], args := [d1, d2] }
  | _ => none }
def BindPastWrongFalsely : Prop := bindPastRow.holds Tryz.pinned (OpenSpec.ofChange bindPastWrong)

/-- 'cachetlaw17.BindPlays': WHATEVER THE INPUT: true; the input reads as it did. -/
def bindPlaysSpec : ChangeSpec := { name := "bindPlays", fn := fun _ => fun
  | [d1, d2] => { results := [.lit (.bool true)], args := [d1, d2] }
  | _ => none }
def bindPlaysRow : OpenClaim := { program := "ytcddlemkimbkcaagreatdoor", sum := "139f80c44cd173cbc33a687aa15056db417251298714562c6af6a2efc7088140", func := "cachet/cachetlaw17.BindPlays", spec := "bindPlays", inPlace := ["internal/bytealg.IndexByteString", "internal/bytealg.IndexString", "internal/abi.NoEscape"], unfollowed := true, recurses := true, named := ["unicode/utf8.first", "unicode/utf8.acceptRanges", "internal/bytealg.MaxLen"], plainKeys := false, apart := false, laid := [("unicode/utf8.acceptRanges", laid_unicode_utf8_acceptRanges), ("unicode/utf8.first", laid_unicode_utf8_first)] }
def BindPlaysSaid : Prop := bindPlaysRow.holds Tryz.pinned (OpenSpec.ofChange bindPlaysSpec)

/-- ITS FALSE NEIGHBOUR: 'it returns false'. Refute it at one input. -/
def bindPlaysWrong : ChangeSpec := { name := "bindPlays", fn := fun _ => fun
  | [d1, d2] => { results := [.lit (.bool false)], args := [d1, d2] }
  | _ => none }
def BindPlaysWrongFalsely : Prop := bindPlaysRow.holds Tryz.pinned (OpenSpec.ofChange bindPlaysWrong)

/-- 'cachetlaw17.BindCopies': WHATEVER THE INPUT: true; the input reads as it did. -/
def bindCopiesSpec : ChangeSpec := { name := "bindCopies", fn := fun _ => fun
  | [d1, d2] => { results := [.lit (.bool true)], args := [d1, d2] }
  | _ => none }
def bindCopiesRow : OpenClaim := { program := "ytcddlemkimbkcaagreatdoor", sum := "139f80c44cd173cbc33a687aa15056db417251298714562c6af6a2efc7088140", func := "cachet/cachetlaw17.BindCopies", spec := "bindCopies", inPlace := ["internal/bytealg.IndexByteString", "internal/bytealg.IndexString", "internal/abi.NoEscape", "maps.clone"], unfollowed := true, recurses := true, named := ["unicode/utf8.first", "unicode/utf8.acceptRanges", "internal/bytealg.MaxLen"], plainKeys := false, apart := false, laid := [("unicode/utf8.acceptRanges", laid_unicode_utf8_acceptRanges), ("unicode/utf8.first", laid_unicode_utf8_first)] }
def BindCopiesSaid : Prop := bindCopiesRow.holds Tryz.pinned (OpenSpec.ofChange bindCopiesSpec)

/-- ITS FALSE NEIGHBOUR: 'it returns false'. Refute it at one input. -/
def bindCopiesWrong : ChangeSpec := { name := "bindCopies", fn := fun _ => fun
  | [d1, d2] => { results := [.lit (.bool false)], args := [d1, d2] }
  | _ => none }
def BindCopiesWrongFalsely : Prop := bindCopiesRow.holds Tryz.pinned (OpenSpec.ofChange bindCopiesWrong)

/-- 'cachetlaw17.BindNone': WHATEVER THE INPUT: true; the input reads as it did. -/
def bindNoneSpec : ChangeSpec := { name := "bindNone", fn := fun _ => fun
  | [d1, d2, d3] => { results := [.lit (.bool true)], args := [d1, d2, d3] }
  | _ => none }
def bindNoneRow : OpenClaim := { program := "ytcddlemkimbkcaagreatdoor", sum := "139f80c44cd173cbc33a687aa15056db417251298714562c6af6a2efc7088140", func := "cachet/cachetlaw17.BindNone", spec := "bindNone", inPlace := ["internal/bytealg.IndexByteString", "internal/bytealg.IndexString", "internal/abi.NoEscape", "maps.clone"], unfollowed := true, recurses := true, named := ["unicode/utf8.first", "unicode/utf8.acceptRanges", "internal/bytealg.MaxLen"], plainKeys := false, apart := false, laid := [("unicode/utf8.acceptRanges", laid_unicode_utf8_acceptRanges), ("unicode/utf8.first", laid_unicode_utf8_first)] }
def BindNoneSaid : Prop := bindNoneRow.holds Tryz.pinned (OpenSpec.ofChange bindNoneSpec)

/-- ITS FALSE NEIGHBOUR: 'it returns false'. Refute it at one input. -/
def bindNoneWrong : ChangeSpec := { name := "bindNone", fn := fun _ => fun
  | [d1, d2, d3] => { results := [.lit (.bool false)], args := [d1, d2, d3] }
  | _ => none }
def BindNoneWrongFalsely : Prop := bindNoneRow.holds Tryz.pinned (OpenSpec.ofChange bindNoneWrong)

/-- 'cachetlaw20.IndexFalls': WHATEVER THE INPUT: true; the input reads as it did. -/
def indexFallsSpec : ChangeSpec := { name := "indexFalls", fn := fun _ => fun
  | [d] => { results := [.lit (.bool true)], args := [d] }
  | _ => none }
def indexFallsRow : OpenClaim := { program := "ytcddlemkimbkcaagreatdoor", sum := "139f80c44cd173cbc33a687aa15056db417251298714562c6af6a2efc7088140", func := "cachet/cachetlaw20.IndexFalls", spec := "indexFalls", inPlace := ["internal/bytealg.IndexByteString", "internal/bytealg.IndexString", "internal/abi.NoEscape", "internal/bytealg.abigen_runtime_cmpstring"], unfollowed := true, recurses := true, named := ["unicode/utf8.first", "unicode/utf8.acceptRanges", "internal/bytealg.MaxLen"], plainKeys := false, apart := false, laid := [("unicode/utf8.acceptRanges", laid_unicode_utf8_acceptRanges), ("unicode/utf8.first", laid_unicode_utf8_first)] }
def IndexFallsSaid : Prop := indexFallsRow.holds Tryz.pinned (OpenSpec.ofChange indexFallsSpec)

/-- ITS FALSE NEIGHBOUR: 'it returns false'. Refute it at one input. -/
def indexFallsWrong : ChangeSpec := { name := "indexFalls", fn := fun _ => fun
  | [d] => { results := [.lit (.bool false)], args := [d] }
  | _ => none }
def IndexFallsWrongFalsely : Prop := indexFallsRow.holds Tryz.pinned (OpenSpec.ofChange indexFallsWrong)

/-- 'cachetlaw20.IndexWhole': WHATEVER THE INPUT: true; the input reads as it did. -/
def indexWholeSpec : ChangeSpec := { name := "indexWhole", fn := fun _ => fun
  | [d1, d2, d3] => { results := [.lit (.bool true)], args := [d1, d2, d3] }
  | _ => none }
def indexWholeRow : OpenClaim := { program := "ytcddlemkimbkcaagreatdoor", sum := "139f80c44cd173cbc33a687aa15056db417251298714562c6af6a2efc7088140", func := "cachet/cachetlaw20.IndexWhole", spec := "indexWhole", inPlace := ["internal/bytealg.IndexByteString", "internal/bytealg.IndexString", "internal/abi.NoEscape", "internal/bytealg.abigen_runtime_cmpstring"], unfollowed := true, recurses := true, named := ["unicode/utf8.first", "unicode/utf8.acceptRanges", "internal/bytealg.MaxLen"], plainKeys := false, apart := false, laid := [("unicode/utf8.acceptRanges", laid_unicode_utf8_acceptRanges), ("unicode/utf8.first", laid_unicode_utf8_first)] }
def IndexWholeSaid : Prop := indexWholeRow.holds Tryz.pinned (OpenSpec.ofChange indexWholeSpec)

/-- ITS FALSE NEIGHBOUR: 'it returns false'. Refute it at one input. -/
def indexWholeWrong : ChangeSpec := { name := "indexWhole", fn := fun _ => fun
  | [d1, d2, d3] => { results := [.lit (.bool false)], args := [d1, d2, d3] }
  | _ => none }
def IndexWholeWrongFalsely : Prop := indexWholeRow.holds Tryz.pinned (OpenSpec.ofChange indexWholeWrong)

/-- 'cachetlaw20.IndexAdds': WHATEVER THE INPUT: true; the input reads as it did. -/
def indexAddsSpec : ChangeSpec := { name := "indexAdds", fn := fun _ => fun
  | [d] => { results := [.lit (.bool true)], args := [d] }
  | _ => none }
def indexAddsRow : OpenClaim := { program := "ytcddlemkimbkcaagreatdoor", sum := "139f80c44cd173cbc33a687aa15056db417251298714562c6af6a2efc7088140", func := "cachet/cachetlaw20.IndexAdds", spec := "indexAdds", inPlace := ["internal/bytealg.IndexByteString", "internal/bytealg.IndexString", "internal/abi.NoEscape", "internal/bytealg.abigen_runtime_cmpstring"], unfollowed := true, recurses := true, named := ["unicode/utf8.first", "unicode/utf8.acceptRanges", "internal/bytealg.MaxLen"], plainKeys := false, apart := false, laid := [("unicode/utf8.acceptRanges", laid_unicode_utf8_acceptRanges), ("unicode/utf8.first", laid_unicode_utf8_first)] }
def IndexAddsSaid : Prop := indexAddsRow.holds Tryz.pinned (OpenSpec.ofChange indexAddsSpec)

/-- ITS FALSE NEIGHBOUR: 'it returns false'. Refute it at one input. -/
def indexAddsWrong : ChangeSpec := { name := "indexAdds", fn := fun _ => fun
  | [d] => { results := [.lit (.bool false)], args := [d] }
  | _ => none }
def IndexAddsWrongFalsely : Prop := indexAddsRow.holds Tryz.pinned (OpenSpec.ofChange indexAddsWrong)

/-- 'cachetlaw20.IndexPages': WHATEVER THE INPUT: true; the input reads as it did. -/
def indexPagesSpec : ChangeSpec := { name := "indexPages", fn := fun _ => fun
  | [d] => { results := [.lit (.bool true)], args := [d] }
  | _ => none }
def indexPagesRow : OpenClaim := { program := "ytcddlemkimbkcaagreatdoor", sum := "139f80c44cd173cbc33a687aa15056db417251298714562c6af6a2efc7088140", func := "cachet/cachetlaw20.IndexPages", spec := "indexPages", inPlace := ["internal/bytealg.IndexByteString", "internal/bytealg.IndexString", "internal/abi.NoEscape", "internal/bytealg.abigen_runtime_cmpstring"], unfollowed := true, recurses := true, named := ["unicode/utf8.first", "unicode/utf8.acceptRanges", "internal/bytealg.MaxLen"], plainKeys := false, apart := false, laid := [("unicode/utf8.acceptRanges", laid_unicode_utf8_acceptRanges), ("unicode/utf8.first", laid_unicode_utf8_first)] }
def IndexPagesSaid : Prop := indexPagesRow.holds Tryz.pinned (OpenSpec.ofChange indexPagesSpec)

/-- ITS FALSE NEIGHBOUR: 'it returns false'. Refute it at one input. -/
def indexPagesWrong : ChangeSpec := { name := "indexPages", fn := fun _ => fun
  | [d] => { results := [.lit (.bool false)], args := [d] }
  | _ => none }
def IndexPagesWrongFalsely : Prop := indexPagesRow.holds Tryz.pinned (OpenSpec.ofChange indexPagesWrong)

/-- 'cachetlaw16.KeysRise': WHATEVER THE INPUT: true; the input reads as it did. -/
def keysRiseSpec : ChangeSpec := { name := "keysRise", fn := fun _ => fun
  | [d1, d2] => { results := [.lit (.bool true)], args := [d1, d2] }
  | _ => none }
def keysRiseRow : OpenClaim := { program := "ytcddlemkimbkcaagreatdoor", sum := "139f80c44cd173cbc33a687aa15056db417251298714562c6af6a2efc7088140", func := "cachet/cachetlaw16.KeysRise", spec := "keysRise", inPlace := ["internal/bytealg.IndexByteString", "internal/bytealg.IndexString", "internal/abi.NoEscape"], unfollowed := true, recurses := true, named := ["unicode/utf8.first", "unicode/utf8.acceptRanges", "internal/bytealg.MaxLen"], plainKeys := false, apart := false, laid := [("unicode/utf8.acceptRanges", laid_unicode_utf8_acceptRanges), ("unicode/utf8.first", laid_unicode_utf8_first)] }
def KeysRiseSaid : Prop := keysRiseRow.holds Tryz.pinned (OpenSpec.ofChange keysRiseSpec)

/-- ITS FALSE NEIGHBOUR: 'it returns false'. Refute it at one input. -/
def keysRiseWrong : ChangeSpec := { name := "keysRise", fn := fun _ => fun
  | [d1, d2] => { results := [.lit (.bool false)], args := [d1, d2] }
  | _ => none }
def KeysRiseWrongFalsely : Prop := keysRiseRow.holds Tryz.pinned (OpenSpec.ofChange keysRiseWrong)

/-- 'cachetlaw16.KeysMeet': WHATEVER THE INPUT: true; the input reads as it did. -/
def keysMeetSpec : ChangeSpec := { name := "keysMeet", fn := fun _ => fun
  | [d1, d2] => { results := [.lit (.bool true)], args := [d1, d2] }
  | _ => none }
def keysMeetRow : OpenClaim := { program := "ytcddlemkimbkcaagreatdoor", sum := "139f80c44cd173cbc33a687aa15056db417251298714562c6af6a2efc7088140", func := "cachet/cachetlaw16.KeysMeet", spec := "keysMeet", inPlace := ["internal/bytealg.IndexByteString", "internal/bytealg.IndexString", "internal/abi.NoEscape"], unfollowed := true, recurses := true, named := ["unicode/utf8.first", "unicode/utf8.acceptRanges", "internal/bytealg.MaxLen"], plainKeys := false, apart := false, laid := [("unicode/utf8.acceptRanges", laid_unicode_utf8_acceptRanges), ("unicode/utf8.first", laid_unicode_utf8_first)] }
def KeysMeetSaid : Prop := keysMeetRow.holds Tryz.pinned (OpenSpec.ofChange keysMeetSpec)

/-- ITS FALSE NEIGHBOUR: 'it returns false'. Refute it at one input. -/
def keysMeetWrong : ChangeSpec := { name := "keysMeet", fn := fun _ => fun
  | [d1, d2] => { results := [.lit (.bool false)], args := [d1, d2] }
  | _ => none }
def KeysMeetWrongFalsely : Prop := keysMeetRow.holds Tryz.pinned (OpenSpec.ofChange keysMeetWrong)

/- THE SECOND FORM. 'bulk': how many values and letters a reading holds, each counted each time it is reached (what is shared counts as often as it is met; a slice's spare places count too). A statement '..UptoSaid' is the law's where the arguments, and the package variables that the reading takes, are together of bulk at most 1048576: NARROWER than '..Said'. Prove '..Said' where nothing that the law and all that it calls make is longer than what came in: it says more and counts as full. Else prove '..UptoSaid'. A law counts once. -/
mutual
def uptoBulk {H : Type} : DataW H → Nat
  | .lit (.string bytes) => bytes.length + 1
  | .lit _ => 1
  | .nil => 1
  | .ptr d => uptoBulk d + 1
  | .slice elems spare => uptoBulkAll elems + uptoBulkAll spare + 1
  | .agg parts => uptoBulkAll parts + 1
  | .iface _ d => uptoBulk d + 1
  | .map entries => uptoBulkEntries entries + 1
  | .held _ => 1
def uptoBulkAll {H : Type} : List (DataW H) → Nat
  | [] => 0
  | d :: r => uptoBulk d + uptoBulkAll r
def uptoBulkEntries {H : Type} : List (Lit × DataW H) → Nat
  | [] => 0
  | x :: r => uptoBulkEntry x + uptoBulkEntries r
def uptoBulkEntry {H : Type} : Lit × DataW H → Nat
  | (.string bytes, d) => bytes.length + uptoBulk d + 1
  | (_, d) => uptoBulk d + 1
 end
def uptoSmall : (H : Type) → List (DataW H) → Bool := fun _ ds => decide (uptoBulkAll ds ≤ 1048576)
def OpenSpec.upto (s : _root_.Go.ChangeSpec) : _root_.Go.OpenSpec := { _root_.Go.OpenSpec.ofChange s with cond := some uptoSmall }

/-- 'cachetlaw16.KeysAre', WHERE WHAT IT READS IS OF BULK AT MOST 1048576: true; the input reads as it did. -/
def keysAreUptoRow : OpenClaim := { program := "ytcddlemkimbkcaagreatdoor", sum := "139f80c44cd173cbc33a687aa15056db417251298714562c6af6a2efc7088140", func := "cachet/cachetlaw16.KeysAre", spec := "keysAre", inPlace := ["internal/bytealg.IndexByteString", "internal/bytealg.IndexString", "internal/abi.NoEscape"], unfollowed := true, recurses := true, named := ["unicode/utf8.first", "unicode/utf8.acceptRanges", "internal/bytealg.MaxLen"], plainKeys := false, apart := false, laid := [("unicode/utf8.acceptRanges", laid_unicode_utf8_acceptRanges), ("unicode/utf8.first", laid_unicode_utf8_first)], narrowed := true }
def KeysAreUptoSaid : Prop := keysAreUptoRow.holds Tryz.pinned (OpenSpec.upto keysAreSpec)

/-- 'cachetlaw17.BindOnce', WHERE WHAT IT READS IS OF BULK AT MOST 1048576: true; the input reads as it did. -/
def bindOnceUptoRow : OpenClaim := { program := "ytcddlemkimbkcaagreatdoor", sum := "139f80c44cd173cbc33a687aa15056db417251298714562c6af6a2efc7088140", func := "cachet/cachetlaw17.BindOnce", spec := "bindOnce", inPlace := ["internal/bytealg.IndexByteString", "internal/bytealg.IndexString", "internal/abi.NoEscape"], unfollowed := true, recurses := true, named := ["unicode/utf8.first", "unicode/utf8.acceptRanges", "internal/bytealg.MaxLen"], plainKeys := false, apart := false, laid := [("unicode/utf8.acceptRanges", laid_unicode_utf8_acceptRanges), ("unicode/utf8.first", laid_unicode_utf8_first)], narrowed := true }
def BindOnceUptoSaid : Prop := bindOnceUptoRow.holds Tryz.pinned (OpenSpec.upto bindOnceSpec)

/-- 'cachetlaw17.BindPast', WHERE WHAT IT READS IS OF BULK AT MOST 1048576: true; the input reads as it did. -/
def bindPastUptoRow : OpenClaim := { program := "ytcddlemkimbkcaagreatdoor", sum := "139f80c44cd173cbc33a687aa15056db417251298714562c6af6a2efc7088140", func := "cachet/cachetlaw17.BindPast", spec := "bindPast", inPlace := ["internal/bytealg.IndexByteString", "internal/bytealg.IndexString", "internal/abi.NoEscape"], unfollowed := true, recurses := true, named := ["unicode/utf8.first", "unicode/utf8.acceptRanges", "internal/bytealg.MaxLen"], plainKeys := false, apart := false, laid := [("unicode/utf8.acceptRanges", laid_unicode_utf8_acceptRanges), ("unicode/utf8.first", laid_unicode_utf8_first)], narrowed := true }
def BindPastUptoSaid : Prop := bindPastUptoRow.holds Tryz.pinned (OpenSpec.upto bindPastSpec)

/-- 'cachetlaw17.BindPlays', WHERE WHAT IT READS IS OF BULK AT MOST 1048576: true; the input reads as it did. -/
def bindPlaysUptoRow : OpenClaim := { program := "ytcddlemkimbkcaagreatdoor", sum := "139f80c44cd173cbc33a687aa15056db417251298714562c6af6a2efc7088140", func := "cachet/cachetlaw17.BindPlays", spec := "bindPlays", inPlace := ["internal/bytealg.IndexByteString", "internal/bytealg.IndexString", "internal/abi.NoEscape"], unfollowed := true, recurses := true, named := ["unicode/utf8.first", "unicode/utf8.acceptRanges", "internal/bytealg.MaxLen"], plainKeys := false, apart := false, laid := [("unicode/utf8.acceptRanges", laid_unicode_utf8_acceptRanges), ("unicode/utf8.first", laid_unicode_utf8_first)], narrowed := true }
def BindPlaysUptoSaid : Prop := bindPlaysUptoRow.holds Tryz.pinned (OpenSpec.upto bindPlaysSpec)

/-- 'cachetlaw17.BindCopies', WHERE WHAT IT READS IS OF BULK AT MOST 1048576: true; the input reads as it did. -/
def bindCopiesUptoRow : OpenClaim := { program := "ytcddlemkimbkcaagreatdoor", sum := "139f80c44cd173cbc33a687aa15056db417251298714562c6af6a2efc7088140", func := "cachet/cachetlaw17.BindCopies", spec := "bindCopies", inPlace := ["internal/bytealg.IndexByteString", "internal/bytealg.IndexString", "internal/abi.NoEscape", "maps.clone"], unfollowed := true, recurses := true, named := ["unicode/utf8.first", "unicode/utf8.acceptRanges", "internal/bytealg.MaxLen"], plainKeys := false, apart := false, laid := [("unicode/utf8.acceptRanges", laid_unicode_utf8_acceptRanges), ("unicode/utf8.first", laid_unicode_utf8_first)], narrowed := true }
def BindCopiesUptoSaid : Prop := bindCopiesUptoRow.holds Tryz.pinned (OpenSpec.upto bindCopiesSpec)

/-- 'cachetlaw17.BindNone', WHERE WHAT IT READS IS OF BULK AT MOST 1048576: true; the input reads as it did. -/
def bindNoneUptoRow : OpenClaim := { program := "ytcddlemkimbkcaagreatdoor", sum := "139f80c44cd173cbc33a687aa15056db417251298714562c6af6a2efc7088140", func := "cachet/cachetlaw17.BindNone", spec := "bindNone", inPlace := ["internal/bytealg.IndexByteString", "internal/bytealg.IndexString", "internal/abi.NoEscape", "maps.clone"], unfollowed := true, recurses := true, named := ["unicode/utf8.first", "unicode/utf8.acceptRanges", "internal/bytealg.MaxLen"], plainKeys := false, apart := false, laid := [("unicode/utf8.acceptRanges", laid_unicode_utf8_acceptRanges), ("unicode/utf8.first", laid_unicode_utf8_first)], narrowed := true }
def BindNoneUptoSaid : Prop := bindNoneUptoRow.holds Tryz.pinned (OpenSpec.upto bindNoneSpec)

/-- 'cachetlaw20.IndexFalls', WHERE WHAT IT READS IS OF BULK AT MOST 1048576: true; the input reads as it did. -/
def indexFallsUptoRow : OpenClaim := { program := "ytcddlemkimbkcaagreatdoor", sum := "139f80c44cd173cbc33a687aa15056db417251298714562c6af6a2efc7088140", func := "cachet/cachetlaw20.IndexFalls", spec := "indexFalls", inPlace := ["internal/bytealg.IndexByteString", "internal/bytealg.IndexString", "internal/abi.NoEscape", "internal/bytealg.abigen_runtime_cmpstring"], unfollowed := true, recurses := true, named := ["unicode/utf8.first", "unicode/utf8.acceptRanges", "internal/bytealg.MaxLen"], plainKeys := false, apart := false, laid := [("unicode/utf8.acceptRanges", laid_unicode_utf8_acceptRanges), ("unicode/utf8.first", laid_unicode_utf8_first)], narrowed := true }
def IndexFallsUptoSaid : Prop := indexFallsUptoRow.holds Tryz.pinned (OpenSpec.upto indexFallsSpec)

/-- 'cachetlaw20.IndexWhole', WHERE WHAT IT READS IS OF BULK AT MOST 1048576: true; the input reads as it did. -/
def indexWholeUptoRow : OpenClaim := { program := "ytcddlemkimbkcaagreatdoor", sum := "139f80c44cd173cbc33a687aa15056db417251298714562c6af6a2efc7088140", func := "cachet/cachetlaw20.IndexWhole", spec := "indexWhole", inPlace := ["internal/bytealg.IndexByteString", "internal/bytealg.IndexString", "internal/abi.NoEscape", "internal/bytealg.abigen_runtime_cmpstring"], unfollowed := true, recurses := true, named := ["unicode/utf8.first", "unicode/utf8.acceptRanges", "internal/bytealg.MaxLen"], plainKeys := false, apart := false, laid := [("unicode/utf8.acceptRanges", laid_unicode_utf8_acceptRanges), ("unicode/utf8.first", laid_unicode_utf8_first)], narrowed := true }
def IndexWholeUptoSaid : Prop := indexWholeUptoRow.holds Tryz.pinned (OpenSpec.upto indexWholeSpec)

/-- 'cachetlaw20.IndexAdds', WHERE WHAT IT READS IS OF BULK AT MOST 1048576: true; the input reads as it did. -/
def indexAddsUptoRow : OpenClaim := { program := "ytcddlemkimbkcaagreatdoor", sum := "139f80c44cd173cbc33a687aa15056db417251298714562c6af6a2efc7088140", func := "cachet/cachetlaw20.IndexAdds", spec := "indexAdds", inPlace := ["internal/bytealg.IndexByteString", "internal/bytealg.IndexString", "internal/abi.NoEscape", "internal/bytealg.abigen_runtime_cmpstring"], unfollowed := true, recurses := true, named := ["unicode/utf8.first", "unicode/utf8.acceptRanges", "internal/bytealg.MaxLen"], plainKeys := false, apart := false, laid := [("unicode/utf8.acceptRanges", laid_unicode_utf8_acceptRanges), ("unicode/utf8.first", laid_unicode_utf8_first)], narrowed := true }
def IndexAddsUptoSaid : Prop := indexAddsUptoRow.holds Tryz.pinned (OpenSpec.upto indexAddsSpec)

/-- 'cachetlaw20.IndexPages', WHERE WHAT IT READS IS OF BULK AT MOST 1048576: true; the input reads as it did. -/
def indexPagesUptoRow : OpenClaim := { program := "ytcddlemkimbkcaagreatdoor", sum := "139f80c44cd173cbc33a687aa15056db417251298714562c6af6a2efc7088140", func := "cachet/cachetlaw20.IndexPages", spec := "indexPages", inPlace := ["internal/bytealg.IndexByteString", "internal/bytealg.IndexString", "internal/abi.NoEscape", "internal/bytealg.abigen_runtime_cmpstring"], unfollowed := true, recurses := true, named := ["unicode/utf8.first", "unicode/utf8.acceptRanges", "internal/bytealg.MaxLen"], plainKeys := false, apart := false, laid := [("unicode/utf8.acceptRanges", laid_unicode_utf8_acceptRanges), ("unicode/utf8.first", laid_unicode_utf8_first)], narrowed := true }
def IndexPagesUptoSaid : Prop := indexPagesUptoRow.holds Tryz.pinned (OpenSpec.upto indexPagesSpec)

/-- 'cachetlaw16.KeysRise', WHERE WHAT IT READS IS OF BULK AT MOST 1048576: true; the input reads as it did. -/
def keysRiseUptoRow : OpenClaim := { program := "ytcddlemkimbkcaagreatdoor", sum := "139f80c44cd173cbc33a687aa15056db417251298714562c6af6a2efc7088140", func := "cachet/cachetlaw16.KeysRise", spec := "keysRise", inPlace := ["internal/bytealg.IndexByteString", "internal/bytealg.IndexString", "internal/abi.NoEscape"], unfollowed := true, recurses := true, named := ["unicode/utf8.first", "unicode/utf8.acceptRanges", "internal/bytealg.MaxLen"], plainKeys := false, apart := false, laid := [("unicode/utf8.acceptRanges", laid_unicode_utf8_acceptRanges), ("unicode/utf8.first", laid_unicode_utf8_first)], narrowed := true }
def KeysRiseUptoSaid : Prop := keysRiseUptoRow.holds Tryz.pinned (OpenSpec.upto keysRiseSpec)

/-- 'cachetlaw16.KeysMeet', WHERE WHAT IT READS IS OF BULK AT MOST 1048576: true; the input reads as it did. -/
def keysMeetUptoRow : OpenClaim := { program := "ytcddlemkimbkcaagreatdoor", sum := "139f80c44cd173cbc33a687aa15056db417251298714562c6af6a2efc7088140", func := "cachet/cachetlaw16.KeysMeet", spec := "keysMeet", inPlace := ["internal/bytealg.IndexByteString", "internal/bytealg.IndexString", "internal/abi.NoEscape"], unfollowed := true, recurses := true, named := ["unicode/utf8.first", "unicode/utf8.acceptRanges", "internal/bytealg.MaxLen"], plainKeys := false, apart := false, laid := [("unicode/utf8.acceptRanges", laid_unicode_utf8_acceptRanges), ("unicode/utf8.first", laid_unicode_utf8_first)], narrowed := true }
def KeysMeetUptoSaid : Prop := keysMeetUptoRow.holds Tryz.pinned (OpenSpec.upto keysMeetSpec)

end Rows
end Go.Proofs.YtcddlemkimbkcaaGreatDoor
