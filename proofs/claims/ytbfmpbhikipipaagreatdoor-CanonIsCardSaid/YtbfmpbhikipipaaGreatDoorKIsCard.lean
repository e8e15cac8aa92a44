/-
  CanonIs is true of every text: canon.Is says of a copy of it what the reference says, and leaves the copy as it was. No condition but the tables that start-up lays (the card ties them).
-/
import Derived.Test.YtbfmpbhikipipaaGreatDoorCards
import Derived.Test.YtbfmpbhikipipaaGreatDoorTie
import Derived.Test.YtbfmpbhikipipaaGreatDoorKStart
import Derived.Test.YtbfmpbhikipipaaGreatDoorKLawIs
import Derived.Test.YtbfmpbhikipipaaGreatDoorKReadB
import Derived.Carry
import Derived.WalkKit
import Derived.ProofKit
import Derived.OpenShut
import Derived.Deep.DeepHandedRow
import Derived.Lib.LaidTab
namespace Go.Proofs.YtbfmpbhikipipaaGreatDoor.canonIs
set_option linter.unusedVariables false
set_option linter.unusedSimpArgs false
set_option linter.unusedSectionVars false
open Go.ChangeShapes Go.WideShapes Go.ChangeAt Go.RowKit Go.Proofs.YtbfmpbhikipipaaGreatDoor
open Go.ChangeMaps (open_string shut_string)

theorem laidOut : laidOutB Tryz.prog = true := by kernel_rfl
theorem bytes1 : Tryz.prog.bytesOf 5 = 1 := by kernel_rfl
theorem own : ownKnob Tryz.prog.godebug = none := by kernel_rfl

set_option maxRecDepth 100000 in
theorem start {W : World} (h : laidMetH Tryz.prog Rows.canonIsRow.laid W) (hs : 6 ≤ W.heap.size) : @Gl ⟨W.heap.size⟩ W := by
  letI : OldK := ⟨W.heap.size⟩
  have h' : laidMet Tryz.prog Rows.canonIsRow.laid W := h
  refine Gl.of ⟨hs, utf8_of_reads (Lib.laidMet.reads h' (d := Lib.firstData) ?_) (Lib.laidMet.reads h' (d := Lib.acceptData) ?_), pow10_of_reads (Lib.laidMet.reads h' (d := Lib.tabData .u64 Lib.pow10Tab) ?_)⟩ (Nat.le_refl _)
  · rw [show Lib.firstData = Rows.laid_unicode_utf8_first by kernel_rfl]
    simp [Rows.canonIsRow]
  · rw [show Lib.acceptData = Rows.laid_unicode_utf8_acceptRanges by kernel_rfl]
    simp [Rows.canonIsRow]
  · rw [show Lib.tabData .u64 Lib.pow10Tab = Rows.laid_internal_strconv_uint64pow10 by kernel_rfl]
    simp [Rows.canonIsRow]
theorem named5 : Tryz.prog.globalNamed "math/bits.deBruijn64tab" = some 5 := by kernel_rfl
/-- the last listed variable's block is there: so are the others -/
theorem big {W : World} (h : laidMetH Tryz.prog Rows.canonIsRow.laid W) : 6 ≤ W.heap.size := by
  have h' : laidMet Tryz.prog Rows.canonIsRow.laid W := h
  obtain ⟨g, t, cs, fuel, p, hg, hty, hvar, hd⟩ := Lib.laidMet.reads h' (n := "math/bits.deBruijn64tab") (d := Rows.laid_math_bits_deBruijn64tab) (by simp [Rows.canonIsRow])
  obtain rfl := Option.some.inj (named5.symm.trans hg)
  unfold World.var? at hvar
  rw [named5] at hvar
  simp only [Option.bind_some] at hvar
  rcases Nat.lt_or_ge 5 W.heap.size with hlt | hge
  · exact hlt
  · rw [Array.getElem?_eq_none hge] at hvar
    simp at hvar

set_option maxRecDepth 100000 in
theorem contract (H : Type) (enc : TypeId × Value → H) (W : World) (base : Nat) (args : Array Value) (ds gs : List (DataW H)) (before : List MemPlace)
    (hval : ∀ (j : Nat) t v, Tryz.f4.params[j]? = some t → args[j]? = some v → Value.okWide Tryz.prog W .any base t v)
    (hW : DataW.Whole enc Tryz.prog Tryz.f4.params.toList Rows.canonIsSpec.vars false W args.toList ds gs before) (hL : laidMetH Tryz.prog Rows.canonIsRow.laid W)
    (hsz : (DataW.weightsEach Tryz.prog (Tryz.f4.params.toList ++ Rows.canonIsSpec.plain.varTypes Tryz.prog) (ds ++ gs)).all (· ≤ reachBytes) = true) :
    Calls Tryz.prog 4 args W fun e W' => ∃ v, e = .returned v ∧ Rows.canonIsSpec.post enc Tryz.prog Tryz.f4 false true false false W args v W' := by
  have hW' := hW
  obtain ⟨p, q, hA0, hV, rfl, hfz, hnd⟩ := hW
  have hA : DataW.TrodAll enc Tryz.prog W 0 (fun _ => true) true Tryz.f4.params.toList args.toList ds p := hA0
  rw [Tryz.params4] at hA hval
  obtain ⟨v0, vs0, d0, ds0, p0, q0, hargs, rfl, rfl, h0, r0⟩ := trodAll_cons hA
  obtain ⟨rfl, rfl, rfl⟩ := trodAll_nil r0
  obtain rfl : args = #[v0] := by cases args; simp_all
  obtain ⟨rfl, rfl⟩ := trodVars_none hV
  letI : OldK := ⟨W.heap.size⟩
  obtain ⟨l, hsb, hz, hl⟩ := read_bytes (Nat.le_refl _) (hval 0 28 v0 rfl rfl) h0
  obtain ⟨fuel, hf⟩ := id h0
  clear hA0
  simp only [List.append_nil] at hW'
  have hlen : l.length ≤ 140737488351232 := by
    rcases hl with rfl | ⟨es, sp, rfl, he⟩
    · simp
    · have hs := sized_slice hsz (j := 0) (t := 28) rfl rfl Tryz.underlying28
      rw [bytes1] at hs
      unfold reachBytes at hs
      omega
  have walk := lawis_c (fun _ => True) l v0 W hsb hz (start hL (big hL)) (by omega)
  refine walk.mono fun e W' ⟨he, hF⟩ => ?_
  subst he
  have hb : Below W.heap.size W W' := hF.below (Nat.le_refl _) (fun _ _ _ h => h.elim)
  have hlt : ∀ x ∈ p0, x.block < W.heap.size := fun x hx => DataW.trod_lt _ _ _ _ hf x hx
  have h0' := Below.trod laidOut (by kernel_rfl) (of_decide_eq_true (by kernel_rfl)) h0 hb hlt
  have h1 := trodAll_cons_mk h0' trodAll_mk0
  simp only [List.append_nil] at h1
  exact ⟨_, rfl, ⟨_, _, _, [], p0, [], hW', trodAll_cons_mk (shut_bool Tryz.underlying4 _) trodAll_mk0, h1, rfl, fr_kept hF _, fun h => by cases h⟩⟩

set_option maxRecDepth 100000 in
theorem laid_met (os : Os) : laidMet Tryz.prog Rows.canonIsRow.laid ((laidWorld os).forCall (fun _ _ => 0) ⟨#[], #[.slice none 0 0], []⟩).memory :=
  laidMet_of_run' 8 (by kernel_rfl) (by kernel_rfl)
set_option maxRecDepth 100000 in
theorem reads (os : Os) {H : Type} (enc : TypeId × Value → H) : ∃ places, DataW.whole enc Tryz.prog ((laidWorld os).forCall (fun _ _ => 0) ⟨#[], #[.slice none 0 0], []⟩).memory Tryz.f4.params.toList Rows.canonIsSpec.vars false #[Value.slice none 0 0].toList 8 = some ([.nil], [], places) :=
  ⟨[], by kernel_rfl⟩

set_option maxRecDepth 100000 in
theorem lifted (os : Os) (started : os.Started) (H : Type) (enc : TypeId × Value → H) (F : Stop.Interp) :
    ReturnsInHanded {} Tryz.checked os 4 .any ((OpenSpec.ofChange Rows.canonIsSpec).preRow enc Tryz.prog Tryz.f4 Rows.canonIsRow.domain false Rows.canonIsRow.laid) (((OpenSpec.ofChange Rows.canonIsSpec).at F).post enc Tryz.prog Tryz.f4 false true false false) := by
  obtain ⟨places, hx⟩ := reads os enc
  refine returnsInHanded_of_row (C := Tryz.checked) (s := OpenSpec.ofChange Rows.canonIsSpec) own started (by kernel_rfl) Tryz.func4
    (witness_row_at (enc := enc) (C := Tryz.checked) false (laidWorld os) #[.slice none 0 0] rfl (by kernel_rfl) (by kernel_rfl) (by kernel_rfl)
      (OpenSpec.preRow_of_cond 8 hx (by kernel_rfl) (fun k hk => by cases hk) (by kernel_rfl) (laid_met os))) ?_
  intro W base args ds gs before hval hW _ _ hsz hL _ _
  exact contract H enc W base args ds gs before hval hW hL hsz

set_option maxRecDepth 100000 in
theorem said : Rows.CanonIsSaid :=
  OpenClaim.holds_of_cond 4 Tryz.f4 rfl rfl rfl rfl rfl rfl rfl ⟨rfl, rfl, rfl, rfl, rfl⟩ rfl rfl rfl rfl rfl (by kernel_rfl) Tryz.func4 (by kernel_rfl)
    (of_decide_eq_true (by kernel_rfl)) (by unfold Func.isWrapper; first | (rw [if_pos (by decide +kernel)]; kernel_rfl) | (rw [if_neg (by decide +kernel)]; exact ⟨rfl, rfl⟩))
    (fun os started H enc _ F => by rw [OpenClaim.pre_eq_preRow]; exact lifted os started H enc F)

theorem plain (f : FuncId) (fn : Func) (hf : Tryz.pinned.checked.prog.funcNamed "cachet/cachetlaw13.CanonIs" = some f) (hfn : Tryz.pinned.checked.prog.funcs[f]? = some fn) :
    true = Tryz.pinned.checked.prog.looks [] ∧ ∀ (j : Nat) t, fn.params[j]? = some t → Tryz.pinned.checked.prog.wantsStandIn t = false := by
  obtain rfl : f = 4 := Option.some.inj ((show Tryz.prog.funcNamed "cachet/cachetlaw13.CanonIs" = some 4 by kernel_rfl).symm.trans hf) |>.symm
  obtain rfl : fn = Tryz.f4 := (Option.some.inj (Tryz.func4.symm.trans hfn)).symm
  refine ⟨by kernel_rfl, fun j t ht => ?_⟩
  rw [Tryz.params4] at ht
  obtain rfl : t = 28 := by simpa using Array.mem_of_getElem? ht
  exact (show Tryz.prog.wantsStandIn 28 = false by kernel_rfl)
end Go.Proofs.YtbfmpbhikipipaaGreatDoor.canonIs
namespace Go.Proofs.YtbfmpbhikipipaaGreatDoor

set_option maxRecDepth 100000 in
theorem is_holds : Rows.CanonIsCardSaid :=
  Claim7.holds_tied_plain_at .later [] _ _ _ _ canonIs.said (fun _ h => by cases h) (by kernel_rfl) (fun _ h => by cases h) canonIs_row_tie rfl ⟨rfl, rfl⟩ (by kernel_rfl) rfl canonIs.plain (by kernel_rfl)
end Go.Proofs.YtbfmpbhikipipaaGreatDoor
