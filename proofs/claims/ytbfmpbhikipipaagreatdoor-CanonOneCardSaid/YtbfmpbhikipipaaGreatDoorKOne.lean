/-
  CanonOne is true of any two values: they are equal exactly when Put writes the same of both. No condition but the tables that start-up lays (the card ties them).
-/
import Derived.Test.YtbfmpbhikipipaaGreatDoorCards
import Derived.Test.YtbfmpbhikipipaaGreatDoorTie
import Derived.Test.YtbfmpbhikipipaaGreatDoorKStart
import Derived.Test.YtbfmpbhikipipaaGreatDoorKLawBack
import Derived.Test.YtbfmpbhikipipaaGreatDoorKReadV
import Derived.Carry
import Derived.WalkKit
import Derived.ProofKit
import Derived.OpenShut
import Derived.Deep.DeepHandedRow
import Derived.Lib.LaidTab
namespace Go.Proofs.YtbfmpbhikipipaaGreatDoor.canonOne
set_option linter.unusedVariables false
set_option linter.unusedSimpArgs false
set_option linter.unusedSectionVars false
open Go.ChangeShapes Go.WideShapes Go.ChangeAt Go.RowKit Go.Proofs.YtbfmpbhikipipaaGreatDoor
open Go.ChangeMaps (open_string shut_string)

theorem laidOut : laidOutB Tryz.prog = true := by kernel_rfl
theorem own : ownKnob Tryz.prog.godebug = none := by kernel_rfl

set_option maxRecDepth 100000 in
theorem start {W : World} (h : laidMetH Tryz.prog Rows.canonOneRow.laid W) (hs : 6 ≤ W.heap.size) : @Gl ⟨W.heap.size⟩ W := by
  letI : OldK := ⟨W.heap.size⟩
  have h' : laidMet Tryz.prog Rows.canonOneRow.laid W := h
  refine Gl.of ⟨hs, utf8_of_reads (Lib.laidMet.reads h' (d := Lib.firstData) ?_) (Lib.laidMet.reads h' (d := Lib.acceptData) ?_), pow10_of_reads (Lib.laidMet.reads h' (d := Lib.tabData .u64 Lib.pow10Tab) ?_)⟩ (Nat.le_refl _)
  · rw [show Lib.firstData = Rows.laid_unicode_utf8_first by kernel_rfl]
    simp [Rows.canonOneRow]
  · rw [show Lib.acceptData = Rows.laid_unicode_utf8_acceptRanges by kernel_rfl]
    simp [Rows.canonOneRow]
  · rw [show Lib.tabData .u64 Lib.pow10Tab = Rows.laid_internal_strconv_uint64pow10 by kernel_rfl]
    simp [Rows.canonOneRow]
theorem named5 : Tryz.prog.globalNamed "math/bits.deBruijn64tab" = some 5 := by kernel_rfl
/-- the last listed variable's block is there: so are the others -/
theorem big {W : World} (h : laidMetH Tryz.prog Rows.canonOneRow.laid W) : 6 ≤ W.heap.size := by
  have h' : laidMet Tryz.prog Rows.canonOneRow.laid W := h
  obtain ⟨g, t, cs, fuel, p, hg, hty, hvar, hd⟩ := Lib.laidMet.reads h' (n := "math/bits.deBruijn64tab") (d := Rows.laid_math_bits_deBruijn64tab) (by simp [Rows.canonOneRow])
  obtain rfl := Option.some.inj (named5.symm.trans hg)
  unfold World.var? at hvar
  rw [named5] at hvar
  simp only [Option.bind_some] at hvar
  rcases Nat.lt_or_ge 5 W.heap.size with hlt | hge
  · exact hlt
  · rw [Array.getElem?_eq_none hge] at hvar
    simp at hvar

set_option maxRecDepth 100000 in
theorem contract (H : Type) (enc : TypeId × Value → H) (W : World) (base : Nat) (args : Array Value) (ds gs : List (DataW H)) (before : List MemPlace)
    (hval : ∀ (j : Nat) t v, Tryz.f6.params[j]? = some t → args[j]? = some v → Value.okWide Tryz.prog W .any base t v)
    (hW : DataW.Whole enc Tryz.prog Tryz.f6.params.toList Rows.canonOneSpec.vars false W args.toList ds gs before) (hL : laidMetH Tryz.prog Rows.canonOneRow.laid W) :
    Calls Tryz.prog 6 args W fun e W' => ∃ v, e = .returned v ∧ Rows.canonOneSpec.post enc Tryz.prog Tryz.f6 false true false false W args v W' := by
  have hW' := hW
  obtain ⟨p, q, hA0, hV, rfl, hfz, hnd⟩ := hW
  have hA : DataW.TrodAll enc Tryz.prog W 0 (fun _ => true) true Tryz.f6.params.toList args.toList ds p := hA0
  rw [Tryz.params6] at hA hval
  obtain ⟨v0, vs0, d0, ds0, p0, q0, hargs, rfl, rfl, h0, r0⟩ := trodAll_cons hA
  obtain ⟨v1, vs1, d1, ds1, p1, q1, rfl, rfl, rfl, h1, r1⟩ := trodAll_cons r0
  obtain ⟨rfl, rfl, rfl⟩ := trodAll_nil r1
  obtain rfl : args = #[v0, v1] := by cases args; simp_all
  obtain ⟨rfl, rfl⟩ := trodVars_none hV
  obtain ⟨cs, rfl, hsz⟩ := okWide_struct Tryz.underlying25 (hval 0 25 v0 rfl rfl)
  obtain ⟨es, rfl, hsz'⟩ := okWide_struct Tryz.underlying25 (hval 1 25 v1 rfl rfl)
  letI : OldK := ⟨W.heap.size⟩
  obtain ⟨fuel, hf⟩ := id h0
  obtain ⟨c0, c1, c2, c3, c4, j, hcs, hj, hi⟩ := read_value (Nat.le_refl _) fuel _ _ hf
  obtain rfl : cs = #[c0, c1, c2, c3, c4] := Array.toList_inj.1 (by simpa [Value.cells] using hcs)
  obtain ⟨fuel', hf'⟩ := id h1
  obtain ⟨e0, e1, e2, e3, e4, j', hes, hj', hi'⟩ := read_value (Nat.le_refl _) fuel' _ _ hf'
  obtain rfl : es = #[e0, e1, e2, e3, e4] := Array.toList_inj.1 (by simpa [Value.cells] using hes)
  clear hA0
  simp only [List.append_nil] at hW'
  have walk := one_c (fun _ => True) (fun _ => True) j j' _ _ W hj hj' hi hi' (start hL (big hL))
  refine walk.mono fun e W' ⟨he, hF⟩ => ?_
  subst he
  have hb : Below W.heap.size W W' := hF.below (Nat.le_refl _) (fun _ _ _ h => h.elim)
  have hlt : ∀ x ∈ p0, x.block < W.heap.size := fun x hx => DataW.trod_lt _ _ _ _ hf x hx
  have hlt' : ∀ x ∈ p1, x.block < W.heap.size := fun x hx => DataW.trod_lt _ _ _ _ hf' x hx
  have h0' := Below.trod laidOut (by kernel_rfl) (of_decide_eq_true (by kernel_rfl)) h0 hb hlt
  have h1' := Below.trod laidOut (by kernel_rfl) (of_decide_eq_true (by kernel_rfl)) h1 hb hlt'
  have h2 := trodAll_cons_mk h0' (trodAll_cons_mk h1' trodAll_mk0)
  simp only [List.append_nil] at h2
  exact ⟨_, rfl, ⟨_, _, _, [], p0 ++ p1, [], hW', trodAll_cons_mk (shut_bool Tryz.underlying4 _) trodAll_mk0, h2, rfl, fr_kept hF _, fun h => by cases h⟩⟩

set_option maxRecDepth 100000 in
theorem laid_met (os : Os) : laidMet Tryz.prog Rows.canonOneRow.laid ((laidWorld os).forCall (fun _ _ => 0) ⟨#[], #[.agg #[.int .i64 0, .int .i64 0, .string .empty, .slice none 0 0, .slice none 0 0], .agg #[.int .i64 0, .int .i64 0, .string .empty, .slice none 0 0, .slice none 0 0]], []⟩).memory :=
  laidMet_of_run' 8 (by kernel_rfl) (by kernel_rfl)
set_option maxRecDepth 100000 in
theorem reads (os : Os) {H : Type} (enc : TypeId × Value → H) : ∃ places, DataW.whole enc Tryz.prog ((laidWorld os).forCall (fun _ _ => 0) ⟨#[], #[.agg #[.int .i64 0, .int .i64 0, .string .empty, .slice none 0 0, .slice none 0 0], .agg #[.int .i64 0, .int .i64 0, .string .empty, .slice none 0 0, .slice none 0 0]], []⟩).memory Tryz.f6.params.toList Rows.canonOneSpec.vars false #[Value.agg #[.int .i64 0, .int .i64 0, .string .empty, .slice none 0 0, .slice none 0 0], Value.agg #[.int .i64 0, .int .i64 0, .string .empty, .slice none 0 0, .slice none 0 0]].toList 8 = some ([.agg [.lit (.int .i64 0), .lit (.int .i64 0), .lit (.string []), .nil, .nil], .agg [.lit (.int .i64 0), .lit (.int .i64 0), .lit (.string []), .nil, .nil]], [], places) :=
  ⟨[], by kernel_rfl⟩

set_option maxRecDepth 100000 in
theorem lifted (os : Os) (started : os.Started) (H : Type) (enc : TypeId × Value → H) (F : Stop.Interp) :
    ReturnsInHanded {} Tryz.checked os 6 .any ((OpenSpec.ofChange Rows.canonOneSpec).preRow enc Tryz.prog Tryz.f6 Rows.canonOneRow.domain false Rows.canonOneRow.laid) (((OpenSpec.ofChange Rows.canonOneSpec).at F).post enc Tryz.prog Tryz.f6 false true false false) := by
  obtain ⟨places, hx⟩ := reads os enc
  refine returnsInHanded_of_row (C := Tryz.checked) (s := OpenSpec.ofChange Rows.canonOneSpec) own started (by kernel_rfl) Tryz.func6
    (witness_row_at (enc := enc) (C := Tryz.checked) false (laidWorld os) #[.agg #[.int .i64 0, .int .i64 0, .string .empty, .slice none 0 0, .slice none 0 0], .agg #[.int .i64 0, .int .i64 0, .string .empty, .slice none 0 0, .slice none 0 0]] rfl (by kernel_rfl) (by kernel_rfl) (by kernel_rfl)
      (OpenSpec.preRow_of_cond 8 hx (by kernel_rfl) (fun k hk => by cases hk) (by kernel_rfl) (laid_met os))) ?_
  intro W base args ds gs before hval hW _ _ _ hL _ _
  exact contract H enc W base args ds gs before hval hW hL

set_option maxRecDepth 100000 in
theorem said : Rows.CanonOneSaid :=
  OpenClaim.holds_of_cond 6 Tryz.f6 rfl rfl rfl rfl rfl rfl rfl ⟨rfl, rfl, rfl, rfl, rfl⟩ rfl rfl rfl rfl rfl (by kernel_rfl) Tryz.func6 (by kernel_rfl)
    (of_decide_eq_true (by kernel_rfl)) (by unfold Func.isWrapper; first | (rw [if_pos (by decide +kernel)]; kernel_rfl) | (rw [if_neg (by decide +kernel)]; exact ⟨rfl, rfl⟩))
    (fun os started H enc _ F => by rw [OpenClaim.pre_eq_preRow]; exact lifted os started H enc F)

theorem plain (f : FuncId) (fn : Func) (hf : Tryz.pinned.checked.prog.funcNamed "cachet/cachetlaw13.CanonOne" = some f) (hfn : Tryz.pinned.checked.prog.funcs[f]? = some fn) :
    true = Tryz.pinned.checked.prog.looks [] ∧ ∀ (j : Nat) t, fn.params[j]? = some t → Tryz.pinned.checked.prog.wantsStandIn t = false := by
  obtain rfl : f = 6 := Option.some.inj ((show Tryz.prog.funcNamed "cachet/cachetlaw13.CanonOne" = some 6 by kernel_rfl).symm.trans hf) |>.symm
  obtain rfl : fn = Tryz.f6 := (Option.some.inj (Tryz.func6.symm.trans hfn)).symm
  refine ⟨by kernel_rfl, fun j t ht => ?_⟩
  rw [Tryz.params6] at ht
  obtain rfl : t = 25 := by simpa using Array.mem_of_getElem? ht
  exact (show Tryz.prog.wantsStandIn 25 = false by kernel_rfl)
end Go.Proofs.YtbfmpbhikipipaaGreatDoor.canonOne
namespace Go.Proofs.YtbfmpbhikipipaaGreatDoor

set_option maxRecDepth 100000 in
theorem one_holds : Rows.CanonOneCardSaid :=
  Claim7.holds_tied_plain_at .later [] _ _ _ _ canonOne.said (fun _ h => by cases h) (by kernel_rfl) (fun _ h => by cases h) canonOne_row_tie rfl ⟨rfl, rfl⟩ (by kernel_rfl) rfl canonOne.plain (by kernel_rfl)
end Go.Proofs.YtbfmpbhikipipaaGreatDoor
