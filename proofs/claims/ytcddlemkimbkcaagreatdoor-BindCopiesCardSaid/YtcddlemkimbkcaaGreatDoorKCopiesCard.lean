/-
 BindCopies is true of every two lists of entries: a copy of a table is another table, and both stand as the document says. No condition but the tables that start-up lays (the card ties them).
-/
import Derived.Test.YtcddlemkimbkcaaGreatDoorCards
import Derived.Test.YtcddlemkimbkcaaGreatDoorTie
import Derived.Test.YtcddlemkimbkcaaGreatDoorKRune
import Derived.Test.YtcddlemkimbkcaaGreatDoorKLawCopies
import Derived.Test.YtcddlemkimbkcaaGreatDoorKReadCame
import Derived.Carry
import Derived.WalkKit
import Derived.ProofKit
import Derived.OpenShut
import Derived.Deep.DeepHandedRow
import Derived.Lib.LaidTab
namespace Go.Proofs.YtcddlemkimbkcaaGreatDoor.bindCopies
set_option linter.unusedVariables false
set_option linter.unusedSimpArgs false
set_option linter.unusedSectionVars false
open Go.ChangeShapes Go.WideShapes Go.ChangeAt Go.RowKit Go.Proofs.YtcddlemkimbkcaaGreatDoor
open Go.ChangeMaps (open_string shut_string)

theorem laidOut : laidOutB Tryz.prog = true := by kernel_rfl
theorem own : ownKnob Tryz.prog.godebug = none := by kernel_rfl

set_option maxRecDepth 100000 in
theorem contract (H : Type) (enc : TypeId × Value → H) (W : World) (base : Nat) (args : Array Value) (ds gs : List (DataW H)) (before : List MemPlace)
 (hval : ∀ (j : Nat) t v, Tryz.f7.params[j]? = some t → args[j]? = some v → Value.okWide Tryz.prog W .any base t v)
 (hW : DataW.Whole enc Tryz.prog Tryz.f7.params.toList Rows.bindCopiesSpec.vars false W args.toList ds gs before) (hL : laidMetH Tryz.prog Rows.bindCopiesRow.laid W) :
 Calls Tryz.prog 7 args W fun e W' => ∃ v, e = .returned v ∧ Rows.bindCopiesSpec.post enc Tryz.prog Tryz.f7 false true false false W args v W' := by
 have hW' := hW
 obtain ⟨p, q, hA0, hV, rfl, hfz, hnd⟩ := hW
 have hA : DataW.TrodAll enc Tryz.prog W 0 (fun _ => true) true Tryz.f7.params.toList args.toList ds p := hA0
 rw [Tryz.params7] at hA hval
 obtain ⟨v0, vs0, d0, ds0, p0, q0, hargs, rfl, rfl, h0, r0⟩ := trodAll_cons hA
 obtain ⟨v1, vs1, d1, ds1, p1, q1, rfl, rfl, rfl, h1, r1⟩ := trodAll_cons r0
 obtain ⟨rfl, rfl, rfl⟩ := trodAll_nil r1
 obtain rfl : args = #[v0, v1] := by cases args; simp_all
 obtain ⟨rfl, rfl⟩ := trodVars_none hV
 letI : OldK := ⟨W.heap.size⟩
 obtain ⟨l, hsb⟩ := read_script (Nat.le_refl _) (hval 0 31 v0 rfl rfl) h0
 obtain ⟨l2, hsb2⟩ := read_script (Nat.le_refl _) (hval 1 31 v1 rfl rfl) h1
 obtain ⟨f0, hf0⟩ := id h0
 obtain ⟨f1, hf1⟩ := id h1
 clear hA0
 simp only [List.append_nil] at hW'
 have walk := copies_c l l2 v0 v1 W (start2 (show laidMet Tryz.prog Rows.bindCopiesRow.laid W from hL) (by simp [Rows.bindCopiesRow]) (by simp [Rows.bindCopiesRow])) hsb hsb2
 refine walk.mono fun e W' ⟨he, hF⟩ => ?_
 subst he
 have hb : Below W.heap.size W W' := hF.below (Nat.le_refl _) (fun _ _ _ h => h.elim)
 have h0' := Below.trod laidOut (by kernel_rfl) (of_decide_eq_true (by kernel_rfl)) h0 hb (fun x hx => DataW.trod_lt _ _ _ _ hf0 x hx)
 have h1' := Below.trod laidOut (by kernel_rfl) (of_decide_eq_true (by kernel_rfl)) h1 hb (fun x hx => DataW.trod_lt _ _ _ _ hf1 x hx)
 have h2 := trodAll_cons_mk h0' (trodAll_cons_mk h1' trodAll_mk0)
 simp only [List.append_nil] at h2
 exact ⟨_, rfl, ⟨_, _, _, [], p0 ++ p1, [], hW', trodAll_cons_mk (shut_bool Tryz.underlying4 _) trodAll_mk0, h2, rfl, fr_kept2 hF _, fun h => by cases h⟩⟩

set_option maxRecDepth 100000 in
theorem laid_met (os : Os) : laidMet Tryz.prog Rows.bindCopiesRow.laid ((laidWorld2 os).forCall (fun _ _ => 0) ⟨#[], #[.slice none 0 0, .slice none 0 0], []⟩).memory :=
 laidMet_of_run' 8 (by kernel_rfl) (by kernel_rfl)
set_option maxRecDepth 100000 in
theorem reads (os : Os) {H : Type} (enc : TypeId × Value → H) : ∃ places, DataW.whole enc Tryz.prog ((laidWorld2 os).forCall (fun _ _ => 0) ⟨#[], #[.slice none 0 0, .slice none 0 0], []⟩).memory Tryz.f7.params.toList Rows.bindCopiesSpec.vars false #[Value.slice none 0 0, .slice none 0 0].toList 8 = some ([.nil, .nil], [], places) :=
 ⟨[], by kernel_rfl⟩

set_option maxRecDepth 100000 in
theorem lifted (os : Os) (started : os.Started) (H : Type) (enc : TypeId × Value → H) (F : Stop.Interp) :
 ReturnsInHanded {} Tryz.checked os 7 .any ((OpenSpec.ofChange Rows.bindCopiesSpec).preRow enc Tryz.prog Tryz.f7 Rows.bindCopiesRow.domain false Rows.bindCopiesRow.laid) (((OpenSpec.ofChange Rows.bindCopiesSpec).at F).post enc Tryz.prog Tryz.f7 false true false false) := by
 obtain ⟨places, hx⟩ := reads os enc
 refine returnsInHanded_of_row (C := Tryz.checked) (s := OpenSpec.ofChange Rows.bindCopiesSpec) own started (by kernel_rfl) Tryz.func7
  (witness_row_at (enc := enc) (C := Tryz.checked) false (laidWorld2 os) #[.slice none 0 0, .slice none 0 0] rfl (by kernel_rfl) (by kernel_rfl) (by kernel_rfl)
    (OpenSpec.preRow_of_cond 8 hx (by kernel_rfl) (fun k hk => by cases hk) (by kernel_rfl) (laid_met os))) ?_
 intro W base args ds gs before hval hW _ _ _ hL _ _
 exact contract H enc W base args ds gs before hval hW hL

theorem cl1 : (Rows.bindCopiesRow.inPlace == Tryz.prog.inPlace 7) = true := by kernel_rfl
theorem cl2 : (Rows.bindCopiesRow.unfollowed == Tryz.prog.unfollowed 7) = true := by kernel_rfl
theorem cl3 : (Rows.bindCopiesRow.recurses == Tryz.prog.recurses 7) = true := by kernel_rfl
theorem cl4 : (Rows.bindCopiesRow.named == Tryz.prog.varsNamed 7) = true := by kernel_rfl
theorem closed : joinedFacts Tryz.prog 7 Tryz.f7 (OpenSpec.ofChange Rows.bindCopiesSpec).bare Rows.bindCopiesRow = true := by
 unfold joinedFacts
 rw [cl1, cl2, cl3, cl4]
 kernel_rfl
set_option maxRecDepth 100000 in
theorem said : Rows.BindCopiesSaid :=
 OpenClaim.holds_of_cond 7 Tryz.f7 rfl rfl rfl rfl rfl rfl rfl ⟨rfl, rfl, rfl, rfl, rfl⟩ rfl rfl rfl rfl rfl (by kernel_rfl) Tryz.func7 closed
  (of_decide_eq_true (by kernel_rfl)) (by unfold Func.isWrapper; first | (rw [if_pos (by decide +kernel)]; kernel_rfl) | (rw [if_neg (by decide +kernel)]; exact ⟨rfl, rfl⟩))
  (fun os started H enc _ F => by rw [OpenClaim.pre_eq_preRow]; exact lifted os started H enc F)

theorem plain (f : FuncId) (fn : Func) (hf : Tryz.pinned.checked.prog.funcNamed "cachet/cachetlaw17.BindCopies" = some f) (hfn : Tryz.pinned.checked.prog.funcs[f]? = some fn) :
 true = Tryz.pinned.checked.prog.looks [] ∧ ∀ (j : Nat) t, fn.params[j]? = some t → Tryz.pinned.checked.prog.wantsStandIn t = false := by
 obtain rfl : f = 7 := Option.some.inj ((show Tryz.prog.funcNamed "cachet/cachetlaw17.BindCopies" = some 7 by kernel_rfl).symm.trans hf) |>.symm
 obtain rfl : fn = Tryz.f7 := (Option.some.inj (Tryz.func7.symm.trans hfn)).symm
 refine ⟨by kernel_rfl, fun j t ht => ?_⟩
 rw [Tryz.params7] at ht
 have ht2 : t = 31 ∨ t = 31 := by simpa using Array.mem_of_getElem? ht
 obtain rfl : t = 31 := by simpa using ht2
 exact (show Tryz.prog.wantsStandIn 31 = false by kernel_rfl)
end Go.Proofs.YtcddlemkimbkcaaGreatDoor.bindCopies
namespace Go.Proofs.YtcddlemkimbkcaaGreatDoor

set_option maxRecDepth 100000 in
theorem bindCopies_holds : Rows.BindCopiesCardSaid :=
 Claim7.holds_tied_plain_at .later [] _ _ _ _ bindCopies.said (fun _ h => by cases h) (by kernel_rfl) (fun _ h => by cases h) bindCopies_row_tie rfl ⟨rfl, rfl⟩ (by kernel_rfl) rfl bindCopies.plain (by kernel_rfl)
end Go.Proofs.YtcddlemkimbkcaaGreatDoor
