/-
  A map from texts to bools that the call itself has made: which names it has.
-/
import Derived.Test.YtbfmpbhikipipaaGreatDoorKBase
import Derived.Maps.Views
import Derived.Maps.Keyed
import Derived.Maps.Own
import Derived.Carry
namespace Go.Proofs.YtbfmpbhikipipaaGreatDoor
set_option linter.unusedVariables false
set_option linter.unusedSimpArgs false
set_option linter.unusedSectionVars false
open Go.RowKit

/-- block mb is a map that has just these names, each with true -/
def Seen (mb n : Nat) (names : List (List UInt8)) (w : World) : Prop :=
  ∃ D : DataW Unit, w.ownsMap Tryz.prog 9 (plainElem Tryz.prog 4) mb n D ∧ Maps.IsMap D ∧
    ∀ nm, D.atKey (.string nm) (.lit (.bool false)) = .lit (.bool (names.contains nm))
theorem Seen.lt {mb n : Nat} {names : List (List UInt8)} {w : World} (h : Seen mb n names w) : mb < w.heap.size := by obtain ⟨D, h, _⟩ := h; exact h.lt
theorem Seen.made (w : World) : Seen w.heap.size 0 [] (w.alloc (.map #[] 0)) :=
  ⟨.map [], World.ownsMap_made w _ _ _, ⟨_, rfl⟩, fun _ => rfl⟩
theorem Seen.same {mb n : Nat} {names : List (List UInt8)} {w w' : World} (h : Seen mb n names w) (hb : w'.heap[mb]? = w.heap[mb]?) : Seen mb n names w' := by
  obtain ⟨D, ⟨es, clock, h1, F, h2, h3⟩, hm, ha⟩ := h
  exact ⟨D, ⟨es, clock, hb.trans h1, F, h2, h3⟩, hm, ha⟩
def isMapO (o : Obj) : Prop := ∃ es c, o = .map es c
theorem Seen.fr {M : Nat → Obj → Prop} {mb n : Nat} {names : List (List UInt8)} {w w' : World} (h : Seen mb n names w) (hF : Fr M w w') (hM : ∀ o, isMapO o → ¬ M mb o) : Seen mb n names w' := by
  refine h.same ?_
  obtain ⟨D, ⟨es, clock, h1, _⟩, _⟩ := h
  rw [h1]
  exact hF.block _ _ h1 (hM _ ⟨_, _, rfl⟩)
theorem zeroBool : ∀ w, (zeroValue 4).run Tryz.prog w = .ok (.bool false) w := fun w => by kernel_rfl
theorem keyStr (nm : List UInt8) (hnm : nm.length ≤ maxLen) : keyOf Tryz.prog 9 (.string ⟨nm.toArray⟩) = some (.string nm) := by
  rw [keyOf_string Tryz.underlying9]
  have : (ByteArray.mk nm.toArray).size ≤ maxLen := hnm
  simp [mapKey, Tryz.underlying9, this]
theorem Seen.look {mb n : Nat} {names : List (List UInt8)} {w : World} (h : Seen mb n names w) (nm : List UInt8) (hnm : nm.length ≤ maxLen) :
    (Instr.lookup 80 (.map (some mb)) (.string ⟨nm.toArray⟩) false).run Tryz.prog w = .ok (.bool (names.contains nm)) w := by
  obtain ⟨D, hown, hm, ha⟩ := h
  obtain ⟨v, ps, hrun, hv⟩ := hown.lookup (Maps.string_keyed Tryz.underlying9) Tryz.underlying80 (zeroBool w) (plainElem_bool Tryz.underlying4 false) (keyStr nm hnm)
  rw [ha nm] at hv
  rw [hrun]
  cases v <;> simp [plainElem, Tryz.underlying4] at hv
  rw [hv.1]
  simp
theorem Seen.put {mb n : Nat} {names : List (List UInt8)} {w : World} (h : Seen mb n names w) (nm : List UInt8) (hnm : nm.length ≤ maxLen) (hn : n < maxLen) :
    ∃ w', (Instr.mapUpdate 80 (.map (some mb)) (.string ⟨nm.toArray⟩) (.bool true)).run Tryz.prog w = .ok () w' ∧ Seen mb (n + 1) (names ++ [nm]) w' ∧ w.grownBy w' (some mb) ∧ (∃ o, w.heap[mb]? = some o ∧ isMapO o) := by
  obtain ⟨D, hown, hm, ha⟩ := h
  have hmo : ∃ o, w.heap[mb]? = some o ∧ isMapO o := by
    obtain ⟨es, clock, h1, _⟩ := hown
    exact ⟨_, h1, _, _, rfl⟩
  obtain ⟨w', hrun, hown', hg⟩ := hown.update (Maps.string_keyed Tryz.underlying9) Tryz.underlying80 hn (keyStr nm hnm) (plainElem_bool Tryz.underlying4 true)
  refine ⟨w', hrun, ⟨_, hown', ?_, fun x => ?_⟩, hg, hmo⟩
  · obtain ⟨es, rfl⟩ := hm
    exact ⟨_, rfl⟩
  · by_cases hx : x = nm
    · subst hx
      rw [Maps.atKey_put_same hm (by simp [WideAt.IsKeyLit])]
      simp
    · rw [Maps.atKey_put_other (by simpa using hx), ha x]
      simp [hx]
end Go.Proofs.YtbfmpbhikipipaaGreatDoor
