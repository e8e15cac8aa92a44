/-
  Slices of bytes: how they lie in memory; their conversions from and to texts.
-/
import Derived.Test.YtbfmpbhikipipaaGreatDoorKSpecSound
import Derived.Test.YtbfmpbhikipipaaGreatDoorKBase
import Derived.Laws.IdiomStrings
import Derived.Lib.BufferRead
import Derived.Laws.AppendOwn
namespace Go.Proofs.YtbfmpbhikipipaaGreatDoor
set_option linter.unusedVariables false
set_option linter.unusedSimpArgs false
set_option linter.unusedSectionVars false
open Go.RowKit
variable [OldK]

/-- the value v is the bytes l; they lie in a block of S -/
def SB (S : Nat → Prop) (l : Bs) (v : Value) (w : World) : Prop := ∃ a cap, v = .slice a l.length cap ∧ l.length ≤ cap ∧
  ((l = [] ∧ a = none) ∨ ∃ b o cs T f, a = some ⟨b, o, none⟩ ∧ S b ∧ (w.heap[b]? = some (.cells cs T f) ∧ (T = 5 ∨ b < OldK.k)) ∧ ∀ j (hj : j < l.length), cs[o + j]? = some (.int .u8 (l[j].toNat : Int)))
theorem SB.form {S : Nat → Prop} {l : Bs} {v : Value} {w : World} (h : SB S l v w) : ∃ a cap, v = .slice a l.length cap := by
  obtain ⟨a, cap, h, _⟩ := h; exact ⟨a, cap, h⟩
theorem SB.kp {S S' : Nat → Prop} {l : Bs} {v : Value} {w w' : World} (h : SB S l v w) (hk : ∀ b o, S b → w.heap[b]? = some o → (OfTy 5 o ∨ b < OldK.k) → S' b ∧ w'.heap[b]? = some o) : SB S' l v w' := by
  obtain ⟨a, cap, hv, hcp, h | ⟨b, o, cs, T, f, h1, h2, ⟨h3, hT⟩, h4⟩⟩ := h
  · exact ⟨a, cap, hv, hcp, .inl h⟩
  · obtain ⟨h5, h6⟩ := hk b _ h2 h3 (hT.imp (fun e => ⟨_, _, by rw [e]⟩) id)
    exact ⟨a, cap, hv, hcp, .inr ⟨b, o, cs, T, f, h1, h5, ⟨h6, hT⟩, h4⟩⟩
theorem SB.fr {M : Nat → Obj → Prop} {S : Nat → Prop} {l : Bs} {v : Value} {w w' : World} (h : SB S l v w) (hF : Fr M w w') (hM : ∀ b o, S b → (OfTy 5 o ∨ b < OldK.k) → ¬ M b o) : SB S l v w' :=
  h.kp (fun b o hs hb ht => ⟨hs, hF.block b o hb (hM b o hs ht)⟩)
theorem SB.nil (S : Nat → Prop) (w : World) (cap : Nat) : SB S [] (.slice none 0 cap) w := ⟨none, cap, rfl, Nat.zero_le _, .inl ⟨rfl, rfl⟩⟩
/-- 'string(b)' -/
theorem SB.text {S : Nat → Prop} {l : Bs} {v : Value} {w : World} (h : SB S l v w) : (convert 28 9 v).run Tryz.prog w = .ok (.string ⟨l.toArray⟩) w := by
  obtain ⟨a, cap, rfl, _, ⟨rfl, rfl⟩ | ⟨b, o, cs, T, f, rfl, h2, ⟨h3, _⟩, h4⟩⟩ := h
  · exact Lib.run_convert_nil_bytes w _ _ 5 _ Tryz.underlying28 Tryz.underlying5 Tryz.underlying9
  · refine run_convert_bytes_back w _ _ 5 ⟨b, o, none⟩ cap l Tryz.underlying28 Tryz.underlying5 Tryz.underlying9 (fun j hj => ?_)
    have he : (⟨b, o, none⟩ : Addr).add j = ⟨b, o + j, none⟩ := by
      by_cases h0 : j = 0
      · subst h0; rfl
      · simp [Addr.add, h0]
    rw [he]
    simp [World.cell?, h3, h4 j hj]
/-- '[]byte(s)' -/
theorem SB.made (l : Bs) (w : World) : ∃ (v : Value) (w' : World), (convert 9 28 (.string ⟨l.toArray⟩)).run Tryz.prog w = .ok v w' ∧ SB (fun k => k = w.heap.size) l v w' ∧ Fr NoB w w' := by
  refine ⟨_, _, run_bytes_of_string w _ _ 5 ⟨l.toArray⟩ Tryz.underlying9 Tryz.underlying28 Tryz.underlying5, ⟨_, _, rfl, grownCap_ge _ _ _ _, .inr ⟨w.heap.size, 0, _, _, _, rfl, rfl, ⟨heap_alloc_new w.drew _, .inl rfl⟩, ?_⟩⟩, (Fr.refl.drew.alloc _)⟩
  intro j hj
  rw [Nat.zero_add]
  unfold bytesRow
  rw [Array.getElem?_append_left (by simpa using hj)]
  simp [hj]
end Go.Proofs.YtbfmpbhikipipaaGreatDoor
