/-
  Slices of bytes: how they lie in memory; their conversions from and to texts.
-/
import Derived.Test.YtcddlemkimbkcaaGreatDoorKSpecJ
import Derived.Test.YtcddlemkimbkcaaGreatDoorKBase
import Derived.Laws.IdiomStrings
import Derived.Lib.BufferRead
import Derived.Laws.AppendOwn
namespace Go.Proofs.YtcddlemkimbkcaaGreatDoor
set_option linter.unusedVariables false
set_option linter.unusedSimpArgs false
set_option linter.unusedSectionVars false
open Go.RowKit
variable [OldK]

/-- the value v is the bytes l; they lie in a block of S -/
def SB (S : Nat → Prop) (l : Bs) (v : Value) (w : World) : Prop := ∃ a cap, v = .slice a l.length cap ∧ l.length ≤ cap ∧
  ((l = [] ∧ a = none) ∨ ∃ b o cs T f, a = some ⟨b, o, none⟩ ∧ S b ∧ (w.heap[b]? = some (.cells cs T f) ∧ (T = 5 ∨ b < OldK.k)) ∧ ∀ j (hj : j < l.length), cs[o + j]? = some (.int .u8 (l[j].toNat : Int)))
theorem SB.form {S : Nat → Prop} {l : Bs} {v : Value} {w : World} (h : SB S l v w) : ∃ a cap, v = .slice a l.length cap := by
  obtain ⟨a, cap, h, _⟩ := h; exact ⟨a, cap, h⟩
theorem SB.kp {S S' : Nat → Prop} {l : Bs} {v : Value} {w w' : World} (h : SB S l v w) (hk : ∀ b o, S b → w.heap[b]? = some o → (OfTy 5 o ∨ b < OldK.k) → S' b ∧ w'.heap[b]? = some o) : SB S' l v w' := by
  obtain ⟨a, cap, hv, hcp, h | ⟨b, o, cs, T, f, h1, h2, ⟨h3, hT⟩, h4⟩⟩ := h
  · exact ⟨a, cap, hv, hcp, .inl h⟩
  · obtain ⟨h5, h6⟩ := hk b _ h2 h3 (hT.imp (fun e => ⟨_, _, by rw [e]⟩) id)
    exact ⟨a, cap, hv, hcp, .inr ⟨b, o, cs, T, f, h1, h5, ⟨h6, hT⟩, h4⟩⟩
theorem SB.fr {M : Nat → Obj → Prop} {S : Nat → Prop} {l : Bs} {v : Value} {w w' : World} (h : SB S l v w) (hF : Fr M w w') (hM : ∀ b o, S b → (OfTy 5 o ∨ b < OldK.k) → ¬ M b o) : SB S l v w' :=
  h.kp (fun b o hs hb ht => ⟨hs, hF.block b o hb (hM b o hs ht)⟩)
theorem SB.nil (S : Nat → Prop) (w : World) (cap : Nat) : SB S [] (.slice none 0 cap) w := ⟨none, cap, rfl, Nat.zero_le _, .inl ⟨rfl, rfl⟩⟩
/-- 'string(b)' -/
theorem SB.text {S : Nat → Prop} {l : Bs} {v : Value} {w : World} (h : SB S l v w) : (convert 36 9 v).run Tryz.prog w = .ok (.string ⟨l.toArray⟩) w := by
  obtain ⟨a, cap, rfl, _, ⟨rfl, rfl⟩ | ⟨b, o, cs, T, f, rfl, h2, ⟨h3, _⟩, h4⟩⟩ := h
  · exact Lib.run_convert_nil_bytes w _ _ 5 _ Tryz.underlying36 Tryz.underlying5 Tryz.underlying9
  · refine run_convert_bytes_back w _ _ 5 ⟨b, o, none⟩ cap l Tryz.underlying36 Tryz.underlying5 Tryz.underlying9 (fun j hj => ?_)
    have he : (⟨b, o, none⟩ : Addr).add j = ⟨b, o + j, none⟩ := by
      by_cases h0 : j = 0
      · subst h0; rfl
      · simp [Addr.add, h0]
    rw [he]
    simp [World.cell?, h3, h4 j hj]
/-- '[]byte(s)' -/
theorem SB.made (l : Bs) (w : World) : ∃ (v : Value) (w' : World), (convert 9 36 (.string ⟨l.toArray⟩)).run Tryz.prog w = .ok v w' ∧ SB (fun k => k = w.heap.size) l v w' ∧ Fr NoB w w' := by
  refine ⟨_, _, run_bytes_of_string w _ _ 5 ⟨l.toArray⟩ Tryz.underlying9 Tryz.underlying36 Tryz.underlying5, ⟨_, _, rfl, grownCap_ge _ _ _ _, .inr ⟨w.heap.size, 0, _, _, _, rfl, rfl, ⟨heap_alloc_new w.drew _, .inl rfl⟩, ?_⟩⟩, (Fr.refl.drew.alloc _)⟩
  intro j hj
  rw [Nat.zero_add]
  unfold bytesRow
  rw [Array.getElem?_append_left (by simpa using hj)]
  simp [hj]
theorem SB.at {S : Nat → Prop} {l : Bs} {v : Value} {w : World} (h : SB S l v w) {i : Nat} {x : UInt8} (hi : l[i]? = some x) :
    ∃ b o cap, v = .slice (some ⟨b, o, none⟩) l.length cap ∧ w.cell? ⟨b, o + i, none⟩ = some (.int .u8 x.toNat) := by
  obtain ⟨a, cap, rfl, _, ⟨rfl, rfl⟩ | ⟨b, o, cs, T, f, rfl, h2, ⟨h3, _⟩, h4⟩⟩ := h
  · simp at hi
  · obtain ⟨hl, rfl⟩ := List.getElem?_eq_some_iff.1 hi
    refine ⟨b, o, cap, rfl, ?_⟩
    simp [World.cell?, h3, h4 i hl]
/-- the bytes, one by one -/
theorem SB.cellsAt {S : Nat → Prop} {l : Bs} {v : Value} {w : World} (h : SB S l v w) (hne : l ≠ []) : ∃ b o cap, v = .slice (some ⟨b, o, none⟩) l.length cap ∧ l.length ≤ cap ∧ S b ∧ b < w.heap.size ∧ ∀ j x, l[j]? = some x → w.cell? ⟨b, o + j, none⟩ = some (.int .u8 x.toNat) := by
  obtain ⟨a, cap, rfl, hcp, ⟨rfl, rfl⟩ | ⟨b, o, cs, T, f, rfl, h2, ⟨h3, _⟩, h4⟩⟩ := h
  · exact absurd rfl hne
  · refine ⟨b, o, cap, rfl, hcp, h2, get_lt h3, fun j x hj => ?_⟩
    obtain ⟨hlt, rfl⟩ := List.getElem?_eq_some_iff.1 hj
    simp [World.cell?, h3, h4 j hlt]
/-- the first bytes -/
theorem SB.take {S : Nat → Prop} {l : Bs} {g o cap : Nat} {n : Nat} {w : World} (h : SB S l (.slice (some ⟨g, o, none⟩) n cap) w) (k : Nat) (hk : k ≤ l.length) : SB S (l.take k) (.slice (some ⟨g, o, none⟩) k cap) w := by
  obtain ⟨a, cap', hv, hcp, ⟨rfl, rfl⟩ | ⟨b, o', cs, T, f, rfl, h2, h3, h4⟩⟩ := h
  · simp at hv
  · obtain ⟨⟨rfl, rfl⟩, rfl, rfl⟩ : (g = b ∧ o = o') ∧ n = l.length ∧ cap = cap' := by simpa using hv
    refine ⟨_, cap, by rw [List.length_take, Nat.min_eq_left hk], by rw [List.length_take]; omega, .inr ⟨g, o, cs, T, f, rfl, h2, h3, fun j hj => ?_⟩⟩
    rw [List.length_take] at hj
    rw [h4 j (by omega), List.getElem_take]
/-- the bytes behind the first ones -/
theorem SB.drop {S : Nat → Prop} {l : Bs} {g o cap : Nat} {n : Nat} {w : World} (h : SB S l (.slice (some ⟨g, o, none⟩) n cap) w) (k : Nat) (hk : k ≤ l.length) :
    SB S (l.drop k) (.slice (some ⟨g, o + k, none⟩) (l.length - k) (cap - k)) w := by
  obtain ⟨a, cap', hv, hcp, ⟨rfl, rfl⟩ | ⟨b, o', cs, T, f, rfl, h2, h3, h4⟩⟩ := h
  · simp at hv
  · obtain ⟨⟨rfl, rfl⟩, rfl, rfl⟩ : (g = b ∧ o = o') ∧ n = l.length ∧ cap = cap' := by simpa using hv
    refine ⟨_, cap - k, by rw [List.length_drop], by rw [List.length_drop]; omega, .inr ⟨g, o + k, cs, T, f, rfl, h2, h3, fun j hj => ?_⟩⟩
    rw [List.length_drop] at hj
    rw [Nat.add_assoc, h4 (k + j) (by omega), List.getElem_drop]
/-- nothing is left -/
theorem SB.none' {S : Nat → Prop} {l : Bs} {g o cap : Nat} {n : Nat} {w : World} (h : SB S l (.slice (some ⟨g, o, none⟩) n cap) w) (c : Nat) : SB S [] (.slice (some ⟨g, o, none⟩) 0 c) w := by
  obtain ⟨a, cap', hv, hcp, ⟨rfl, rfl⟩ | ⟨b, o', cs, T, f, rfl, h2, h3, h4⟩⟩ := h
  · simp at hv
  · obtain ⟨⟨rfl, rfl⟩, rfl, rfl⟩ : (g = b ∧ o = o') ∧ n = l.length ∧ cap = cap' := by simpa using hv
    exact ⟨_, c, rfl, Nat.zero_le _, .inr ⟨g, o, cs, T, f, rfl, h2, h3, fun j hj => absurd hj (Nat.not_lt_zero _)⟩⟩
end Go.Proofs.YtcddlemkimbkcaaGreatDoor
