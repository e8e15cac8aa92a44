/-
  Slices of texts: how they lie; sorted and compacted.
-/
import Derived.Test.YtcddlemkimbkcaaGreatDoorKOwn
import Derived.Test.YtcddlemkimbkcaaGreatDoorShelf
import Derived.Test.YtcddlemkimbkcaaGreatDoorShelfB
import Derived.Test.YtcddlemkimbkcaaGreatDoorKRefHex
namespace Go.Proofs.YtcddlemkimbkcaaGreatDoor
set_option linter.unusedVariables false
set_option linter.unusedSimpArgs false
set_option linter.unusedSectionVars false
open Go.RowKit Go.Sort
variable [OldK]
def strCells (l : List Bs) : List Value := l.map (fun s => .string ⟨s.toArray⟩)
/-- the value v is texts that the call itself has gathered, from block B on -/
def OS (B : Nat) (l : List Bs) (v : Value) (w : World) : Prop := w.ownsRow B 9 1 v l.length (strCells l)
theorem OS.fr {M : Nat → Obj → Prop} {B : Nat} {l : List Bs} {v : Value} {w w' : World} (h : OS B l v w) (hF : Fr M w w') (hM : ∀ k o, B ≤ k → OfTy 9 o → ¬ M k o) : OS B l v w' :=
  own_fr h hF (fun k o _ hk ht => hM k o hk ht)
theorem OS.form {B : Nat} {l : List Bs} {v : Value} {w : World} (h : OS B l v w) : ∃ a c, v = .slice a l.length c := own_form h
theorem OS.nil (B : Nat) (w : World) : OS B [] (.slice none 0 0) w := ⟨rfl, .inl ⟨rfl, rfl⟩⟩
theorem OS.push {B : Nat} {l : List Bs} {x : Bs} {v v' : Value} {w W w2 : World} (h : OS B l v w) (hW : Fr NoB w W) (hown : w2.ownsRow B 9 1 v' (l.length + 1) (strCells l ++ [.string ⟨x.toArray⟩])) (hg : W.grownBy w2 v.ownBlock) :
    OS B (l ++ [x]) v' w2 ∧ Fr (fun k _ => B ≤ k) w w2 := by
  constructor
  · unfold OS
    rw [List.length_append, show strCells (l ++ [x]) = strCells l ++ [.string ⟨x.toArray⟩] by simp [strCells]]
    exact hown
  · exact (hW.mono (fun _ _ h => h.elim)).trans (Fr.ofGrown hg) (fun k o hm => .inl (own_ty h k hm.symm).1)
/-- where they lie -/
theorem OS.holds {B : Nat} {l : List Bs} {v : Value} {w : World} (h : OS B l v w) (hne : l ≠ []) : ∃ g cap, v = .slice (some ⟨g, 0, none⟩) l.length cap ∧ B ≤ g ∧ g < w.heap.size ∧ l.length ≤ cap ∧ Holds encStr w g 0 l.toArray := by
  rcases h.2 with ⟨rfl, h0⟩ | ⟨g, cap, cur, rfl, hb, hg, hn, hcm, hcs, htake⟩
  · exact absurd (List.length_eq_zero_iff.1 h0) hne
  · refine ⟨g, cap, rfl, hb, get_lt hg, hn, fun j hj => ?_⟩
    have hj2 : j < l.length := by simpa using hj
    have h1 : (cur.toList.take (l.length * 1))[j]? = some (.string ⟨l[j].toArray⟩) := by
      rw [htake]
      simp [strCells, hj2]
    rw [List.getElem?_take, if_pos (by omega), Array.getElem?_toList] at h1
    refine ⟨?_, by simp [World.frozen?, hg]⟩
    simp only [World.cell?, hg, Nat.zero_add, h1]
    have e : l.toArray[j]! = l[j] := by simp [hj2]
    rw [e]
    rfl
/-- a slice of texts -/
def SS (S : Nat → Prop) (l : List Bs) (v : Value) (w : World) : Prop := ∃ a cap, v = .slice a l.length cap ∧ l.length ≤ cap ∧
  ((l = [] ∧ a = none) ∨ ∃ b o, a = some ⟨b, o, none⟩ ∧ S b ∧ b < w.heap.size ∧ ∀ i s, l[i]? = some s → w.cell? ⟨b, o + i, none⟩ = some (.string ⟨s.toArray⟩))
theorem putRow_fr (w : World) (g off : Nat) (d : Array Bs) (n : Nat) (os : Array Obj) : Fr (fun k _ => k = g) w (Sort.grow (putRow encStr (Sort.ahead w n) g off d) os) := by
  refine ⟨rfl, rfl, rfl, ?_, fun k o hk hn => ?_⟩
  · show w.heap.size ≤ ((putRow encStr (Sort.ahead w n) g off d).heap ++ os).size
    rw [Array.size_append, Sort.size_putRow]
    exact Nat.le_add_right _ _
  · have hkl := get_lt hk
    show ((putRow encStr (Sort.ahead w n) g off d).heap ++ os)[k]? = some o
    rw [Array.getElem?_append_left (by rw [Sort.size_putRow]; exact hkl)]
    show (w.heap.modify g _)[k]? = some o
    rw [Array.getElem?_modify, if_neg (fun e => hn e.symm)]
    exact hk
/-- the value v is a row of texts, from block B on, that may be written -/
def SH (B : Nat) (l : List Bs) (v : Value) (w : World) : Prop := ∃ g cap, v = .slice (some ⟨g, 0, none⟩) l.length cap ∧ B ≤ g ∧ g < w.heap.size ∧ l.length ≤ cap ∧ Holds encStr w g 0 l.toArray
theorem OS.sh {B : Nat} {l : List Bs} {v : Value} {w : World} (h : OS B l v w) (hne : l ≠ []) : SH B l v w := by
  obtain ⟨g, cap, h⟩ := h.holds hne
  exact ⟨g, cap, h⟩
def sortS (l : List Bs) : List Bs := l.mergeSort (fun x y => decide (x ≤ y))
theorem sortS_len (l : List Bs) : (sortS l).length = l.length := List.length_mergeSort _
theorem sort_sh {B : Nat} {l : List Bs} {v : Value} {w : World} (h : SH B l v w) (hl : l.length ≤ 1000000) :
    Calls Tryz.prog 96 #[v] w fun e w' => e = .returned (.tuple #[]) ∧ SH B (sortS l) v w' ∧ Fr (fun k _ => B ≤ k) w w' := by
  obtain ⟨g, cap, rfl, hB, hg, hc, hH⟩ := h
  refine (Tryz.slices_Sort_string g 0 cap l w hH hg (by omega)).mono ?_
  rintro e w' ⟨rfl, n, os, rfl⟩
  refine ⟨rfl, ⟨g, cap, by rw [sortS_len], hB, ?_, by rw [sortS_len]; exact hc, ?_⟩, (putRow_fr w g 0 _ n os).mono (fun k o hm => by subst hm; exact hB)⟩
  · rw [Sort.size_grow, Sort.size_putRow]
    show g < w.heap.size + _
    omega
  · refine Sort.holds_grow _ _ _ _ _ _ (by rw [Sort.size_putRow]; exact hg) ?_
    exact Sort.holds_putRow encStr (Sort.ahead w n) g 0 l.toArray _ hH (by simp)
theorem compact_le (l : List Bs) : (Lib.compact l).length ≤ l.length := by
  unfold Lib.compact Lib.compactUpTo
  rw [List.length_map]
  exact Nat.le_trans (List.length_filter_le _ _) (by simp)
theorem compact_sh {B : Nat} {l : List Bs} {v : Value} {w : World} (h : SH B l v w) (hl : l.length ≤ 1000000) :
    Calls Tryz.prog 97 #[v] w fun e w' => (∃ v', e = .returned v' ∧ SS (fun k => B ≤ k) (Lib.compact l) v' w') ∧ Fr (fun k _ => B ≤ k) w w' := by
  obtain ⟨g, cap, rfl, hB, hg, hc, hH⟩ := h
  refine (Tryz.slices_Compact_string g 0 cap l w hH (by omega) hc).mono ?_
  rintro e w' ⟨rfl, q, rfl⟩
  have hle := compact_le l
  refine ⟨⟨_, rfl, _, _, rfl, by omega, .inr ⟨g, 0, rfl, hB, by rw [Sort.size_putRow]; exact hg, fun i s hi => ?_⟩⟩, ?_⟩
  · have hil : i < (Lib.compact l).length := by
      rcases Nat.lt_or_ge i (Lib.compact l).length with h | h
      · exact h
      · rw [List.getElem?_eq_none h] at hi; simp at hi
    rw [Sort.cell?_putRow encStr (Sort.ahead w q) g 0 l.toArray _ hH (by simp; omega) i (by simp; omega)]
    congr 1
    have hj : i < (Lib.compact l ++ List.replicate (l.length - (Lib.compact l).length) []).length := by simp; omega
    have : (Lib.compact l ++ List.replicate (l.length - (Lib.compact l).length) ([] : Bs)).toArray[i]! = s := by
      have e1 : (Lib.compact l ++ List.replicate (l.length - (Lib.compact l).length) ([] : Bs)).toArray[i]? = some s := by
        rw [List.getElem?_toArray, List.getElem?_append_left hil]; exact hi
      rw [getElem!_def, e1]
    rw [this]
  · have := putRow_fr w g 0 (Lib.compact l ++ List.replicate (l.length - (Lib.compact l).length) []).toArray q #[]
    rw [Sort.grow_empty] at this
    exact this.mono (fun k o hm => by subst hm; exact hB)
end Go.Proofs.YtcddlemkimbkcaaGreatDoor
