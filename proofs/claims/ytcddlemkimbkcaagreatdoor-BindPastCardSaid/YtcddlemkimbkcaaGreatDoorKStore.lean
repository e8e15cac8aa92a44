/-
  What an owned row holds when its last element has been written.
-/
import Derived.Test.YtcddlemkimbkcaaGreatDoorKAppend
namespace Go.Proofs.YtcddlemkimbkcaaGreatDoor
set_option linter.unusedVariables false
set_option linter.unusedSimpArgs false
set_option linter.unusedSectionVars false
open Go.RowKit

/-- cells of block g written one behind the other, from offset o on -/
def put5 (g o : Nat) (v0 v1 v2 v3 v4 : Value) (w : World) : World :=
  ((((w.setCell ⟨g, o, none⟩ v0).setCell ⟨g, o + 1, none⟩ v1).setCell ⟨g, o + 2, none⟩ v2).setCell ⟨g, o + 3, none⟩ v3).setCell ⟨g, o + 4, none⟩ v4
def put6 (g o : Nat) (v0 v1 v2 v3 v4 v5 : Value) (w : World) : World := (put5 g o v0 v1 v2 v3 v4 w).setCell ⟨g, o + 5, none⟩ v5

theorem heap_setCell_eq {w : World} {b o : Nat} {cs : Array Value} {e : TypeId} {f : Nat × Nat} (v : Value) (h : w.heap[b]? = some (.cells cs e f)) :
    (w.setCell ⟨b, o, none⟩ v).heap[b]? = some (.cells (cs.setIfInBounds o v) e f) := by
  simp [World.setCell, Array.getElem?_modify, h]
theorem set_at (xs l : List Value) (m i : Nat) (v : Value) (hm : xs.length = m) : (xs ++ l).set (m + i) v = xs ++ l.set i v := by
  subst hm
  rw [List.set_append, if_neg (by omega)]
  congr 2; omega

theorem own_put5 {w : World} {B : Nat} {e : TypeId} {g n cap : Nat} {xs : List Value} {z0 z1 z2 z3 z4 : Value}
    (h : w.ownsRow B e 5 (.slice (some ⟨g, 0, none⟩) (n + 1) cap) (n + 1) (xs ++ [z0, z1, z2, z3, z4])) (hx : xs.length = n * 5) (v0 v1 v2 v3 v4 : Value) :
    (put5 g (n * 5) v0 v1 v2 v3 v4 w).ownsRow B e 5 (.slice (some ⟨g, 0, none⟩) (n + 1) cap) (n + 1) (xs ++ [v0, v1, v2, v3, v4]) := by
  refine ⟨by simp; omega, .inr ?_⟩
  rcases h.2 with ⟨h1, _⟩ | ⟨g', cap', cur, hv, hb, hg, hn, hcm, hcs, htake⟩
  · cases h1
  · cases hv
    have h5 := heap_setCell_eq (o := n * 5 + 4) v4 (heap_setCell_eq (o := n * 5 + 3) v3 (heap_setCell_eq (o := n * 5 + 2) v2 (heap_setCell_eq (o := n * 5 + 1) v1 (heap_setCell_eq (o := n * 5) v0 hg))))
    refine ⟨g, cap, _, rfl, hb, h5, hn, hcm, by simpa using hcs, ?_⟩
    have hcur : cur.toList = xs ++ ([z0, z1, z2, z3, z4] ++ cur.toList.drop ((n + 1) * 5)) := by
      rw [← List.append_assoc, ← htake, List.take_append_drop]
    simp only [Array.toList_setIfInBounds]
    rw [hcur]
    generalize cur.toList.drop ((n + 1) * 5) = rest
    have s0 := set_at xs ([z0, z1, z2, z3, z4] ++ rest) (n * 5) 0 v0 hx
    have s1 := set_at xs ([v0, z1, z2, z3, z4] ++ rest) (n * 5) 1 v1 hx
    have s2 := set_at xs ([v0, v1, z2, z3, z4] ++ rest) (n * 5) 2 v2 hx
    have s3 := set_at xs ([v0, v1, v2, z3, z4] ++ rest) (n * 5) 3 v3 hx
    have s4 := set_at xs ([v0, v1, v2, v3, z4] ++ rest) (n * 5) 4 v4 hx
    simp only [Nat.add_zero, List.cons_append, List.set_cons_zero, List.set_cons_succ, List.nil_append] at s0 s1 s2 s3 s4 ⊢
    rw [s0, s1, s2, s3, s4]
    have hl : (n + 1) * 5 = (xs ++ [v0, v1, v2, v3, v4]).length := by simp; omega
    rw [hl]
    have : xs ++ v0 :: v1 :: v2 :: v3 :: v4 :: rest = (xs ++ [v0, v1, v2, v3, v4]) ++ rest := by simp
    rw [this]
    exact List.take_left
theorem own_put6 {w : World} {B : Nat} {e : TypeId} {g n cap : Nat} {xs : List Value} {z0 z1 z2 z3 z4 z5 : Value}
    (h : w.ownsRow B e 6 (.slice (some ⟨g, 0, none⟩) (n + 1) cap) (n + 1) (xs ++ [z0, z1, z2, z3, z4, z5])) (hx : xs.length = n * 6) (v0 v1 v2 v3 v4 v5 : Value) :
    (put6 g (n * 6) v0 v1 v2 v3 v4 v5 w).ownsRow B e 6 (.slice (some ⟨g, 0, none⟩) (n + 1) cap) (n + 1) (xs ++ [v0, v1, v2, v3, v4, v5]) := by
  refine ⟨by simp; omega, .inr ?_⟩
  rcases h.2 with ⟨h1, _⟩ | ⟨g', cap', cur, hv, hb, hg, hn, hcm, hcs, htake⟩
  · cases h1
  · cases hv
    have h5 := heap_setCell_eq (o := n * 6 + 5) v5 (heap_setCell_eq (o := n * 6 + 4) v4 (heap_setCell_eq (o := n * 6 + 3) v3 (heap_setCell_eq (o := n * 6 + 2) v2 (heap_setCell_eq (o := n * 6 + 1) v1 (heap_setCell_eq (o := n * 6) v0 hg)))))
    refine ⟨g, cap, _, rfl, hb, h5, hn, hcm, by simpa using hcs, ?_⟩
    have hcur : cur.toList = xs ++ ([z0, z1, z2, z3, z4, z5] ++ cur.toList.drop ((n + 1) * 6)) := by
      rw [← List.append_assoc, ← htake, List.take_append_drop]
    simp only [Array.toList_setIfInBounds]
    rw [hcur]
    generalize cur.toList.drop ((n + 1) * 6) = rest
    have s0 := set_at xs ([z0, z1, z2, z3, z4, z5] ++ rest) (n * 6) 0 v0 hx
    have s1 := set_at xs ([v0, z1, z2, z3, z4, z5] ++ rest) (n * 6) 1 v1 hx
    have s2 := set_at xs ([v0, v1, z2, z3, z4, z5] ++ rest) (n * 6) 2 v2 hx
    have s3 := set_at xs ([v0, v1, v2, z3, z4, z5] ++ rest) (n * 6) 3 v3 hx
    have s4 := set_at xs ([v0, v1, v2, v3, z4, z5] ++ rest) (n * 6) 4 v4 hx
    have s5 := set_at xs ([v0, v1, v2, v3, v4, z5] ++ rest) (n * 6) 5 v5 hx
    simp only [Nat.add_zero, List.cons_append, List.set_cons_zero, List.set_cons_succ, List.nil_append] at s0 s1 s2 s3 s4 s5 ⊢
    rw [s0, s1, s2, s3, s4, s5]
    have hl : (n + 1) * 6 = (xs ++ [v0, v1, v2, v3, v4, v5]).length := by simp; omega
    rw [hl]
    have : xs ++ v0 :: v1 :: v2 :: v3 :: v4 :: v5 :: rest = (xs ++ [v0, v1, v2, v3, v4, v5]) ++ rest := by simp
    rw [this]
    exact List.take_left

theorem put5_other {w : World} {g o k : Nat} {v0 v1 v2 v3 v4 : Value} (h : k ≠ g) : (put5 g o v0 v1 v2 v3 v4 w).heap[k]? = w.heap[k]? := by
  unfold put5
  rw [Below.heap_setCell _ _ _ _ h, Below.heap_setCell _ _ _ _ h, Below.heap_setCell _ _ _ _ h, Below.heap_setCell _ _ _ _ h, Below.heap_setCell _ _ _ _ h]
theorem put6_other {w : World} {g o k : Nat} {v0 v1 v2 v3 v4 v5 : Value} (h : k ≠ g) : (put6 g o v0 v1 v2 v3 v4 v5 w).heap[k]? = w.heap[k]? := by
  unfold put6
  rw [Below.heap_setCell _ _ _ _ h, put5_other h]
theorem Fr.put5 {M : Nat → Obj → Prop} {w w1 : World} (h : Fr M w w1) (g o : Nat) (v0 v1 v2 v3 v4 : Value) (hg : ∀ x, w.heap[g]? = some x → M g x) : Fr M w (put5 g o v0 v1 v2 v3 v4 w1) :=
  ((((h.setCell _ _ hg).setCell _ _ hg).setCell _ _ hg).setCell _ _ hg).setCell _ _ hg
theorem Fr.put6 {M : Nat → Obj → Prop} {w w1 : World} (h : Fr M w w1) (g o : Nat) (v0 v1 v2 v3 v4 v5 : Value) (hg : ∀ x, w.heap[g]? = some x → M g x) : Fr M w (put6 g o v0 v1 v2 v3 v4 v5 w1) :=
  (h.put5 g o v0 v1 v2 v3 v4 hg).setCell _ _ hg
/-- two worlds that part in two blocks alone -/
structure But2 (g b : Nat) (w w' : World) : Prop where
  os : w'.os = w.os
  tape : w'.tape = w.tape
  output : w'.output = w.output
  size : w'.heap.size = w.heap.size
  block : ∀ k, k ≠ g → k ≠ b → w'.heap[k]? = w.heap[k]?
theorem os_setCell (w : World) (a : Addr) (v : Value) : (w.setCell a v).os = w.os := rfl
theorem output_setCell (w : World) (a : Addr) (v : Value) : (w.setCell a v).output = w.output := rfl
theorem But2.put5 (g b o c : Nat) (v0 v1 v2 v3 v4 x : Value) (w : World) : But2 g b w ((put5 g o v0 v1 v2 v3 v4 w).setCell ⟨b, c, none⟩ x) :=
  ⟨by simp only [Go.Proofs.YtcddlemkimbkcaaGreatDoor.put5, os_setCell], by simp only [Go.Proofs.YtcddlemkimbkcaaGreatDoor.put5, World.tape_setCell], by simp only [Go.Proofs.YtcddlemkimbkcaaGreatDoor.put5, output_setCell], by simp only [Go.Proofs.YtcddlemkimbkcaaGreatDoor.put5, World.size_setCell], fun k h1 h2 => by rw [Below.heap_setCell _ _ _ _ h2, put5_other h1]⟩
theorem But2.put5' (g b o c : Nat) (v0 v1 v2 v3 v4 x : Value) (w : World) : But2 g b w (Go.Proofs.YtcddlemkimbkcaaGreatDoor.put5 g o v0 v1 v2 v3 v4 (w.setCell ⟨b, c, none⟩ x)) :=
  ⟨by simp only [Go.Proofs.YtcddlemkimbkcaaGreatDoor.put5, os_setCell], by simp only [Go.Proofs.YtcddlemkimbkcaaGreatDoor.put5, World.tape_setCell], by simp only [Go.Proofs.YtcddlemkimbkcaaGreatDoor.put5, output_setCell], by simp only [Go.Proofs.YtcddlemkimbkcaaGreatDoor.put5, World.size_setCell], fun k h1 h2 => by rw [put5_other h1, Below.heap_setCell _ _ _ _ h2]⟩
theorem But2.put6 (g b o c : Nat) (v0 v1 v2 v3 v4 v5 x : Value) (w : World) : But2 g b w ((put6 g o v0 v1 v2 v3 v4 v5 w).setCell ⟨b, c, none⟩ x) :=
  ⟨by simp only [Go.Proofs.YtcddlemkimbkcaaGreatDoor.put6, Go.Proofs.YtcddlemkimbkcaaGreatDoor.put5, os_setCell], by simp only [Go.Proofs.YtcddlemkimbkcaaGreatDoor.put6, Go.Proofs.YtcddlemkimbkcaaGreatDoor.put5, World.tape_setCell], by simp only [Go.Proofs.YtcddlemkimbkcaaGreatDoor.put6, Go.Proofs.YtcddlemkimbkcaaGreatDoor.put5, output_setCell], by simp only [Go.Proofs.YtcddlemkimbkcaaGreatDoor.put6, Go.Proofs.YtcddlemkimbkcaaGreatDoor.put5, World.size_setCell], fun k h1 h2 => by rw [Below.heap_setCell _ _ _ _ h2, put6_other h1]⟩
theorem But2.put6' (g b o c : Nat) (v0 v1 v2 v3 v4 v5 x : Value) (w : World) : But2 g b w (Go.Proofs.YtcddlemkimbkcaaGreatDoor.put6 g o v0 v1 v2 v3 v4 v5 (w.setCell ⟨b, c, none⟩ x)) :=
  ⟨by simp only [Go.Proofs.YtcddlemkimbkcaaGreatDoor.put6, Go.Proofs.YtcddlemkimbkcaaGreatDoor.put5, os_setCell], by simp only [Go.Proofs.YtcddlemkimbkcaaGreatDoor.put6, Go.Proofs.YtcddlemkimbkcaaGreatDoor.put5, World.tape_setCell], by simp only [Go.Proofs.YtcddlemkimbkcaaGreatDoor.put6, Go.Proofs.YtcddlemkimbkcaaGreatDoor.put5, output_setCell], by simp only [Go.Proofs.YtcddlemkimbkcaaGreatDoor.put6, Go.Proofs.YtcddlemkimbkcaaGreatDoor.put5, World.size_setCell], fun k h1 h2 => by rw [put6_other h1, Below.heap_setCell _ _ _ _ h2]⟩
theorem But2.fr {g b : Nat} {w w' : World} (h : But2 g b w w') : Fr (fun k _ => k = g ∨ k = b) w w' :=
  ⟨h.os, h.tape, h.output, by rw [h.size]; exact Nat.le_refl _, fun k o hk hn => by rw [h.block k (fun e => hn (.inl e)) (fun e => hn (.inr e))]; exact hk⟩
/-- what two new blocks and an append keep -/
theorem region_keep {w1 w2 : World} {X Z : Obj} {row : Option Nat} (hgr : ((w1.alloc X).alloc Z).drew.grownBy w2 row) {k : Nat} (hk : k < w1.heap.size) (hne : row ≠ some k) : w2.heap[k]? = w1.heap[k]? := by
  rw [hgr.block k (by simp; omega) (fun e => hne e.symm)]
  show ((w1.alloc X).alloc Z).heap[k]? = _
  rw [Below.heap_alloc _ _ _ (by simp; omega), Below.heap_alloc _ _ _ hk]
theorem region_fr {w1 w2 : World} {X Z : Obj} {row : Option Nat} (hgr : ((w1.alloc X).alloc Z).drew.grownBy w2 row) : Fr (fun k _ => row = some k) w1 w2 :=
  ⟨hgr.os, hgr.tape, hgr.output, by have := hgr.size; simp at this; omega, fun k o hk hn => by rw [region_keep hgr (get_lt hk) hn]; exact hk⟩
theorem cells_at (w : World) (T : TypeId) (xs : List Value) (n : Nat) (hn : n = w.heap.size) : ∀ j u, xs[j]? = some u → (w.alloc (.cells xs.toArray T)).cell? ((⟨n, 0, none⟩ : Addr).add j) = some u := by
  subst hn
  intro j u hj
  rw [Addr.add_lit]
  simpa using hj
theorem cells_new (w : World) (T : TypeId) (xs : List Value) : ∀ j u, xs[j]? = some u → (w.alloc (.cells xs.toArray T)).cell? ((⟨w.heap.size, 0, none⟩ : Addr).add j) = some u := by
  intro j u hj
  rw [Addr.add_lit]
  simpa using hj
/-- an owned row stays where its block stays -/
theorem own_same {w w' : World} {B : Nat} {e : TypeId} {size : Nat} {v : Value} {n : Nat} {xs : List Value} (h : w.ownsRow B e size v n xs)
    (hk : ∀ k, v.ownBlock = some k → w'.heap[k]? = w.heap[k]?) : w'.ownsRow B e size v n xs := by
  refine ⟨h.1, ?_⟩
  rcases h.2 with h1 | ⟨g, cap, cur, rfl, hb, hg, rest⟩
  · exact .inl h1
  · exact .inr ⟨g, cap, cur, rfl, hb, by rw [hk g rfl]; exact hg, rest⟩
theorem own_ty {w : World} {B : Nat} {e : TypeId} {size : Nat} {v : Value} {n : Nat} {xs : List Value} (h : w.ownsRow B e size v n xs) :
    ∀ k, v.ownBlock = some k → B ≤ k ∧ ∃ o, w.heap[k]? = some o ∧ OfTy e o := by
  intro k hk
  rcases h.2 with ⟨rfl, _⟩ | ⟨g, cap, cur, rfl, hb, hg, rest⟩
  · simp [Value.ownBlock] at hk
  · simp [Value.ownBlock] at hk
    subst hk
    exact ⟨hb, _, hg, _, _, rfl⟩
theorem own_fr {M : Nat → Obj → Prop} {w w' : World} {B : Nat} {e : TypeId} {size : Nat} {v : Value} {n : Nat} {xs : List Value} (h : w.ownsRow B e size v n xs) (hF : Fr M w w')
    (hM : ∀ k o, v.ownBlock = some k → B ≤ k → OfTy e o → ¬ M k o) : w'.ownsRow B e size v n xs :=
  own_same h (fun k hk => by
    obtain ⟨hb, o, ho, ht⟩ := own_ty h k hk
    rw [ho]; exact hF.block k o ho (hM k o hk hb ht))
/-- the value of an owned row, written out -/
theorem own_form {w : World} {B : Nat} {e : TypeId} {size : Nat} {v : Value} {n : Nat} {xs : List Value} (h : w.ownsRow B e size v n xs) : ∃ a c, v = .slice a n c := by
  rcases h.2 with ⟨rfl, rfl⟩ | ⟨g, cap, cur, rfl, _⟩
  · exact ⟨_, _, rfl⟩
  · exact ⟨_, _, rfl⟩
end Go.Proofs.YtcddlemkimbkcaaGreatDoor
