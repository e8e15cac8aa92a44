/-
  The walk of the reference's Good.
-/
import Derived.Test.YtbfmpbhikipipaaGreatDoorKValid
import Derived.Test.YtbfmpbhikipipaaGreatDoorKSound3
import Derived.Test.YtbfmpbhikipipaaGreatDoorKLen
import Derived.Test.YtbfmpbhikipipaaGreatDoorKRefText
import Derived.BigQuiet
namespace Go.Proofs.YtbfmpbhikipipaaGreatDoor
set_option linter.unusedVariables false
set_option linter.unusedSimpArgs false
set_option linter.unusedSectionVars false
open Go.RowKit
variable [OldK]

def GoodOk (f : Nat) : Prop := ∀ (d : Int) (S : Nat → Prop) (j : J) (v : Value) (w : World), RJ S w j v → fits 67108864 j = true → 0 ≤ d → d + f = 8 →
  Calls Tryz.prog 26 #[v, .int .i64 d] w fun e w' => e = .returned (.bool (pSound d j)) ∧ Fr NoB w w'
set_option maxRecDepth 100000 in
set_option maxHeartbeats 1000000 in
theorem good_neg (d : Int) (S : Nat → Prop) (k : Int) (n : Int) (t : Bs) (l : List J) (p : List (Bs × J)) (v : Value) (w : World) (h : RJ S w (.mk k n t l p) v)
    (hk : k < 0) :
    Calls Tryz.prog 26 #[v, .int .i64 d] w fun e w' => e = .returned (.bool false) ∧ Fr NoB w w' := by
  obtain ⟨a1, c1, a2, c2, rfl, hl, hp⟩ := h.open
  clear h hl hp
  try simp only [List.length_nil, List.length_cons]
  obtain ⟨a0, a1', a2', a3, a4, fz, hlt1⟩ := VB.at (heap_alloc_new w (.cells #[.int .i64 k, .int .i64 n, .string ⟨t.toArray⟩, .slice a1 l.length c1, .slice a2 p.length c2] 25))
  go_enter Tryz.func26, Tryz.ntmps26
  go_wp2_with fail
  all_goals
    go_ret
    exact ⟨rfl, Fr.refl.alloc _⟩
set_option maxRecDepth 100000 in
set_option maxHeartbeats 1000000 in
theorem good_big (d : Int) (S : Nat → Prop) (k : Int) (n : Int) (t : Bs) (l : List J) (p : List (Bs × J)) (v : Value) (w : World) (h : RJ S w (.mk k n t l p) v)
    (hk0 : 0 ≤ k) (hk : 5 < k) :
    Calls Tryz.prog 26 #[v, .int .i64 d] w fun e w' => e = .returned (.bool false) ∧ Fr NoB w w' := by
  obtain ⟨a1, c1, a2, c2, rfl, hl, hp⟩ := h.open
  clear h hl hp
  try simp only [List.length_nil, List.length_cons]
  obtain ⟨a0, a1', a2', a3, a4, fz, hlt1⟩ := VB.at (heap_alloc_new w (.cells #[.int .i64 k, .int .i64 n, .string ⟨t.toArray⟩, .slice a1 l.length c1, .slice a2 p.length c2] 25))
  go_enter Tryz.func26, Tryz.ntmps26
  go_wp2_with fail
  all_goals
    go_ret
    exact ⟨rfl, Fr.refl.alloc _⟩
set_option maxRecDepth 100000 in
set_option maxHeartbeats 1000000 in
theorem good_list' (d : Int) (S : Nat → Prop) (k : Int) (n : Int) (t : Bs) (z : J) (l : List J) (p : List (Bs × J)) (v : Value) (w : World) (h : RJ S w (.mk k n t (z :: l) p) v)
    (hk0 : 0 ≤ k) (hk : k ≤ 5) (h4 : (k != 4) = true) :
    Calls Tryz.prog 26 #[v, .int .i64 d] w fun e w' => e = .returned (.bool false) ∧ Fr NoB w w' := by
  obtain ⟨a1, c1, a2, c2, rfl, hl, hp⟩ := h.open
  clear h hl hp
  try simp only [List.length_nil, List.length_cons]
  obtain ⟨a0, a1', a2', a3, a4, fz, hlt1⟩ := VB.at (heap_alloc_new w (.cells #[.int .i64 k, .int .i64 n, .string ⟨t.toArray⟩, .slice a1 (l.length + 1) c1, .slice a2 p.length c2] 25))
  go_enter Tryz.func26, Tryz.ntmps26
  go_wp2_with fail
  all_goals
    go_ret
    exact ⟨rfl, Fr.refl.alloc _⟩
set_option maxRecDepth 100000 in
set_option maxHeartbeats 1000000 in
theorem good_pairs4 (d : Int) (S : Nat → Prop) (n : Int) (t : Bs) (l : List J) (z : Bs × J) (p : List (Bs × J)) (v : Value) (w : World) (h : RJ S w (.mk 4 n t l (z :: p)) v)
    (hd : True) :
    Calls Tryz.prog 26 #[v, .int .i64 d] w fun e w' => e = .returned (.bool false) ∧ Fr NoB w w' := by
  obtain ⟨a1, c1, a2, c2, rfl, hl, hp⟩ := h.open
  clear h hl hp
  try simp only [List.length_nil, List.length_cons]
  obtain ⟨a0, a1', a2', a3, a4, fz, hlt1⟩ := VB.at (heap_alloc_new w (.cells #[.int .i64 4, .int .i64 n, .string ⟨t.toArray⟩, .slice a1 l.length c1, .slice a2 (p.length + 1) c2] 25))
  go_enter Tryz.func26, Tryz.ntmps26
  go_wp2_with fail
  all_goals
    go_ret
    exact ⟨rfl, Fr.refl.alloc _⟩
set_option maxRecDepth 100000 in
set_option maxHeartbeats 1000000 in
theorem good_pairs (d : Int) (S : Nat → Prop) (k : Int) (n : Int) (t : Bs) (z : Bs × J) (p : List (Bs × J)) (v : Value) (w : World) (h : RJ S w (.mk k n t [] (z :: p)) v)
    (hk0 : 0 ≤ k) (hk : k ≤ 5) (h5 : (k != 5) = true) :
    Calls Tryz.prog 26 #[v, .int .i64 d] w fun e w' => e = .returned (.bool false) ∧ Fr NoB w w' := by
  obtain ⟨a1, c1, a2, c2, rfl, hl, hp⟩ := h.open
  clear h hl hp
  try simp only [List.length_nil, List.length_cons]
  obtain ⟨a0, a1', a2', a3, a4, fz, hlt1⟩ := VB.at (heap_alloc_new w (.cells #[.int .i64 k, .int .i64 n, .string ⟨t.toArray⟩, .slice a1 0 c1, .slice a2 (p.length + 1) c2] 25))
  go_enter Tryz.func26, Tryz.ntmps26
  go_wp2_with fail
  all_goals
    go_ret
    exact ⟨rfl, Fr.refl.alloc _⟩
set_option maxRecDepth 100000 in
set_option maxHeartbeats 1000000 in
theorem good_text4 (d : Int) (S : Nat → Prop) (n : Int) (z : UInt8) (t : Bs) (l : List J) (v : Value) (w : World) (h : RJ S w (.mk 4 n (z :: t) l []) v)
    (hd : True) :
    Calls Tryz.prog 26 #[v, .int .i64 d] w fun e w' => e = .returned (.bool false) ∧ Fr NoB w w' := by
  obtain ⟨a1, c1, a2, c2, rfl, hl, hp⟩ := h.open
  clear h hl hp
  try simp only [List.length_nil, List.length_cons]
  obtain ⟨a0, a1', a2', a3, a4, fz, hlt1⟩ := VB.at (heap_alloc_new w (.cells #[.int .i64 4, .int .i64 n, .string ⟨(z :: t).toArray⟩, .slice a1 l.length c1, .slice a2 0 c2] 25))
  go_enter Tryz.func26, Tryz.ntmps26
  go_wp2_with fail
  all_goals
    go_ret
    exact ⟨rfl, Fr.refl.alloc _⟩
set_option maxRecDepth 100000 in
set_option maxHeartbeats 1000000 in
theorem good_text5 (d : Int) (S : Nat → Prop) (n : Int) (z : UInt8) (t : Bs) (p : List (Bs × J)) (v : Value) (w : World) (h : RJ S w (.mk 5 n (z :: t) [] p) v)
    (hd : True) :
    Calls Tryz.prog 26 #[v, .int .i64 d] w fun e w' => e = .returned (.bool false) ∧ Fr NoB w w' := by
  obtain ⟨a1, c1, a2, c2, rfl, hl, hp⟩ := h.open
  clear h hl hp
  try simp only [List.length_nil, List.length_cons]
  obtain ⟨a0, a1', a2', a3, a4, fz, hlt1⟩ := VB.at (heap_alloc_new w (.cells #[.int .i64 5, .int .i64 n, .string ⟨(z :: t).toArray⟩, .slice a1 0 c1, .slice a2 p.length c2] 25))
  go_enter Tryz.func26, Tryz.ntmps26
  go_wp2_with fail
  all_goals
    go_ret
    exact ⟨rfl, Fr.refl.alloc _⟩
set_option maxRecDepth 100000 in
set_option maxHeartbeats 1000000 in
theorem good_text (d : Int) (S : Nat → Prop) (k : Int) (n : Int) (z : UInt8) (t : Bs) (v : Value) (w : World) (h : RJ S w (.mk k n (z :: t) [] []) v)
    (hk0 : 0 ≤ k) (hk : k ≤ 5) (h3 : (k != 3) = true) :
    Calls Tryz.prog 26 #[v, .int .i64 d] w fun e w' => e = .returned (.bool false) ∧ Fr NoB w w' := by
  obtain ⟨a1, c1, a2, c2, rfl, hl, hp⟩ := h.open
  clear h hl hp
  try simp only [List.length_nil, List.length_cons]
  obtain ⟨a0, a1', a2', a3, a4, fz, hlt1⟩ := VB.at (heap_alloc_new w (.cells #[.int .i64 k, .int .i64 n, .string ⟨(z :: t).toArray⟩, .slice a1 0 c1, .slice a2 0 c2] 25))
  go_enter Tryz.func26, Tryz.ntmps26
  go_wp2_with fail
  all_goals
    go_ret
    exact ⟨rfl, Fr.refl.alloc _⟩
set_option maxRecDepth 100000 in
set_option maxHeartbeats 1000000 in
theorem good_bool (d : Int) (S : Nat → Prop) (n : Int) (v : Value) (w : World) (h : RJ S w (.mk 1 n [] [] []) v)
    (h0 : (n != 0) = true) (h1 : (n != 1) = true) :
    Calls Tryz.prog 26 #[v, .int .i64 d] w fun e w' => e = .returned (.bool false) ∧ Fr NoB w w' := by
  obtain ⟨a1, c1, a2, c2, rfl, hl, hp⟩ := h.open
  clear h hl hp
  try simp only [List.length_nil, List.length_cons]
  obtain ⟨a0, a1', a2', a3, a4, fz, hlt1⟩ := VB.at (heap_alloc_new w (.cells #[.int .i64 1, .int .i64 n, .string ⟨[].toArray⟩, .slice a1 0 c1, .slice a2 0 c2] 25))
  go_enter Tryz.func26, Tryz.ntmps26
  go_wp2_with fail
  all_goals
    go_ret
    exact ⟨rfl, Fr.refl.alloc _⟩
set_option maxRecDepth 100000 in
set_option maxHeartbeats 1000000 in
theorem good_low (d : Int) (S : Nat → Prop) (n : Int) (v : Value) (w : World) (h : RJ S w (.mk 2 n [] [] []) v)
    (hd : n < -9007199254740991) :
    Calls Tryz.prog 26 #[v, .int .i64 d] w fun e w' => e = .returned (.bool false) ∧ Fr NoB w w' := by
  obtain ⟨a1, c1, a2, c2, rfl, hl, hp⟩ := h.open
  clear h hl hp
  try simp only [List.length_nil, List.length_cons]
  obtain ⟨a0, a1', a2', a3, a4, fz, hlt1⟩ := VB.at (heap_alloc_new w (.cells #[.int .i64 2, .int .i64 n, .string ⟨[].toArray⟩, .slice a1 0 c1, .slice a2 0 c2] 25))
  go_enter Tryz.func26, Tryz.ntmps26
  go_wp2_with fail
  all_goals
    go_ret
    exact ⟨rfl, Fr.refl.alloc _⟩
set_option maxRecDepth 100000 in
set_option maxHeartbeats 1000000 in
theorem good_high (d : Int) (S : Nat → Prop) (n : Int) (v : Value) (w : World) (h : RJ S w (.mk 2 n [] [] []) v)
    (h0 : -9007199254740991 ≤ n) (hd : 9007199254740991 < n) :
    Calls Tryz.prog 26 #[v, .int .i64 d] w fun e w' => e = .returned (.bool false) ∧ Fr NoB w w' := by
  obtain ⟨a1, c1, a2, c2, rfl, hl, hp⟩ := h.open
  clear h hl hp
  try simp only [List.length_nil, List.length_cons]
  obtain ⟨a0, a1', a2', a3, a4, fz, hlt1⟩ := VB.at (heap_alloc_new w (.cells #[.int .i64 2, .int .i64 n, .string ⟨[].toArray⟩, .slice a1 0 c1, .slice a2 0 c2] 25))
  go_enter Tryz.func26, Tryz.ntmps26
  go_wp2_with fail
  all_goals
    go_ret
    exact ⟨rfl, Fr.refl.alloc _⟩
set_option maxRecDepth 100000 in
set_option maxHeartbeats 1000000 in
theorem good_n0 (d : Int) (S : Nat → Prop) (n : Int) (v : Value) (w : World) (h : RJ S w (.mk 0 n [] [] []) v)
    (h0 : (n != 0) = true) :
    Calls Tryz.prog 26 #[v, .int .i64 d] w fun e w' => e = .returned (.bool false) ∧ Fr NoB w w' := by
  obtain ⟨a1, c1, a2, c2, rfl, hl, hp⟩ := h.open
  clear h hl hp
  try simp only [List.length_nil, List.length_cons]
  obtain ⟨a0, a1', a2', a3, a4, fz, hlt1⟩ := VB.at (heap_alloc_new w (.cells #[.int .i64 0, .int .i64 n, .string ⟨[].toArray⟩, .slice a1 0 c1, .slice a2 0 c2] 25))
  go_enter Tryz.func26, Tryz.ntmps26
  go_wp2_with fail
  all_goals
    go_ret
    exact ⟨rfl, Fr.refl.alloc _⟩
set_option maxRecDepth 100000 in
set_option maxHeartbeats 1000000 in
theorem good_n3 (d : Int) (S : Nat → Prop) (n : Int) (t : Bs) (v : Value) (w : World) (h : RJ S w (.mk 3 n t [] []) v)
    (h0 : (n != 0) = true) :
    Calls Tryz.prog 26 #[v, .int .i64 d] w fun e w' => e = .returned (.bool false) ∧ Fr NoB w w' := by
  obtain ⟨a1, c1, a2, c2, rfl, hl, hp⟩ := h.open
  clear h hl hp
  try simp only [List.length_nil, List.length_cons]
  obtain ⟨a0, a1', a2', a3, a4, fz, hlt1⟩ := VB.at (heap_alloc_new w (.cells #[.int .i64 3, .int .i64 n, .string ⟨t.toArray⟩, .slice a1 0 c1, .slice a2 0 c2] 25))
  go_enter Tryz.func26, Tryz.ntmps26
  go_wp2_with fail
  all_goals
    go_ret
    exact ⟨rfl, Fr.refl.alloc _⟩
set_option maxRecDepth 100000 in
set_option maxHeartbeats 1000000 in
theorem good_n4 (d : Int) (S : Nat → Prop) (n : Int) (l : List J) (v : Value) (w : World) (h : RJ S w (.mk 4 n [] l []) v)
    (h0 : (n != 0) = true) :
    Calls Tryz.prog 26 #[v, .int .i64 d] w fun e w' => e = .returned (.bool false) ∧ Fr NoB w w' := by
  obtain ⟨a1, c1, a2, c2, rfl, hl, hp⟩ := h.open
  clear h hl hp
  try simp only [List.length_nil, List.length_cons]
  obtain ⟨a0, a1', a2', a3, a4, fz, hlt1⟩ := VB.at (heap_alloc_new w (.cells #[.int .i64 4, .int .i64 n, .string ⟨[].toArray⟩, .slice a1 l.length c1, .slice a2 0 c2] 25))
  go_enter Tryz.func26, Tryz.ntmps26
  go_wp2_with fail
  all_goals
    go_ret
    exact ⟨rfl, Fr.refl.alloc _⟩
set_option maxRecDepth 100000 in
set_option maxHeartbeats 1000000 in
theorem good_n5 (d : Int) (S : Nat → Prop) (n : Int) (p : List (Bs × J)) (v : Value) (w : World) (h : RJ S w (.mk 5 n [] [] p) v)
    (h0 : (n != 0) = true) :
    Calls Tryz.prog 26 #[v, .int .i64 d] w fun e w' => e = .returned (.bool false) ∧ Fr NoB w w' := by
  obtain ⟨a1, c1, a2, c2, rfl, hl, hp⟩ := h.open
  clear h hl hp
  try simp only [List.length_nil, List.length_cons]
  obtain ⟨a0, a1', a2', a3, a4, fz, hlt1⟩ := VB.at (heap_alloc_new w (.cells #[.int .i64 5, .int .i64 n, .string ⟨[].toArray⟩, .slice a1 0 c1, .slice a2 p.length c2] 25))
  go_enter Tryz.func26, Tryz.ntmps26
  go_wp2_with fail
  all_goals
    go_ret
    exact ⟨rfl, Fr.refl.alloc _⟩
set_option maxRecDepth 100000 in
set_option maxHeartbeats 1000000 in
theorem good_d4 (d : Int) (S : Nat → Prop) (l : List J) (v : Value) (w : World) (h : RJ S w (.mk 4 0 [] l []) v)
    (hd : 8 ≤ d) :
    Calls Tryz.prog 26 #[v, .int .i64 d] w fun e w' => e = .returned (.bool false) ∧ Fr NoB w w' := by
  obtain ⟨a1, c1, a2, c2, rfl, hl, hp⟩ := h.open
  clear h hl hp
  try simp only [List.length_nil, List.length_cons]
  obtain ⟨a0, a1', a2', a3, a4, fz, hlt1⟩ := VB.at (heap_alloc_new w (.cells #[.int .i64 4, .int .i64 0, .string ⟨[].toArray⟩, .slice a1 l.length c1, .slice a2 0 c2] 25))
  go_enter Tryz.func26, Tryz.ntmps26
  go_wp2_with fail
  all_goals
    go_ret
    exact ⟨rfl, Fr.refl.alloc _⟩
set_option maxRecDepth 100000 in
set_option maxHeartbeats 1000000 in
theorem good_d5 (d : Int) (S : Nat → Prop) (p : List (Bs × J)) (v : Value) (w : World) (h : RJ S w (.mk 5 0 [] [] p) v)
    (hd : 8 ≤ d) :
    Calls Tryz.prog 26 #[v, .int .i64 d] w fun e w' => e = .returned (.bool false) ∧ Fr NoB w w' := by
  obtain ⟨a1, c1, a2, c2, rfl, hl, hp⟩ := h.open
  clear h hl hp
  try simp only [List.length_nil, List.length_cons]
  obtain ⟨a0, a1', a2', a3, a4, fz, hlt1⟩ := VB.at (heap_alloc_new w (.cells #[.int .i64 5, .int .i64 0, .string ⟨[].toArray⟩, .slice a1 0 c1, .slice a2 p.length c2] 25))
  go_enter Tryz.func26, Tryz.ntmps26
  go_wp2_with fail
  all_goals
    go_ret
    exact ⟨rfl, Fr.refl.alloc _⟩
set_option maxRecDepth 100000 in
set_option maxHeartbeats 1000000 in
theorem good_flat0 (d : Int) (S : Nat → Prop)  (v : Value) (w : World) (h : RJ S w (.mk 0 0 [] [] []) v) (hd : True) :
    Calls Tryz.prog 26 #[v, .int .i64 d] w fun e w' => e = .returned (.bool true) ∧ Fr NoB w w' := by
  obtain ⟨a1, c1, a2, c2, rfl, hl, hp⟩ := h.open
  clear h hl hp
  try simp only [List.length_nil]
  have hbx := heap_alloc_new w (.cells #[.int .i64 0, .int .i64 0, .string ⟨[].toArray⟩, .slice a1 0 c1, .slice a2 0 c2] 25)
  obtain ⟨a0, a1', a2', a3, a4, fz, hlt1⟩ := VB.at hbx
  have hf0 := (Fr.refl (M := NoB)).alloc (w := w) (.cells #[.int .i64 0, .int .i64 0, .string ⟨[].toArray⟩, .slice a1 0 c1, .slice a2 0 c2] 25)
  have Hf0 := Lib.hid hf0
  have Hbx := Lib.hid hbx
  clear hbx hf0
  obtain ⟨W0, hW0⟩ : ∃ W0, w.alloc (.cells #[.int .i64 0, .int .i64 0, .string ⟨[].toArray⟩, .slice a1 0 c1, .slice a2 0 c2] 25) = W0 := ⟨_, rfl⟩
  have HW0 := Lib.hid hW0
  clear hW0
  go_enter Tryz.func26, Tryz.ntmps26
  go_wp2_with fail
  go_loopg [5] 1 (fun g vi w2 => vi = .int .i64 0 ∧ Hid (Fr NoB w w2) ∧ w2.heap[w.heap.size]? = some (.cells #[.int .i64 0, .int .i64 0, .string ⟨[].toArray⟩, .slice a1 0 c1, .slice a2 0 c2] 25 (0, 0)))
  case atStart => exact ⟨rfl, Hf0, Hbx.out⟩
  case round =>
    obtain ⟨rfl, HF, hb⟩ := hrel
    obtain ⟨a0, a1', a2', a3, a4, fz, hlt1⟩ := VB.at hb
    have Hb := Lib.hid hb
    clear hb
    go_wp2_with fail
    go_loopg [6] 1 (fun g vi w2 => vi = .int .i64 0 ∧ w2 = wr)
    case atStart => exact ⟨rfl, rfl⟩
    case round =>
      obtain ⟨rfl, rfl⟩ := hrel
      go_wp2_with fail
      go_ret
      exact ⟨rfl, HF.out⟩
set_option maxRecDepth 100000 in
set_option maxHeartbeats 1000000 in
theorem good_flat1 (d : Int) (S : Nat → Prop)  (v : Value) (w : World) (h : RJ S w (.mk 1 0 [] [] []) v) (hd : True) :
    Calls Tryz.prog 26 #[v, .int .i64 d] w fun e w' => e = .returned (.bool true) ∧ Fr NoB w w' := by
  obtain ⟨a1, c1, a2, c2, rfl, hl, hp⟩ := h.open
  clear h hl hp
  try simp only [List.length_nil]
  have hbx := heap_alloc_new w (.cells #[.int .i64 1, .int .i64 0, .string ⟨[].toArray⟩, .slice a1 0 c1, .slice a2 0 c2] 25)
  obtain ⟨a0, a1', a2', a3, a4, fz, hlt1⟩ := VB.at hbx
  have hf0 := (Fr.refl (M := NoB)).alloc (w := w) (.cells #[.int .i64 1, .int .i64 0, .string ⟨[].toArray⟩, .slice a1 0 c1, .slice a2 0 c2] 25)
  have Hf0 := Lib.hid hf0
  have Hbx := Lib.hid hbx
  clear hbx hf0
  obtain ⟨W0, hW0⟩ : ∃ W0, w.alloc (.cells #[.int .i64 1, .int .i64 0, .string ⟨[].toArray⟩, .slice a1 0 c1, .slice a2 0 c2] 25) = W0 := ⟨_, rfl⟩
  have HW0 := Lib.hid hW0
  clear hW0
  go_enter Tryz.func26, Tryz.ntmps26
  go_wp2_with fail
  go_loopg [5] 1 (fun g vi w2 => vi = .int .i64 0 ∧ Hid (Fr NoB w w2) ∧ w2.heap[w.heap.size]? = some (.cells #[.int .i64 1, .int .i64 0, .string ⟨[].toArray⟩, .slice a1 0 c1, .slice a2 0 c2] 25 (0, 0)))
  case atStart => exact ⟨rfl, Hf0, Hbx.out⟩
  case round =>
    obtain ⟨rfl, HF, hb⟩ := hrel
    obtain ⟨a0, a1', a2', a3, a4, fz, hlt1⟩ := VB.at hb
    have Hb := Lib.hid hb
    clear hb
    go_wp2_with fail
    go_loopg [6] 1 (fun g vi w2 => vi = .int .i64 0 ∧ w2 = wr)
    case atStart => exact ⟨rfl, rfl⟩
    case round =>
      obtain ⟨rfl, rfl⟩ := hrel
      go_wp2_with fail
      go_ret
      exact ⟨rfl, HF.out⟩
set_option maxRecDepth 100000 in
set_option maxHeartbeats 1000000 in
theorem good_flat1b (d : Int) (S : Nat → Prop)  (v : Value) (w : World) (h : RJ S w (.mk 1 1 [] [] []) v) (hd : True) :
    Calls Tryz.prog 26 #[v, .int .i64 d] w fun e w' => e = .returned (.bool true) ∧ Fr NoB w w' := by
  obtain ⟨a1, c1, a2, c2, rfl, hl, hp⟩ := h.open
  clear h hl hp
  try simp only [List.length_nil]
  have hbx := heap_alloc_new w (.cells #[.int .i64 1, .int .i64 1, .string ⟨[].toArray⟩, .slice a1 0 c1, .slice a2 0 c2] 25)
  obtain ⟨a0, a1', a2', a3, a4, fz, hlt1⟩ := VB.at hbx
  have hf0 := (Fr.refl (M := NoB)).alloc (w := w) (.cells #[.int .i64 1, .int .i64 1, .string ⟨[].toArray⟩, .slice a1 0 c1, .slice a2 0 c2] 25)
  have Hf0 := Lib.hid hf0
  have Hbx := Lib.hid hbx
  clear hbx hf0
  obtain ⟨W0, hW0⟩ : ∃ W0, w.alloc (.cells #[.int .i64 1, .int .i64 1, .string ⟨[].toArray⟩, .slice a1 0 c1, .slice a2 0 c2] 25) = W0 := ⟨_, rfl⟩
  have HW0 := Lib.hid hW0
  clear hW0
  go_enter Tryz.func26, Tryz.ntmps26
  go_wp2_with fail
  go_loopg [5] 1 (fun g vi w2 => vi = .int .i64 0 ∧ Hid (Fr NoB w w2) ∧ w2.heap[w.heap.size]? = some (.cells #[.int .i64 1, .int .i64 1, .string ⟨[].toArray⟩, .slice a1 0 c1, .slice a2 0 c2] 25 (0, 0)))
  case atStart => exact ⟨rfl, Hf0, Hbx.out⟩
  case round =>
    obtain ⟨rfl, HF, hb⟩ := hrel
    obtain ⟨a0, a1', a2', a3, a4, fz, hlt1⟩ := VB.at hb
    have Hb := Lib.hid hb
    clear hb
    go_wp2_with fail
    go_loopg [6] 1 (fun g vi w2 => vi = .int .i64 0 ∧ w2 = wr)
    case atStart => exact ⟨rfl, rfl⟩
    case round =>
      obtain ⟨rfl, rfl⟩ := hrel
      go_wp2_with fail
      go_ret
      exact ⟨rfl, HF.out⟩
set_option maxRecDepth 100000 in
set_option maxHeartbeats 1000000 in
theorem good_flat2 (d : Int) (S : Nat → Prop) (n : Int) (v : Value) (w : World) (h : RJ S w (.mk 2 n [] [] []) v) (h1 : -9007199254740991 ≤ n) (h2 : n ≤ 9007199254740991) :
    Calls Tryz.prog 26 #[v, .int .i64 d] w fun e w' => e = .returned (.bool true) ∧ Fr NoB w w' := by
  obtain ⟨a1, c1, a2, c2, rfl, hl, hp⟩ := h.open
  clear h hl hp
  try simp only [List.length_nil]
  have hbx := heap_alloc_new w (.cells #[.int .i64 2, .int .i64 n, .string ⟨[].toArray⟩, .slice a1 0 c1, .slice a2 0 c2] 25)
  obtain ⟨a0, a1', a2', a3, a4, fz, hlt1⟩ := VB.at hbx
  have hf0 := (Fr.refl (M := NoB)).alloc (w := w) (.cells #[.int .i64 2, .int .i64 n, .string ⟨[].toArray⟩, .slice a1 0 c1, .slice a2 0 c2] 25)
  have Hf0 := Lib.hid hf0
  have Hbx := Lib.hid hbx
  clear hbx hf0
  obtain ⟨W0, hW0⟩ : ∃ W0, w.alloc (.cells #[.int .i64 2, .int .i64 n, .string ⟨[].toArray⟩, .slice a1 0 c1, .slice a2 0 c2] 25) = W0 := ⟨_, rfl⟩
  have HW0 := Lib.hid hW0
  clear hW0
  go_enter Tryz.func26, Tryz.ntmps26
  go_wp2_with fail
  go_loopg [5] 1 (fun g vi w2 => vi = .int .i64 0 ∧ Hid (Fr NoB w w2) ∧ w2.heap[w.heap.size]? = some (.cells #[.int .i64 2, .int .i64 n, .string ⟨[].toArray⟩, .slice a1 0 c1, .slice a2 0 c2] 25 (0, 0)))
  case atStart => exact ⟨rfl, Hf0, Hbx.out⟩
  case round =>
    obtain ⟨rfl, HF, hb⟩ := hrel
    obtain ⟨a0, a1', a2', a3, a4, fz, hlt1⟩ := VB.at hb
    have Hb := Lib.hid hb
    clear hb
    go_wp2_with fail
    go_loopg [6] 1 (fun g vi w2 => vi = .int .i64 0 ∧ w2 = wr)
    case atStart => exact ⟨rfl, rfl⟩
    case round =>
      obtain ⟨rfl, rfl⟩ := hrel
      go_wp2_with fail
      go_ret
      exact ⟨rfl, HF.out⟩
set_option maxRecDepth 100000 in
set_option maxHeartbeats 1000000 in
theorem good_flat3 (d : Int) (S : Nat → Prop) (t : Bs) (v : Value) (w : World) (h : RJ S w (.mk 3 0 t [] []) v) (ht : t.length ≤ 67108864) :
    Calls Tryz.prog 26 #[v, .int .i64 d] w fun e w' => e = .returned (.bool (Lib.validD t)) ∧ Fr NoB w w' := by
  obtain ⟨a1, c1, a2, c2, rfl, hl, hp⟩ := h.open
  clear h hl hp
  try simp only [List.length_nil]
  have hbx := heap_alloc_new w (.cells #[.int .i64 3, .int .i64 0, .string ⟨t.toArray⟩, .slice a1 0 c1, .slice a2 0 c2] 25)
  obtain ⟨a0, a1', a2', a3, a4, fz, hlt1⟩ := VB.at hbx
  have hf0 := (Fr.refl (M := NoB)).alloc (w := w) (.cells #[.int .i64 3, .int .i64 0, .string ⟨t.toArray⟩, .slice a1 0 c1, .slice a2 0 c2] 25)
  have Hf0 := Lib.hid hf0
  have Hbx := Lib.hid hbx
  clear hbx hf0
  have hv := fun W => refValid_c t W ht
  generalize Lib.validD t = B at *
  have Hv := Lib.hid hv
  clear hv
  cases B with
  | false =>
    go_enter Tryz.func26, Tryz.ntmps26
    go_wp2_with fail
    refine (Hv.out _).mono ?_
    rintro e w1 ⟨rfl, hF1⟩
    have HF := Lib.hid (Hf0.out.trans' hF1)
    clear hF1
    go_wp2_with fail
    go_ret
    exact ⟨rfl, HF.out⟩
  | true =>
    go_enter Tryz.func26, Tryz.ntmps26
    go_wp2_with fail
    refine (Hv.out _).mono ?_
    rintro e w1 ⟨rfl, hF1⟩
    have HF := Lib.hid (Hf0.out.trans' hF1)
    have hb := hF1.block _ _ Hbx.out (fun h => h)
    obtain ⟨a0, a1', a2', a3, a4, fz, hlt1⟩ := VB.at hb
    clear hF1 hb
    go_wp2_with fail
    go_loopg [5] 1 (fun g vi w2 => vi = .int .i64 0 ∧ w2 = w1)
    case atStart => exact ⟨rfl, rfl⟩
    case round =>
      obtain ⟨rfl, rfl⟩ := hrel
      go_wp2_with fail
      go_loopg [6] 1 (fun g vi w2 => vi = .int .i64 0 ∧ w2 = wr)
      case atStart => exact ⟨rfl, rfl⟩
      case round =>
        obtain ⟨rfl, rfl⟩ := hrel
        go_wp2_with fail
        go_ret
        exact ⟨rfl, HF.out⟩

set_option maxRecDepth 100000 in
set_option maxHeartbeats 2000000 in
theorem good_list (f : Nat) (ih : GoodOk f) (d : Int) (S : Nat → Prop) (l : List J) (v : Value) (w : World) (h : RJ S w (.mk 4 0 [] l []) v) (hfit : fitsl 67108864 l = true) (hll : l.length ≤ 67108864) (hd : 0 ≤ d) (hd8 : d + 1 + f = 8) :
    Calls Tryz.prog 26 #[v, .int .i64 d] w fun e w' => e = .returned (.bool (pSounds (d + 1) l)) ∧ Fr NoB w w' := by
  obtain ⟨a1, c1, a2, c2, rfl, hl, hp⟩ := h.open
  clear h hp
  try simp only [List.length_nil]
  have hbx := heap_alloc_new w (.cells #[.int .i64 4, .int .i64 0, .string ⟨#[]⟩, .slice a1 l.length c1, .slice a2 0 c2] 25)
  obtain ⟨a0, a1', a2', a3, a4, fz, hlt1⟩ := VB.at hbx
  have hd1 : d < 8 := by omega
  generalize hR : pSounds (d + 1) l = R
  have HR := Lib.hid hR
  clear hR
  have Hl := Lib.hid hl
  clear hl
  have hf0 := (Fr.refl (M := NoB)).alloc (w := w) (.cells #[.int .i64 4, .int .i64 0, .string ⟨#[]⟩, .slice a1 l.length c1, .slice a2 0 c2] 25)
  have Hf0 := Lib.hid hf0
  have Hbx := Lib.hid hbx
  clear hbx hf0
  go_enter Tryz.func26, Tryz.ntmps26
  go_wp2_with fail
  go_loopg [5] (l.length + 1) (fun g vi wr => ∃ i : Nat, vi = .int .i64 i ∧ i ≤ l.length ∧ i + g = l.length + 1 ∧ Fr NoB (w.alloc (.cells #[.int .i64 4, .int .i64 0, .string ⟨#[]⟩, .slice a1 l.length c1, .slice a2 0 c2] 25)) wr ∧ Hid (pSounds (d + 1) (l.drop i) = R))
  case atStart => exact ⟨0, rfl, by omega, by omega, Fr.refl, HR⟩
  case round =>
    obtain ⟨i, rfl, hi, hgk, hF, hS⟩ := hrel
    obtain ⟨a0, a1', a2', a3, a4, fz, hlt1⟩ := VB.at (hF.block _ _ Hbx.out (fun h => h))
    rcases Nat.lt_or_ge i l.length with hlt | hge
    · obtain ⟨j, hj⟩ : ∃ j, l[i]? = some j := ⟨_, List.getElem?_eq_getElem hlt⟩
      obtain ⟨b, o, x0, x1, x2, x3, x4, rfl, hbl, e0, e1, e2, e3, e4, hrj⟩ := (Hl.out.kp (Kp.ofFr (Hf0.out.trans' hF))).at hj
      have Hrj := Lib.hid hrj
      clear hrj
      have hS2 := hS.out
      rw [drop_at hj, pSounds] at hS2
      obtain ⟨bv, hbv⟩ : ∃ bv, pSound (d + 1) j = bv := ⟨_, rfl⟩
      rw [hbv] at hS2
      have HS2 := Lib.hid hS2
      have Hbv := Lib.hid hbv
      have HF := Lib.hid hF
      have hfj := fitsl.at l hfit i _ hj
      clear hS2 hbv hS hF hj
      cases bv
      · go_wp2_with fail
        refine (ih (d + 1) S j _ _ Hrj.out hfj (by omega) hd8).mono ?_
        rintro e w1 ⟨rfl, hF1⟩
        rw [Hbv.out]
        have HF2 := Lib.hid (Hf0.out.trans' (HF.out.trans' hF1))
        clear hF1
        go_wp2_with fail
        go_ret
        have hR := HS2.out
        simp at hR
        subst hR
        exact ⟨rfl, HF2.out⟩
      · go_wp2_with fail
        refine (ih (d + 1) S j _ _ Hrj.out hfj (by omega) hd8).mono ?_
        rintro e w1 ⟨rfl, hF1⟩
        rw [Hbv.out]
        have HF2 := Lib.hid (HF.out.trans' hF1)
        clear hF1
        go_wp2_with fail
        go_roundg (gk - 1)
        case measure => omega
        case rel => exact ⟨i + 1, by simp, by omega, by omega, HF2.out, by have := HS2.out; simp at this; exact this⟩
    · obtain rfl : i = l.length := by omega
      have hR := hS.out
      simp [pSounds] at hR
      subst hR
      have HF := Lib.hid (Hf0.out.trans' hF)
      clear hF hS
      go_wp2_with fail
      go_loopg [6] 1 (fun g vi w2 => vi = .int .i64 0 ∧ w2 = wr)
      case atStart => exact ⟨rfl, rfl⟩
      case round =>
        obtain ⟨rfl, rfl⟩ := hrel
        go_wp2_with fail
        go_ret
        exact ⟨by simp, HF.out⟩
set_option maxRecDepth 100000 in
set_option maxHeartbeats 4000000 in
theorem good_object (f : Nat) (ih : GoodOk f) (d : Int) (S : Nat → Prop) (p : List (Bs × J)) (v : Value) (w : World) (h : RJ S w (.mk 5 0 [] [] p) v) (hfit : fitsp 67108864 p = true) (hll : p.length ≤ 67108864) (hd : 0 ≤ d) (hd8 : d + 1 + f = 8) :
    Calls Tryz.prog 26 #[v, .int .i64 d] w fun e w' => e = .returned (.bool (pSoundp (d + 1) [] p)) ∧ Fr NoB w w' := by
  obtain ⟨a1, c1, a2, c2, rfl, hl, hp⟩ := h.open
  clear h hl
  try simp only [List.length_nil]
  have hbx := heap_alloc_new w (.cells #[.int .i64 5, .int .i64 0, .string ⟨#[]⟩, .slice a1 0 c1, .slice a2 p.length c2] 25)
  obtain ⟨a0, a1', a2', a3, a4, fz, hlt1⟩ := VB.at hbx
  have hd1 : d < 8 := by omega
  generalize hR : pSoundp (d + 1) [] p = R
  have HR := Lib.hid hR
  clear hR
  have Hp := Lib.hid hp
  clear hp
  have hf0 := (Fr.refl (M := NoB)).alloc (w := w) (.cells #[.int .i64 5, .int .i64 0, .string ⟨#[]⟩, .slice a1 0 c1, .slice a2 p.length c2] 25)
  have Hf0 := Lib.hid hf0
  have Hbx := Lib.hid hbx
  clear hbx hf0
  go_enter Tryz.func26, Tryz.ntmps26
  go_wp2_with fail
  go_loopg [5] 1 (fun g vi w2 => vi = .int .i64 0 ∧ Hid (Fr NoB (w.alloc (.cells #[.int .i64 5, .int .i64 0, .string ⟨#[]⟩, .slice a1 0 c1, .slice a2 p.length c2] 25)) w2))
  case atStart => exact ⟨rfl, Fr.refl⟩
  case round =>
    obtain ⟨rfl, HF0⟩ := hrel
    obtain ⟨wa, rfl⟩ : ∃ wa : World, wa = wr := ⟨_, rfl⟩
    have hbw := HF0.out.block _ _ Hbx.out (fun h => h)
    clear a0 a1' a2' a3 a4 fz hlt1
    obtain ⟨a0, a1', a2', a3, a4, fz, hlt1⟩ := VB.at hbw
    have Hbw := Lib.hid hbw
    have HFa := Lib.hid (Hf0.out.trans' HF0.out)
    clear hbw
    go_wp2_with fail
    clear a0 a1' a2' a3 a4 fz hlt1
    go_loopg [6, 7] (p.length + 1) (fun g vi vk w3 => ∃ i : Nat, vi = .int .i64 i ∧ i ≤ p.length ∧ i + g = p.length + 1 ∧ Fr NoB wa w3 ∧ Hid (pSoundp (d + 1) ((p.take i).map (·.1)) (p.drop i) = R))
    case atStart => exact ⟨0, rfl, by omega, by omega, Fr.refl, HR⟩
    case round =>
      obtain ⟨i, rfl, hi, hgk, hF, hS⟩ := hrel
      obtain ⟨wb, rfl⟩ : ∃ wb : World, wb = wr := ⟨_, rfl⟩
      have hbb := hF.block _ _ Hbw.out (fun h => h)
      rcases Nat.lt_or_ge i p.length with hlt | hge
      · obtain ⟨⟨nm, j⟩, hj⟩ : ∃ j, p[i]? = some j := ⟨_, List.getElem?_eq_getElem hlt⟩
        obtain ⟨b, o, x0, x1, x2, x3, x4, rfl, hbl, e5, e0, e1, e2, e3, e4, hrj⟩ := (Hp.out.kp (Kp.ofFr (HFa.out.trans' hF))).at hj
        have hHp := Lib.hid (Hp.out.kp (Kp.ofFr (HFa.out.trans' hF)))
        obtain ⟨a0, a1', a2', a3, a4, fz, hlt1⟩ := VB.at hbb
        obtain ⟨hnl, hfj⟩ := fitsp.at p hfit i _ _ hj
        have hS2 := hS.out
        rw [drop_at hj, pSoundp, ← take_names hj] at hS2
        obtain ⟨b1, hb1⟩ : ∃ b1, ((p.take i).map (·.1)).contains nm = b1 := ⟨_, rfl⟩
        rw [hb1] at hS2
        have hvl := fun W => refValid_c nm W hnl
        have HS2 := Lib.hid hS2
        have Hb1 : Hid ((((p.take i).map (·.1)).drop 0).contains nm = b1) := hb1
        have Hbb := Lib.hid hbb
        have HFb := Lib.hid (HFa.out.trans' hF)
        have HF := Lib.hid hF
        have Hrj := Lib.hid hrj
        have Hvl := Lib.hid hvl
        have He := Lib.hid (⟨e5, e0, e1, e2, e3, e4⟩ : wb.cell? ⟨b, o + i * 6, none⟩ = some (.string ⟨nm.toArray⟩) ∧ wb.cell? ⟨b, o + i * 6 + 1, none⟩ = some x0 ∧ wb.cell? ⟨b, o + i * 6 + 2, none⟩ = some x1 ∧ wb.cell? ⟨b, o + i * 6 + 3, none⟩ = some x2 ∧ wb.cell? ⟨b, o + i * 6 + 4, none⟩ = some x3 ∧ wb.cell? ⟨b, o + i * 6 + 5, none⟩ = some x4)
        have Hj := Lib.hid hj
        clear hbb hF hS2 hb1 hrj hvl hS hj e5 e0 e1 e2 e3 e4 hnl
        go_wp2_with fail
        clear a0 a1' a2' a3 a4 fz hlt1
        go_loopg [7] (i + 1) (fun g vk w4 => ∃ k : Nat, vk = .int .i64 k ∧ k ≤ i ∧ k + g = i + 1 ∧ Fr NoB wb w4 ∧ Hid ((((p.take i).map (·.1)).drop k).contains nm = b1))
        case atStart => exact ⟨0, rfl, by omega, by omega, Fr.refl, Hb1⟩
        case round =>
          obtain ⟨k, rfl, hk, hkq, hF4, hB4⟩ := hrel
          have hb4 := hF4.block _ _ Hbb.out (fun h => h)
          obtain ⟨a0, a1', a2', a3, a4, fz, hlt1⟩ := VB.at hb4
          have e5 := hF4.cellN He.out.1
          rcases Nat.lt_or_ge k i with hkl | hkge
          · obtain ⟨⟨nk, jk⟩, hjk⟩ : ∃ j, p[k]? = some j := ⟨_, List.getElem?_eq_getElem (by omega)⟩
            obtain ⟨b', o', y0, y1, y2, y3, y4, eb, hbl', f5, f0, f1, f2, f3, f4, -⟩ := (hHp.out.kp (Kp.ofFr hF4)).at hjk
            obtain ⟨rfl, rfl⟩ : b = b' ∧ o = o' := by simpa using eb
            have hnk : ((p.take i).map (·.1))[k]? = some nk := by rw [List.getElem?_map, List.getElem?_take, if_pos hkl, hjk]; rfl
            have hB5 := hB4.out
            rw [drop_at hnk, List.contains_cons] at hB5
            have hk1 : (0 : Int) ≤ (k : Int) := by omega
            have hk2 : (k : Int) < (p.length : Int) := by omega
            have hi1 : (0 : Int) ≤ (i : Int) := by omega
            have hi2 : (i : Int) < (p.length : Int) := by omega
            have HF4 := Lib.hid hF4
            have Hb4 := Lib.hid hb4
            cases hnn : (nk == nm) with
            | true =>
              have hnn2 : (nm == nk) = true := by rw [beq_iff_eq] at hnn ⊢; exact hnn.symm
              rw [hnn2] at hB5
              have HB5 := Lib.hid hB5
              clear hB5 hB4 hF4 hnk hjk f0 f1 f2 f3 f4 eb hnn2 hb4
              go_wp2_with fail
              go_quiet (fail)
              have HFn := Lib.hid (HFb.out.trans' (HF4.out.trans' (fr_drewN wr nq)))
              go_wp2_with fail
              go_ret
              have h1 := HB5.out
              simp at h1
              subst h1
              have h2 := HS2.out
              simp at h2
              subst h2
              exact ⟨rfl, HFn.out⟩
            | false =>
              have hnn2 : (nm == nk) = false := by rw [beq_eq_false_iff_ne] at hnn ⊢; exact fun e => hnn e.symm
              rw [hnn2, Bool.false_or] at hB5
              have HB5 := Lib.hid hB5
              clear hB5 hB4 hF4 hnk hjk f0 f1 f2 f3 f4 eb hnn2 hb4
              go_wp2_with fail
              go_quiet (fail)
              have HFn := Lib.hid (HF4.out.trans' (fr_drewN wr nq))
              go_wp2_with fail
              go_roundg (gk - 1)
              case measure => omega
              case rel => exact ⟨k + 1, by simp, by omega, by omega, HFn.out, HB5⟩
          · obtain rfl : k = i := by omega
            have hB5 := hB4.out
            rw [List.drop_eq_nil_of_le (by rw [List.length_map, List.length_take]; omega)] at hB5
            simp only [List.contains_nil] at hB5
            subst hB5
            obtain ⟨-, e0, e1, e2, e3, e4⟩ := He.out
            have hS3 := HS2.out
            simp only [Bool.not_false, Bool.true_and] at hS3
            have HE2 := Lib.hid (⟨hF4.cellN e0, hF4.cellN e1, hF4.cellN e2, hF4.cellN e3, hF4.cellN e4⟩ : wr.cell? ⟨b, o + k * 6 + 1, none⟩ = some x0 ∧ wr.cell? ⟨b, o + k * 6 + 2, none⟩ = some x1 ∧ wr.cell? ⟨b, o + k * 6 + 3, none⟩ = some x2 ∧ wr.cell? ⟨b, o + k * 6 + 4, none⟩ = some x3 ∧ wr.cell? ⟨b, o + k * 6 + 5, none⟩ = some x4)
            have HF4 := Lib.hid hF4
            have Hb4 := Lib.hid hb4
            have hgood := fun W hW => ih (d + 1) S j (.agg #[x0, x1, x2, x3, x4]) W hW hfj (by omega) hd8
            have Hg := Lib.hid hgood
            cases hv : Lib.validD nm with
            | false =>
              rw [hv] at hS3 Hvl
              simp only [Bool.false_and] at hS3
              subst hS3
              clear hF4 hb4 hB4 e0 e1 e2 e3 e4 hgood HS2 hv
              go_wp2_with fail
              refine (Hvl.out _).mono ?_
              rintro e w5 ⟨rfl, hF5⟩
              have HF5 := Lib.hid (HFb.out.trans' (HF4.out.trans' hF5))
              clear hF5
              go_wp2_with fail
              go_ret
              exact ⟨rfl, HF5.out⟩
            | true =>
              rw [hv] at hS3 Hvl
              simp only [Bool.true_and] at hS3
              obtain ⟨b3, hb3⟩ : ∃ b3, pSound (d + 1) j = b3 := ⟨_, rfl⟩
              rw [hb3] at hS3
              simp only [hb3] at Hg
              have HS3 := Lib.hid hS3
              clear hF4 hb4 hB4 e0 e1 e2 e3 e4 hgood HS2 hv hS3 hb3
              go_wp2_with fail
              refine (Hvl.out _).mono ?_
              rintro e w5 ⟨rfl, hF5⟩
              obtain ⟨g0, g1, g2, g3, g4⟩ := HE2.out
              have f0 := hF5.cellN g0
              have f1 := hF5.cellN g1
              have f2 := hF5.cellN g2
              have f3 := hF5.cellN g3
              have f4 := hF5.cellN g4
              have hb5 := hF5.block _ _ Hb4.out (fun h => h)
              clear a0 a1' a2' a3 a4 fz hlt1 e5 g0 g1 g2 g3 g4
              obtain ⟨a0, a1', a2', a3, a4, fz, hlt1⟩ := VB.at hb5
              have HF5 := Lib.hid (HF4.out.trans' hF5)
              clear hF5 hb5
              cases b3
              · go_wp2_with fail
                refine (Hg.out _ (RJ.kp (Kp.ofFr HF5.out) _ _ Hrj.out)).mono ?_
                rintro e w6 ⟨rfl, hF6⟩
                have HF6 := Lib.hid (HFb.out.trans' (HF5.out.trans' hF6))
                clear hF6
                go_wp2_with fail
                go_ret
                have h2 := HS3.out
                simp at h2
                subst h2
                exact ⟨rfl, HF6.out⟩
              · go_wp2_with fail
                refine (Hg.out _ (RJ.kp (Kp.ofFr HF5.out) _ _ Hrj.out)).mono ?_
                rintro e w6 ⟨rfl, hF6⟩
                have HF6 := Lib.hid (HF.out.trans' (HF5.out.trans' hF6))
                clear hF6
                go_wp2_with fail
                go_roundg (p.length - k)
                case measure => omega
                case rel => exact ⟨k + 1, by simp, by omega, by omega, HF6.out, by have h := HS3.out; simp only [Bool.true_and] at h; exact h⟩
      · obtain rfl : i = p.length := by omega
        have hR := hS.out
        simp [pSoundp] at hR
        subst hR
        obtain ⟨a0, a1', a2', a3, a4, fz, hlt1⟩ := VB.at hbb
        have HF := Lib.hid (HFa.out.trans' hF)
        clear hF hbb hS
        go_wp2_with fail
        go_ret
        exact ⟨by simp, HF.out⟩
theorem refGood_c : ∀ f, GoodOk f := by
  intro f
  have flat : ∀ (f : Nat) (d : Int) (S : Nat → Prop) (k n : Int) (t : Bs) (l : List J) (p : List (Bs × J)) (v : Value) (w : World), RJ S w (.mk k n t l p) v → t.length ≤ 67108864 → (k = 0 ∨ k = 1 ∨ k = 2 ∨ k = 3 ∨ k < 0 ∨ 5 < k) →
      Calls Tryz.prog 26 #[v, .int .i64 d] w fun e w' => e = .returned (.bool (pSound d (.mk k n t l p))) ∧ Fr NoB w w' := by
    intro f d S k n t l p v w h ht hk
    rcases Int.lt_or_le k 0 with h0 | h0
    · have e : pSound d (.mk k n t l p) = false := by
        cases hb : pSound d (.mk k n t l p) with
        | false => rfl
        | true =>
          rw [sound_iff] at hb
          unfold Flat at hb
          omega
      rw [e]
      exact good_neg d S k n t l p v w h h0
    rcases Int.lt_or_le 5 k with h5 | h5
    · have e : pSound d (.mk k n t l p) = false := by
        cases hb : pSound d (.mk k n t l p) with
        | false => rfl
        | true =>
          rw [sound_iff] at hb
          unfold Flat at hb
          omega
      rw [e]
      exact good_big d S k n t l p v w h h0 h5
    have hk3 : k = 0 ∨ k = 1 ∨ k = 2 ∨ k = 3 := by omega
    have hk4 : (k != 4) = true := by rw [bne_iff_ne]; omega
    have hk5 : (k != 5) = true := by rw [bne_iff_ne]; omega
    have no : ∀ (P : Prop), (¬ (l = [] ∧ p = []) → P) → ((l = [] ∧ p = []) → P) → P := fun P a b => by
      by_cases h : l = [] ∧ p = []
      · exact b h
      · exact a h
    cases l with
    | cons z l =>
      have e : pSound d (.mk k n t (z :: l) p) = false := by
        cases hb : pSound d (.mk k n t (z :: l) p) with
        | false => rfl
        | true =>
          rw [sound_iff] at hb
          rcases hb with ⟨_, h, _⟩ | ⟨h, _⟩ | ⟨h, _⟩
          · cases h
          · omega
          · omega
      rw [e]
      exact good_list' d S k n t z l p v w h h0 h5 hk4
    | nil =>
    cases p with
    | cons z p =>
      have e : pSound d (.mk k n t [] (z :: p)) = false := by
        cases hb : pSound d (.mk k n t [] (z :: p)) with
        | false => rfl
        | true =>
          rw [sound_iff] at hb
          rcases hb with ⟨_, _, h⟩ | ⟨h, _⟩ | ⟨h, _⟩
          · cases h
          · omega
          · omega
      rw [e]
      exact good_pairs d S k n t z p v w h h0 h5 hk5
    | nil =>
    have key : ∀ b, (Flat k n t ↔ b = true) → pSound d (.mk k n t [] []) = b := by
      intro b hb
      rw [Bool.eq_iff_iff, sound_iff, ← hb]
      constructor
      · rintro (⟨h, _⟩ | ⟨h, _⟩ | ⟨h, _⟩)
        · exact h
        · omega
        · omega
      · intro h; exact .inl ⟨h, rfl, rfl⟩
    by_cases h3 : k = 3
    · subst h3
      by_cases hn : n = 0
      · subst hn
        rw [key (Lib.validD t) (by rw [valid_vl]; unfold Flat; simp)]
        exact good_flat3 d S t v w h ht
      · rw [key false (by unfold Flat; simp [hn])]
        exact good_n3 d S n t v w h (by simpa using hn)
    · cases t with
      | cons z t =>
        rw [key false (by unfold Flat; simp; omega)]
        exact good_text d S k n z t v w h h0 h5 (by rw [bne_iff_ne]; exact h3)
      | nil =>
        rcases hk3 with rfl | rfl | rfl | rfl
        · by_cases hn : n = 0
          · subst hn
            rw [key true (by unfold Flat; simp)]
            exact good_flat0 d S v w h trivial
          · rw [key false (by unfold Flat; simp [hn])]
            exact good_n0 d S n v w h (by simpa using hn)
        · by_cases hn : n = 0
          · subst hn
            rw [key true (by unfold Flat; simp)]
            exact good_flat1 d S v w h trivial
          · by_cases hn1 : n = 1
            · subst hn1
              rw [key true (by unfold Flat; simp)]
              exact good_flat1b d S v w h trivial
            · rw [key false (by unfold Flat; simp [hn, hn1])]
              exact good_bool d S n v w h (by simpa using hn) (by simpa using hn1)
        · by_cases h1 : n < -9007199254740991
          · rw [key false (by unfold Flat; simp; omega)]
            exact good_low d S n v w h h1
          · by_cases h2 : 9007199254740991 < n
            · rw [key false (by unfold Flat; simp; omega)]
              exact good_high d S n v w h (by omega) h2
            · rw [key true (by unfold Flat; simp; omega)]
              exact good_flat2 d S n v w h (by omega) (by omega)
        · exact absurd rfl h3
  have deep : ∀ (f : Nat) (ih : ∀ g, f = g + 1 → GoodOk g), GoodOk f := by
    intro f ih d S j v w h hfit hd hdf
    obtain ⟨k, n, t, l, p⟩ := j
    have hft := fits.open hfit
    by_cases hk : k = 0 ∨ k = 1 ∨ k = 2 ∨ k = 3 ∨ k < 0 ∨ 5 < k
    · exact flat f d S k n t l p v w h hft.1 hk
    have no : pSound d (.mk k n t l p) = false → Calls Tryz.prog 26 #[v, .int .i64 d] w (fun e w' => e = .returned (.bool false) ∧ Fr NoB w w') → Calls Tryz.prog 26 #[v, .int .i64 d] w (fun e w' => e = .returned (.bool (pSound d (.mk k n t l p))) ∧ Fr NoB w w') := fun e h => by rw [e]; exact h
    have bad : ¬ ((k = 4 ∧ n = 0 ∧ t = [] ∧ d < 8 ∧ p = []) ∨ (k = 5 ∧ n = 0 ∧ t = [] ∧ d < 8 ∧ l = [])) → pSound d (.mk k n t l p) = false := by
      intro hb
      cases hs : pSound d (.mk k n t l p) with
      | false => rfl
      | true =>
        exfalso
        apply hb
        rw [sound_iff] at hs
        rcases hs with ⟨h, _⟩ | ⟨h1, h2, h3, h4, _, h5⟩ | ⟨h1, h2, h3, h4, _, h5⟩
        · unfold Flat at h; omega
        · exact .inl ⟨h1, h2, h3, h4, h5⟩
        · exact .inr ⟨h1, h2, h3, h4, h5⟩
    have hk4 : k = 4 ∨ k = 5 := by omega
    rcases hk4 with rfl | rfl
    · cases p with
      | cons z p => exact no (bad (by simp)) (good_pairs4 d S n t l z p v w h trivial)
      | nil =>
      cases t with
      | cons z t => exact no (bad (by simp)) (good_text4 d S n z t l v w h trivial)
      | nil =>
      by_cases hn : n = 0
      · subst hn
        by_cases h8 : 8 ≤ d
        · exact no (bad (by simp; omega)) (good_d4 d S l v w h h8)
        · obtain ⟨g, rfl⟩ : ∃ g, f = g + 1 := ⟨f - 1, by omega⟩
          have e : pSound d (.mk 4 0 [] l []) = pSounds (d + 1) l := by
            rw [Bool.eq_iff_iff, sound_iff, sounds_iff]
            constructor
            · rintro (⟨h, _⟩ | ⟨_, _, _, _, h, _⟩ | ⟨h, _⟩)
              · unfold Flat at h; omega
              · exact h
              · omega
            · intro h; exact .inr (.inl ⟨rfl, rfl, rfl, by omega, h, rfl⟩)
          rw [e]
          exact good_list g (ih g rfl) d S l v w h hft.2.2.2.1 hft.2.1 hd (by simp at hdf; omega)
      · exact no (bad (by simp [hn])) (good_n4 d S n l v w h (by simpa using hn))
    · cases l with
      | cons z l => exact no (bad (by simp)) (good_list' d S 5 n t z l p v w h (by omega) (by omega) (by decide))
      | nil =>
      cases t with
      | cons z t => exact no (bad (by simp)) (good_text5 d S n z t p v w h trivial)
      | nil =>
      by_cases hn : n = 0
      · subst hn
        by_cases h8 : 8 ≤ d
        · exact no (bad (by simp; omega)) (good_d5 d S p v w h h8)
        · obtain ⟨g, rfl⟩ : ∃ g, f = g + 1 := ⟨f - 1, by omega⟩
          have e : pSound d (.mk 5 0 [] [] p) = pSoundp (d + 1) [] p := by
            rw [Bool.eq_iff_iff, sound_iff, soundp_iff]
            constructor
            · rintro (⟨h, _⟩ | ⟨h, _⟩ | ⟨_, _, _, _, h, _⟩)
              · unfold Flat at h; omega
              · omega
              · exact ⟨h.1, h.2, fun q _ => by simp⟩
            · intro h; exact .inr (.inr ⟨rfl, rfl, rfl, by omega, ⟨h.1, h.2.1⟩, rfl⟩)
          rw [e]
          exact good_object g (ih g rfl) d S p v w h hft.2.2.2.2 hft.2.2.1 hd (by simp at hdf; omega)
      · exact no (bad (by simp [hn])) (good_n5 d S n p v w h (by simpa using hn))
  induction f with
  | zero => exact deep 0 (fun g h => by omega)
  | succ f ih => exact deep (f + 1) (fun g h => by
    obtain rfl : f = g := (by omega)
    exact ih)
end Go.Proofs.YtbfmpbhikipipaaGreatDoor
