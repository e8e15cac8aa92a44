/-
  The walk of the reference's Text.
-/
import Derived.Test.YtbfmpbhikipipaaGreatDoorKQuoteRef
import Derived.Test.YtbfmpbhikipipaaGreatDoorKRefPairs
import Derived.Test.YtbfmpbhikipipaaGreatDoorKLen
import Derived.Test.YtbfmpbhikipipaaGreatDoorKFits
import Derived.Deep.RegionHeld
namespace Go.Proofs.YtbfmpbhikipipaaGreatDoor
set_option linter.unusedVariables false
set_option linter.unusedSimpArgs false
set_option linter.unusedSectionVars false
open Go.RowKit
variable [OldK]

theorem Fr.cellN {w w' : World} (h : Fr NoB w w') {a : Addr} {v : Value} (hc : w.cell? a = some v) : w'.cell? a = some v := by
  unfold World.cell? at hc ⊢
  cases ho : w.heap[a.block]? with
  | none => simp [ho] at hc
  | some o => rw [h.block _ _ ho (fun h => h)]; rw [ho] at hc; exact hc
/-- texts with commas between -/
def pTail : List Bs → Bs
  | [] => []
  | x :: l => 44 :: (x ++ pTail l)
def pJoin (i : Nat) : List Bs → Bs
  | [] => []
  | x :: l => if i = 0 then x ++ pTail l else 44 :: (x ++ pTail l)
theorem pJoin_pos {i : Nat} (h : i ≠ 0) (l : List Bs) : pJoin i l = pTail l := by
  cases l <;> simp [pJoin, pTail, h]
theorem pJoin_len (i : Nat) (X : Bs) (l : List Bs) : X.length ≤ (pJoin i (X :: l)).length := by
  simp only [pJoin]
  by_cases h : i = 0
  · rw [if_pos h, List.length_append]; omega
  · rw [if_neg h, List.length_cons, List.length_append]; omega
theorem tail_writes (l : List J) : pWrites 44 l = pTail (l.map pWrite) := by
  induction l with
  | nil => rfl
  | cons x l ih => simp [pWrites, pTail, ih]
theorem tail_writep (l : List (Bs × J)) : pWritep 44 l = pTail (l.map fun q => pQuote q.1 ++ ([58] ++ pWrite q.2)) := by
  induction l with
  | nil => rfl
  | cons x l ih => obtain ⟨nm, j⟩ := x; simp [pWritep, pTail, ih]
theorem list_write (l : List J) : (if l.isEmpty then [91] else pWrites 91 l) ++ [93] = [91] ++ pJoin 0 (l.map pWrite) ++ [93] := by
  cases l with
  | nil => rfl
  | cons x l => simp [pWrites, pJoin, tail_writes]
theorem object_write (l : List (Bs × J)) : (if l.isEmpty then [123] else pWritep 123 l) ++ [125] = [123] ++ pJoin 0 (l.map fun q => pQuote q.1 ++ ([58] ++ pWrite q.2)) ++ [125] := by
  cases l with
  | nil => rfl
  | cons x l => obtain ⟨nm, j⟩ := x; simp [pWritep, pJoin, tail_writep]
theorem write_obj (f : Nat) (p : List (Bs × J)) : pWrite (pSorts (f + 1) (.mk 5 0 [] [] p)) = [123] ++ pJoin 0 (((isort (fun q : Bs × J => q.1) p).map fun q => (q.1, pSorts f q.2)).map fun q => pQuote q.1 ++ ([58] ++ pWrite q.2)) ++ [125] := by
  have e : pSorts (f + 1) (.mk 5 0 [] [] p) = .mk 5 0 [] [] (isort (fun q : Bs × J => q.1) (p.map fun q => (q.1, pSorts f q.2))) := rfl
  rw [e, isort_map2 (key := fun q : Bs × J => q.1) (key' := fun q : Bs × J => q.1) (fun q => (q.1, pSorts f q.2)) (fun _ => rfl), ← object_write]
  unfold pWrite
  rfl
theorem write_lst (f : Nat) (l : List J) : pWrite (pSorts (f + 1) (.mk 4 0 [] l [])) = [91] ++ pJoin 0 ((l.map (pSorts f)).map pWrite) ++ [93] := by
  have e : pSorts (f + 1) (.mk 4 0 [] l []) = .mk 4 0 [] (l.map (pSorts f)) [] := rfl
  rw [e, ← list_write]
  unfold pWrite
  rfl
def TextOk (f : Nat) : Prop := ∀ (d : Int) (S : Nat → Prop) (j : J) (v : Value) (w : World), RJ S w j v → fits 67108864 j = true → pSound d j = true → 8 ≤ d + f → d ≤ 8 → (pWrite (pSorts f j)).length ≤ 70368744177664 →
  Calls Tryz.prog 27 #[v] w fun e w' => e = .returned (.string ⟨(pWrite (pSorts f j)).toArray⟩) ∧ Fr NoB w w'
set_option maxRecDepth 100000 in
set_option maxHeartbeats 1000000 in
theorem text_flat0 (S : Nat → Prop)  (v : Value) (w : World) (h : RJ S w (.mk 0 0 [] [] []) v)  :
    Calls Tryz.prog 27 #[v] w fun e w' => e = .returned (.string ⟨sNull.toArray⟩) ∧ Fr NoB w w' := by
  obtain ⟨a1, c1, a2, c2, rfl, hl, hp⟩ := h.open
  clear h hl hp
  try simp only [List.length_nil]
  have hbx := heap_alloc_new w (.cells #[.int .i64 0, .int .i64 0, .string ⟨[].toArray⟩, .slice a1 0 c1, .slice a2 0 c2] 25)
  obtain ⟨a0, a1', a2', a3, a4, fz, hlt1⟩ := VB.at hbx
  have hf0 := (Fr.refl (M := NoB)).alloc (w := w) (.cells #[.int .i64 0, .int .i64 0, .string ⟨[].toArray⟩, .slice a1 0 c1, .slice a2 0 c2] 25)
  have Hf0 := Lib.hid hf0
  have Hbx := Lib.hid hbx
  clear hbx hf0
  go_enter Tryz.func27, Tryz.ntmps27
  go_wp2_with fail
  go_ret
  exact ⟨rfl, Hf0.out⟩
set_option maxRecDepth 100000 in
set_option maxHeartbeats 1000000 in
theorem text_flat1 (S : Nat → Prop)  (v : Value) (w : World) (h : RJ S w (.mk 1 0 [] [] []) v)  :
    Calls Tryz.prog 27 #[v] w fun e w' => e = .returned (.string ⟨sFalse.toArray⟩) ∧ Fr NoB w w' := by
  obtain ⟨a1, c1, a2, c2, rfl, hl, hp⟩ := h.open
  clear h hl hp
  try simp only [List.length_nil]
  have hbx := heap_alloc_new w (.cells #[.int .i64 1, .int .i64 0, .string ⟨[].toArray⟩, .slice a1 0 c1, .slice a2 0 c2] 25)
  obtain ⟨a0, a1', a2', a3, a4, fz, hlt1⟩ := VB.at hbx
  have hf0 := (Fr.refl (M := NoB)).alloc (w := w) (.cells #[.int .i64 1, .int .i64 0, .string ⟨[].toArray⟩, .slice a1 0 c1, .slice a2 0 c2] 25)
  have Hf0 := Lib.hid hf0
  have Hbx := Lib.hid hbx
  clear hbx hf0
  go_enter Tryz.func27, Tryz.ntmps27
  go_wp2_with fail
  go_ret
  exact ⟨rfl, Hf0.out⟩
set_option maxRecDepth 100000 in
set_option maxHeartbeats 1000000 in
theorem text_flat1b (S : Nat → Prop)  (v : Value) (w : World) (h : RJ S w (.mk 1 1 [] [] []) v)  :
    Calls Tryz.prog 27 #[v] w fun e w' => e = .returned (.string ⟨sTrue.toArray⟩) ∧ Fr NoB w w' := by
  obtain ⟨a1, c1, a2, c2, rfl, hl, hp⟩ := h.open
  clear h hl hp
  try simp only [List.length_nil]
  have hbx := heap_alloc_new w (.cells #[.int .i64 1, .int .i64 1, .string ⟨[].toArray⟩, .slice a1 0 c1, .slice a2 0 c2] 25)
  obtain ⟨a0, a1', a2', a3, a4, fz, hlt1⟩ := VB.at hbx
  have hf0 := (Fr.refl (M := NoB)).alloc (w := w) (.cells #[.int .i64 1, .int .i64 1, .string ⟨[].toArray⟩, .slice a1 0 c1, .slice a2 0 c2] 25)
  have Hf0 := Lib.hid hf0
  have Hbx := Lib.hid hbx
  clear hbx hf0
  go_enter Tryz.func27, Tryz.ntmps27
  go_wp2_with fail
  go_ret
  exact ⟨rfl, Hf0.out⟩
set_option maxRecDepth 100000 in
set_option maxHeartbeats 1000000 in
theorem text_flat2 (S : Nat → Prop) (n : Int) (v : Value) (w : World) (h : RJ S w (.mk 2 n [] [] []) v) (h1 : -9007199254740991 ≤ n) (h2 : n ≤ 9007199254740991) :
    Calls Tryz.prog 27 #[v] w fun e w' => e = .returned (.string ⟨(Lib.itoa n).toArray⟩) ∧ Fr NoB w w' := by
  obtain ⟨a1, c1, a2, c2, rfl, hl, hp⟩ := h.open
  clear h hl hp
  try simp only [List.length_nil]
  have hbx := heap_alloc_new w (.cells #[.int .i64 2, .int .i64 n, .string ⟨[].toArray⟩, .slice a1 0 c1, .slice a2 0 c2] 25)
  obtain ⟨a0, a1', a2', a3, a4, fz, hlt1⟩ := VB.at hbx
  have hf0 := (Fr.refl (M := NoB)).alloc (w := w) (.cells #[.int .i64 2, .int .i64 n, .string ⟨[].toArray⟩, .slice a1 0 c1, .slice a2 0 c2] 25)
  have Hf0 := Lib.hid hf0
  have Hbx := Lib.hid hbx
  clear hbx hf0
  go_enter Tryz.func27, Tryz.ntmps27
  go_wp2_with fail
  refine (refNumber_c n _ h1 h2).mono ?_; rintro e w1 ⟨rfl, rfl⟩
  have HF := Hf0
  go_wp2_with fail
  go_ret
  exact ⟨rfl, HF.out⟩
set_option maxRecDepth 100000 in
set_option maxHeartbeats 1000000 in
theorem text_flat3 (S : Nat → Prop) (t : Bs) (v : Value) (w : World) (h : RJ S w (.mk 3 0 t [] []) v) (ht : t.length ≤ 67108864) :
    Calls Tryz.prog 27 #[v] w fun e w' => e = .returned (.string ⟨(pQuote t).toArray⟩) ∧ Fr NoB w w' := by
  obtain ⟨a1, c1, a2, c2, rfl, hl, hp⟩ := h.open
  clear h hl hp
  try simp only [List.length_nil]
  have hbx := heap_alloc_new w (.cells #[.int .i64 3, .int .i64 0, .string ⟨t.toArray⟩, .slice a1 0 c1, .slice a2 0 c2] 25)
  obtain ⟨a0, a1', a2', a3, a4, fz, hlt1⟩ := VB.at hbx
  have hf0 := (Fr.refl (M := NoB)).alloc (w := w) (.cells #[.int .i64 3, .int .i64 0, .string ⟨t.toArray⟩, .slice a1 0 c1, .slice a2 0 c2] 25)
  have Hf0 := Lib.hid hf0
  have Hbx := Lib.hid hbx
  clear hbx hf0
  go_enter Tryz.func27, Tryz.ntmps27
  go_wp2_with fail
  refine (refQuote_c t _ ht).mono ?_; rintro e w1 ⟨rfl, hF1⟩
  have HF := Lib.hid (Hf0.out.trans' hF1)
  clear hF1
  go_wp2_with fail
  go_ret
  exact ⟨rfl, HF.out⟩
set_option maxRecDepth 100000 in
set_option maxHeartbeats 2000000 in
theorem text_list (f : Nat) (ih : TextOk f) (d : Int) (S : Nat → Prop) (l : List J) (v : Value) (w : World) (h : RJ S w (.mk 4 0 [] l []) v) (hfit : fitsl 67108864 l = true) (hll : l.length ≤ 67108864) (hs : ∀ j ∈ l, pSound (d + 1) j = true) (hd : d < 8) (hd8 : 8 ≤ d + 1 + f)
    (hlen : (pWrite (pSorts (f + 1) (.mk 4 0 [] l []))).length ≤ 70368744177664) :
    Calls Tryz.prog 27 #[v] w fun e w' => e = .returned (.string ⟨(pWrite (pSorts (f + 1) (.mk 4 0 [] l []))).toArray⟩) ∧ Fr NoB w w' := by
  obtain ⟨a1, c1, a2, c2, rfl, hl, hp⟩ := h.open
  clear h hp
  try simp only [List.length_nil]
  have hbx := heap_alloc_new w (.cells #[.int .i64 4, .int .i64 0, .string ⟨[].toArray⟩, .slice a1 l.length c1, .slice a2 0 c2] 25)
  obtain ⟨a0, a1', a2', a3, a4, fz, hlt1⟩ := VB.at hbx
  have hf0 := (Fr.refl (M := NoB)).alloc (w := w) (.cells #[.int .i64 4, .int .i64 0, .string ⟨[].toArray⟩, .slice a1 l.length c1, .slice a2 0 c2] 25)
  have Hf0 := Lib.hid hf0
  have Hbx := Lib.hid hbx
  clear hbx hf0
  have e := write_lst f l
  rw [e] at hlen ⊢
  obtain ⟨L, hL⟩ : ∃ L, L = (l.map (pSorts f)).map pWrite := ⟨_, rfl⟩
  rw [← hL] at hlen ⊢
  have hLl : L.length = l.length := by rw [hL]; simp
  have hLj : ∀ (i : Nat) (j : J), l[i]? = some j → L[i]? = some (pWrite (pSorts f j)) := by
    intro i j hij
    rw [hL, List.getElem?_map, List.getElem?_map, hij]; rfl
  generalize hG : pJoin 0 L = G at *
  have HG := Lib.hid hG
  have Hlen := Lib.hid hlen
  have Hl := Lib.hid hl
  have HLj := Lib.hid hLj
  have HLl := Lib.hid hLl
  have Hs := Lib.hid hs
  clear hG hl hLj hLl hL e hs hlen
  go_enter Tryz.func27, Tryz.ntmps27
  go_wp2_with fail
  go_loopg [3, 4] (l.length + 1) (fun g vo vi wr => ∃ (i : Nat) (out : Bs), vo = .string ⟨out.toArray⟩ ∧ vi = .int .i64 i ∧ i ≤ l.length ∧ i + g = l.length + 1 ∧ Fr NoB (w.alloc (.cells #[.int .i64 4, .int .i64 0, .string ⟨#[]⟩, .slice a1 l.length c1, .slice a2 0 c2] 25)) wr ∧ Hid (out ++ pJoin i (L.drop i) = G))
  case atStart => exact ⟨0, [], rfl, rfl, by omega, by omega, Fr.refl, HG⟩
  case round =>
    obtain ⟨i, out, rfl, rfl, hi, hgk, hF, hS⟩ := hrel
    obtain ⟨a0, a1', a2', a3, a4, fz, hlt1⟩ := VB.at (hF.block _ _ Hbx.out (fun h => h))
    have hlS := congrArg List.length hS.out
    have hlG := Hlen.out
    simp only [List.length_append, List.length_cons, List.length_nil] at hlS hlG
    rcases Nat.lt_or_ge i l.length with hlt | hge
    · obtain ⟨j, hj⟩ : ∃ j, l[i]? = some j := ⟨_, List.getElem?_eq_getElem hlt⟩
      obtain ⟨b, o, x0, x1, x2, x3, x4, rfl, hbl, e0, e1, e2, e3, e4, hrj⟩ := (Hl.out.kp (Kp.ofFr (Hf0.out.trans' hF))).at hj
      have Hrj := Lib.hid hrj
      clear hrj
      have hS2 := hS.out
      rw [drop_at (HLj.out i j hj)] at hS2 hlS
      have hjl := pJoin_len i (pWrite (pSorts f j)) (L.drop (i + 1))
      have hcall := fun W v hW => ih (d + 1) S j v W hW (fitsl.at l hfit i _ hj) (Hs.out j (List.mem_of_getElem? hj)) hd8 (by omega) (by omega)
      have hxl : (pWrite (pSorts f j)).length ≤ 70368744177664 := by omega
      have hol : out.length ≤ 70368744177664 := by omega
      generalize pWrite (pSorts f j) = X at *
      have HF := Lib.hid hF
      have Hcall := Lib.hid hcall
      have HS2 := Lib.hid hS2
      clear hF hcall hS2 hS hlS hlG hj hjl
      rcases Nat.eq_zero_or_pos i with hi0 | hi0
      · have hi1 : decide ((0 : Int) < (i : Int)) = false := by rw [decide_eq_false_iff_not]; omega
        have hi2 : decide (0 < i) = false := by rw [decide_eq_false_iff_not]; omega
        have Hi0 := Lib.hid hi0
        clear hi0
        go_wp2_with fail
        refine (Hcall.out _ _ Hrj.out).mono ?_
        rintro e w1 ⟨rfl, hF1⟩
        have HF2 := Lib.hid (HF.out.trans' hF1)
        clear hF1
        go_wp2_with fail
        go_roundg (gk - 1)
        case measure => omega
        case rel => exact ⟨i + 1, out ++ X, by first | rfl | (simp; done) | (simp [str_append]), by simp, by omega, by omega, HF2.out, by have h := HS2.out; rw [pJoin, if_pos Hi0.out, ← List.append_assoc] at h; rw [pJoin_pos (by omega)]; exact h⟩
      · have hi1 : (0 : Int) < i := by omega
        go_wp2_with fail
        refine (Hcall.out _ _ Hrj.out).mono ?_
        rintro e w1 ⟨rfl, hF1⟩
        have HF2 := Lib.hid (HF.out.trans' hF1)
        clear hF1
        go_wp2_with fail
        go_roundg (gk - 1)
        case measure => omega
        case rel => exact ⟨i + 1, out ++ [44] ++ X, by first | rfl | (simp; done) | (simp [str_append]), by simp, by omega, by omega, HF2.out, Lib.hid (by have h := HS2.out; rw [pJoin, if_neg (by omega)] at h; rw [pJoin_pos (by omega), ← h]; simp)⟩
    · obtain rfl : i = l.length := by omega
      have hR := hS.out
      rw [List.drop_eq_nil_of_le (by rw [HLl.out]; exact Nat.le_refl _)] at hR
      simp only [pJoin, List.append_nil] at hR
      subst hR
      have hol : out.length ≤ 70368744177664 := by omega
      have HF := Lib.hid (Hf0.out.trans' hF)
      clear hF hS hlS hlG
      go_wp2_with fail
      go_ret
      exact ⟨ret_str (by first | rfl | (simp; done) | (simp [str_append]) | (rw [← str_append, ← str_append])), HF.out⟩
set_option maxRecDepth 100000 in
set_option maxHeartbeats 4000000 in
theorem text_object (f : Nat) (ih : TextOk f) (d : Int) (S : Nat → Prop) (p : List (Bs × J)) (v : Value) (w : World) (h : RJ S w (.mk 5 0 [] [] p) v) (hfit : fitsp 67108864 p = true) (hll : p.length ≤ 67108864) (hs : ∀ q ∈ p, pSound (d + 1) q.2 = true) (hd : d < 8) (hd8 : 8 ≤ d + 1 + f)
    (hlen : (pWrite (pSorts (f + 1) (.mk 5 0 [] [] p))).length ≤ 70368744177664) :
    Calls Tryz.prog 27 #[v] w fun e w' => e = .returned (.string ⟨(pWrite (pSorts (f + 1) (.mk 5 0 [] [] p))).toArray⟩) ∧ Fr NoB w w' := by
  obtain ⟨a1, c1, a2, c2, rfl, hl, hp⟩ := h.open
  clear h hl
  try simp only [List.length_nil]
  have hbx := heap_alloc_new w (.cells #[.int .i64 5, .int .i64 0, .string ⟨[].toArray⟩, .slice a1 0 c1, .slice a2 p.length c2] 25)
  obtain ⟨a0, a1', a2', a3, a4, fz, hlt1⟩ := VB.at hbx
  have hf0 := (Fr.refl (M := NoB)).alloc (w := w) (.cells #[.int .i64 5, .int .i64 0, .string ⟨[].toArray⟩, .slice a1 0 c1, .slice a2 p.length c2] 25)
  have Hf0 := Lib.hid hf0
  have Hbx := Lib.hid hbx
  clear hbx hf0
  have e := write_obj f p
  rw [e] at hlen ⊢
  have hmem : ∀ q, q ∈ isort (fun q : Bs × J => q.1) p → q ∈ p := fun q hq => (isort_perm p).mem_iff.1 hq
  have hql : (isort (fun q : Bs × J => q.1) p).length = p.length := isort_length _ p
  have hpc := fun W hW => refPairs_c S p a2 c2 W hW hll
  generalize isort (fun q : Bs × J => q.1) p = P at *
  obtain ⟨L, hL⟩ : ∃ L, L = ((P.map fun q => (q.1, pSorts f q.2)).map fun q => pQuote q.1 ++ ([58] ++ pWrite q.2)) := ⟨_, rfl⟩
  rw [← hL] at hlen ⊢
  have hLl : L.length = P.length := by rw [hL]; simp
  have hLj : ∀ (i : Nat) (nm : Bs) (j : J), P[i]? = some (nm, j) → L[i]? = some (pQuote nm ++ ([58] ++ pWrite (pSorts f j))) := by
    intro i nm j hij
    rw [hL, List.getElem?_map, List.getElem?_map, hij]; rfl
  have hfp : ∀ (i : Nat) (nm : Bs) (j : J), P[i]? = some (nm, j) → nm.length ≤ 67108864 ∧ fits 67108864 j = true ∧ pSound (d + 1) j = true := by
    intro i nm j hij
    have hm := hmem _ (List.mem_of_getElem? hij)
    exact ⟨((fitsp_iff p).1 hfit _ hm).1, ((fitsp_iff p).1 hfit _ hm).2, hs _ hm⟩
  generalize hG : pJoin 0 L = G at *
  have HG := Lib.hid hG
  have Hlen := Lib.hid hlen
  have Hp := Lib.hid hp
  have HLj := Lib.hid hLj
  have HLl := Lib.hid hLl
  have Hfp := Lib.hid hfp
  have Hpc := Lib.hid hpc
  rw [← hql] at hll
  have Hql := Lib.hid hql
  clear hG hp hLj hLl hL e hs hlen hfp hmem hpc hql hfit
  go_enter Tryz.func27, Tryz.ntmps27
  go_wp2_with fail
  refine (Hpc.out _ (Hp.out.kp (Kp.ofFr Hf0.out))).mono ?_
  rintro e w1 ⟨aq, cq, rfl, hq, hF1⟩
  have Hq := Lib.hid hq
  have HF1 := Lib.hid (Hf0.out.trans' hF1)
  rw [← Hql.out]
  clear hq hF1
  go_wp2_with fail
  go_loopg [3, 6] (P.length + 1) (fun g vo vi wr => ∃ (i : Nat) (out : Bs), vo = .string ⟨out.toArray⟩ ∧ vi = .int .i64 i ∧ i ≤ P.length ∧ i + g = P.length + 1 ∧ Fr NoB w1 wr ∧ Hid (out ++ pJoin i (L.drop i) = G))
  case atStart => exact ⟨0, [], rfl, rfl, by omega, by omega, Fr.refl, HG⟩
  case round =>
    obtain ⟨i, out, rfl, rfl, hi, hgk, hF, hS⟩ := hrel
    have hlS := congrArg List.length hS.out
    have hlG := Hlen.out
    simp only [List.length_append, List.length_cons, List.length_nil] at hlS hlG
    rcases Nat.lt_or_ge i P.length with hlt | hge
    · obtain ⟨⟨nm, j⟩, hj⟩ : ∃ j, P[i]? = some j := ⟨_, List.getElem?_eq_getElem hlt⟩
      obtain ⟨b, o, x0, x1, x2, x3, x4, rfl, hbl, e0, e1, e2, e3, e4, e5, hrj⟩ := (Hq.out.kp (Kp.ofFr hF)).at hj
      have Hrj := Lib.hid hrj
      clear hrj
      have hS2 := hS.out
      rw [drop_at (HLj.out i nm j hj)] at hS2 hlS
      have hjl := pJoin_len i (pQuote nm ++ ([58] ++ pWrite (pSorts f j))) (L.drop (i + 1))
      simp only [List.length_append, List.length_cons, List.length_nil] at hjl
      obtain ⟨hf1, hf2, hf3⟩ := Hfp.out i nm j hj
      have hcall := fun W v hW => ih (d + 1) (fun k => S k ∨ (w.alloc (.cells #[.int .i64 5, .int .i64 0, .string ⟨#[]⟩, .slice a1 0 c1, .slice a2 p.length c2] 25)).heap.size ≤ k) j v W hW hf2 hf3 hd8 (by omega) (by omega)
      have hquo := fun W => refQuote_c nm W hf1
      have hxl : (pWrite (pSorts f j)).length ≤ 70368744177664 := by omega
      have hnl : (pQuote nm).length ≤ 70368744177664 := by omega
      have hol : out.length ≤ 70368744177664 := by omega
      generalize pWrite (pSorts f j) = X at *
      generalize pQuote nm = Y at *
      have HF := Lib.hid hF
      have Hcall := Lib.hid hcall
      have Hq2 := Lib.hid hquo
      have HS2 := Lib.hid hS2
      clear hF hcall hquo hS2 hS hlS hlG hj hjl hf1 hf2 hf3
      rcases Nat.eq_zero_or_pos i with hi0 | hi0
      · have hi1 : decide ((0 : Int) < (i : Int)) = false := by rw [decide_eq_false_iff_not]; omega
        have hi2 : decide (0 < i) = false := by rw [decide_eq_false_iff_not]; omega
        have Hi0 := Lib.hid hi0
        clear hi0
        go_wp2_with fail
        refine wp_region_held_drew (S := (fun W' => Fr NoB wr W' ∧ W'.cell? ⟨b, o + i * 6, none⟩ = some (.string ⟨nm.toArray⟩) ∧ W'.cell? ⟨b, o + i * 6 + 1, none⟩ = some x0 ∧ W'.cell? ⟨b, o + i * 6 + 2, none⟩ = some x1 ∧ W'.cell? ⟨b, o + i * 6 + 3, none⟩ = some x2 ∧ W'.cell? ⟨b, o + i * 6 + 4, none⟩ = some x3 ∧ W'.cell? ⟨b, o + i * 6 + 5, none⟩ = some x4)) (by kernel_rfl) ⟨Fr.refl.drew, (Fr.refl (M := NoB)).drew.cellN e0, (Fr.refl (M := NoB)).drew.cellN e1, (Fr.refl (M := NoB)).drew.cellN e2, (Fr.refl (M := NoB)).drew.cellN e3, (Fr.refl (M := NoB)).drew.cellN e4, (Fr.refl (M := NoB)).drew.cellN e5⟩ (fun hHeld => ?_)
        refine wpAnyH_take (i := 0) (v := ?_) rfl (by kernel_rfl) (by kernel_rfl) (by kernel_rfl) (fun _ _ _ h => h) (Or.inl ⟨by rfl, ?_⟩) hHeld ?_
        rotate_left
        · intro W hSw
          obtain ⟨-, s0, s1, s2, s3, s4, s5⟩ := hSw
          try simp only [List.getElem_toArray, List.getElem_cons_zero, List.getElem_cons_succ]
          go_simp
          try rw [if_neg (by omega)]
          try with_reducible rfl
        try simp only [Act.put, List.setIfInBounds_toArray, List.set_cons_zero, List.set_cons_succ, List.getElem_toArray, List.getElem_cons_zero, List.getElem_cons_succ]
        refine wpAnyH_take (i := 1) (v := ?_) rfl (by kernel_rfl) (by kernel_rfl) (by kernel_rfl) (fun _ _ _ h => h) (Or.inl ⟨by rfl, ?_⟩) hHeld ?_
        rotate_left
        · intro W hSw
          obtain ⟨-, s0, s1, s2, s3, s4, s5⟩ := hSw
          try simp only [List.getElem_toArray, List.getElem_cons_zero, List.getElem_cons_succ]
          go_simp
          try rw [if_neg (by omega)]
          try with_reducible rfl
        try simp only [Act.put, List.setIfInBounds_toArray, List.set_cons_zero, List.set_cons_succ, List.getElem_toArray, List.getElem_cons_zero, List.getElem_cons_succ]
        refine wpAnyH_take (i := 2) (v := ?_) rfl (by kernel_rfl) (by kernel_rfl) (by kernel_rfl) (fun _ _ _ h => h) (Or.inl ⟨by rfl, ?_⟩) hHeld ?_
        rotate_left
        · intro W hSw
          obtain ⟨-, s0, s1, s2, s3, s4, s5⟩ := hSw
          try simp only [List.getElem_toArray, List.getElem_cons_zero, List.getElem_cons_succ]
          go_simp
          try rw [if_neg (by omega)]
          try with_reducible rfl
        try simp only [Act.put, List.setIfInBounds_toArray, List.set_cons_zero, List.set_cons_succ, List.getElem_toArray, List.getElem_cons_zero, List.getElem_cons_succ]
        refine wpAnyH_take (i := 3) (v := ?_) rfl (by kernel_rfl) (by kernel_rfl) (by kernel_rfl) (fun _ _ _ h => h) (Or.inl ⟨by rfl, ?_⟩) hHeld ?_
        rotate_left
        · intro W hSw
          obtain ⟨-, s0, s1, s2, s3, s4, s5⟩ := hSw
          try simp only [List.getElem_toArray, List.getElem_cons_zero, List.getElem_cons_succ]
          go_simp
          try rw [if_neg (by omega)]
          try with_reducible rfl
        try simp only [Act.put, List.setIfInBounds_toArray, List.set_cons_zero, List.set_cons_succ, List.getElem_toArray, List.getElem_cons_zero, List.getElem_cons_succ]
        refine wpAnyH_take (i := 4) (v := ?_) rfl (by kernel_rfl) (by kernel_rfl) (by kernel_rfl) (fun _ _ _ h => h) (Or.inl ⟨by rfl, ?_⟩) hHeld ?_
        rotate_left
        · intro W hSw
          obtain ⟨-, s0, s1, s2, s3, s4, s5⟩ := hSw
          try simp only [List.getElem_toArray, List.getElem_cons_zero, List.getElem_cons_succ]
          go_simp
          try rw [if_neg (by omega)]
          try with_reducible rfl
        try simp only [Act.put, List.setIfInBounds_toArray, List.set_cons_zero, List.set_cons_succ, List.getElem_toArray, List.getElem_cons_zero, List.getElem_cons_succ]
        refine wpAnyH_take (i := 5) (v := ?_) rfl (by kernel_rfl) (by kernel_rfl) (by kernel_rfl) (fun _ _ _ h => h) (Or.inl ⟨by rfl, ?_⟩) hHeld ?_
        rotate_left
        · intro W hSw
          obtain ⟨-, s0, s1, s2, s3, s4, s5⟩ := hSw
          try simp only [List.getElem_toArray, List.getElem_cons_zero, List.getElem_cons_succ]
          go_simp
          try rw [if_neg (by omega)]
          try with_reducible rfl
        try simp only [Act.put, List.setIfInBounds_toArray, List.set_cons_zero, List.set_cons_succ, List.getElem_toArray, List.getElem_cons_zero, List.getElem_cons_succ]
        refine wpAnyH_take (i := 9) (v := ?_) rfl (by kernel_rfl) (by kernel_rfl) (by kernel_rfl) (fun _ _ _ h => h) (Or.inl ⟨by rfl, ?_⟩) hHeld ?_
        rotate_left
        · intro W hSw
          obtain ⟨-, s0, s1, s2, s3, s4, s5⟩ := hSw
          try simp only [List.getElem_toArray, List.getElem_cons_zero, List.getElem_cons_succ]
          go_simp
          try rw [if_neg (by omega)]
          try with_reducible rfl
        try simp only [Act.put, List.setIfInBounds_toArray, List.set_cons_zero, List.set_cons_succ, List.getElem_toArray, List.getElem_cons_zero, List.getElem_cons_succ]
        refine wpAnyH_take (i := 10) (v := ?_) rfl (by kernel_rfl) (by kernel_rfl) (by kernel_rfl) (fun _ _ _ h => h) (Or.inl ⟨by rfl, ?_⟩) hHeld ?_
        rotate_left
        · intro W hSw
          obtain ⟨-, s0, s1, s2, s3, s4, s5⟩ := hSw
          try simp only [List.getElem_toArray, List.getElem_cons_zero, List.getElem_cons_succ]
          go_simp
          try rw [if_neg (by omega)]
          try with_reducible rfl
        try simp only [Act.put, List.setIfInBounds_toArray, List.set_cons_zero, List.set_cons_succ, List.getElem_toArray, List.getElem_cons_zero, List.getElem_cons_succ]
        refine wpAnyH_take (i := 11) (v := ?_) rfl (by kernel_rfl) (by kernel_rfl) (by kernel_rfl) (fun _ _ _ h => h) (Or.inl ⟨by rfl, ?_⟩) hHeld ?_
        rotate_left
        · intro W hSw
          obtain ⟨-, s0, s1, s2, s3, s4, s5⟩ := hSw
          try simp only [List.getElem_toArray, List.getElem_cons_zero, List.getElem_cons_succ]
          go_simp
          try rw [if_neg (by omega)]
          try with_reducible rfl
        try simp only [Act.put, List.setIfInBounds_toArray, List.set_cons_zero, List.set_cons_succ, List.getElem_toArray, List.getElem_cons_zero, List.getElem_cons_succ]
        refine wpAnyH_take (i := 12) (v := ?_) rfl (by kernel_rfl) (by kernel_rfl) (by kernel_rfl) (fun _ _ _ h => h) (Or.inl ⟨by rfl, ?_⟩) hHeld ?_
        rotate_left
        · intro W hSw
          obtain ⟨-, s0, s1, s2, s3, s4, s5⟩ := hSw
          try simp only [List.getElem_toArray, List.getElem_cons_zero, List.getElem_cons_succ]
          go_simp
          try rw [if_neg (by omega)]
          try with_reducible rfl
        try simp only [Act.put, List.setIfInBounds_toArray, List.set_cons_zero, List.set_cons_succ, List.getElem_toArray, List.getElem_cons_zero, List.getElem_cons_succ]
        refine wpAnyH_take (i := 13) (v := ?_) rfl (by kernel_rfl) (by kernel_rfl) (by kernel_rfl) (fun _ _ _ h => h) (Or.inl ⟨by rfl, ?_⟩) hHeld ?_
        rotate_left
        · intro W hSw
          obtain ⟨-, s0, s1, s2, s3, s4, s5⟩ := hSw
          try simp only [List.getElem_toArray, List.getElem_cons_zero, List.getElem_cons_succ]
          go_simp
          try rw [if_neg (by omega)]
          try with_reducible rfl
        try simp only [Act.put, List.setIfInBounds_toArray, List.set_cons_zero, List.set_cons_succ, List.getElem_toArray, List.getElem_cons_zero, List.getElem_cons_succ]
        refine wpAnyH_ready (rs := [6]) (by kernel_rfl) (by simp) (AllReadyH.cons rfl (fun K hK => ?_) AllReadyH.nil)
        try simp only [List.getElem_toArray, List.getElem_cons_zero, List.getElem_cons_succ]
        go_simp
        go_at_call 43; refine (Hq2.out _).mono ?_; rintro e w1 ⟨rfl, hF1⟩
        refine hK.out _ _ ⟨hHeld.1.trans' hF1, hF1.cellN hHeld.2.1, hF1.cellN hHeld.2.2.1, hF1.cellN hHeld.2.2.2.1, hF1.cellN hHeld.2.2.2.2.1, hF1.cellN hHeld.2.2.2.2.2.1, hF1.cellN hHeld.2.2.2.2.2.2⟩ (fun hHeld => ?_)
        clear hK K
        try simp only [Act.put, List.setIfInBounds_toArray, List.set_cons_zero, List.set_cons_succ, List.getElem_toArray, List.getElem_cons_zero, List.getElem_cons_succ]
        refine wpAnyH_take (i := 7) (v := ?_) rfl (by kernel_rfl) (by kernel_rfl) (by kernel_rfl) (fun _ _ _ h => h) (Or.inl ⟨by rfl, ?_⟩) hHeld ?_
        rotate_left
        · intro W hSw
          obtain ⟨-, s0, s1, s2, s3, s4, s5⟩ := hSw
          try simp only [List.getElem_toArray, List.getElem_cons_zero, List.getElem_cons_succ]
          go_simp
          try rw [if_neg (by omega)]
          try with_reducible rfl
        try simp only [Act.put, List.setIfInBounds_toArray, List.set_cons_zero, List.set_cons_succ, List.getElem_toArray, List.getElem_cons_zero, List.getElem_cons_succ]
        refine wpAnyH_take (i := 8) (v := ?_) rfl (by kernel_rfl) (by kernel_rfl) (by kernel_rfl) (fun _ _ _ h => h) (Or.inl ⟨by rfl, ?_⟩) hHeld ?_
        rotate_left
        · intro W hSw
          obtain ⟨-, s0, s1, s2, s3, s4, s5⟩ := hSw
          try simp only [List.getElem_toArray, List.getElem_cons_zero, List.getElem_cons_succ]
          go_simp
          try rw [if_neg (by omega)]
          try with_reducible rfl
        try simp only [Act.put, List.setIfInBounds_toArray, List.set_cons_zero, List.set_cons_succ, List.getElem_toArray, List.getElem_cons_zero, List.getElem_cons_succ]
        refine wpAnyH_ready (rs := [14]) (by kernel_rfl) (by simp) (AllReadyH.cons rfl (fun K hK => ?_) AllReadyH.nil)
        try simp only [List.getElem_toArray, List.getElem_cons_zero, List.getElem_cons_succ]
        go_simp
        go_at_call 27; refine (Hcall.out _ _ (RJ.kp (Kp.ofFr hHeld.1) _ _ Hrj.out)).mono ?_; rintro e w2 ⟨rfl, hF2⟩
        refine hK.out _ _ ⟨hHeld.1.trans' hF2, hF2.cellN hHeld.2.1, hF2.cellN hHeld.2.2.1, hF2.cellN hHeld.2.2.2.1, hF2.cellN hHeld.2.2.2.2.1, hF2.cellN hHeld.2.2.2.2.2.1, hF2.cellN hHeld.2.2.2.2.2.2⟩ (fun hHeld => ?_)
        clear hK K
        try simp only [Act.put, List.setIfInBounds_toArray, List.set_cons_zero, List.set_cons_succ, List.getElem_toArray, List.getElem_cons_zero, List.getElem_cons_succ]
        refine wpAnyH_take (i := 15) (v := ?_) rfl (by kernel_rfl) (by kernel_rfl) (by kernel_rfl) (fun _ _ _ h => h) (Or.inl ⟨by rfl, ?_⟩) hHeld ?_
        rotate_left
        · intro W hSw
          obtain ⟨-, s0, s1, s2, s3, s4, s5⟩ := hSw
          try simp only [List.getElem_toArray, List.getElem_cons_zero, List.getElem_cons_succ]
          go_simp
          try rw [if_neg (by omega)]
          try with_reducible rfl
        try simp only [Act.put, List.setIfInBounds_toArray, List.set_cons_zero, List.set_cons_succ, List.getElem_toArray, List.getElem_cons_zero, List.getElem_cons_succ]
        refine wpAnyH_take (i := 16) (v := ?_) rfl (by kernel_rfl) (by kernel_rfl) (by kernel_rfl) (fun _ _ _ h => h) (Or.inl ⟨by rfl, ?_⟩) hHeld ?_
        rotate_left
        · intro W hSw
          obtain ⟨-, s0, s1, s2, s3, s4, s5⟩ := hSw
          try simp only [List.getElem_toArray, List.getElem_cons_zero, List.getElem_cons_succ]
          go_simp
          try rw [if_neg (by omega)]
          try with_reducible rfl
        try simp only [Act.put, List.setIfInBounds_toArray, List.set_cons_zero, List.set_cons_succ, List.getElem_toArray, List.getElem_cons_zero, List.getElem_cons_succ]
        refine wpAnyH_done (by kernel_rfl) ?_ _
        all_goals
          have HF2 := Lib.hid (HF.out.trans' hHeld.1)
          clear hHeld hF1 hF2
          go_wp2_with fail
          go_roundg (gk - 1)
          case measure => omega
          case rel => exact ⟨i + 1, out ++ (Y ++ ([58] ++ X)), by first | rfl | (simp; done) | (simp [str_append]), by simp, by omega, by omega, HF2.out, by have h := HS2.out; rw [pJoin, if_pos Hi0.out, ← List.append_assoc] at h; rw [pJoin_pos (by omega)]; exact h⟩
      · have hi1 : (0 : Int) < i := by omega
        go_wp2_with fail
        refine wp_region_held_drew (S := (fun W' => Fr NoB wr W' ∧ W'.cell? ⟨b, o + i * 6, none⟩ = some (.string ⟨nm.toArray⟩) ∧ W'.cell? ⟨b, o + i * 6 + 1, none⟩ = some x0 ∧ W'.cell? ⟨b, o + i * 6 + 2, none⟩ = some x1 ∧ W'.cell? ⟨b, o + i * 6 + 3, none⟩ = some x2 ∧ W'.cell? ⟨b, o + i * 6 + 4, none⟩ = some x3 ∧ W'.cell? ⟨b, o + i * 6 + 5, none⟩ = some x4)) (by kernel_rfl) ⟨Fr.refl.drew, (Fr.refl (M := NoB)).drew.cellN e0, (Fr.refl (M := NoB)).drew.cellN e1, (Fr.refl (M := NoB)).drew.cellN e2, (Fr.refl (M := NoB)).drew.cellN e3, (Fr.refl (M := NoB)).drew.cellN e4, (Fr.refl (M := NoB)).drew.cellN e5⟩ (fun hHeld => ?_)
        refine wpAnyH_take (i := 0) (v := ?_) rfl (by kernel_rfl) (by kernel_rfl) (by kernel_rfl) (fun _ _ _ h => h) (Or.inl ⟨by rfl, ?_⟩) hHeld ?_
        rotate_left
        · intro W hSw
          obtain ⟨-, s0, s1, s2, s3, s4, s5⟩ := hSw
          try simp only [List.getElem_toArray, List.getElem_cons_zero, List.getElem_cons_succ]
          go_simp
          try rw [if_neg (by omega)]
          try with_reducible rfl
        try simp only [Act.put, List.setIfInBounds_toArray, List.set_cons_zero, List.set_cons_succ, List.getElem_toArray, List.getElem_cons_zero, List.getElem_cons_succ]
        refine wpAnyH_take (i := 1) (v := ?_) rfl (by kernel_rfl) (by kernel_rfl) (by kernel_rfl) (fun _ _ _ h => h) (Or.inl ⟨by rfl, ?_⟩) hHeld ?_
        rotate_left
        · intro W hSw
          obtain ⟨-, s0, s1, s2, s3, s4, s5⟩ := hSw
          try simp only [List.getElem_toArray, List.getElem_cons_zero, List.getElem_cons_succ]
          go_simp
          try rw [if_neg (by omega)]
          try with_reducible rfl
        try simp only [Act.put, List.setIfInBounds_toArray, List.set_cons_zero, List.set_cons_succ, List.getElem_toArray, List.getElem_cons_zero, List.getElem_cons_succ]
        refine wpAnyH_take (i := 2) (v := ?_) rfl (by kernel_rfl) (by kernel_rfl) (by kernel_rfl) (fun _ _ _ h => h) (Or.inl ⟨by rfl, ?_⟩) hHeld ?_
        rotate_left
        · intro W hSw
          obtain ⟨-, s0, s1, s2, s3, s4, s5⟩ := hSw
          try simp only [List.getElem_toArray, List.getElem_cons_zero, List.getElem_cons_succ]
          go_simp
          try rw [if_neg (by omega)]
          try with_reducible rfl
        try simp only [Act.put, List.setIfInBounds_toArray, List.set_cons_zero, List.set_cons_succ, List.getElem_toArray, List.getElem_cons_zero, List.getElem_cons_succ]
        refine wpAnyH_take (i := 3) (v := ?_) rfl (by kernel_rfl) (by kernel_rfl) (by kernel_rfl) (fun _ _ _ h => h) (Or.inl ⟨by rfl, ?_⟩) hHeld ?_
        rotate_left
        · intro W hSw
          obtain ⟨-, s0, s1, s2, s3, s4, s5⟩ := hSw
          try simp only [List.getElem_toArray, List.getElem_cons_zero, List.getElem_cons_succ]
          go_simp
          try rw [if_neg (by omega)]
          try with_reducible rfl
        try simp only [Act.put, List.setIfInBounds_toArray, List.set_cons_zero, List.set_cons_succ, List.getElem_toArray, List.getElem_cons_zero, List.getElem_cons_succ]
        refine wpAnyH_take (i := 4) (v := ?_) rfl (by kernel_rfl) (by kernel_rfl) (by kernel_rfl) (fun _ _ _ h => h) (Or.inl ⟨by rfl, ?_⟩) hHeld ?_
        rotate_left
        · intro W hSw
          obtain ⟨-, s0, s1, s2, s3, s4, s5⟩ := hSw
          try simp only [List.getElem_toArray, List.getElem_cons_zero, List.getElem_cons_succ]
          go_simp
          try rw [if_neg (by omega)]
          try with_reducible rfl
        try simp only [Act.put, List.setIfInBounds_toArray, List.set_cons_zero, List.set_cons_succ, List.getElem_toArray, List.getElem_cons_zero, List.getElem_cons_succ]
        refine wpAnyH_take (i := 5) (v := ?_) rfl (by kernel_rfl) (by kernel_rfl) (by kernel_rfl) (fun _ _ _ h => h) (Or.inl ⟨by rfl, ?_⟩) hHeld ?_
        rotate_left
        · intro W hSw
          obtain ⟨-, s0, s1, s2, s3, s4, s5⟩ := hSw
          try simp only [List.getElem_toArray, List.getElem_cons_zero, List.getElem_cons_succ]
          go_simp
          try rw [if_neg (by omega)]
          try with_reducible rfl
        try simp only [Act.put, List.setIfInBounds_toArray, List.set_cons_zero, List.set_cons_succ, List.getElem_toArray, List.getElem_cons_zero, List.getElem_cons_succ]
        refine wpAnyH_take (i := 9) (v := ?_) rfl (by kernel_rfl) (by kernel_rfl) (by kernel_rfl) (fun _ _ _ h => h) (Or.inl ⟨by rfl, ?_⟩) hHeld ?_
        rotate_left
        · intro W hSw
          obtain ⟨-, s0, s1, s2, s3, s4, s5⟩ := hSw
          try simp only [List.getElem_toArray, List.getElem_cons_zero, List.getElem_cons_succ]
          go_simp
          try rw [if_neg (by omega)]
          try with_reducible rfl
        try simp only [Act.put, List.setIfInBounds_toArray, List.set_cons_zero, List.set_cons_succ, List.getElem_toArray, List.getElem_cons_zero, List.getElem_cons_succ]
        refine wpAnyH_take (i := 10) (v := ?_) rfl (by kernel_rfl) (by kernel_rfl) (by kernel_rfl) (fun _ _ _ h => h) (Or.inl ⟨by rfl, ?_⟩) hHeld ?_
        rotate_left
        · intro W hSw
          obtain ⟨-, s0, s1, s2, s3, s4, s5⟩ := hSw
          try simp only [List.getElem_toArray, List.getElem_cons_zero, List.getElem_cons_succ]
          go_simp
          try rw [if_neg (by omega)]
          try with_reducible rfl
        try simp only [Act.put, List.setIfInBounds_toArray, List.set_cons_zero, List.set_cons_succ, List.getElem_toArray, List.getElem_cons_zero, List.getElem_cons_succ]
        refine wpAnyH_take (i := 11) (v := ?_) rfl (by kernel_rfl) (by kernel_rfl) (by kernel_rfl) (fun _ _ _ h => h) (Or.inl ⟨by rfl, ?_⟩) hHeld ?_
        rotate_left
        · intro W hSw
          obtain ⟨-, s0, s1, s2, s3, s4, s5⟩ := hSw
          try simp only [List.getElem_toArray, List.getElem_cons_zero, List.getElem_cons_succ]
          go_simp
          try rw [if_neg (by omega)]
          try with_reducible rfl
        try simp only [Act.put, List.setIfInBounds_toArray, List.set_cons_zero, List.set_cons_succ, List.getElem_toArray, List.getElem_cons_zero, List.getElem_cons_succ]
        refine wpAnyH_take (i := 12) (v := ?_) rfl (by kernel_rfl) (by kernel_rfl) (by kernel_rfl) (fun _ _ _ h => h) (Or.inl ⟨by rfl, ?_⟩) hHeld ?_
        rotate_left
        · intro W hSw
          obtain ⟨-, s0, s1, s2, s3, s4, s5⟩ := hSw
          try simp only [List.getElem_toArray, List.getElem_cons_zero, List.getElem_cons_succ]
          go_simp
          try rw [if_neg (by omega)]
          try with_reducible rfl
        try simp only [Act.put, List.setIfInBounds_toArray, List.set_cons_zero, List.set_cons_succ, List.getElem_toArray, List.getElem_cons_zero, List.getElem_cons_succ]
        refine wpAnyH_take (i := 13) (v := ?_) rfl (by kernel_rfl) (by kernel_rfl) (by kernel_rfl) (fun _ _ _ h => h) (Or.inl ⟨by rfl, ?_⟩) hHeld ?_
        rotate_left
        · intro W hSw
          obtain ⟨-, s0, s1, s2, s3, s4, s5⟩ := hSw
          try simp only [List.getElem_toArray, List.getElem_cons_zero, List.getElem_cons_succ]
          go_simp
          try rw [if_neg (by omega)]
          try with_reducible rfl
        try simp only [Act.put, List.setIfInBounds_toArray, List.set_cons_zero, List.set_cons_succ, List.getElem_toArray, List.getElem_cons_zero, List.getElem_cons_succ]
        refine wpAnyH_ready (rs := [6]) (by kernel_rfl) (by simp) (AllReadyH.cons rfl (fun K hK => ?_) AllReadyH.nil)
        try simp only [List.getElem_toArray, List.getElem_cons_zero, List.getElem_cons_succ]
        go_simp
        go_at_call 43; refine (Hq2.out _).mono ?_; rintro e w1 ⟨rfl, hF1⟩
        refine hK.out _ _ ⟨hHeld.1.trans' hF1, hF1.cellN hHeld.2.1, hF1.cellN hHeld.2.2.1, hF1.cellN hHeld.2.2.2.1, hF1.cellN hHeld.2.2.2.2.1, hF1.cellN hHeld.2.2.2.2.2.1, hF1.cellN hHeld.2.2.2.2.2.2⟩ (fun hHeld => ?_)
        clear hK K
        try simp only [Act.put, List.setIfInBounds_toArray, List.set_cons_zero, List.set_cons_succ, List.getElem_toArray, List.getElem_cons_zero, List.getElem_cons_succ]
        refine wpAnyH_take (i := 7) (v := ?_) rfl (by kernel_rfl) (by kernel_rfl) (by kernel_rfl) (fun _ _ _ h => h) (Or.inl ⟨by rfl, ?_⟩) hHeld ?_
        rotate_left
        · intro W hSw
          obtain ⟨-, s0, s1, s2, s3, s4, s5⟩ := hSw
          try simp only [List.getElem_toArray, List.getElem_cons_zero, List.getElem_cons_succ]
          go_simp
          try rw [if_neg (by omega)]
          try with_reducible rfl
        try simp only [Act.put, List.setIfInBounds_toArray, List.set_cons_zero, List.set_cons_succ, List.getElem_toArray, List.getElem_cons_zero, List.getElem_cons_succ]
        refine wpAnyH_take (i := 8) (v := ?_) rfl (by kernel_rfl) (by kernel_rfl) (by kernel_rfl) (fun _ _ _ h => h) (Or.inl ⟨by rfl, ?_⟩) hHeld ?_
        rotate_left
        · intro W hSw
          obtain ⟨-, s0, s1, s2, s3, s4, s5⟩ := hSw
          try simp only [List.getElem_toArray, List.getElem_cons_zero, List.getElem_cons_succ]
          go_simp
          try rw [if_neg (by omega)]
          try with_reducible rfl
        try simp only [Act.put, List.setIfInBounds_toArray, List.set_cons_zero, List.set_cons_succ, List.getElem_toArray, List.getElem_cons_zero, List.getElem_cons_succ]
        refine wpAnyH_ready (rs := [14]) (by kernel_rfl) (by simp) (AllReadyH.cons rfl (fun K hK => ?_) AllReadyH.nil)
        try simp only [List.getElem_toArray, List.getElem_cons_zero, List.getElem_cons_succ]
        go_simp
        go_at_call 27; refine (Hcall.out _ _ (RJ.kp (Kp.ofFr hHeld.1) _ _ Hrj.out)).mono ?_; rintro e w2 ⟨rfl, hF2⟩
        refine hK.out _ _ ⟨hHeld.1.trans' hF2, hF2.cellN hHeld.2.1, hF2.cellN hHeld.2.2.1, hF2.cellN hHeld.2.2.2.1, hF2.cellN hHeld.2.2.2.2.1, hF2.cellN hHeld.2.2.2.2.2.1, hF2.cellN hHeld.2.2.2.2.2.2⟩ (fun hHeld => ?_)
        clear hK K
        try simp only [Act.put, List.setIfInBounds_toArray, List.set_cons_zero, List.set_cons_succ, List.getElem_toArray, List.getElem_cons_zero, List.getElem_cons_succ]
        refine wpAnyH_take (i := 15) (v := ?_) rfl (by kernel_rfl) (by kernel_rfl) (by kernel_rfl) (fun _ _ _ h => h) (Or.inl ⟨by rfl, ?_⟩) hHeld ?_
        rotate_left
        · intro W hSw
          obtain ⟨-, s0, s1, s2, s3, s4, s5⟩ := hSw
          try simp only [List.getElem_toArray, List.getElem_cons_zero, List.getElem_cons_succ]
          go_simp
          try rw [if_neg (by omega)]
          try with_reducible rfl
        try simp only [Act.put, List.setIfInBounds_toArray, List.set_cons_zero, List.set_cons_succ, List.getElem_toArray, List.getElem_cons_zero, List.getElem_cons_succ]
        refine wpAnyH_take (i := 16) (v := ?_) rfl (by kernel_rfl) (by kernel_rfl) (by kernel_rfl) (fun _ _ _ h => h) (Or.inl ⟨by rfl, ?_⟩) hHeld ?_
        rotate_left
        · intro W hSw
          obtain ⟨-, s0, s1, s2, s3, s4, s5⟩ := hSw
          try simp only [List.getElem_toArray, List.getElem_cons_zero, List.getElem_cons_succ]
          go_simp
          try rw [if_neg (by omega)]
          try with_reducible rfl
        try simp only [Act.put, List.setIfInBounds_toArray, List.set_cons_zero, List.set_cons_succ, List.getElem_toArray, List.getElem_cons_zero, List.getElem_cons_succ]
        refine wpAnyH_done (by kernel_rfl) ?_ _
        all_goals
          have HF2 := Lib.hid (HF.out.trans' hHeld.1)
          clear hHeld hF1 hF2
          go_wp2_with fail
          go_roundg (gk - 1)
          case measure => omega
          case rel => exact ⟨i + 1, out ++ [44] ++ (Y ++ ([58] ++ X)), by first | rfl | (simp; done) | (simp [str_append]), by simp, by omega, by omega, HF2.out, Lib.hid (by have h := HS2.out; rw [pJoin, if_neg (by omega)] at h; rw [pJoin_pos (by omega), ← h]; simp)⟩
    · obtain rfl : i = P.length := by omega
      have hR := hS.out
      rw [List.drop_eq_nil_of_le (by rw [HLl.out]; exact Nat.le_refl _)] at hR
      simp only [pJoin, List.append_nil] at hR
      subst hR
      have hol : out.length ≤ 70368744177664 := by omega
      have HF := Lib.hid (HF1.out.trans' hF)
      clear hF hS hlS hlG
      go_wp2_with fail
      go_ret
      exact ⟨ret_str (by first | rfl | (simp; done) | (simp [str_append]) | (rw [← str_append, ← str_append])), HF.out⟩
theorem refText_c : ∀ f, TextOk f := by
  intro f
  induction f with
  | zero =>
    intro d S j v w h hfit hs hdf hd hlen
    obtain ⟨k, n, t, l, p⟩ := j
    have hft := fits.open hfit
    rw [sound_iff] at hs
    rcases hs with ⟨hs, rfl, rfl⟩ | ⟨_, _, _, h4, _⟩ | ⟨_, _, _, h4, _⟩
    · simp only [pSorts]
      rcases hs with ⟨rfl, rfl, rfl⟩ | ⟨rfl, rfl | rfl, rfl⟩ | ⟨rfl, h1, h2, rfl⟩ | ⟨rfl, rfl, _⟩
      · exact text_flat0 S v w h
      · exact text_flat1 S v w h
      · exact text_flat1b S v w h
      · exact text_flat2 S n v w h h1 h2
      · exact text_flat3 S t v w h hft.1
    · simp at hdf; omega
    · simp at hdf; omega
  | succ f ih =>
    intro d S j v w h hfit hs hdf hd hlen
    obtain ⟨k, n, t, l, p⟩ := j
    have hft := fits.open hfit
    rw [sound_iff] at hs
    rcases hs with ⟨hs, rfl, rfl⟩ | ⟨rfl, rfl, rfl, h4, h5, rfl⟩ | ⟨rfl, rfl, rfl, h4, h5, rfl⟩
    · have e : pSorts (f + 1) (.mk k n t [] []) = .mk k n t [] [] := rfl
      rw [e]
      rcases hs with ⟨rfl, rfl, rfl⟩ | ⟨rfl, rfl | rfl, rfl⟩ | ⟨rfl, h1, h2, rfl⟩ | ⟨rfl, rfl, _⟩
      · exact text_flat0 S v w h
      · exact text_flat1 S v w h
      · exact text_flat1b S v w h
      · exact text_flat2 S n v w h h1 h2
      · exact text_flat3 S t v w h hft.1
    · exact text_list f ih d S l v w h hft.2.2.2.1 hft.2.1 h5 h4 (by simp at hdf; omega) hlen
    · exact text_object f ih d S p v w h hft.2.2.2.2 hft.2.2.1 (fun q hq => (h5.1 q hq).2) h4 (by simp at hdf; omega) hlen
end Go.Proofs.YtbfmpbhikipipaaGreatDoor
