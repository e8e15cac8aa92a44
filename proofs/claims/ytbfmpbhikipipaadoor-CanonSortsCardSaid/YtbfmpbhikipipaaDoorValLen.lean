/-
  A value is read from what it leaves behind it at most.
-/
import Derived.Test.YtbfmpbhikipipaaDoorTextLen
namespace Go.Proofs.YtbfmpbhikipipaaDoor
set_option linter.unusedVariables false
set_option linter.unusedSimpArgs false
set_option linter.unusedSectionVars false

theorem blanks_le (s : Bs) : (sBlanks s).length ≤ s.length := by
  unfold sBlanks Lib.trimLeftS
  exact List.Sublist.length_le (List.dropWhile_sublist _)
theorem eat_le {c : UInt8} {s l : Bs} (h : sEat c s = some l) : l.length ≤ s.length := by
  unfold sEat at h
  have hb := blanks_le s
  split at h
  · simp at h
  · rename_i x m hm
    rw [hm] at hb
    split at h
    · simp at h; subst h; simp at hb; omega
    · simp at h
theorem digits_le : ∀ (s : Bs) (n k : Nat), (sDigits n k s).2.2.length ≤ s.length := by
  intro s
  induction s with
  | nil => intro n k; simp [sDigits]
  | cons x l ih =>
    intro n k
    unfold sDigits
    split
    · exact Nat.le_trans (ih _ _) (by simp)
    · simp
theorem numAt_le (m b : Bool) (s : Bs) : (sNumAt m b s).2.s.length ≤ s.length := by
  unfold sNumAt
  split
  · simp
  · rename_i y l
    split
    · have := digits_le (y :: l) 0 0
      generalize sDigits 0 0 (y :: l) = G at *
      obtain ⟨n, k, s2⟩ := G
      exact this
    · simp
theorem number_le (st : St) : (sNumber st).2.s.length ≤ st.s.length := by
  unfold sNumber
  split
  · simp
  · rename_i x l hl
    rw [hl]
    split
    · exact Nat.le_trans (numAt_le _ _ _) (by simp)
    · exact numAt_le _ _ _
section
variable {α : Type} {one : St → α → St × α}
theorem loop_le (h : ∀ st a, (one st a).1.s.length ≤ st.s.length) (shut : UInt8) : ∀ (k : Nat) (st : St) (a : α), (sLoop one shut k st a).1.s.length ≤ st.s.length := by
  intro k
  induction k with
  | zero => intro st a; simp [sLoop]
  | succ k ih =>
    intro st a
    unfold sLoop
    split
    · simp
    · have h1 := h st a
      generalize one st a = G at *
      obtain ⟨st1, a1⟩ := G
      simp only at h1 ⊢
      split
      · exact h1
      · split
        · rename_i l hl
          exact Nat.le_trans (eat_le hl) h1
        · have hb := blanks_le st1.s
          split
          · rename_i l hl
            have := eat_le hl
            have := ih ⟨l, false⟩ a1
            simp only at this
            omega
          · have := ih ⟨sBlanks (sBlanks st1.s), true⟩ a1
            have h2 := blanks_le (sBlanks st1.s)
            simp only at this
            omega
theorem open_le (op : UInt8) (d : Int) (st : St) : (sOpen op d st).s.length ≤ st.s.length := by
  unfold sOpen
  split
  · rename_i l hl; exact eat_le hl
  · exact blanks_le _
theorem each_le (h : ∀ st a, (one st a).1.s.length ≤ st.s.length) (op shut : UInt8) (d : Int) (st : St) (a : α) : (sEach one op shut d st a).1.s.length ≤ st.s.length := by
  unfold sEach
  have h1 := open_le op d st
  generalize sOpen op d st = G at *
  split
  · rename_i l hl
    have := eat_le hl
    simp only; omega
  · have h2 := loop_le h shut (G.s.length + 2) ⟨sBlanks G.s, G.bad⟩ a
    have := blanks_le G.s
    simp only at h2
    omega
end
theorem colon_le (names : List Bs) (nm : Bs) (st : St) : (sColon names nm st).s.length ≤ st.s.length := by
  unfold sColon
  split
  · simp
  · split
    · rename_i l hl; exact eat_le hl
    · exact blanks_le _
theorem item_le {val : St → J × St} (h : ∀ st, (val st).2.s.length ≤ st.s.length) (st : St) (a : List J) : (sItem val st a).1.s.length ≤ st.s.length := h st
theorem pair_le {val : St → J × St} (h : ∀ st, (val st).2.s.length ≤ st.s.length) (st : St) (a : List (Bs × J)) : (sPair val st a).1.s.length ≤ st.s.length := by
  unfold sPair
  have h1 := text_len ⟨sBlanks st.s, st.bad⟩
  have hb := blanks_le st.s
  generalize sText ⟨sBlanks st.s, st.bad⟩ = G at *
  obtain ⟨nm, st1⟩ := G
  simp only at h1 ⊢
  have h2 := colon_le (a.map (·.1)) nm st1
  generalize sColon (a.map (·.1)) nm st1 = C at *
  have h3 := h C
  generalize val C = V at *
  obtain ⟨x, st2⟩ := V
  simp only at h3 ⊢
  omega
theorem pair_more {val : St → J × St} (st : St) (a : List (Bs × J)) : (sPair val st a).2.length = a.length + 1 := by
  unfold sPair
  generalize sText ⟨sBlanks st.s, st.bad⟩ = G at *
  obtain ⟨nm, st1⟩ := G
  simp only
  generalize val (sColon (a.map (·.1)) nm st1) = V at *
  obtain ⟨x, st2⟩ := V
  simp
theorem read_le {val : St → J × St} (h : ∀ st, (val st).2.s.length ≤ st.s.length) (d : Int) (c : UInt8) (st : St) : (sRead val d c st).2.s.length ≤ st.s.length := by
  unfold sRead
  split
  · exact must_len _ _
  split
  · exact must_len _ _
  split
  · exact must_len _ _
  split
  · exact text_len _
  split
  · exact each_le (item_le h) _ _ _ _ _
  split
  · exact each_le (pair_le h) _ _ _ _ _
  · exact number_le _
theorem value_le : ∀ (f : Nat) (d : Int) (st : St), (sValue f d st).2.s.length ≤ st.s.length := by
  intro f
  induction f with
  | zero => intro d st; simp [sValue]
  | succ f ih =>
    intro d st
    have hb := blanks_le st.s
    unfold sValue
    split
    · simp
    · rename_i c l hl
      rw [hl] at hb
      split
      · exact hb
      · exact Nat.le_trans (read_le (ih (d + 1)) _ _ _) hb
end Go.Proofs.YtbfmpbhikipipaaDoor
