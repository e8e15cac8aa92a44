/-
  A text that was read is no longer than four times what it was read from.
-/
import Derived.Test.YtcddlemkimbkcaaGreatDoorKSpecSound
namespace Go.Proofs.YtcddlemkimbkcaaGreatDoor
set_option linter.unusedVariables false
set_option linter.unusedSimpArgs false
set_option linter.unusedSectionVars false
theorem text_step_len (out : Bs) (st : St) : (∀ r o st', sTextStep out st = (some r, o, st') → r.length ≤ out.length ∧ st'.s.length ≤ st.s.length) ∧
    (∀ o st', sTextStep out st = (none, o, st') → o.length + 4 * st'.s.length ≤ out.length + 4 * st.s.length ∧ st'.s.length ≤ st.s.length) := by
  obtain ⟨d1, d2, d3, d4⟩ := dec_facts st.s
  unfold sTextStep
  dsimp only
  generalize hc : (Lib.decodeGo ⟨st.s.toArray⟩).1 = c at *
  generalize hs : (Lib.decodeGo ⟨st.s.toArray⟩).2 = size at *
  have hl : (st.s.drop size).length = st.s.length - size := by simp
  have hesc := escape_len ⟨st.s.drop size, st.bad⟩
  generalize st.s.drop size = l at *
  simp only at hesc ⊢
  have e1 := encode_len c
  have e2 := encode_len ((sEscape ⟨l, st.bad⟩).1)
  generalize sEscape ⟨l, st.bad⟩ = E at *
  split
  · refine ⟨by simp, ?_⟩
    rintro o st' h
    simp at h
    obtain ⟨rfl, rfl⟩ := h
    simp only
    omega
  · rename_i hn
    have hs1 : 1 ≤ size := by omega
    split
    · refine ⟨?_, by simp⟩
      rintro r o st' h
      simp at h
      obtain ⟨rfl, rfl, rfl⟩ := h
      simp only
      omega
    · split
      · refine ⟨by simp, ?_⟩
        rintro o st' h
        simp at h
        obtain ⟨rfl, rfl⟩ := h
        simp only [List.length_append]
        omega
      · refine ⟨by simp, ?_⟩
        rintro o st' h
        simp at h
        obtain ⟨rfl, rfl⟩ := h
        simp only [List.length_append]
        omega
theorem text_loop_len : ∀ (k : Nat) (out : Bs) (st : St), (sTextLoop k out st).1.length ≤ out.length + 4 * st.s.length ∧ (sTextLoop k out st).2.s.length ≤ st.s.length := by
  intro k
  induction k with
  | zero => intro out st; simp [sTextLoop]
  | succ k ih =>
    intro out st
    obtain ⟨h1, h2⟩ := text_step_len out st
    unfold sTextLoop
    split
    · simp
    · split
      · rename_i r o st' he
        have := h1 _ _ _ he
        simp only
        omega
      · rename_i o st' he
        have := h2 _ _ he
        have := ih o st'
        omega
theorem text_name_len (st : St) : (sText st).1.length ≤ 4 * st.s.length := by
  have h1 := (text_loop_len (st.s.length + 2) [] (sMust [34] st)).1
  have h2 := must_len [34] st
  simp only [List.length_nil] at h1
  unfold sText
  omega
theorem text_len (st : St) : (sText st).2.s.length ≤ st.s.length := by
  have h1 := (text_loop_len (st.s.length + 2) [] (sMust [34] st)).2
  have h2 := must_len [34] st
  unfold sText
  omega
end Go.Proofs.YtcddlemkimbkcaaGreatDoor
namespace Go.Proofs.YtcddlemkimbkcaaGreatDoor
set_option linter.unusedVariables false
set_option linter.unusedSimpArgs false
set_option linter.unusedSectionVars false

theorem blanks_le (s : Bs) : (sBlanks s).length ≤ s.length := by
  unfold sBlanks Lib.trimLeftS
  exact List.Sublist.length_le (List.dropWhile_sublist _)
theorem eat_le {c : UInt8} {s l : Bs} (h : sEat c s = some l) : l.length ≤ s.length := by
  unfold sEat at h
  have hb := blanks_le s
  split at h
  · simp at h
  · rename_i x m hm
    rw [hm] at hb
    split at h
    · simp at h; subst h; simp at hb; omega
    · simp at h
theorem digits_le : ∀ (s : Bs) (n k : Nat), (sDigits n k s).2.2.length ≤ s.length := by
  intro s
  induction s with
  | nil => intro n k; simp [sDigits]
  | cons x l ih =>
    intro n k
    unfold sDigits
    split
    · exact Nat.le_trans (ih _ _) (by simp)
    · simp
theorem numAt_le (m b : Bool) (s : Bs) : (sNumAt m b s).2.s.length ≤ s.length := by
  unfold sNumAt
  split
  · simp
  · rename_i y l
    split
    · have := digits_le (y :: l) 0 0
      generalize sDigits 0 0 (y :: l) = G at *
      obtain ⟨n, k, s2⟩ := G
      exact this
    · simp
theorem number_le (st : St) : (sNumber st).2.s.length ≤ st.s.length := by
  unfold sNumber
  split
  · simp
  · rename_i x l hl
    rw [hl]
    split
    · exact Nat.le_trans (numAt_le _ _ _) (by simp)
    · exact numAt_le _ _ _
section
variable {α : Type} {one : St → α → St × α}
theorem loop_le (h : ∀ st a, (one st a).1.s.length ≤ st.s.length) (shut : UInt8) : ∀ (k : Nat) (st : St) (a : α), (sLoop one shut k st a).1.s.length ≤ st.s.length := by
  intro k
  induction k with
  | zero => intro st a; simp [sLoop]
  | succ k ih =>
    intro st a
    unfold sLoop
    split
    · simp
    · have h1 := h st a
      generalize one st a = G at *
      obtain ⟨st1, a1⟩ := G
      simp only at h1 ⊢
      split
      · exact h1
      · split
        · rename_i l hl
          exact Nat.le_trans (eat_le hl) h1
        · have hb := blanks_le st1.s
          split
          · rename_i l hl
            have := eat_le hl
            have := ih ⟨l, false⟩ a1
            simp only at this
            omega
          · have := ih ⟨sBlanks (sBlanks st1.s), true⟩ a1
            have h2 := blanks_le (sBlanks st1.s)
            simp only at this
            omega
theorem open_le (op : UInt8) (d : Int) (st : St) : (sOpen op d st).s.length ≤ st.s.length := by
  unfold sOpen
  split
  · rename_i l hl; exact eat_le hl
  · exact blanks_le _
theorem each_le (h : ∀ st a, (one st a).1.s.length ≤ st.s.length) (op shut : UInt8) (d : Int) (st : St) (a : α) : (sEach one op shut d st a).1.s.length ≤ st.s.length := by
  unfold sEach
  have h1 := open_le op d st
  generalize sOpen op d st = G at *
  split
  · rename_i l hl
    have := eat_le hl
    simp only; omega
  · have h2 := loop_le h shut (G.s.length + 2) ⟨sBlanks G.s, G.bad⟩ a
    have := blanks_le G.s
    simp only at h2
    omega
end
theorem colon_le (names : List Bs) (nm : Bs) (st : St) : (sColon names nm st).s.length ≤ st.s.length := by
  unfold sColon
  split
  · simp
  · split
    · rename_i l hl; exact eat_le hl
    · exact blanks_le _
theorem item_le {val : St → J × St} (h : ∀ st, (val st).2.s.length ≤ st.s.length) (st : St) (a : List J) : (sItem val st a).1.s.length ≤ st.s.length := h st
theorem pair_le {val : St → J × St} (h : ∀ st, (val st).2.s.length ≤ st.s.length) (st : St) (a : List (Bs × J)) : (sPair val st a).1.s.length ≤ st.s.length := by
  unfold sPair
  have h1 := text_len ⟨sBlanks st.s, st.bad⟩
  have hb := blanks_le st.s
  generalize sText ⟨sBlanks st.s, st.bad⟩ = G at *
  obtain ⟨nm, st1⟩ := G
  simp only at h1 ⊢
  have h2 := colon_le (a.map (·.1)) nm st1
  generalize sColon (a.map (·.1)) nm st1 = C at *
  have h3 := h C
  generalize val C = V at *
  obtain ⟨x, st2⟩ := V
  simp only at h3 ⊢
  omega
theorem pair_more {val : St → J × St} (st : St) (a : List (Bs × J)) : (sPair val st a).2.length = a.length + 1 := by
  unfold sPair
  generalize sText ⟨sBlanks st.s, st.bad⟩ = G at *
  obtain ⟨nm, st1⟩ := G
  simp only
  generalize val (sColon (a.map (·.1)) nm st1) = V at *
  obtain ⟨x, st2⟩ := V
  simp
theorem read_le {val : St → J × St} (h : ∀ st, (val st).2.s.length ≤ st.s.length) (d : Int) (c : UInt8) (st : St) : (sRead val d c st).2.s.length ≤ st.s.length := by
  unfold sRead
  split
  · exact must_len _ _
  split
  · exact must_len _ _
  split
  · exact must_len _ _
  split
  · exact text_len _
  split
  · exact each_le (item_le h) _ _ _ _ _
  split
  · exact each_le (pair_le h) _ _ _ _ _
  · exact number_le _
theorem value_le : ∀ (f : Nat) (d : Int) (st : St), (sValue f d st).2.s.length ≤ st.s.length := by
  intro f
  induction f with
  | zero => intro d st; simp [sValue]
  | succ f ih =>
    intro d st
    have hb := blanks_le st.s
    unfold sValue
    split
    · simp
    · rename_i c l hl
      rw [hl] at hb
      split
      · exact hb
      · exact Nat.le_trans (read_le (ih (d + 1)) _ _ _) hb
end Go.Proofs.YtcddlemkimbkcaaGreatDoor
