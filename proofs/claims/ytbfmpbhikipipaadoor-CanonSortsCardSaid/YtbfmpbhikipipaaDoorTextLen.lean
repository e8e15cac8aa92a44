/-
  A text that was read is no longer than four times what it was read from.
-/
import Derived.Test.YtbfmpbhikipipaaDoorSpecJ
namespace Go.Proofs.YtbfmpbhikipipaaDoor
set_option linter.unusedVariables false
set_option linter.unusedSimpArgs false
set_option linter.unusedSectionVars false
theorem text_step_len (out : Bs) (st : St) : (∀ r o st', sTextStep out st = (some r, o, st') → r.length ≤ out.length ∧ st'.s.length ≤ st.s.length) ∧
    (∀ o st', sTextStep out st = (none, o, st') → o.length + 4 * st'.s.length ≤ out.length + 4 * st.s.length ∧ st'.s.length ≤ st.s.length) := by
  obtain ⟨d1, d2, d3, d4⟩ := dec_facts st.s
  unfold sTextStep
  dsimp only
  generalize hc : (Lib.decodeGo ⟨st.s.toArray⟩).1 = c at *
  generalize hs : (Lib.decodeGo ⟨st.s.toArray⟩).2 = size at *
  have hl : (st.s.drop size).length = st.s.length - size := by simp
  have hesc := escape_len ⟨st.s.drop size, st.bad⟩
  generalize st.s.drop size = l at *
  simp only at hesc ⊢
  have e1 := encode_len c
  have e2 := encode_len ((sEscape ⟨l, st.bad⟩).1)
  generalize sEscape ⟨l, st.bad⟩ = E at *
  split
  · refine ⟨by simp, ?_⟩
    rintro o st' h
    simp at h
    obtain ⟨rfl, rfl⟩ := h
    simp only
    omega
  · rename_i hn
    have hs1 : 1 ≤ size := by omega
    split
    · refine ⟨?_, by simp⟩
      rintro r o st' h
      simp at h
      obtain ⟨rfl, rfl, rfl⟩ := h
      simp only
      omega
    · split
      · refine ⟨by simp, ?_⟩
        rintro o st' h
        simp at h
        obtain ⟨rfl, rfl⟩ := h
        simp only [List.length_append]
        omega
      · refine ⟨by simp, ?_⟩
        rintro o st' h
        simp at h
        obtain ⟨rfl, rfl⟩ := h
        simp only [List.length_append]
        omega
theorem text_loop_len : ∀ (k : Nat) (out : Bs) (st : St), (sTextLoop k out st).1.length ≤ out.length + 4 * st.s.length ∧ (sTextLoop k out st).2.s.length ≤ st.s.length := by
  intro k
  induction k with
  | zero => intro out st; simp [sTextLoop]
  | succ k ih =>
    intro out st
    obtain ⟨h1, h2⟩ := text_step_len out st
    unfold sTextLoop
    split
    · simp
    · split
      · rename_i r o st' he
        have := h1 _ _ _ he
        simp only
        omega
      · rename_i o st' he
        have := h2 _ _ he
        have := ih o st'
        omega
theorem text_name_len (st : St) : (sText st).1.length ≤ 4 * st.s.length := by
  have h1 := (text_loop_len (st.s.length + 2) [] (sMust [34] st)).1
  have h2 := must_len [34] st
  simp only [List.length_nil] at h1
  unfold sText
  omega
theorem text_len (st : St) : (sText st).2.s.length ≤ st.s.length := by
  have h1 := (text_loop_len (st.s.length + 2) [] (sMust [34] st)).2
  have h2 := must_len [34] st
  unfold sText
  omega
end Go.Proofs.YtbfmpbhikipipaaDoor
