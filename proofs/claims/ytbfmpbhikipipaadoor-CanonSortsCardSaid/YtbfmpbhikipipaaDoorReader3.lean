/-
  The walks of json's reader, further: texts.
-/
import Derived.Test.YtbfmpbhikipipaaDoorReader2
import Derived.Deep.LoopGhost
namespace Go.Proofs.YtbfmpbhikipipaaDoor
set_option linter.unusedVariables false
set_option linter.unusedSimpArgs false
set_option linter.unusedSectionVars false
open Go.RowKit
variable [OldK]

theorem zeroBuilder (w : World) : (zeroValue 48).run Tryd.prog w = .ok (.agg #[.pointer none, .slice none 0 0]) w := by kernel_rfl
theorem MB_old {B b r : Nat} {w : World} (hB : w.heap.size ≤ B) : ∀ k o, MB B b k o → MR r k o ∨ w.heap.size ≤ k := fun _ _ h => .inr (Nat.le_trans hB h.1)
theorem Bld.rd {b r : Nat} {l : Bs} {w w' : World} (h : Bld b b l w) (hF : Fr (MR r) w w') (hr : r < b) : Bld b b l w' :=
  h.fr hF (fun k o _ hk _ hm => by have := hm.1; omega)
theorem Rd.bld {b r : Nat} {s : Bs} {bad : Bool} {d : Int} {w w' : World} (h : Rd r s bad d w) (hF : Fr (MB b b) w w') (hr : r < b) : Rd r s bad d w' :=
  h.fr hF (fun o _ hm => by have := hm.1; omega)
theorem Gl.bld {b : Nat} {w w' : World} (h : Gl w) (hF : Fr (MB b b) w w') (hb : 6 ≤ b) : Gl w' :=
  h.fr hF (fun _ _ _ hm => Nat.le_trans hb hm.1)
theorem Gl.below {w w' : World} (h : Gl w) (hb : Below w.heap.size w w') : Gl w' := h.fr (Fr.ofBelow hb) (fun _ _ _ x => x.elim)
theorem Bld.below {b B : Nat} {l : Bs} {w w' : World} (h : Bld B b l w) (hb : Below w.heap.size w w') : Bld B b l w' := h.fr (Fr.ofBelow hb) (fun _ _ _ _ _ x => x.elim)

theorem sign_val (st : St) : (sSign st).1 ≤ 1114111 := by
  unfold sSign
  have h1 := sHex_lt 4 0 0 st (by decide)
  generalize sHex 4 0 st = G at *
  obtain ⟨n, st1⟩ := G
  simp only at h1 ⊢
  have h1 : n < 65536 := h1
  split
  · simp only; omega
  · split
    · simp
    · have h2 := sHex_lt 4 0 0 (sMust [92, 117] st1) (by decide)
      generalize sHex 4 0 (sMust [92, 117] st1) = G2 at *
      obtain ⟨low, st2⟩ := G2
      simp only at h2 ⊢
      split
      · simp
      · rename_i hx hy hz
        have h3 : ¬ (low < 56320 ∨ 57344 ≤ low) := fun e => hz (.inr e)
        simp only; omega
theorem escape_val (st : St) : (sEscape st).1 ≤ 1114111 := by
  unfold sEscape
  split
  · simp
  · split
    · rename_i v hv
      unfold plainEsc at hv
      repeat' split at hv
      all_goals simp at hv
      all_goals (simp only; omega)
    · split
      · exact sign_val _
      · simp
/-- 'text' stops after a loop's round -/
def TextInv (r b : Nat) (d : Int) (N : Nat) (w : World) (G : Bs × St) (g : Nat) (wx : World) : Prop :=
  ∃ (out : Bs) (st : St), sTextLoop g out st = G ∧ Rd r st.s st.bad d wx ∧ Bld b b out wx ∧ Gl wx ∧ Fr (MR r) w wx ∧ 1 ≤ g ∧ (st.bad = false → st.s.length + 2 ≤ g) ∧ out.length + 4 * st.s.length ≤ 4 * N

set_option maxRecDepth 100000 in
set_option maxHeartbeats 4000000 in
theorem text_c (r : Nat) (s : Bs) (bad : Bool) (d : Int) (w : World) (h : Rd r s bad d w) (hg : Gl w) (hlen : s.length ≤ 1073741824) :
    Calls Tryd.prog 47 #[.pointer (some ⟨r, 0, none⟩)] w fun e w' => e = .returned (.string ⟨(sText ⟨s, bad⟩).1.toArray⟩) ∧ Rd r (sText ⟨s, bad⟩).2.s (sText ⟨s, bad⟩).2.bad d w' ∧ Fr (MR r) w w' := by
  generalize hG : sText ⟨s, bad⟩ = G
  have HG := Lib.hid hG
  clear hG
  have hml := must_len [34] ⟨s, bad⟩
  simp only at hml
  go_enter Tryd.func47, Tryd.ntmps47
  go_wp2_with fail
  refine (must_c r s [34] bad d w h).mono ?_
  rintro e w1 ⟨rfl, hR1, hF1⟩
  have hrlt : r < w1.heap.size := hR1.lt
  have hw1 : w.heap.size ≤ w1.heap.size := hF1.size
  have hg1 : Gl w1 := hg.rd h hF1
  have hng : 6 ≤ w1.heap.size := hg1.size
  have hstart : TextInv r w1.heap.size d s.length w G (s.length + 2) (w1.alloc (.cells #[.pointer none, .slice none 0 0] 48)) :=
    ⟨[], _, HG.out, hR1.alloc _, Bld.fresh w1, hg1.alloc _, hF1.alloc _, by omega, fun _ => by omega, by simp; omega⟩
  clear hR1 hF1 hg1
  go_wp2_with fail
  go_loopg [] (s.length + 2) (fun g wx => TextInv r w1.heap.size d s.length w G g wx)
  case atStart => exact hstart
  case round =>
    clear hstart
    generalize hb : w1.heap.size = b at *
    have Hb := Lib.hid hb
    clear hb
    obtain ⟨out, st, hS, hR, hB, hgl, hF, hg1, hfu, hol⟩ := hrel
    obtain ⟨s1, b1⟩ := st
    simp only at hfu hol hR
    obtain ⟨c0, c1, c2, f1, hr1⟩ := hR.cells
    obtain ⟨g', rfl⟩ : ∃ g', gk = g' + 1 := ⟨gk - 1, by omega⟩
    cases b1 with
    | true =>
      go_wp2_with fail
      go_ret
      have hS := hS
      simp only [sTextLoop, if_true] at hS
      subst hS
      exact ⟨rfl, hR, hF⟩
    | false =>
      have hfu' := hfu rfl
      clear hfu
      have HS := Lib.hid hS
      clear hS
      go_wp2_with fail
      refine (Go.Proofs.Tryd.utf8_DecodeRuneInString ⟨s1.toArray⟩ _ hgl.utf8).mono ?_
      rintro e w2 ⟨rfl, hb2⟩
      have hR2 := hR.below hb2
      have hB2 := hB.below hb2
      have hg2 := hgl.below hb2
      have hF2 : Fr (MR r) w w2 := hF.trans (Fr.ofBelow hb2) (fun _ _ x => x.elim)
      have hdf := dec_facts s1
      have hstep : Hid (sTextLoop (g' + 1) out ⟨s1, false⟩ = G) := HS.out
      unfold Hid at hstep
      simp only [sTextLoop, sTextStep, Bool.false_eq_true, if_false] at hstep
      generalize (Lib.decodeGo ⟨s1.toArray⟩).1 = c at *
      generalize (Lib.decodeGo ⟨s1.toArray⟩).2 = size at *
      obtain ⟨hd1, hd2, hd3, hd4⟩ := hdf
      have Hd4 := Lib.hid hd4
      clear hd4 hR hB hgl hF c0 c1 c2 f1 hr1 hb2
      obtain ⟨c0, c1, c2, f1, hr1⟩ := hR2.cells
      have hx := Lib.hid (extract_drop s1 size s1.length (Nat.le_refl _))
      have hst := Lib.hid hstep
      clear hstep
      have hset : Hid (Rd r (s1.drop size) false d (w2.setCell ⟨r, 0, none⟩ (.string ⟨(s1.drop size).toArray⟩))) := hR2.set0 _
      have hFs : Fr (MR r) w2 (w2.setCell ⟨r, 0, none⟩ (.string ⟨(s1.drop size).toArray⟩)) := Fr.refl.setCell _ _ hR2.one
      have hB3 := hB2.rd hFs hrlt
      have hg3 := hg2.rd hR2 hFs
      have hF3 := hF2.trans' hFs
      have hdl : (s1.drop size).length = s1.length - size := List.length_drop
      have Hdl := Lib.hid hdl
      clear hdl hB2 hg2 hFs hR2
      by_cases hA : size = 0 ∨ c < 32 ∨ (c = 65533 ∧ size = 1)
      · have Hst : Hid (sTextLoop g' out ⟨s1.drop size, true⟩ = G) := by
          have := hst.out
          rw [if_pos hA] at this
          exact this
        clear hst
        have hA' : ((size : Int) == 0) = true ∨ (((size : Int) == 0) = false ∧ decide ((c : Int) < 32) = true) ∨ (((size : Int) == 0) = false ∧ decide ((c : Int) < 32) = false ∧ ((c : Int) == 65533) = true ∧ ((size : Int) == 1) = true) := by
          simp only [beq_iff_eq, beq_eq_false_iff_ne, decide_eq_true_eq, decide_eq_false_iff_not]; omega
        clear hA
        rcases hA' with e0 | ⟨e0, e1⟩ | ⟨e0, e1, e2, e3⟩
        all_goals
          go_wp2_with fail
          rw [hx.out]
          refine (fail_c r _ _ d _ hset.out).mono ?_
          rintro e w3 ⟨rfl, hR4, hF4⟩
          go_wp2_with fail
          go_roundg g'
          case measure => omega
          case rel => exact ⟨out, ⟨s1.drop size, true⟩, Hst.out, hR4, hB3.rd hF4 hrlt, hg3.rd hset.out hF4, hF3.trans' hF4, by omega, by simp, by simp only [Hdl.out]; omega⟩
      · have e0 : ((size : Int) == 0) = false := by simp only [beq_eq_false_iff_ne]; omega
        have e1 : decide ((c : Int) < 32) = false := by simp only [decide_eq_false_iff_not]; omega
        have e2 : (((c : Int) == 65533) = false) ∨ (((c : Int) == 65533) = true ∧ ((size : Int) == 1) = false) := by
          simp only [beq_iff_eq, beq_eq_false_iff_ne]; omega
        have hsz : 1 ≤ size := by omega
        by_cases h34 : c = 34
        · have Hst : Hid ((out, ⟨s1.drop size, false⟩) = G) := by
            have := hst.out
            rw [if_neg hA, if_pos h34] at this
            exact this
          clear hst hA e2
          subst h34
          go_wp2_with fail
          refine (string_c b b out _ (by rw [hx.out]; exact hB3)).mono ?_
          rintro e w3 ⟨rfl, hF4⟩
          go_wp2_with fail
          go_ret
          have hG := Hst.out
          subst hG
          rw [hx.out] at hF4
          exact ⟨rfl, hset.out.bld hF4 hrlt, hF3.trans hF4 (MB_old (by omega))⟩
        · by_cases h92 : c = 92
          · have Hst : Hid (sTextLoop g' (out ++ Lib.encodeRune (sEscape ⟨s1.drop size, false⟩).1) (sEscape ⟨s1.drop size, false⟩).2 = G) := by
              have := hst.out
              rw [if_neg hA, if_neg h34, if_pos h92] at this
              exact this
            have hel : (sEscape ⟨s1.drop size, false⟩).2.s.length ≤ (s1.drop size).length := escape_len ⟨s1.drop size, false⟩
            have herl := encode_len (sEscape ⟨s1.drop size, false⟩).1
            have heb : (-2147483648 : Int) ≤ (sEscape ⟨s1.drop size, false⟩).1 ∧ ((sEscape ⟨s1.drop size, false⟩).1 : Int) ≤ 2147483647 := by have := escape_val ⟨s1.drop size, false⟩; omega
            have HE := Lib.hid (And.intro hel (And.intro herl heb))
            clear hst hA e2 h34 hel herl heb
            subst h92
            go_wp2_with fail
            rw [hx.out]
            refine (escape_c r _ _ d _ hset.out).mono ?_
            rintro e w3 ⟨rfl, hR4, hF4⟩
            go_wp2_with fail
            refine (writeRune_c b b out _ HE.out.2.2.1 HE.out.2.2.2 _ (hB3.rd hF4 hrlt) (by omega)).mono ?_
            rintro e w4 ⟨rfl, hB5, hF5⟩
            go_wp2_with fail
            go_roundg g'
            case measure => omega
            case rel =>
              obtain ⟨hel, herl, _⟩ := HE.out
              have hg4 := hg3.rd hset.out hF4
              refine ⟨_, _, Hst.out, hR4.bld hF5 hrlt, hB5, hg4.bld hF5 hng, (hF3.trans' hF4).trans hF5 (MB_old (by omega)), by omega, fun _ => ?_, ?_⟩
              · have := Hdl.out; omega
              · have := Hdl.out; rw [List.length_append]; omega
          · have Hst : Hid (sTextLoop g' (out ++ Lib.encodeRune c) ⟨s1.drop size, false⟩ = G) := by
              have := hst.out
              rw [if_neg hA, if_neg h34, if_neg h92] at this
              exact this
            have herl := encode_len c
            have HE := Lib.hid herl
            have e34 : ((c : Int) == 34) = false := by simp only [beq_eq_false_iff_ne]; omega
            have e92 : ((c : Int) == 92) = false := by simp only [beq_eq_false_iff_ne]; omega
            clear hst hA h34 h92 herl
            rcases e2 with e2 | ⟨e2, e3⟩
            all_goals
              go_wp2_with fail
              refine (writeRune_c b b out _ (by omega) (by omega) _ (by rw [hx.out]; exact hB3) (by omega)).mono ?_
              rintro e w4 ⟨rfl, hB5, hF5⟩
              rw [hx.out] at hF5
              go_wp2_with fail
              go_roundg g'
              case measure => omega
              case rel =>
                have herl := HE.out
                refine ⟨_, ⟨s1.drop size, false⟩, Hst.out, hset.out.bld hF5 hrlt, hB5, hg3.bld hF5 hng, hF3.trans hF5 (MB_old (by omega)), by omega, fun _ => ?_, ?_⟩
                · have := Hdl.out; show (s1.drop size).length + 2 ≤ g'; omega
                · have := Hdl.out; rw [List.length_append]; show _ + 4 * (s1.drop size).length ≤ _; omega
end Go.Proofs.YtbfmpbhikipipaaDoor
