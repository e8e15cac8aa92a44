/-
  The walks of slices.Equal at bytes and of canon's Is.
-/
import Derived.Test.YtbfmpbhikipipaaDoorPut
import Derived.Deep.LoopGhost
import Derived.BigQuiet
namespace Go.Proofs.YtbfmpbhikipipaaDoor
set_option linter.unusedVariables false
set_option linter.unusedSimpArgs false
open Go.RowKit

theorem SB.at {S : Nat → Prop} {l : Bs} {v : Value} {w : World} (h : SB S l v w) {i : Nat} {x : UInt8} (hi : l[i]? = some x) :
    ∃ b o cap, v = .slice (some ⟨b, o, none⟩) l.length cap ∧ w.cell? ⟨b, o + i, none⟩ = some (.int .u8 x.toNat) := by
  obtain ⟨a, cap, rfl, ⟨rfl, rfl⟩ | ⟨b, o, cs, f, rfl, h2, h3, h4⟩⟩ := h
  · simp at hi
  · obtain ⟨hl, rfl⟩ := List.getElem?_eq_some_iff.1 hi
    refine ⟨b, o, cap, rfl, ?_⟩
    simp [World.cell?, h3, h4 i hl]
theorem SB.drewN {S : Nat → Prop} {l : Bs} {v : Value} {w : World} (h : SB S l v w) (q : Nat) : SB S l v (w.drewN q) := h.fr (drewN_fr w q) (fun _ _ _ _ h => h)

set_option maxRecDepth 100000 in
set_option maxHeartbeats 1000000 in
theorem equal_c (S S' : Nat → Prop) (l m : Bs) (v u : Value) (w : World) (hv : SB S l v w) (hu : SB S' m u w) (hl : l.length ≤ 9007199254740992) :
    Calls Tryd.prog 28 #[v, u] w fun e w' => e = .returned (.bool (l == m)) ∧ ∃ q, w' = w.drewN q := by
  obtain ⟨a1, c1, hv1⟩ := hv.form
  obtain ⟨a2, c2, hu1⟩ := hu.form
  by_cases hlm : l.length = m.length
  · generalize hR : (l == m) = R
    have HR := Lib.hid hR
    subst hv1 hu1
    have Hv := Lib.hid hv
    have Hu := Lib.hid hu
    have Hlm := Lib.hid hlm
    rw [← hlm]
    clear hR hv hu hlm
    go_enter Tryd.func28, Tryd.ntmps28
    go_wp2_with fail
    go_loopg [13] (l.length + 1) (fun g vi wr => ∃ (i q : Nat), vi = .int .i64 i ∧ i ≤ l.length ∧ i + g = l.length + 1 ∧ Hid (wr = w.drewN q) ∧ Hid ((l.drop i == m.drop i) = R))
    case atStart => exact ⟨0, 0, rfl, by omega, by omega, (World.drewN_zero _).symm, HR⟩
    case round =>
      obtain ⟨i, q, rfl, hi, hgk, Hw, HS⟩ := hrel
      rcases Nat.lt_or_ge i l.length with hlt | hge
      · obtain ⟨x, hx⟩ : ∃ x, l[i]? = some x := ⟨_, List.getElem?_eq_getElem hlt⟩
        obtain ⟨y, hy⟩ : ∃ y, m[i]? = some y := ⟨_, List.getElem?_eq_getElem (by have := Hlm.out; omega)⟩
        have hvw := Hv.out.drewN q
        have huw := Hu.out.drewN q
        rw [← Hw.out] at hvw huw
        obtain ⟨b1, o1, cap1, hv1, k1⟩ := hvw.at hx
        obtain ⟨b2, o2, cap2, hu1, k2⟩ := huw.at hy
        obtain ⟨rfl, rfl⟩ : a1 = some ⟨b1, o1, none⟩ ∧ c1 = cap1 := by simpa using hv1
        obtain ⟨rfl, rfl⟩ : a2 = some ⟨b2, o2, none⟩ ∧ c2 = cap2 := by simpa using hu1
        have hS := HS.out
        rw [drop_at hx, drop_at hy, List.cons_beq_cons] at hS
        have hxy : ((x.toNat : Int) != (y.toNat : Int)) = !(x == y) := by
          rw [Bool.eq_iff_iff]
          simp only [bne_iff_ne, ne_eq, Bool.not_eq_true', beq_eq_false_iff_ne]
          constructor
          · intro h e; exact h (by rw [e])
          · intro h e; exact h (UInt8.toNat_inj.1 (by omega))
        cases hbe : (x == y) with
        | true =>
          rw [hbe] at hS hxy
          simp only [Bool.true_and] at hS
          have HS2 := Lib.hid hS
          clear hS HS hbe hvw huw hx hy hv1 hu1
          go_wp2_with fail
          go_quiet (fail)
          go_wp2_with fail
          go_roundg (gk - 1)
          case measure => omega
          case rel => exact ⟨i + 1, q + nq, by simp, by omega, by omega, Lib.hid (by rw [Hw.out, World.drewN_drewN]), HS2⟩
        | false =>
          rw [hbe] at hS hxy
          simp only [Bool.false_and] at hS
          have HS2 := Lib.hid hS
          clear hS HS hbe hvw huw hx hy hv1 hu1
          go_wp2_with fail
          go_quiet (fail)
          go_wp2_with fail
          go_ret
          rw [← HS2.out, Hw.out, World.drewN_drewN]
          exact ⟨rfl, _, rfl⟩
      · obtain rfl : i = l.length := by omega
        have hS := HS.out
        rw [List.drop_length, Hlm.out, List.drop_length] at hS
        have HS2 := Lib.hid hS
        clear hS HS
        go_wp2_with fail
        go_ret
        rw [← HS2.out, Hw.out]
        exact ⟨rfl, q, rfl⟩
  · have hne : (l == m) = false := by
      rw [beq_eq_false_iff_ne]
      rintro rfl
      exact hlm rfl
    have hln : ((l.length : Int) != (m.length : Int)) = true := by
      rw [bne_iff_ne]
      omega
    rw [hne]
    subst hv1 hu1
    clear hv hu hne
    go_enter Tryd.func28, Tryd.ntmps28
    go_wp2_with fail
    go_ret
    exact ⟨rfl, 0, (World.drewN_zero _).symm⟩
/-- is a text canonical? -/
def pIs (b : Bs) : Bool := if (pParse b).2 = 0 then (if (pPut (pParse b).1).2 = 0 then b == (pPut (pParse b).1).1 else false) else false
theorem errV_no {n : Nat} (h : ¬ n = 0) : errV n = .iface 54 (.int .i64 n) := by unfold errV; rw [if_neg h]

set_option maxRecDepth 100000 in
set_option maxHeartbeats 1000000 in
theorem is_c (N : Nat) (hN : SortOk N) (S : Nat → Prop) (b : Bs) (v : Value) (w : World) (hv : SB S b v w) (hg : Gl w) (hlen : b.length ≤ maxLen)
    (hok : (pParse b).2 = 0 → fits 67108864 (pParse b).1 = true ∧ few N (pParse b).1 = true ∧ (pText (pParse b).1).length + 16 ≤ 140737488355328) :
    Calls Tryd.prog 14 #[v] w fun e w' => e = .returned (.bool (pIs b)) ∧ Fr NoB w w' := by
  have hpa := fun W hW hgW => parse_c S b v W hW hgW hlen
  have h4 : (pParse b).2 = 0 → b.length ≤ 4096 := by
    unfold pParse
    split
    · simp
    · intro _; omega
  unfold pIs
  obtain ⟨a1, c1, hform⟩ := hv.form
  generalize pParse b = P at *
  obtain ⟨j, n⟩ := P
  simp only at hok hpa h4 ⊢
  have Hpa := Lib.hid hpa
  have Hv := Lib.hid hv
  have Hg := Lib.hid hg
  have Hok := Lib.hid hok
  subst hform
  clear hpa hv hg hok
  by_cases hn : n = 0
  · subst hn
    rw [if_pos rfl]
    have hb4 := h4 rfl
    clear h4
    have hpu := fun W x hx hgW => put_c N hN (fun k => w.heap.size ≤ k) j x W hx (Hok.out rfl).1 (Hok.out rfl).2.1 hgW (Hok.out rfl).2.2
    generalize pPut j = U at *
    obtain ⟨T, m⟩ := U
    simp only at hpu ⊢
    have Hpu := Lib.hid hpu
    clear hpu
    by_cases hm : m = 0
    · subst hm
      rw [if_pos rfl]
      go_enter Tryd.func14, Tryd.ntmps14
      go_wp2_with fail
      refine (Hpa.out w Hv.out Hg.out).mono ?_
      rintro e w1 ⟨x, rfl, hx, hF1⟩
      obtain ⟨k', n', t', a', l', c', b', p', e', rfl⟩ := hx.form
      have Hx := Lib.hid hx
      have HF1 := Lib.hid hF1
      rw [show errV 0 = .nilIface from rfl]
      clear hx hF1
      have hb1 := heap_alloc_new w1 (.cells #[.int .i64 k', .int .i64 n', .string t', .slice a' l' c', .slice b' p' e'] 25)
      obtain ⟨d0, d1, d2, d3, d4, dz, dlt⟩ := VB.at hb1
      have hF2 := HF1.out.alloc (.cells #[.int .i64 k', .int .i64 n', .string t', .slice a' l' c', .slice b' p' e'] 25)
      have HF2 := Lib.hid hF2
      have Hg2 := Lib.hid (Hg.out.fr hF2 (fun _ _ _ h => h.elim))
      have Hx2 := Lib.hid (RJ.kp (Kp.ofFr ((Fr.refl (M := NoB)).alloc (w := w1) (.cells #[.int .i64 k', .int .i64 n', .string t', .slice a' l' c', .slice b' p' e'] 25))) _ _ Hx.out)
      clear hF2 hb1
      go_wp2_with fail
      refine (Hpu.out _ _ Hx2.out Hg2.out).mono ?_
      rintro e w2 ⟨y, rfl, hy, hF3⟩
      obtain ⟨ay, cy, rfl⟩ := hy.form
      have Heq := Lib.hid (equal_c S _ b T _ _ w2 (Hv.out.fr (HF2.out.trans' hF3) (fun _ _ _ _ h => h)) hy (by omega))
      have HF3 := Lib.hid (HF2.out.trans' hF3)
      clear hy hF3
      rw [show errV 0 = .nilIface from rfl]
      go_wp2_with fail
      refine (Heq.out).mono ?_
      rintro e w3 ⟨rfl, q, rfl⟩
      go_wp2_with fail
      go_ret
      exact ⟨rfl, HF3.out.trans' (drewN_fr _ _)⟩
    · rw [if_neg hm]
      go_enter Tryd.func14, Tryd.ntmps14
      go_wp2_with fail
      refine (Hpa.out w Hv.out Hg.out).mono ?_
      rintro e w1 ⟨x, rfl, hx, hF1⟩
      obtain ⟨k', n', t', a', l', c', b', p', e', rfl⟩ := hx.form
      have Hx := Lib.hid hx
      have HF1 := Lib.hid hF1
      rw [show errV 0 = .nilIface from rfl]
      clear hx hF1
      have hb1 := heap_alloc_new w1 (.cells #[.int .i64 k', .int .i64 n', .string t', .slice a' l' c', .slice b' p' e'] 25)
      obtain ⟨d0, d1, d2, d3, d4, dz, dlt⟩ := VB.at hb1
      have hF2 := HF1.out.alloc (.cells #[.int .i64 k', .int .i64 n', .string t', .slice a' l' c', .slice b' p' e'] 25)
      have HF2 := Lib.hid hF2
      have Hg2 := Lib.hid (Hg.out.fr hF2 (fun _ _ _ h => h.elim))
      have Hx2 := Lib.hid (RJ.kp (Kp.ofFr ((Fr.refl (M := NoB)).alloc (w := w1) (.cells #[.int .i64 k', .int .i64 n', .string t', .slice a' l' c', .slice b' p' e'] 25))) _ _ Hx.out)
      clear hF2 hb1
      go_wp2_with fail
      refine (Hpu.out _ _ Hx2.out Hg2.out).mono ?_
      rintro e w2 ⟨y, rfl, hy, hF3⟩
      rw [errV_no hm]
      have HF3 := Lib.hid (HF2.out.trans' hF3)
      clear hy hF3
      go_wp2_with fail
      go_ret
      exact ⟨rfl, HF3.out⟩
  · rw [if_neg hn]
    go_enter Tryd.func14, Tryd.ntmps14
    go_wp2_with fail
    refine (Hpa.out w Hv.out Hg.out).mono ?_
    rintro e w1 ⟨x, rfl, hx, hF1⟩
    obtain ⟨k', n', t', a', l', c', b', p', e', rfl⟩ := hx.form
    rw [errV_no hn]
    have HF1 := Lib.hid hF1
    clear hx hF1
    go_wp2_with fail
    go_ret
    exact ⟨rfl, HF1.out.alloc _⟩
end Go.Proofs.YtbfmpbhikipipaaDoor
