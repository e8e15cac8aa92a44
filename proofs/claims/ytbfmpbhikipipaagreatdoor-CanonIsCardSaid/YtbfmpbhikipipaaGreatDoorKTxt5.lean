/-
  The reference's reader of texts: what stands behind a backslash.
-/
import Derived.Test.YtbfmpbhikipipaaGreatDoorKTxt3
namespace Go.Proofs.YtbfmpbhikipipaaGreatDoor
set_option linter.unusedVariables false
set_option linter.unusedSimpArgs false
set_option linter.unusedSectionVars false
open Go.RowKit
variable [OldK]
attribute [local irreducible] wpStill
theorem hex_stays : ∀ (k n : Nat) (s : Bs), (sHex k n ⟨s, true⟩).2.bad = true := by
  intro k
  induction k with
  | zero => intro n s; rfl
  | succ k ih =>
    intro n s
    unfold sHex
    split
    · rfl
    · split
      · exact ih _ _
      · rfl
theorem hex_zero : ∀ (k n : Nat) (s : Bs), (sHex k n ⟨s, false⟩).2.bad = true → (sHex k n ⟨s, false⟩).1 = 0 := by
  intro k
  induction k with
  | zero => intro n s h; simp [sHex] at h
  | succ k ih =>
    intro n s
    unfold sHex
    split
    · intro _; rfl
    · split
      · exact ih _ _
      · intro _; rfl
theorem hex_max : ∀ (k n : Nat) (st : St), (sHex k n st).1 + 1 ≤ (n + 1) * 16 ^ k := by
  intro k
  induction k with
  | zero => intro n st; simp [sHex]
  | succ k ih =>
    intro n st
    have hp : 1 ≤ 16 ^ k := Nat.one_le_pow _ _ (by decide)
    have hz : 0 + 1 ≤ (n + 1) * 16 ^ (k + 1) := Nat.mul_pos (by omega) (Nat.pow_pos (by decide))
    unfold sHex
    split
    · exact hz
    · rename_i x l hl
      cases hx : hexOf x with
      | none => exact hz
      | some v =>
        have hv : v ≤ 15 := by
          have := fig_hex x
          rw [hx] at this
          cases this <;> omega
        have := ih (16 * n + v) ⟨l, st.bad⟩
        refine Nat.le_trans this ?_
        rw [Nat.pow_succ, Nat.mul_comm (16 ^ k) 16, ← Nat.mul_assoc]
        exact Nat.mul_le_mul_right _ (by omega)
def escs : List (Int × Nat) := [(34, 34), (92, 92), (47, 47), (98, 8), (102, 12), (110, 10), (114, 13), (116, 9)]
theorem esc_facts (s : Bs) :
    (∀ q ∈ escs, nx s = q.1 → sEscape ⟨s, false⟩ = (q.2, ⟨s.drop 1, false⟩) ∧ 1 ≤ s.length) ∧
    ((∀ q ∈ escs, nx s ≠ q.1) → nx s ≠ 117 → (sEscape ⟨s, false⟩).1 = 0 ∧ (sEscape ⟨s, false⟩).2.bad = true) ∧
    (nx s = 117 → sEscape ⟨s, false⟩ = sSign ⟨s.drop 1, false⟩ ∧ 1 ≤ s.length) := by
  cases s with
  | nil => simp [nx, escs, sEscape]
  | cons x l =>
    have hx : ∀ k : Nat, k < 256 → (((x.toNat : Int) = (k : Int)) ↔ x = UInt8.ofNat k) := by
      intro k hk
      rw [← UInt8.toNat_inj, UInt8.toNat_ofNat_of_lt' hk]
      omega
    have h34 := hx 34 (by decide); have h92 := hx 92 (by decide); have h47 := hx 47 (by decide); have h98 := hx 98 (by decide)
    have h102 := hx 102 (by decide); have h110 := hx 110 (by decide); have h114 := hx 114 (by decide); have h116 := hx 116 (by decide); have h117 := hx 117 (by decide)
    simp only [nx, escs, List.mem_cons, List.not_mem_nil, or_false, forall_eq_or_imp, forall_eq, List.drop_succ_cons, List.drop_zero]
    refine ⟨⟨?_, ?_, ?_, ?_, ?_, ?_, ?_, ?_⟩, ?_, ?_⟩
    · intro h; rw [h34.1 h]; exact ⟨rfl, by simp⟩
    · intro h; rw [h92.1 h]; exact ⟨rfl, by simp⟩
    · intro h; rw [h47.1 h]; exact ⟨rfl, by simp⟩
    · intro h; rw [h98.1 h]; exact ⟨rfl, by simp⟩
    · intro h; rw [h102.1 h]; exact ⟨rfl, by simp⟩
    · intro h; rw [h110.1 h]; exact ⟨rfl, by simp⟩
    · intro h; rw [h114.1 h]; exact ⟨rfl, by simp⟩
    · intro h; rw [h116.1 h]; exact ⟨rfl, by simp⟩
    · rintro ⟨n1, n2, n3, n4, n5, n6, n7, n8⟩ n9
      have n1 : ¬ x = 34 := fun e => n1 (h34.2 e)
      have n2 : ¬ x = 92 := fun e => n2 (h92.2 e)
      have n3 : ¬ x = 47 := fun e => n3 (h47.2 e)
      have n4 : ¬ x = 98 := fun e => n4 (h98.2 e)
      have n5 : ¬ x = 102 := fun e => n5 (h102.2 e)
      have n6 : ¬ x = 110 := fun e => n6 (h110.2 e)
      have n7 : ¬ x = 114 := fun e => n7 (h114.2 e)
      have n8 : ¬ x = 116 := fun e => n8 (h116.2 e)
      have n9 : ¬ x = 117 := fun e => n9 (h117.2 e)
      have hp : plainEsc x = none := by
        unfold plainEsc
        rw [if_neg n1, if_neg n2, if_neg n3, if_neg n4, if_neg n5, if_neg n6, if_neg n7, if_neg n8]
      unfold sEscape
      simp only [hp]
      rw [if_neg n9]
      exact ⟨rfl, rfl⟩
    · intro h; rw [h117.1 h]; exact ⟨rfl, by simp⟩
theorem sign_one {st st1 : St} {n : Nat} (h : sHex 4 0 st = (n, st1)) (hn : n < 55296 ∨ 57344 ≤ n) : sSign st = (n, st1) := by
  unfold sSign
  rw [h]
  simp only
  rw [if_pos hn]
theorem sign_bad {st st1 : St} {n : Nat} (h : sHex 4 0 st = (n, st1)) (hn : 55296 ≤ n ∧ n < 57344)
    (hb : 56320 ≤ n ∨ ∀ low st2, sHex 4 0 (sMust [92, 117] st1) = (low, st2) → st2.bad = true ∨ low < 56320 ∨ 57344 ≤ low) : (sSign st).1 = 0 ∧ (sSign st).2.bad = true := by
  unfold sSign
  rw [h]
  simp only
  rw [if_neg (by omega)]
  split
  · exact ⟨rfl, rfl⟩
  · rename_i h1
    generalize hG : sHex 4 0 (sMust [92, 117] st1) = G at *
    obtain ⟨low, st2⟩ := G
    simp only
    rw [if_pos ((hb.resolve_left h1) low st2 rfl)]
    exact ⟨rfl, rfl⟩
theorem sign_two {st st1 st2 : St} {n low : Nat} (h : sHex 4 0 st = (n, st1)) (hn : 55296 ≤ n ∧ n < 56320) (h2 : sHex 4 0 (sMust [92, 117] st1) = (low, st2)) (hb : st2.bad = false) (hl : 56320 ≤ low ∧ low < 57344) :
    sSign st = (65536 + (n - 55296) * 1024 + low - 56320, st2) := by
  unfold sSign
  rw [h]
  simp only
  rw [if_neg (by omega), if_neg (by omega), h2]
  simp only
  rw [if_neg (by rw [hb]; simp; omega)]
theorem RS.mono {b : Nat} {L : Bs} {v : Value} {K K' : Nat} {st : St} {w : World} (h : RS b L v K st w) (hK : K ≤ K') : RS b L v K' st w := by
  obtain ⟨a, h1, h2, h3⟩ := h
  exact ⟨a, h1, h2, by omega⟩
theorem esP0 (h : 0 < (ByteArray.mk #[34, 92, 47, 98, 102, 110, 114, 116]).size) : (ByteArray.mk #[34, 92, 47, 98, 102, 110, 114, 116])[0]'h = 34 := rfl
theorem esP1 (h : 1 < (ByteArray.mk #[34, 92, 47, 98, 102, 110, 114, 116]).size) : (ByteArray.mk #[34, 92, 47, 98, 102, 110, 114, 116])[1]'h = 92 := rfl
theorem esP2 (h : 2 < (ByteArray.mk #[34, 92, 47, 98, 102, 110, 114, 116]).size) : (ByteArray.mk #[34, 92, 47, 98, 102, 110, 114, 116])[2]'h = 47 := rfl
theorem esP3 (h : 3 < (ByteArray.mk #[34, 92, 47, 98, 102, 110, 114, 116]).size) : (ByteArray.mk #[34, 92, 47, 98, 102, 110, 114, 116])[3]'h = 98 := rfl
theorem esP4 (h : 4 < (ByteArray.mk #[34, 92, 47, 98, 102, 110, 114, 116]).size) : (ByteArray.mk #[34, 92, 47, 98, 102, 110, 114, 116])[4]'h = 102 := rfl
theorem esP5 (h : 5 < (ByteArray.mk #[34, 92, 47, 98, 102, 110, 114, 116]).size) : (ByteArray.mk #[34, 92, 47, 98, 102, 110, 114, 116])[5]'h = 110 := rfl
theorem esP6 (h : 6 < (ByteArray.mk #[34, 92, 47, 98, 102, 110, 114, 116]).size) : (ByteArray.mk #[34, 92, 47, 98, 102, 110, 114, 116])[6]'h = 114 := rfl
theorem esP7 (h : 7 < (ByteArray.mk #[34, 92, 47, 98, 102, 110, 114, 116]).size) : (ByteArray.mk #[34, 92, 47, 98, 102, 110, 114, 116])[7]'h = 116 := rfl
theorem esM0 (h : 0 < (ByteArray.mk #[34, 92, 47, 8, 12, 10, 13, 9]).size) : (ByteArray.mk #[34, 92, 47, 8, 12, 10, 13, 9])[0]'h = 34 := rfl
theorem esM1 (h : 1 < (ByteArray.mk #[34, 92, 47, 8, 12, 10, 13, 9]).size) : (ByteArray.mk #[34, 92, 47, 8, 12, 10, 13, 9])[1]'h = 92 := rfl
theorem esM2 (h : 2 < (ByteArray.mk #[34, 92, 47, 8, 12, 10, 13, 9]).size) : (ByteArray.mk #[34, 92, 47, 8, 12, 10, 13, 9])[2]'h = 47 := rfl
theorem esM3 (h : 3 < (ByteArray.mk #[34, 92, 47, 8, 12, 10, 13, 9]).size) : (ByteArray.mk #[34, 92, 47, 8, 12, 10, 13, 9])[3]'h = 8 := rfl
theorem esM4 (h : 4 < (ByteArray.mk #[34, 92, 47, 8, 12, 10, 13, 9]).size) : (ByteArray.mk #[34, 92, 47, 8, 12, 10, 13, 9])[4]'h = 12 := rfl
theorem esM5 (h : 5 < (ByteArray.mk #[34, 92, 47, 8, 12, 10, 13, 9]).size) : (ByteArray.mk #[34, 92, 47, 8, 12, 10, 13, 9])[5]'h = 10 := rfl
theorem esM6 (h : 6 < (ByteArray.mk #[34, 92, 47, 8, 12, 10, 13, 9]).size) : (ByteArray.mk #[34, 92, 47, 8, 12, 10, 13, 9])[6]'h = 13 := rfl
theorem esM7 (h : 7 < (ByteArray.mk #[34, 92, 47, 8, 12, 10, 13, 9]).size) : (ByteArray.mk #[34, 92, 47, 8, 12, 10, 13, 9])[7]'h = 9 := rfl
attribute [local go_sem] esP0 esM0 esP1 esM1 esP2 esM2 esP3 esM3 esP4 esM4 esP5 esM5 esP6 esM6 esP7 esM7
set_option maxRecDepth 100000 in
set_option maxHeartbeats 4000000 in
theorem tescaped_c (b : Nat) (L : Bs) (v : Value) (a : Nat) (w : World) (h : TX b L v a false w) (hL : L.length ≤ 4096) (ha : a ≤ L.length) :
    Calls Tryz.prog 87 #[.pointer (some ⟨b, 0, none⟩)] w fun e w' => e = .returned (.int .i64 ((sEscape ⟨L.drop a, false⟩).1 : Int)) ∧ RS b L v (L.length + 1) (sEscape ⟨L.drop a, false⟩).2 w' ∧ Fr (MT b) w w' := by
  obtain ⟨F1, F2, F3⟩ := esc_facts (L.drop a)
  have Hc := Lib.hid (fun W hW => next_c b L v a false W hW hL (by omega))
  have hwa : IntKind.i64.wrap ((a : Int) + 1) = (a : Int) + 1 := by rw [IntKind.wrap_i64]; omega
  generalize sEscape ⟨L.drop a, false⟩ = G at *
  have H := Lib.hid h
  have hlt := h.lt
  have hF1 := Lib.hid F1
  have hF2 := Lib.hid F2
  have hF3 := Lib.hid F3
  clear h F1 F2 F3
  generalize hm : nx (L.drop a) = m at *
  go_enter Tryz.func87, Tryz.ntmps87
  go_wp2_with fail
  refine (Hc.out _ H.out).mono ?_
  rintro e w1 ⟨rfl, h2, hF⟩
  have H2 := Lib.hid h2
  obtain ⟨c0, c1, c2, fz, hlt1⟩ := h2.cells
  clear h2
  go_wp2_with fail
  have H3 := Lib.hid (H2.out.put1 ((a : Int) + 1) (a + 1) rfl)
  have HF3 := Lib.hid ((hF.mono (M' := MT b) (fun _ _ h => h.elim)).setCell ⟨b, 1, none⟩ (.int .i64 ((a : Int) + 1)) (fun o ho => H.out.one o ho))
  clear c0 c1 c2 fz hlt1 H2 hF
  generalize w1.setCell ⟨b, 1, none⟩ (.int .i64 ((a : Int) + 1)) = w2 at *
  go_loopg [6] 9 (fun g vi wr => ∃ i : Nat, vi = .int .i64 (i : Int) ∧ i ≤ 8 ∧ i + g = 9 ∧ wr = w2 ∧ Hid (∀ q ∈ escs.take i, m ≠ q.1))
  case atStart => exact ⟨0, rfl, by omega, rfl, rfl, Lib.hid (by simp)⟩
  case round =>
    obtain ⟨i, rfl, hi, hig, rfl, HN⟩ := hrel
    rcases (by omega : i = 0 ∨ i = 1 ∨ i = 2 ∨ i = 3 ∨ i = 4 ∨ i = 5 ∨ i = 6 ∨ i = 7 ∨ i = 8) with rfl | rfl | rfl | rfl | rfl | rfl | rfl | rfl | rfl
    · by_cases hmk : m = 34
      · obtain ⟨g1, g2⟩ := hF1.out (34, 34) (by decide) hmk
        have qk : (m == 34) = true := by rw [beq_iff_eq]; exact hmk
        have G1 := Lib.hid g1
        rw [List.length_drop] at g2
        clear hmk g1
        go_wp2_with fail
        go_ret
        have g1 := G1.out
        subst g1
        refine ⟨rfl, ⟨a + 1, H3.out, fun _ => ⟨by rw [List.drop_drop], by omega⟩, by omega⟩, HF3.out⟩
      · have qk : (m == 34) = false := by rw [beq_eq_false_iff_ne]; exact hmk
        have HN2 : Hid (∀ q ∈ escs.take 1, m ≠ q.1) := by
          have hn := HN.out
          refine Lib.hid ?_
          simp [escs] at hn ⊢
          simp [hn, hmk]
        clear hmk HN
        go_wp2_with fail
        go_roundg (gk - 1)
        case measure => omega
        case rel => exact ⟨1, rfl, by omega, by omega, rfl, HN2⟩
    · by_cases hmk : m = 92
      · obtain ⟨g1, g2⟩ := hF1.out (92, 92) (by decide) hmk
        have qk : (m == 92) = true := by rw [beq_iff_eq]; exact hmk
        have G1 := Lib.hid g1
        rw [List.length_drop] at g2
        clear hmk g1
        go_wp2_with fail
        go_ret
        have g1 := G1.out
        subst g1
        refine ⟨rfl, ⟨a + 1, H3.out, fun _ => ⟨by rw [List.drop_drop], by omega⟩, by omega⟩, HF3.out⟩
      · have qk : (m == 92) = false := by rw [beq_eq_false_iff_ne]; exact hmk
        have HN2 : Hid (∀ q ∈ escs.take 2, m ≠ q.1) := by
          have hn := HN.out
          refine Lib.hid ?_
          simp [escs] at hn ⊢
          simp [hn, hmk]
        clear hmk HN
        go_wp2_with fail
        go_roundg (gk - 1)
        case measure => omega
        case rel => exact ⟨2, rfl, by omega, by omega, rfl, HN2⟩
    · by_cases hmk : m = 47
      · obtain ⟨g1, g2⟩ := hF1.out (47, 47) (by decide) hmk
        have qk : (m == 47) = true := by rw [beq_iff_eq]; exact hmk
        have G1 := Lib.hid g1
        rw [List.length_drop] at g2
        clear hmk g1
        go_wp2_with fail
        go_ret
        have g1 := G1.out
        subst g1
        refine ⟨rfl, ⟨a + 1, H3.out, fun _ => ⟨by rw [List.drop_drop], by omega⟩, by omega⟩, HF3.out⟩
      · have qk : (m == 47) = false := by rw [beq_eq_false_iff_ne]; exact hmk
        have HN2 : Hid (∀ q ∈ escs.take 3, m ≠ q.1) := by
          have hn := HN.out
          refine Lib.hid ?_
          simp [escs] at hn ⊢
          simp [hn, hmk]
        clear hmk HN
        go_wp2_with fail
        go_roundg (gk - 1)
        case measure => omega
        case rel => exact ⟨3, rfl, by omega, by omega, rfl, HN2⟩
    · by_cases hmk : m = 98
      · obtain ⟨g1, g2⟩ := hF1.out (98, 8) (by decide) hmk
        have qk : (m == 98) = true := by rw [beq_iff_eq]; exact hmk
        have G1 := Lib.hid g1
        rw [List.length_drop] at g2
        clear hmk g1
        go_wp2_with fail
        go_ret
        have g1 := G1.out
        subst g1
        refine ⟨rfl, ⟨a + 1, H3.out, fun _ => ⟨by rw [List.drop_drop], by omega⟩, by omega⟩, HF3.out⟩
      · have qk : (m == 98) = false := by rw [beq_eq_false_iff_ne]; exact hmk
        have HN2 : Hid (∀ q ∈ escs.take 4, m ≠ q.1) := by
          have hn := HN.out
          refine Lib.hid ?_
          simp [escs] at hn ⊢
          simp [hn, hmk]
        clear hmk HN
        go_wp2_with fail
        go_roundg (gk - 1)
        case measure => omega
        case rel => exact ⟨4, rfl, by omega, by omega, rfl, HN2⟩
    · by_cases hmk : m = 102
      · obtain ⟨g1, g2⟩ := hF1.out (102, 12) (by decide) hmk
        have qk : (m == 102) = true := by rw [beq_iff_eq]; exact hmk
        have G1 := Lib.hid g1
        rw [List.length_drop] at g2
        clear hmk g1
        go_wp2_with fail
        go_ret
        have g1 := G1.out
        subst g1
        refine ⟨rfl, ⟨a + 1, H3.out, fun _ => ⟨by rw [List.drop_drop], by omega⟩, by omega⟩, HF3.out⟩
      · have qk : (m == 102) = false := by rw [beq_eq_false_iff_ne]; exact hmk
        have HN2 : Hid (∀ q ∈ escs.take 5, m ≠ q.1) := by
          have hn := HN.out
          refine Lib.hid ?_
          simp [escs] at hn ⊢
          simp [hn, hmk]
        clear hmk HN
        go_wp2_with fail
        go_roundg (gk - 1)
        case measure => omega
        case rel => exact ⟨5, rfl, by omega, by omega, rfl, HN2⟩
    · by_cases hmk : m = 110
      · obtain ⟨g1, g2⟩ := hF1.out (110, 10) (by decide) hmk
        have qk : (m == 110) = true := by rw [beq_iff_eq]; exact hmk
        have G1 := Lib.hid g1
        rw [List.length_drop] at g2
        clear hmk g1
        go_wp2_with fail
        go_ret
        have g1 := G1.out
        subst g1
        refine ⟨rfl, ⟨a + 1, H3.out, fun _ => ⟨by rw [List.drop_drop], by omega⟩, by omega⟩, HF3.out⟩
      · have qk : (m == 110) = false := by rw [beq_eq_false_iff_ne]; exact hmk
        have HN2 : Hid (∀ q ∈ escs.take 6, m ≠ q.1) := by
          have hn := HN.out
          refine Lib.hid ?_
          simp [escs] at hn ⊢
          simp [hn, hmk]
        clear hmk HN
        go_wp2_with fail
        go_roundg (gk - 1)
        case measure => omega
        case rel => exact ⟨6, rfl, by omega, by omega, rfl, HN2⟩
    · by_cases hmk : m = 114
      · obtain ⟨g1, g2⟩ := hF1.out (114, 13) (by decide) hmk
        have qk : (m == 114) = true := by rw [beq_iff_eq]; exact hmk
        have G1 := Lib.hid g1
        rw [List.length_drop] at g2
        clear hmk g1
        go_wp2_with fail
        go_ret
        have g1 := G1.out
        subst g1
        refine ⟨rfl, ⟨a + 1, H3.out, fun _ => ⟨by rw [List.drop_drop], by omega⟩, by omega⟩, HF3.out⟩
      · have qk : (m == 114) = false := by rw [beq_eq_false_iff_ne]; exact hmk
        have HN2 : Hid (∀ q ∈ escs.take 7, m ≠ q.1) := by
          have hn := HN.out
          refine Lib.hid ?_
          simp [escs] at hn ⊢
          simp [hn, hmk]
        clear hmk HN
        go_wp2_with fail
        go_roundg (gk - 1)
        case measure => omega
        case rel => exact ⟨7, rfl, by omega, by omega, rfl, HN2⟩
    · by_cases hmk : m = 116
      · obtain ⟨g1, g2⟩ := hF1.out (116, 9) (by decide) hmk
        have qk : (m == 116) = true := by rw [beq_iff_eq]; exact hmk
        have G1 := Lib.hid g1
        rw [List.length_drop] at g2
        clear hmk g1
        go_wp2_with fail
        go_ret
        have g1 := G1.out
        subst g1
        refine ⟨rfl, ⟨a + 1, H3.out, fun _ => ⟨by rw [List.drop_drop], by omega⟩, by omega⟩, HF3.out⟩
      · have qk : (m == 116) = false := by rw [beq_eq_false_iff_ne]; exact hmk
        have HN2 : Hid (∀ q ∈ escs.take 8, m ≠ q.1) := by
          have hn := HN.out
          refine Lib.hid ?_
          simp [escs] at hn ⊢
          simp [hn, hmk]
        clear hmk HN
        go_wp2_with fail
        go_roundg (gk - 1)
        case measure => omega
        case rel => exact ⟨8, rfl, by omega, by omega, rfl, HN2⟩
    · have hn : ∀ q ∈ escs, m ≠ q.1 := HN.out
      clear HN
      by_cases hmk : m = 117
      · obtain ⟨g1, g2⟩ := hF3.out hmk
        rw [List.length_drop] at g2
        rw [List.drop_drop] at g1
        have qk : (m == 117) = true := by rw [beq_iff_eq]; exact hmk
        have qk2 : (m != 117) = false := by rw [bne, qk]; rfl
        have hx4 := hex_max 4 0 ⟨L.drop (a + 1), false⟩
        have hx0 := hex_zero 4 0 (L.drop (a + 1))
        have Hf := Lib.hid (four_c b L v (a + 1) wr H3.out hL (by omega))
        generalize hS : sHex 4 0 ⟨L.drop (a + 1), false⟩ = S at *
        obtain ⟨n, st1⟩ := S
        have HS := Lib.hid hS
        have G1 := Lib.hid g1
        simp only at hx4 hx0
        clear hmk g1 hn hS hF1 hF2 hF3 Hc
        by_cases hn : n < 55296 ∨ 57344 ≤ n
        · have e1 := G1.out.trans (sign_one HS.out hn)
          subst e1
          have q1 : decide ((n : Int) < 55296) = true ∨ (decide ((n : Int) < 55296) = false ∧ decide ((57343 : Int) < (n : Int)) = true) := by
            simp only [decide_eq_true_iff, decide_eq_false_iff_not]; omega
          clear hn hx4 hx0
          rcases q1 with q1 | ⟨q1, q2⟩
          · go_wp2_with fail
            refine Hf.out.mono ?_
            rintro e w3 ⟨rfl, h4, hF4⟩
            have H4 := Lib.hid h4
            have HF4 := Lib.hid (HF3.out.trans' hF4)
            clear h4 hF4
            go_wp2_with fail
            go_ret
            exact ⟨rfl, H4.out.mono (by omega), HF4.out⟩
          · go_wp2_with fail
            refine Hf.out.mono ?_
            rintro e w3 ⟨rfl, h4, hF4⟩
            have H4 := Lib.hid h4
            have HF4 := Lib.hid (HF3.out.trans' hF4)
            clear h4 hF4
            go_wp2_with fail
            go_ret
            exact ⟨rfl, H4.out.mono (by omega), HF4.out⟩
        · have q1 : decide ((n : Int) < 55296) = false := by rw [decide_eq_false_iff_not]; omega
          have q2 : decide ((57343 : Int) < (n : Int)) = false := by rw [decide_eq_false_iff_not]; omega
          have hb1 : st1.bad = false := by
            rw [← Bool.not_eq_true]; intro hb; have := hx0 hb; omega
          obtain ⟨r1, bd⟩ := st1
          simp only at hb1
          subst hb1
          go_wp2_with fail
          refine Hf.out.mono ?_
          rintro e w3 ⟨rfl, ⟨a1, h4, h5, h6⟩, hF4⟩
          obtain ⟨h5, h7⟩ := h5 rfl
          have H4 := Lib.hid h4
          have HF4 := Lib.hid (HF3.out.trans' hF4)
          clear h4 hF4
          go_wp2_with fail
          obtain ⟨h5, -⟩ := h5 trivial
          subst h5
          refine (word_c [92, 117] b L v a1 false w3 H4.out hL (by omega) (by decide) (by decide)).mono ?_
          rintro e w5 ⟨rfl, h8, hF5⟩
          have HF5 := Lib.hid (HF4.out.trans' hF5)
          clear hF5 Hf hx0
          by_cases hp : Lib.hasPrefix (L.drop a1) [92, 117] = true
          · rw [if_pos hp] at h8
            obtain ⟨h8, h9⟩ := h8
            have hmu : sMust [92, 117] ⟨L.drop a1, false⟩ = ⟨L.drop (a1 + 2), false⟩ := by
              unfold sMust
              rw [if_pos hp]
              unfold Lib.trimPrefix
              rw [if_pos hp, List.drop_drop]
              rfl
            have hx5 := hex_max 4 0 ⟨L.drop (a1 + 2), false⟩
            have Hf2 := Lib.hid (four_c b L v (a1 + 2) w5 h8 hL h9)
            generalize hS2 : sHex 4 0 ⟨L.drop (a1 + 2), false⟩ = S2 at *
            obtain ⟨low, r2, b2⟩ := S2
            have hS3 : sHex 4 0 (sMust [92, 117] ⟨L.drop a1, false⟩) = (low, ⟨r2, b2⟩) := by rw [hmu, hS2]
            simp only at hx5
            obtain ⟨c0, c1, c2, fz, hlt1⟩ := h8.cells
            clear hp hmu hS2
            cases b2 with
            | true =>
              have Hs := Lib.hid (show G.1 = 0 ∧ G.2.bad = true by rw [G1.out]; exact sign_bad HS.out (by omega) (.inr (fun lo st2 h => .inl (by rw [hS3] at h; simp only [Prod.mk.injEq] at h; rw [← h.2]))))
              clear hS3
              go_wp2_with fail
              refine Hf2.out.mono ?_
              rintro e w7 ⟨rfl, ⟨a2, h10, h11, h12⟩, hF7⟩
              have H10 := Lib.hid h10
              have HF7 := Lib.hid (HF5.out.trans' hF7)
              clear c0 c1 c2 fz hlt1 hF7
              obtain ⟨c0, c1, c2, fz, hlt1⟩ := h10.cells
              clear h10
              go_wp2_with fail
              go_ret
              have hs := Hs.out
              exact ⟨ret_int (by rw [hs.1]; rfl), ⟨a2, by rw [hs.2]; exact H10.out.set2 true, fun hb => by rw [hs.2] at hb; simp at hb, by omega⟩, HF7.out.setCell _ _ (fun o ho => H.out.one o ho)⟩
            | false =>
              by_cases k1 : 56320 ≤ n
              · have q3 : decide ((56319 : Int) < (n : Int)) = true := by rw [decide_eq_true_iff]; omega
                have Hs := Lib.hid (show G.1 = 0 ∧ G.2.bad = true by rw [G1.out]; exact sign_bad HS.out (by omega) (.inl k1))
                clear hS3
                go_wp2_with fail
                refine Hf2.out.mono ?_
                rintro e w7 ⟨rfl, ⟨a2, h10, h11, h12⟩, hF7⟩
                have H10 := Lib.hid h10
                have HF7 := Lib.hid (HF5.out.trans' hF7)
                clear c0 c1 c2 fz hlt1 hF7
                obtain ⟨c0, c1, c2, fz, hlt1⟩ := h10.cells
                clear h10
                go_wp2_with fail
                go_ret
                have hs := Hs.out
                exact ⟨ret_int (by rw [hs.1]; rfl), ⟨a2, by rw [hs.2]; exact H10.out.set2 true, fun hb => by rw [hs.2] at hb; simp at hb, by omega⟩, HF7.out.setCell _ _ (fun o ho => H.out.one o ho)⟩
              · have q3 : decide ((56319 : Int) < (n : Int)) = false := by rw [decide_eq_false_iff_not]; omega
                by_cases k2 : low < 56320
                · have q4 : decide ((low : Int) < 56320) = true := by rw [decide_eq_true_iff]; omega
                  have Hs := Lib.hid (show G.1 = 0 ∧ G.2.bad = true by rw [G1.out]; exact sign_bad HS.out (by omega) (.inr (fun lo st2 h => .inr (.inl (by rw [hS3] at h; simp only [Prod.mk.injEq] at h; omega)))))
                  clear hS3
                  go_wp2_with fail
                  refine Hf2.out.mono ?_
                  rintro e w7 ⟨rfl, ⟨a2, h10, h11, h12⟩, hF7⟩
                  have H10 := Lib.hid h10
                  have HF7 := Lib.hid (HF5.out.trans' hF7)
                  clear c0 c1 c2 fz hlt1 hF7
                  obtain ⟨c0, c1, c2, fz, hlt1⟩ := h10.cells
                  clear h10
                  go_wp2_with fail
                  go_ret
                  have hs := Hs.out
                  exact ⟨ret_int (by rw [hs.1]; rfl), ⟨a2, by rw [hs.2]; exact H10.out.set2 true, fun hb => by rw [hs.2] at hb; simp at hb, by omega⟩, HF7.out.setCell _ _ (fun o ho => H.out.one o ho)⟩
                · have q4 : decide ((low : Int) < 56320) = false := by rw [decide_eq_false_iff_not]; omega
                  by_cases k3 : 57344 ≤ low
                  · have q5 : decide ((57343 : Int) < (low : Int)) = true := by rw [decide_eq_true_iff]; omega
                    have Hs := Lib.hid (show G.1 = 0 ∧ G.2.bad = true by rw [G1.out]; exact sign_bad HS.out (by omega) (.inr (fun lo st2 h => .inr (.inr (by rw [hS3] at h; simp only [Prod.mk.injEq] at h; omega)))))
                    clear hS3
                    go_wp2_with fail
                    refine Hf2.out.mono ?_
                    rintro e w7 ⟨rfl, ⟨a2, h10, h11, h12⟩, hF7⟩
                    have H10 := Lib.hid h10
                    have HF7 := Lib.hid (HF5.out.trans' hF7)
                    clear c0 c1 c2 fz hlt1 hF7
                    obtain ⟨c0, c1, c2, fz, hlt1⟩ := h10.cells
                    clear h10
                    go_wp2_with fail
                    go_ret
                    have hs := Hs.out
                    exact ⟨ret_int (by rw [hs.1]; rfl), ⟨a2, by rw [hs.2]; exact H10.out.set2 true, fun hb => by rw [hs.2] at hb; simp at hb, by omega⟩, HF7.out.setCell _ _ (fun o ho => H.out.one o ho)⟩
                  · have q5 : decide ((57343 : Int) < (low : Int)) = false := by rw [decide_eq_false_iff_not]; omega
                    have Hs := Lib.hid (show G = (65536 + (n - 55296) * 1024 + low - 56320, ⟨r2, false⟩) by rw [G1.out]; exact sign_two HS.out (by omega) hS3 rfl (by omega))
                    have qw1' : IntKind.i64.wrap ((n : Int) - 55296) = (n : Int) - 55296 := by rw [IntKind.wrap_i64]; omega
                    have qw2' : IntKind.i64.wrap (1024 * ((n : Int) - 55296)) = 1024 * ((n : Int) - 55296) := by rw [IntKind.wrap_i64]; omega
                    have qw3' : IntKind.i64.wrap (65536 + 1024 * ((n : Int) - 55296)) = 65536 + 1024 * ((n : Int) - 55296) := by rw [IntKind.wrap_i64]; omega
                    have qw4' : IntKind.i64.wrap (65536 + 1024 * ((n : Int) - 55296) + (low : Int)) = 65536 + 1024 * ((n : Int) - 55296) + (low : Int) := by rw [IntKind.wrap_i64]; omega
                    have qw5' : IntKind.i64.wrap (65536 + 1024 * ((n : Int) - 55296) + (low : Int) - 56320) = 65536 + 1024 * ((n : Int) - 55296) + (low : Int) - 56320 := by rw [IntKind.wrap_i64]; omega
                    clear hS3
                    go_wp2_with fail
                    refine Hf2.out.mono ?_
                    rintro e w7 ⟨rfl, ⟨a2, h10, h11, h12⟩, hF7⟩
                    have H10 := Lib.hid h10
                    have HF7 := Lib.hid (HF5.out.trans' hF7)
                    clear c0 c1 c2 fz hlt1 hF7
                    obtain ⟨c0, c1, c2, fz, hlt1⟩ := h10.cells
                    clear h10
                    go_wp2_with fail
                    go_ret
                    have hs := Hs.out
                    subst hs
                    exact ⟨ret_int (by simp only; omega), ⟨a2, H10.out, fun _ => h11 trivial, by omega⟩, HF7.out⟩
          · rw [if_neg hp] at h8
            have Hs := Lib.hid (show G.1 = 0 ∧ G.2.bad = true by
              rw [G1.out]
              refine sign_bad HS.out (by omega) (.inr (fun lo st2 h => .inl ?_))
              have := hex_stays 4 0 (L.drop a1)
              unfold sMust at h
              rw [if_neg hp] at h
              rw [h] at this
              exact this)
            obtain ⟨c0, c1, c2, fz, hlt1⟩ := h8.cells
            have H8 := Lib.hid h8
            clear h8 hp
            go_wp2_with fail
            go_ret
            have hs := Hs.out
            exact ⟨ret_int (by rw [hs.1]; rfl), ⟨a1, by rw [hs.2]; exact H8.out.set2 true, fun hb => by rw [hs.2] at hb; simp at hb, by omega⟩, HF5.out.setCell _ _ (fun o ho => H.out.one o ho)⟩
      · have qk : (m == 117) = false := by rw [beq_eq_false_iff_ne]; exact hmk
        have qk2 : (m != 117) = true := by rw [bne, qk]; rfl
        have h2 := Lib.hid (hF2.out hn hmk)
        obtain ⟨c0, c1, c2, fz, hlt1⟩ := H3.out.cells
        clear hmk hn
        go_wp2_with fail
        go_ret
        have h2 := h2.out
        exact ⟨ret_int (by rw [h2.1]; rfl), ⟨a + 1, by rw [h2.2]; exact H3.out.set2 true, fun hb => by rw [h2.2] at hb; simp at hb, by omega⟩, HF3.out.setCell _ _ (fun o ho => H.out.one o ho)⟩
end Go.Proofs.YtbfmpbhikipipaaGreatDoor
namespace Go.Proofs.YtbfmpbhikipipaaGreatDoor
set_option linter.unusedVariables false
set_option linter.unusedSimpArgs false
set_option linter.unusedSectionVars false
open Go.RowKit
variable [OldK]
attribute [local irreducible] wpStill
set_option maxRecDepth 100000 in
set_option maxHeartbeats 4000000 in
theorem figure_c (b : Nat) (L : Bs) (v : Value) (a : Nat) (bad : Bool) (w : World) (h : TX b L v a bad w) (hL : L.length ≤ 4096) (ha : a ≤ 900000) :
    Calls Tryz.prog 89 #[.pointer (some ⟨b, 0, none⟩)] w fun e w' => e = .returned (.bool (decide (48 ≤ nx (L.drop a) ∧ nx (L.drop a) ≤ 57))) ∧ TX b L v a bad w' ∧ Fr NoB w w' := by
  have Hc := Lib.hid (fun W hW => next_c b L v a bad W hW hL (by omega))
  generalize nx (L.drop a) = m at *
  by_cases h1 : 48 ≤ m
  · have q1 : decide ((48 : Int) ≤ m) = true := by rw [decide_eq_true_iff]; exact h1
    have q2 : decide (48 ≤ m ∧ m ≤ 57) = decide (m ≤ 57) := by simp [h1]
    rw [q2]
    have H := Lib.hid h
    clear q2 h h1
    go_enter Tryz.func89, Tryz.ntmps89
    go_wp2_with fail
    refine (Hc.out _ H.out).mono ?_
    rintro e w1 ⟨rfl, h2, hF⟩
    have HF := Lib.hid hF
    have H2 := Lib.hid h2
    clear h2 hF
    go_wp2_with fail
    refine (Hc.out _ H2.out).mono ?_
    rintro e w2 ⟨rfl, h3, hF⟩
    have HF := Lib.hid (HF.out.trans' hF)
    have H3 := Lib.hid h3
    clear h3 hF
    go_wp2_with fail
    go_ret
    exact ⟨rfl, H3.out, HF.out⟩
  · have q1 : decide ((48 : Int) ≤ m) = false := by rw [decide_eq_false_iff_not]; exact h1
    have q2 : decide (48 ≤ m ∧ m ≤ 57) = false := by simp [h1]
    rw [q2]
    have H := Lib.hid h
    clear q2 h h1
    go_enter Tryz.func89, Tryz.ntmps89
    go_wp2_with fail
    refine (Hc.out _ H.out).mono ?_
    rintro e w1 ⟨rfl, h2, hF⟩
    have HF := Lib.hid hF
    have H2 := Lib.hid h2
    clear h2 hF
    go_wp2_with fail
    go_ret
    exact ⟨rfl, H2.out, HF.out⟩
/-- how far the figures go: a reader that is bad has passed the greatest number -/
def TNum (s : Bs) (k : Nat) (n : Nat) (bd : Bool) (D : Nat × Nat × Bs) : Prop :=
  n ≤ 9007199254740991 ∧ ((bd = false ∧ sDigits n k s = D) ∨ (bd = true ∧ ∃ m, 9007199254740991 < m ∧ sDigits m k s = D))
def nDig (m : Int) : Bool := decide (48 ≤ m ∧ m ≤ 57)
theorem TNum.on {L : Bs} {c k n : Nat} {bd : Bool} {D : Nat × Nat × Bs} (h : TNum (L.drop c) k n bd D) {m : Int} (hm : nx (L.drop c) = m) (hd : nDig m = true) :
    c + 1 ≤ L.length ∧ 48 ≤ m ∧ m ≤ 57 ∧ TNum (L.drop (c + 1)) (k + 1) (if 9007199254740991 < 10 * (n : Int) + m - 48 then 0 else (10 * (n : Int) + m - 48).toNat) (bd || decide (9007199254740991 < 10 * (n : Int) + m - 48)) D := by
  unfold nDig at hd
  rw [decide_eq_true_iff] at hd
  cases hr : L.drop c with
  | nil => rw [hr] at hm; simp only [nx] at hm; omega
  | cons x l =>
    obtain ⟨d1, d2, d3, d4⟩ := dropAt hr
    rw [hr] at hm h
    simp only [nx] at hm
    refine ⟨by omega, hd.1, hd.2, ?_⟩
    rw [d3]
    obtain ⟨h1, h2⟩ := h
    have hx : 48 ≤ x.toNat ∧ x.toNat ≤ 57 := by omega
    simp only [sDigits, if_pos hx] at h2
    refine ⟨by split <;> omega, ?_⟩
    rcases h2 with ⟨rfl, h2⟩ | ⟨rfl, q, hq, h2⟩
    · rw [if_pos h1] at h2
      by_cases ho : 9007199254740991 < 10 * (n : Int) + m - 48
      · rw [if_pos ho, decide_eq_true ho]
        exact .inr ⟨rfl, 10 * n + (x.toNat - 48), by omega, h2⟩
      · rw [if_neg ho, decide_eq_false ho]
        refine .inl ⟨rfl, ?_⟩
        rw [← h2]
        congr 1
        omega
    · rw [if_neg (by omega)] at h2
      exact .inr ⟨rfl, q, hq, h2⟩
theorem TNum.off {L : Bs} {c k n : Nat} {bd : Bool} {D : Nat × Nat × Bs} (h : TNum (L.drop c) k n bd D) (hd : nDig (nx (L.drop c)) = false) :
    D.2 = (k, L.drop c) ∧ (bd = false → D.1 = n) ∧ (bd = true → 9007199254740991 < D.1) := by
  have key : ∀ m, sDigits m k (L.drop c) = D → D = (m, k, L.drop c) := by
    intro m h
    rw [← h]
    unfold nDig at hd
    rw [decide_eq_false_iff_not] at hd
    cases hr : L.drop c with
    | nil => rfl
    | cons x l =>
      rw [hr] at hd
      simp only [nx] at hd
      rw [sDigits, if_neg (by omega)]
  obtain ⟨h1, ⟨rfl, h2⟩ | ⟨rfl, q, hq, h2⟩⟩ := h
  · rw [key _ h2]; exact ⟨rfl, fun _ => rfl, fun h => by simp at h⟩
  · rw [key _ h2]; exact ⟨rfl, fun h => by simp at h, fun _ => hq⟩
theorem digits_up : ∀ (s : Bs) (n k : Nat), n ≤ (sDigits n k s).1 ∧ k ≤ (sDigits n k s).2.1 := by
  intro s
  induction s with
  | nil => intro n k; simp [sDigits]
  | cons x l ih =>
    intro n k
    unfold sDigits
    split
    · obtain ⟨h1, h2⟩ := ih (if n ≤ 9007199254740991 then 10 * n + (x.toNat - 48) else n) (k + 1)
      refine ⟨Nat.le_trans ?_ h1, by omega⟩
      split <;> omega
    · exact ⟨Nat.le_refl _, Nat.le_refl _⟩
/-- is the number bad at its end? -/
def tEnd (L : Bs) (a c n : Nat) (bd minus : Bool) : Bool := bd || (decide (c = a) || ((decide (a + 1 < c) && decide (L[a]? = some 48)) || (decide (n = 0) && minus)))
theorem num_spec {L : Bs} {a c n : Nat} {bd : Bool} {D : Nat × Nat × Bs} (minus : Bool) (hac : a ≤ c) (hD : sDigits 0 0 (L.drop a) = D) (e1 : D.2 = (c - a, L.drop c)) (e2 : bd = false → D.1 = n) (e3 : bd = true → 9007199254740991 < D.1) (hn : n ≤ 9007199254740991) :
    (sNumAt minus false (L.drop a)).2.bad = tEnd L a c n bd minus ∧ (tEnd L a c n bd minus = false → sNumAt minus false (L.drop a) = (.mk 2 (if minus then -(n : Int) else n) [] [] [], ⟨L.drop c, false⟩)) := by
  obtain ⟨N, k, s2⟩ := D
  simp only [Prod.mk.injEq] at e1 e2 e3
  obtain ⟨rfl, rfl⟩ := e1
  cases hr : L.drop a with
  | nil =>
    rw [hr] at hD
    simp only [sDigits, Prod.mk.injEq] at hD
    have : c = a := by omega
    unfold tEnd
    simp [sNumAt, this]
  | cons y m =>
    obtain ⟨d1, d2, d3, d4⟩ := dropAt hr
    rw [hr] at hD
    by_cases hy : 48 ≤ y.toNat ∧ y.toNat ≤ 57
    · have hD' := hD
      rw [sDigits, if_pos hy, if_pos (by omega)] at hD'
      have hu := digits_up m (10 * 0 + (y.toNat - 48)) (0 + 1)
      rw [hD'] at hu
      simp only at hu
      unfold sNumAt
      simp only [if_pos hy, hD]
      have hy48 : (y = 48) ↔ y.toNat = 48 := by rw [← UInt8.toNat_inj]; rfl
      have key : (false || (decide (9007199254740991 < N) || (decide (y = 48) && (decide (1 < c - a) || minus)))) = tEnd L a c n bd minus := by
        unfold tEnd
        rw [d2]
        have hc1 : decide (c = a) = false := by rw [decide_eq_false_iff_not]; omega
        have hs : (some y = some 48) ↔ y.toNat = 48 := by simp [hy48]
        simp only [hc1, Bool.false_or, hs, hy48]
        cases bd with
        | true => rw [decide_eq_true (e3 rfl)]; simp
        | false =>
          have e2 := e2 rfl
          rw [decide_eq_false (by omega : ¬ 9007199254740991 < N)]
          by_cases h1 : 1 < c - a
          · rw [decide_eq_true h1, decide_eq_true (by omega : a + 1 < c)]
            by_cases h2 : y.toNat = 48
            · simp [h2]
            · have : ¬ n = 0 := by omega
              simp [h2, this]
          · rw [decide_eq_false h1, decide_eq_false (by omega : ¬ a + 1 < c)]
            have hk : c - a = 1 := by omega
            have hn0 : n = y.toNat - 48 := by
              have hq := digits_up (m.drop 0) (10 * 0 + (y.toNat - 48)) (0 + 1)
              cases m with
              | nil => simp only [sDigits, Prod.mk.injEq] at hD'; omega
              | cons z t =>
                rw [sDigits] at hD'
                split at hD'
                · have := digits_up t (if 10 * 0 + (y.toNat - 48) ≤ 9007199254740991 then 10 * (10 * 0 + (y.toNat - 48)) + (z.toNat - 48) else 10 * 0 + (y.toNat - 48)) (0 + 1 + 1)
                  rw [hD'] at this
                  simp only at this
                  omega
                · simp only [Prod.mk.injEq] at hD'; omega
            by_cases h2 : y.toNat = 48
            · have : n = 0 := by omega
              simp [h2, this]
            · have : ¬ n = 0 := by omega
              simp [h2, this]
      refine ⟨key, fun h => ?_⟩
      rw [h] at key
      rw [key]
      have hb : bd = false := by unfold tEnd at h; rw [Bool.or_eq_false_iff] at h; exact h.1
      rw [e2 hb]
    · rw [sDigits, if_neg hy] at hD
      simp only [Prod.mk.injEq] at hD
      have : c = a := by omega
      unfold sNumAt tEnd
      simp [hy, this]
def numS (s : Bs) : J × St := if nx s = 45 then sNumAt true false (s.drop 1) else sNumAt false false s
theorem num_fin {b : Nat} {L : Bs} {v : Value} {a c n : Nat} {bd minus : Bool} {w : World} {G : J × St} (hsp : G.2.bad = tEnd L a c n bd minus ∧ (tEnd L a c n bd minus = false → G = (.mk 2 (if minus then -(n : Int) else n) [] [] [], ⟨L.drop c, false⟩)))
    (hT : TX b L v c (tEnd L a c n bd minus) w) (hcl : c ≤ L.length) : (G.2.bad = false → G.1 = .mk 2 (if minus then -(n : Int) else n) [] [] []) ∧ RS b L v L.length G.2 w := by
  obtain ⟨h1, h2⟩ := hsp
  refine ⟨fun hb => ?_, c, by rw [h1]; exact hT, fun hb => ?_, hcl⟩
  · rw [h2 (h1 ▸ hb)]
  · rw [h2 (h1 ▸ hb)]; exact ⟨rfl, hcl⟩
set_option maxRecDepth 100000 in
set_option maxHeartbeats 8000000 in
theorem tnumber_c (b : Nat) (L : Bs) (v : Value) (a : Nat) (w : World) (h : TX b L v a false w) (hL : L.length ≤ 4096) (ha : a ≤ L.length) :
    Calls Tryz.prog 65 #[.pointer (some ⟨b, 0, none⟩)] w fun e w' => ∃ x : Int, e = .returned (.int .i64 x) ∧ (((numS (L.drop a)).2.bad = false → (numS (L.drop a)).1 = .mk 2 x [] [] []) ∧ RS b L v L.length (numS (L.drop a)).2 w') ∧ Fr (MT b) w w' := by
  have Hc := Lib.hid (fun W hW => next_c b L v a false W hW hL (by omega))
  have H := Lib.hid h
  obtain ⟨q, cap, rfl⟩ := h.2.1.form
  clear h
  unfold numS
  by_cases hm : nx (L.drop a) = 45
  · rw [if_pos hm, List.drop_drop]
    have hq : (nx (L.drop a) == 45) = true := by rw [beq_iff_eq]; exact hm
    have ha1 : a + 1 ≤ L.length := by
      cases hr : L.drop a with
      | nil => rw [hr] at hm; simp [nx] at hm
      | cons x l => have := dropAt hr; omega
    have wa : IntKind.i64.wrap ((a : Int) + 1) = (a : Int) + 1 := by rw [IntKind.wrap_i64]; omega
    obtain ⟨a0, ha0⟩ : ∃ a0, a + 1 = a0 := ⟨_, rfl⟩
    have hcast : ((a : Int) + 1) = (a0 : Int) := by omega
    rw [ha0] at ha1 ⊢
    clear hm ha0
    generalize nx (L.drop a) = m0 at *
    go_enter Tryz.func65, Tryz.ntmps65
    go_wp2_with fail
    refine (Hc.out _ H.out).mono ?_
    rintro e w1 ⟨rfl, h2, hF⟩
    obtain ⟨c0, c1, c2, fz, hlt1⟩ := h2.cells
    have HF2' := Lib.hid ((hF.mono (M' := MT b) (fun _ _ h => h.elim)).setCell ⟨b, 1, none⟩ (.int .i64 ((a : Int) + 1)) (fun o ho => H.out.one o ho))
    have H2' := Lib.hid (h2.put1 ((a : Int) + 1) a0 hcast)
    clear h2 hF
    go_wp2_with fail
    have H2 := H2'
    have HF2 := HF2'
    clear H2' HF2' c0 c1 c2 fz hlt1
    rw [hcast] at H2 HF2
    generalize w1.setCell ⟨b, 1, none⟩ (.int .i64 (a0 : Int)) = w2 at *
    clear hcast wa Hc hq ha
    have ha := ha1
    clear ha1
    obtain ⟨D, hD⟩ : ∃ D, sDigits 0 0 (L.drop a0) = D := ⟨_, rfl⟩
    have HI : TNum (L.drop a0) 0 0 false D := ⟨by omega, .inl ⟨rfl, hD⟩⟩
    have HD := Lib.hid hD
    clear hD
    go_loopg [5] (L.length - a0 + 1) (fun g vn wr => ∃ (n c : Nat) (bd : Bool), vn = .int .i64 (n : Int) ∧ a0 ≤ c ∧ c ≤ L.length ∧ L.length - c + 1 = g ∧ Hid (TX b L (.slice q L.length cap) c bd wr) ∧ Hid (Fr (MT b) w wr) ∧ TNum (L.drop c) (c - a0) n bd D)
    case atStart => exact ⟨0, a0, false, rfl, Nat.le_refl _, ha, rfl, H2, HF2, by rw [Nat.sub_self]; exact HI⟩
    case round =>
      obtain ⟨n, c, bd, rfl, hac, hcl, hg, H3, HF3, HI3⟩ := hrel
      have Hfig := Lib.hid (fun W hW => figure_c b L (.slice q L.length cap) c bd W hW hL (by omega))
      have Hnx := Lib.hid (fun W hW => next_c b L (.slice q L.length cap) c bd W hW hL (by omega))
      have hnb := HI3.1
      change Hid (∀ W, TX b L (.slice q L.length cap) c bd W → Calls _ _ _ W fun e w' => e = .returned (.bool (nDig (nx (L.drop c)))) ∧ _) at Hfig
      cases hdg : nDig (nx (L.drop c)) with
      | false =>
        obtain ⟨e1, e2, e3⟩ := HI3.off hdg
        have Hsp := Lib.hid (num_spec true hac HD.out e1 e2 e3 hnb)
        rw [hdg] at Hfig
        have ws : IntKind.i64.wrap ((c : Int) - (a0 : Int)) = (c : Int) - a0 := by rw [IntKind.wrap_i64]; omega
        have wn : IntKind.i64.wrap (n : Int) = (n : Int) := by rw [IntKind.wrap_i64]; omega
        have wm : IntKind.i64.wrap (-(n : Int)) = -(n : Int) := by rw [IntKind.wrap_i64]; omega
        clear e1 e2 e3 HI3 HI hdg Hnx HD
        have Hfin := fun W hT => num_fin (b := b) (v := .slice q L.length cap) (w := W) Hsp.out hT hcl
        have HX := True.intro
        by_cases p1 : c = a0
        · have r1 : ((c : Int) - (a0 : Int) == 0) = true := by rw [beq_iff_eq]; omega
          have ht : tEnd L a0 c n bd true = true := by unfold tEnd; simp [p1]
          rw [ht] at Hfin
          have Hfin := Lib.hid Hfin
          clear ht HX
          go_wp2_with fail
          refine (Hfig.out _ H3.out).mono ?_
          rintro e w4 ⟨rfl, h4, hF4⟩
          obtain ⟨c0, c1, c2, fz, hlt1⟩ := h4.cells
          have HF4 := Lib.hid (HF3.out.trans' (hF4.mono (M' := MT b) (fun _ _ h => h.elim)))
          have H4 := Lib.hid h4
          clear h4 hF4
          go_wp2_with fail
          go_ret
          exact ⟨_, rfl, Hfin.out _ (H4.out.set2 true), HF4.out.setCell _ _ (fun o ho => H.out.one o ho)⟩
        · have r1 : ((c : Int) - (a0 : Int) == 0) = false := by rw [beq_eq_false_iff_ne]; omega
          by_cases p2 : a0 + 1 < c
          · have r2 : decide ((1 : Int) < (c : Int) - (a0 : Int)) = true := by rw [decide_eq_true_iff]; omega
            obtain ⟨x0, hx0⟩ : ∃ x0, L[a0]? = some x0 := ⟨_, List.getElem?_eq_getElem (by omega)⟩
            obtain ⟨g, o, cap', e9, -⟩ := H3.out.2.1.at hx0
            obtain ⟨rfl, rfl⟩ : q = some ⟨g, o, none⟩ ∧ cap = cap' := by simpa using e9
            clear e9
            have hx1 : (x0 = 48) ↔ x0.toNat = 48 := by rw [← UInt8.toNat_inj]; rfl
            by_cases p3 : x0.toNat = 48
            · have r3 : ((x0.toNat : Int) == 48) = true := by rw [beq_iff_eq]; omega
              have hx3 := hx1.2 p3
              have _hx0 := hx0
              have ht : tEnd L a0 c n bd true = true := by unfold tEnd; simp [p1, p2, hx0, hx3]
              rw [ht] at Hfin
              have Hfin := Lib.hid Hfin
              clear ht HX
              go_wp2_with fail
              refine (Hfig.out _ H3.out).mono ?_
              rintro e w4 ⟨rfl, h4, hF4⟩
              obtain ⟨c0, c1, c2, fz, hlt1⟩ := h4.cells
              obtain ⟨g', o', cap', e9, hat⟩ := h4.2.1.at hx0
              obtain ⟨⟨rfl, rfl⟩, rfl⟩ : (g = g' ∧ o = o') ∧ cap = cap' := by simpa using e9
              clear e9
              have HF4 := Lib.hid (HF3.out.trans' (hF4.mono (M' := MT b) (fun _ _ h => h.elim)))
              have H4 := Lib.hid h4
              clear h4 hF4
              go_wp2_with fail
              go_ret
              exact ⟨_, rfl, Hfin.out _ (H4.out.set2 true), HF4.out.setCell _ _ (fun o ho => H.out.one o ho)⟩
            · have r3 : ((x0.toNat : Int) == 48) = false := by rw [beq_eq_false_iff_ne]; omega
              have hx3 : ¬ x0 = 48 := fun e => p3 (hx1.1 e)
              by_cases p4 : n = 0
              · have r4 : ((n : Int) == 0) = true := by rw [beq_iff_eq]; omega
                have _hx0 := hx0
                have ht : tEnd L a0 c n bd true = true := by unfold tEnd; simp [p1, p2, hx0, hx3, p4]
                rw [ht] at Hfin
                have Hfin := Lib.hid Hfin
                clear ht HX p4
                go_wp2_with fail
                refine (Hfig.out _ H3.out).mono ?_
                rintro e w4 ⟨rfl, h4, hF4⟩
                obtain ⟨c0, c1, c2, fz, hlt1⟩ := h4.cells
                obtain ⟨g', o', cap', e9, hat⟩ := h4.2.1.at hx0
                obtain ⟨⟨rfl, rfl⟩, rfl⟩ : (g = g' ∧ o = o') ∧ cap = cap' := by simpa using e9
                clear e9
                have HF4 := Lib.hid (HF3.out.trans' (hF4.mono (M' := MT b) (fun _ _ h => h.elim)))
                have H4 := Lib.hid h4
                clear h4 hF4
                go_wp2_with fail
                go_ret
                exact ⟨_, rfl, Hfin.out _ (H4.out.set2 true), HF4.out.setCell _ _ (fun o ho => H.out.one o ho)⟩
              · have r4 : ((n : Int) == 0) = false := by rw [beq_eq_false_iff_ne]; omega
                have _hx0 := hx0
                have ht : tEnd L a0 c n bd true = bd := by unfold tEnd; simp [p1, p2, hx0, hx3, p4]
                rw [ht] at Hfin
                have Hfin := Lib.hid Hfin
                clear ht HX p4
                go_wp2_with fail
                refine (Hfig.out _ H3.out).mono ?_
                rintro e w4 ⟨rfl, h4, hF4⟩
                obtain ⟨c0, c1, c2, fz, hlt1⟩ := h4.cells
                obtain ⟨g', o', cap', e9, hat⟩ := h4.2.1.at hx0
                obtain ⟨⟨rfl, rfl⟩, rfl⟩ : (g = g' ∧ o = o') ∧ cap = cap' := by simpa using e9
                clear e9
                have HF4 := Lib.hid (HF3.out.trans' (hF4.mono (M' := MT b) (fun _ _ h => h.elim)))
                have H4 := Lib.hid h4
                clear h4 hF4
                go_wp2_with fail
                go_ret
                exact ⟨_, rfl, Hfin.out _ H4.out, HF4.out⟩
          · have r2 : decide ((1 : Int) < (c : Int) - (a0 : Int)) = false := by rw [decide_eq_false_iff_not]; omega
            by_cases p4 : n = 0
            · have r4 : ((n : Int) == 0) = true := by rw [beq_iff_eq]; omega
              have ht : tEnd L a0 c n bd true = true := by unfold tEnd; simp [p1, p2, p4]
              rw [ht] at Hfin
              have Hfin := Lib.hid Hfin
              clear ht HX p4
              go_wp2_with fail
              refine (Hfig.out _ H3.out).mono ?_
              rintro e w4 ⟨rfl, h4, hF4⟩
              obtain ⟨c0, c1, c2, fz, hlt1⟩ := h4.cells
              have HF4 := Lib.hid (HF3.out.trans' (hF4.mono (M' := MT b) (fun _ _ h => h.elim)))
              have H4 := Lib.hid h4
              clear h4 hF4
              go_wp2_with fail
              go_ret
              exact ⟨_, rfl, Hfin.out _ (H4.out.set2 true), HF4.out.setCell _ _ (fun o ho => H.out.one o ho)⟩
            · have r4 : ((n : Int) == 0) = false := by rw [beq_eq_false_iff_ne]; omega
              have ht : tEnd L a0 c n bd true = bd := by unfold tEnd; simp [p1, p2, p4]
              rw [ht] at Hfin
              have Hfin := Lib.hid Hfin
              clear ht HX p4
              go_wp2_with fail
              refine (Hfig.out _ H3.out).mono ?_
              rintro e w4 ⟨rfl, h4, hF4⟩
              obtain ⟨c0, c1, c2, fz, hlt1⟩ := h4.cells
              have HF4 := Lib.hid (HF3.out.trans' (hF4.mono (M' := MT b) (fun _ _ h => h.elim)))
              have H4 := Lib.hid h4
              clear h4 hF4
              go_wp2_with fail
              go_ret
              exact ⟨_, rfl, Hfin.out _ H4.out, HF4.out⟩
      | true =>
        rw [hdg] at Hfig
        generalize hm : nx (L.drop c) = m at *
        obtain ⟨o1, o2, o3, o4⟩ := HI3.on hm hdg
        have w1 : IntKind.i64.wrap (10 * (n : Int)) = 10 * (n : Int) := by rw [IntKind.wrap_i64]; omega
        have w2 : IntKind.i64.wrap (10 * (n : Int) + m) = 10 * (n : Int) + m := by rw [IntKind.wrap_i64]; omega
        have w3 : IntKind.i64.wrap (10 * (n : Int) + m - 48) = 10 * (n : Int) + m - 48 := by rw [IntKind.wrap_i64]; omega
        have wc : IntKind.i64.wrap ((c : Int) + 1) = (c : Int) + 1 := by rw [IntKind.wrap_i64]; omega
        rw [show c - a0 + 1 = c + 1 - a0 by omega] at o4
        by_cases ho : 9007199254740991 < 10 * (n : Int) + m - 48
        · have qo : decide (9007199254740991 < 10 * (n : Int) + m - 48) = true := decide_eq_true ho
          rw [if_pos ho, qo, Bool.or_true] at o4
          have hge : 0 ≤ 10 * (n : Int) + m - 48 := by omega
          have O4 := Lib.hid o4
          clear hnb o2 o3 ho HI3 hm o4 hdg
          go_wp2_with fail
          refine (Hfig.out _ H3.out).mono ?_
          rintro e w4 ⟨rfl, h4, hF4⟩
          have HF4 := Lib.hid (HF3.out.trans' (hF4.mono (M' := MT b) (fun _ _ h => h.elim)))
          have H4 := Lib.hid h4
          clear h4 hF4
          go_wp2_with fail
          refine (Hnx.out _ H4.out).mono ?_
          rintro e w5 ⟨rfl, h5, hF5⟩
          have HF5 := Lib.hid (HF4.out.trans' (hF5.mono (M' := MT b) (fun _ _ h => h.elim)))
          obtain ⟨c0, c1, c2, fz, hlt1⟩ := h5.cells
          have H5 := Lib.hid h5
          clear h5 hF5
          go_wp2_with fail
          go_roundg (gk - 1)
          case measure => omega
          case rel => exact ⟨0, c + 1, true, rfl, by omega, by omega, by omega, Lib.hid ((H5.out.set2 true).put1 _ (c + 1) rfl), Lib.hid ((HF5.out.setCell _ _ (fun o ho => H.out.one o ho)).setCell _ _ (fun o ho => H.out.one o ho)), O4.out⟩
        · have qo : decide (9007199254740991 < 10 * (n : Int) + m - 48) = false := decide_eq_false ho
          rw [if_neg ho, qo, Bool.or_false] at o4
          have hge : 0 ≤ 10 * (n : Int) + m - 48 := by omega
          have O4 := Lib.hid o4
          clear hnb o2 o3 ho HI3 hm o4 hdg
          go_wp2_with fail
          refine (Hfig.out _ H3.out).mono ?_
          rintro e w4 ⟨rfl, h4, hF4⟩
          have HF4 := Lib.hid (HF3.out.trans' (hF4.mono (M' := MT b) (fun _ _ h => h.elim)))
          have H4 := Lib.hid h4
          clear h4 hF4
          go_wp2_with fail
          refine (Hnx.out _ H4.out).mono ?_
          rintro e w5 ⟨rfl, h5, hF5⟩
          have HF5 := Lib.hid (HF4.out.trans' (hF5.mono (M' := MT b) (fun _ _ h => h.elim)))
          obtain ⟨c0, c1, c2, fz, hlt1⟩ := h5.cells
          have H5 := Lib.hid h5
          clear h5 hF5
          go_wp2_with fail
          go_roundg (gk - 1)
          case measure => omega
          case rel => exact ⟨(10 * (n : Int) + m - 48).toNat, c + 1, bd, by rw [Int.toNat_of_nonneg hge], by omega, by omega, by omega, Lib.hid (H5.out.put1 _ (c + 1) rfl), Lib.hid (HF5.out.setCell _ _ (fun o ho => H.out.one o ho)), O4.out⟩
  · rw [if_neg hm]
    have hq : (nx (L.drop a) == 45) = false := by rw [beq_eq_false_iff_ne]; exact hm
    clear hm
    generalize nx (L.drop a) = m0 at *
    go_enter Tryz.func65, Tryz.ntmps65
    go_wp2_with fail
    refine (Hc.out _ H.out).mono ?_
    rintro e w1 ⟨rfl, h2, hF⟩
    obtain ⟨c0, c1, c2, fz, hlt1⟩ := h2.cells
    have HF2 := Lib.hid (hF.mono (M' := MT b) (fun _ _ h => h.elim))
    have H2 := Lib.hid h2
    clear h2 hF
    go_wp2_with fail
    clear c0 c1 c2 fz hlt1 hq Hc
    obtain ⟨D, hD⟩ : ∃ D, sDigits 0 0 (L.drop a) = D := ⟨_, rfl⟩
    have HI : TNum (L.drop a) 0 0 false D := ⟨by omega, .inl ⟨rfl, hD⟩⟩
    have HD := Lib.hid hD
    clear hD
    go_loopg [5] (L.length - a + 1) (fun g vn wr => ∃ (n c : Nat) (bd : Bool), vn = .int .i64 (n : Int) ∧ a ≤ c ∧ c ≤ L.length ∧ L.length - c + 1 = g ∧ Hid (TX b L (.slice q L.length cap) c bd wr) ∧ Hid (Fr (MT b) w wr) ∧ TNum (L.drop c) (c - a) n bd D)
    case atStart => exact ⟨0, a, false, rfl, Nat.le_refl _, ha, rfl, H2, HF2, by rw [Nat.sub_self]; exact HI⟩
    case round =>
      obtain ⟨n, c, bd, rfl, hac, hcl, hg, H3, HF3, HI3⟩ := hrel
      have Hfig := Lib.hid (fun W hW => figure_c b L (.slice q L.length cap) c bd W hW hL (by omega))
      have Hnx := Lib.hid (fun W hW => next_c b L (.slice q L.length cap) c bd W hW hL (by omega))
      have hnb := HI3.1
      change Hid (∀ W, TX b L (.slice q L.length cap) c bd W → Calls _ _ _ W fun e w' => e = .returned (.bool (nDig (nx (L.drop c)))) ∧ _) at Hfig
      cases hdg : nDig (nx (L.drop c)) with
      | false =>
        obtain ⟨e1, e2, e3⟩ := HI3.off hdg
        have Hsp := Lib.hid (num_spec false hac HD.out e1 e2 e3 hnb)
        rw [hdg] at Hfig
        have ws : IntKind.i64.wrap ((c : Int) - (a : Int)) = (c : Int) - a := by rw [IntKind.wrap_i64]; omega
        have wn : IntKind.i64.wrap (n : Int) = (n : Int) := by rw [IntKind.wrap_i64]; omega
        have wm : IntKind.i64.wrap (-(n : Int)) = -(n : Int) := by rw [IntKind.wrap_i64]; omega
        clear e1 e2 e3 HI3 HI hdg Hnx HD
        have Hfin := fun W hT => num_fin (b := b) (v := .slice q L.length cap) (w := W) Hsp.out hT hcl
        have HX := True.intro
        by_cases p1 : c = a
        · have r1 : ((c : Int) - (a : Int) == 0) = true := by rw [beq_iff_eq]; omega
          have ht : tEnd L a c n bd false = true := by unfold tEnd; simp [p1]
          rw [ht] at Hfin
          have Hfin := Lib.hid Hfin
          clear ht HX
          go_wp2_with fail
          refine (Hfig.out _ H3.out).mono ?_
          rintro e w4 ⟨rfl, h4, hF4⟩
          obtain ⟨c0, c1, c2, fz, hlt1⟩ := h4.cells
          have HF4 := Lib.hid (HF3.out.trans' (hF4.mono (M' := MT b) (fun _ _ h => h.elim)))
          have H4 := Lib.hid h4
          clear h4 hF4
          go_wp2_with fail
          go_ret
          exact ⟨_, rfl, Hfin.out _ (H4.out.set2 true), HF4.out.setCell _ _ (fun o ho => H.out.one o ho)⟩
        · have r1 : ((c : Int) - (a : Int) == 0) = false := by rw [beq_eq_false_iff_ne]; omega
          by_cases p2 : a + 1 < c
          · have r2 : decide ((1 : Int) < (c : Int) - (a : Int)) = true := by rw [decide_eq_true_iff]; omega
            obtain ⟨x0, hx0⟩ : ∃ x0, L[a]? = some x0 := ⟨_, List.getElem?_eq_getElem (by omega)⟩
            obtain ⟨g, o, cap', e9, -⟩ := H3.out.2.1.at hx0
            obtain ⟨rfl, rfl⟩ : q = some ⟨g, o, none⟩ ∧ cap = cap' := by simpa using e9
            clear e9
            have hx1 : (x0 = 48) ↔ x0.toNat = 48 := by rw [← UInt8.toNat_inj]; rfl
            by_cases p3 : x0.toNat = 48
            · have r3 : ((x0.toNat : Int) == 48) = true := by rw [beq_iff_eq]; omega
              have hx3 := hx1.2 p3
              have _hx0 := hx0
              have ht : tEnd L a c n bd false = true := by unfold tEnd; simp [p1, p2, hx0, hx3]
              rw [ht] at Hfin
              have Hfin := Lib.hid Hfin
              clear ht HX
              go_wp2_with fail
              refine (Hfig.out _ H3.out).mono ?_
              rintro e w4 ⟨rfl, h4, hF4⟩
              obtain ⟨c0, c1, c2, fz, hlt1⟩ := h4.cells
              obtain ⟨g', o', cap', e9, hat⟩ := h4.2.1.at hx0
              obtain ⟨⟨rfl, rfl⟩, rfl⟩ : (g = g' ∧ o = o') ∧ cap = cap' := by simpa using e9
              clear e9
              have HF4 := Lib.hid (HF3.out.trans' (hF4.mono (M' := MT b) (fun _ _ h => h.elim)))
              have H4 := Lib.hid h4
              clear h4 hF4
              go_wp2_with fail
              go_ret
              exact ⟨_, rfl, Hfin.out _ (H4.out.set2 true), HF4.out.setCell _ _ (fun o ho => H.out.one o ho)⟩
            · have r3 : ((x0.toNat : Int) == 48) = false := by rw [beq_eq_false_iff_ne]; omega
              have hx3 : ¬ x0 = 48 := fun e => p3 (hx1.1 e)
              by_cases p4 : n = 0
              · have r4 : ((n : Int) == 0) = true := by rw [beq_iff_eq]; omega
                have _hx0 := hx0
                have ht : tEnd L a c n bd false = bd := by unfold tEnd; simp [p1, p2, hx0, hx3, p4]
                rw [ht] at Hfin
                have Hfin := Lib.hid Hfin
                clear ht HX p4
                go_wp2_with fail
                refine (Hfig.out _ H3.out).mono ?_
                rintro e w4 ⟨rfl, h4, hF4⟩
                obtain ⟨c0, c1, c2, fz, hlt1⟩ := h4.cells
                obtain ⟨g', o', cap', e9, hat⟩ := h4.2.1.at hx0
                obtain ⟨⟨rfl, rfl⟩, rfl⟩ : (g = g' ∧ o = o') ∧ cap = cap' := by simpa using e9
                clear e9
                have HF4 := Lib.hid (HF3.out.trans' (hF4.mono (M' := MT b) (fun _ _ h => h.elim)))
                have H4 := Lib.hid h4
                clear h4 hF4
                go_wp2_with fail
                go_ret
                exact ⟨_, rfl, Hfin.out _ H4.out, HF4.out⟩
              · have r4 : ((n : Int) == 0) = false := by rw [beq_eq_false_iff_ne]; omega
                have _hx0 := hx0
                have ht : tEnd L a c n bd false = bd := by unfold tEnd; simp [p1, p2, hx0, hx3, p4]
                rw [ht] at Hfin
                have Hfin := Lib.hid Hfin
                clear ht HX p4
                go_wp2_with fail
                refine (Hfig.out _ H3.out).mono ?_
                rintro e w4 ⟨rfl, h4, hF4⟩
                obtain ⟨c0, c1, c2, fz, hlt1⟩ := h4.cells
                obtain ⟨g', o', cap', e9, hat⟩ := h4.2.1.at hx0
                obtain ⟨⟨rfl, rfl⟩, rfl⟩ : (g = g' ∧ o = o') ∧ cap = cap' := by simpa using e9
                clear e9
                have HF4 := Lib.hid (HF3.out.trans' (hF4.mono (M' := MT b) (fun _ _ h => h.elim)))
                have H4 := Lib.hid h4
                clear h4 hF4
                go_wp2_with fail
                go_ret
                exact ⟨_, rfl, Hfin.out _ H4.out, HF4.out⟩
          · have r2 : decide ((1 : Int) < (c : Int) - (a : Int)) = false := by rw [decide_eq_false_iff_not]; omega
            by_cases p4 : n = 0
            · have r4 : ((n : Int) == 0) = true := by rw [beq_iff_eq]; omega
              have ht : tEnd L a c n bd false = bd := by unfold tEnd; simp [p1, p2, p4]
              rw [ht] at Hfin
              have Hfin := Lib.hid Hfin
              clear ht HX p4
              go_wp2_with fail
              refine (Hfig.out _ H3.out).mono ?_
              rintro e w4 ⟨rfl, h4, hF4⟩
              obtain ⟨c0, c1, c2, fz, hlt1⟩ := h4.cells
              have HF4 := Lib.hid (HF3.out.trans' (hF4.mono (M' := MT b) (fun _ _ h => h.elim)))
              have H4 := Lib.hid h4
              clear h4 hF4
              go_wp2_with fail
              go_ret
              exact ⟨_, rfl, Hfin.out _ H4.out, HF4.out⟩
            · have r4 : ((n : Int) == 0) = false := by rw [beq_eq_false_iff_ne]; omega
              have ht : tEnd L a c n bd false = bd := by unfold tEnd; simp [p1, p2, p4]
              rw [ht] at Hfin
              have Hfin := Lib.hid Hfin
              clear ht HX p4
              go_wp2_with fail
              refine (Hfig.out _ H3.out).mono ?_
              rintro e w4 ⟨rfl, h4, hF4⟩
              obtain ⟨c0, c1, c2, fz, hlt1⟩ := h4.cells
              have HF4 := Lib.hid (HF3.out.trans' (hF4.mono (M' := MT b) (fun _ _ h => h.elim)))
              have H4 := Lib.hid h4
              clear h4 hF4
              go_wp2_with fail
              go_ret
              exact ⟨_, rfl, Hfin.out _ H4.out, HF4.out⟩
      | true =>
        rw [hdg] at Hfig
        generalize hm : nx (L.drop c) = m at *
        obtain ⟨o1, o2, o3, o4⟩ := HI3.on hm hdg
        have w1 : IntKind.i64.wrap (10 * (n : Int)) = 10 * (n : Int) := by rw [IntKind.wrap_i64]; omega
        have w2 : IntKind.i64.wrap (10 * (n : Int) + m) = 10 * (n : Int) + m := by rw [IntKind.wrap_i64]; omega
        have w3 : IntKind.i64.wrap (10 * (n : Int) + m - 48) = 10 * (n : Int) + m - 48 := by rw [IntKind.wrap_i64]; omega
        have wc : IntKind.i64.wrap ((c : Int) + 1) = (c : Int) + 1 := by rw [IntKind.wrap_i64]; omega
        rw [show c - a + 1 = c + 1 - a by omega] at o4
        by_cases ho : 9007199254740991 < 10 * (n : Int) + m - 48
        · have qo : decide (9007199254740991 < 10 * (n : Int) + m - 48) = true := decide_eq_true ho
          rw [if_pos ho, qo, Bool.or_true] at o4
          have hge : 0 ≤ 10 * (n : Int) + m - 48 := by omega
          have O4 := Lib.hid o4
          clear hnb o2 o3 ho HI3 hm o4 hdg
          go_wp2_with fail
          refine (Hfig.out _ H3.out).mono ?_
          rintro e w4 ⟨rfl, h4, hF4⟩
          have HF4 := Lib.hid (HF3.out.trans' (hF4.mono (M' := MT b) (fun _ _ h => h.elim)))
          have H4 := Lib.hid h4
          clear h4 hF4
          go_wp2_with fail
          refine (Hnx.out _ H4.out).mono ?_
          rintro e w5 ⟨rfl, h5, hF5⟩
          have HF5 := Lib.hid (HF4.out.trans' (hF5.mono (M' := MT b) (fun _ _ h => h.elim)))
          obtain ⟨c0, c1, c2, fz, hlt1⟩ := h5.cells
          have H5 := Lib.hid h5
          clear h5 hF5
          go_wp2_with fail
          go_roundg (gk - 1)
          case measure => omega
          case rel => exact ⟨0, c + 1, true, rfl, by omega, by omega, by omega, Lib.hid ((H5.out.set2 true).put1 _ (c + 1) rfl), Lib.hid ((HF5.out.setCell _ _ (fun o ho => H.out.one o ho)).setCell _ _ (fun o ho => H.out.one o ho)), O4.out⟩
        · have qo : decide (9007199254740991 < 10 * (n : Int) + m - 48) = false := decide_eq_false ho
          rw [if_neg ho, qo, Bool.or_false] at o4
          have hge : 0 ≤ 10 * (n : Int) + m - 48 := by omega
          have O4 := Lib.hid o4
          clear hnb o2 o3 ho HI3 hm o4 hdg
          go_wp2_with fail
          refine (Hfig.out _ H3.out).mono ?_
          rintro e w4 ⟨rfl, h4, hF4⟩
          have HF4 := Lib.hid (HF3.out.trans' (hF4.mono (M' := MT b) (fun _ _ h => h.elim)))
          have H4 := Lib.hid h4
          clear h4 hF4
          go_wp2_with fail
          refine (Hnx.out _ H4.out).mono ?_
          rintro e w5 ⟨rfl, h5, hF5⟩
          have HF5 := Lib.hid (HF4.out.trans' (hF5.mono (M' := MT b) (fun _ _ h => h.elim)))
          obtain ⟨c0, c1, c2, fz, hlt1⟩ := h5.cells
          have H5 := Lib.hid h5
          clear h5 hF5
          go_wp2_with fail
          go_roundg (gk - 1)
          case measure => omega
          case rel => exact ⟨(10 * (n : Int) + m - 48).toNat, c + 1, bd, by rw [Int.toNat_of_nonneg hge], by omega, by omega, by omega, Lib.hid (H5.out.put1 _ (c + 1) rfl), Lib.hid (HF5.out.setCell _ _ (fun o ho => H.out.one o ho)), O4.out⟩
end Go.Proofs.YtbfmpbhikipipaaGreatDoor
