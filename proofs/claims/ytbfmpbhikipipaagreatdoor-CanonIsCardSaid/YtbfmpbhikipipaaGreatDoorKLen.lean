/-
  What is written is read back; sorted values; the same values: plain laws.
-/
import Derived.Test.YtbfmpbhikipipaaGreatDoorKSpecHeavy
import Derived.Test.YtbfmpbhikipipaaGreatDoorKStableAll
import Derived.Test.YtbfmpbhikipipaaGreatDoorKUtf
namespace Go.Proofs.YtbfmpbhikipipaaGreatDoor
set_option linter.unusedVariables false
set_option linter.unusedSimpArgs false
set_option linter.unusedSectionVars false

/-! ### texts -/
theorem blanks_cons {c : UInt8} {l : Bs} (h : c ≠ 32 ∧ c ≠ 9 ∧ c ≠ 10 ∧ c ≠ 13) : sBlanks (c :: l) = c :: l := by
  unfold sBlanks Lib.trimLeftS
  rw [List.dropWhile_cons_of_neg]
  simp [h.1, h.2.1, h.2.2.1, h.2.2.2]
theorem blanks_nil : sBlanks [] = [] := rfl
theorem eat_cons {c : UInt8} {l : Bs} (h : c ≠ 32 ∧ c ≠ 9 ∧ c ≠ 10 ∧ c ≠ 13) : sEat c (c :: l) = some l := by
  unfold sEat; rw [blanks_cons h]; simp
theorem eat_not {c d : UInt8} {l : Bs} (h : d ≠ 32 ∧ d ≠ 9 ∧ d ≠ 10 ∧ d ≠ 13) (hd : d ≠ c) : sEat c (d :: l) = none := by
  unfold sEat; rw [blanks_cons h]; simp [hd]
theorem must_app (p r : Bs) (b : Bool) : sMust p ⟨p ++ r, b⟩ = ⟨r, b⟩ := by
  unfold sMust Lib.trimPrefix Lib.hasPrefix
  have : p.isPrefixOf (p ++ r) = true := by rw [List.isPrefixOf_iff_prefix]; exact List.prefix_append _ _
  simp [this]
theorem enc_low {c : UInt8} (h : c.toNat < 128) : Lib.encodeRune (c.toNat : Int) = [c] := by
  rw [enc_one (by omega) (by omega)]
  simp
theorem dec_low {c : UInt8} (h : c.toNat < 128) (r : Bs) : Lib.decodeGo ⟨(c :: r).toArray⟩ = (c.toNat, 1) := by
  have := dec_enc (c := (c.toNat : Int)) (by unfold Sc; omega) r
  rw [enc_low h] at this
  simpa using this
theorem fig_toNat {n : Nat} (h : n < 16) : (fig n).toNat = if n < 10 then 48 + n else 87 + n := by
  unfold fig
  split <;> (simp; omega)
theorem hex_fig {n : Nat} (h : n < 16) : hexOf (fig n) = some n := by
  have : n = 0 ∨ n = 1 ∨ n = 2 ∨ n = 3 ∨ n = 4 ∨ n = 5 ∨ n = 6 ∨ n = 7 ∨ n = 8 ∨ n = 9 ∨ n = 10 ∨ n = 11 ∨ n = 12 ∨ n = 13 ∨ n = 14 ∨ n = 15 := by omega
  rcases this with h | h | h | h | h | h | h | h | h | h | h | h | h | h | h | h <;> subst h <;> decide
theorem esc_u (c : UInt8) (h : c.toNat < 32) (r : Bs) : sSign ⟨48 :: 48 :: fig (c.toNat / 16) :: fig (c.toNat % 16) :: r, false⟩ = (c.toNat, ⟨r, false⟩) := by
  unfold sSign
  have h48 : hexOf 48 = some 0 := by decide
  simp only [sHex, h48, hex_fig (show c.toNat / 16 < 16 by omega), hex_fig (show c.toNat % 16 < 16 by omega)]
  rw [if_pos (by omega)]
  congr 1
  omega
/-- one byte of an escaped text is read back -/
theorem step_esc (c : UInt8) (hc : c.toNat < 128) (out r : Bs) : sTextStep out ⟨(if pEsc c = [] then [c] else pEsc c) ++ r, false⟩ = (none, out ++ [c], ⟨r, false⟩) := by
  have key : ∀ x : UInt8, plainEsc x = some c.toNat → sTextStep out ⟨92 :: x :: r, false⟩ = (none, out ++ [c], ⟨r, false⟩) := by
    intro x hx
    unfold sTextStep
    simp only [dec_low (show (92 : UInt8).toNat < 128 by decide)]
    rw [if_neg (by decide), if_neg (by decide), if_pos (by decide)]
    unfold sEscape
    simp only [List.drop_succ_cons, List.drop_zero, hx]
    rw [enc_low hc]
  unfold pEsc
  by_cases h1 : c = 34
  · subst h1; exact key 34 (by decide)
  by_cases h2 : c = 92
  · subst h2; exact key 92 (by decide)
  by_cases h3 : c = 8
  · subst h3; exact key 98 (by decide)
  by_cases h4 : c = 9
  · subst h4; exact key 116 (by decide)
  by_cases h5 : c = 10
  · subst h5; exact key 110 (by decide)
  by_cases h6 : c = 12
  · subst h6; exact key 102 (by decide)
  by_cases h7 : c = 13
  · subst h7; exact key 114 (by decide)
  simp only [h1, h2, h3, h4, h5, h6, h7, if_false]
  by_cases h8 : c.toNat < 32
  · rw [if_pos h8, if_neg (by simp)]
    unfold sTextStep
    simp only [List.cons_append, List.nil_append, dec_low (show (92 : UInt8).toNat < 128 by decide)]
    rw [if_neg (by decide), if_neg (by decide), if_pos (by decide)]
    unfold sEscape
    simp only [List.drop_succ_cons, List.drop_zero]
    rw [show plainEsc 117 = none by decide]
    simp only [if_true]
    rw [esc_u c h8, enc_low hc]
  · rw [if_neg h8, if_pos rfl]
    unfold sTextStep
    simp only [List.cons_append, List.nil_append, dec_low hc]
    have n1 : ¬ c.toNat = 34 := fun h => h1 (UInt8.toNat_inj.1 h)
    have n2 : ¬ c.toNat = 92 := fun h => h2 (UInt8.toNat_inj.1 h)
    rw [if_neg (by omega), if_neg n1, if_neg n2, enc_low hc]
    rfl
theorem step_high (c : Int) (hc : Sc c) (h : 128 ≤ c) (out r : Bs) : sTextStep out ⟨Lib.encodeRune c ++ r, false⟩ = (none, out ++ Lib.encodeRune c, ⟨r, false⟩) := by
  unfold sTextStep
  simp only [dec_enc hc]
  have hp : 2 ≤ (Lib.encodeRune c).length := by
    rcases sc_cases hc with h' | h' | h' | h'
    · omega
    · rw [enc_two h'.1 h'.2]; simp
    · rw [enc_three h']; simp
    · rw [enc_four h'.1 h'.2]; simp
  rw [if_neg (by omega), if_neg (by omega), if_neg (by omega), List.drop_left]
  congr 2
  congr 1
  congr 1
  unfold Sc at hc
  omega
theorem step_end (out r : Bs) : sTextStep out ⟨34 :: r, false⟩ = (some out, out, ⟨r, false⟩) := by
  unfold sTextStep
  simp only [dec_low (show (34 : UInt8).toNat < 128 by decide)]
  rw [if_neg (by decide), if_pos (by decide)]
  rfl
theorem escs_append (a b : Bs) : pEscs (a ++ b) = pEscs a ++ pEscs b := by
  induction a with
  | nil => rfl
  | cons c a ih => simp only [List.cons_append, pEscs, ih, List.append_assoc]
theorem esc_high {c : UInt8} (h : 128 ≤ c.toNat) : pEsc c = [] := by
  unfold pEsc
  have e : ∀ x : UInt8, x.toNat < 128 → ¬ c = x := fun x hx e => by subst e; omega
  rw [if_neg (e 34 (by decide)), if_neg (e 92 (by decide)), if_neg (e 8 (by decide)), if_neg (e 9 (by decide)), if_neg (e 10 (by decide)), if_neg (e 12 (by decide)), if_neg (e 13 (by decide)), if_neg (by omega)]
theorem escs_high (l : Bs) (h : ∀ c ∈ l, 128 ≤ c.toNat) : pEscs l = l := by
  induction l with
  | nil => rfl
  | cons c l ih =>
    rw [pEscs, esc_high (h c (by simp)), ih (fun x hx => h x (by simp [hx]))]
    rfl
theorem enc_bytes {c : Int} (hc : Sc c) (h : 128 ≤ c) : ∀ x ∈ Lib.encodeRune c, 128 ≤ x.toNat := by
  intro x hx
  rcases sc_cases hc with h' | h' | h' | h'
  · omega
  · rw [enc_two h'.1 h'.2] at hx
    simp only [List.mem_cons, List.not_mem_nil, or_false] at hx
    rcases hx with rfl | rfl <;> (rw [u8_int _ (by omega) (by omega)]; omega)
  · rw [enc_three h'] at hx
    simp only [List.mem_cons, List.not_mem_nil, or_false] at hx
    rcases hx with rfl | rfl | rfl <;> (rw [u8_int _ (by omega) (by omega)]; omega)
  · rw [enc_four h'.1 h'.2] at hx
    simp only [List.mem_cons, List.not_mem_nil, or_false] at hx
    rcases hx with rfl | rfl | rfl | rfl <;> (rw [u8_int _ (by omega) (by omega)]; omega)
theorem loop_quote {s : Bs} (hs : Vl s) : ∀ (out r : Bs) (k : Nat), (pEscs s).length + 1 ≤ k → sTextLoop k out ⟨pEscs s ++ 34 :: r, false⟩ = (out ++ s, ⟨r, false⟩) := by
  induction hs with
  | nil =>
    intro out r k hk
    obtain ⟨k, rfl⟩ : ∃ m, k = m + 1 := ⟨k - 1, by simp [pEscs] at hk; omega⟩
    simp only [pEscs, List.nil_append, sTextLoop, step_end, Bool.false_eq_true, if_false, List.append_nil]
  | cons c hc l hl ih =>
    intro out r k hk
    rw [escs_append] at hk
    rw [List.length_append] at hk
    obtain ⟨k, rfl⟩ : ∃ m, k = m + 1 := ⟨k - 1, by omega⟩
    rw [escs_append, List.append_assoc]
    unfold sTextLoop
    simp only [Bool.false_eq_true, if_false]
    by_cases hlow : c < 128
    · have h0 : 0 ≤ c := by unfold Sc at hc; omega
      have e1 : Lib.encodeRune c = [c.toNat.toUInt8] := enc_one h0 (by omega)
      have e2 : (c.toNat.toUInt8).toNat = c.toNat := u8_int c h0 (by omega)
      have e3 : pEscs (Lib.encodeRune c) = (if pEsc c.toNat.toUInt8 = [] then [c.toNat.toUInt8] else pEsc c.toNat.toUInt8) := by rw [e1]; simp [pEscs]
      have e4 : 1 ≤ (pEscs (Lib.encodeRune c)).length := by
        rw [e3]
        split
        · simp
        · rename_i h
          exact List.length_pos_iff.2 h
      rw [e3, step_esc _ (by rw [e2]; omega)]
      simp only
      rw [ih _ _ _ (by omega), e1, List.append_assoc]
    · rw [escs_high _ (enc_bytes hc (by omega))] at hk ⊢
      have := enc_pos c
      rw [step_high c hc (by omega)]
      simp only
      rw [ih _ _ _ (by omega), List.append_assoc]
theorem text_quote {s : Bs} (hs : Vl s) (r : Bs) : sText ⟨pQuote s ++ r, false⟩ = (s, ⟨r, false⟩) := by
  unfold sText pQuote
  have e : 34 :: pEscs s ++ [34] ++ r = [34] ++ (pEscs s ++ 34 :: r) := by simp
  rw [e, must_app, loop_quote hs]
  · rfl
  · simp; omega

/-! ### numbers -/
def isDig (x : UInt8) : Prop := 48 ≤ x.toNat ∧ x.toNat ≤ 57
/-- what may stand behind a value -/
def Rok : Bs → Prop
  | [] => True
  | x :: _ => ¬ isDig x
theorem dig_u8 {n : Nat} (h : n < 10) : (UInt8.ofNat (48 + n)).toNat = 48 + n := by simp; omega
theorem digits_dec (u : Nat) : ∀ (a k : Nat) (r : Bs), a * 10 ^ Lib.nDigits u + u ≤ 9007199254740991 → sDigits a k (Lib.decDigits u ++ r) = sDigits (a * 10 ^ Lib.nDigits u + u) (k + Lib.nDigits u) r := by
  induction u using Nat.strongRecOn with
  | _ u ih =>
    intro a k r h
    by_cases hu : u < 10
    · rw [Lib.nDigits_small hu] at h ⊢
      rw [Lib.decDigits, dif_pos hu]
      simp only [List.cons_append, List.nil_append, sDigits, dig_u8 hu]
      rw [if_pos (by omega), if_pos (by omega)]
      congr 1
      omega
    · rw [Lib.nDigits_big hu] at h ⊢
      rw [Nat.pow_succ] at h ⊢
      rw [Lib.decDigits, dif_neg hu, List.append_assoc]
      have e : a * (10 ^ Lib.nDigits (u / 10) * 10) = a * 10 ^ Lib.nDigits (u / 10) * 10 := by rw [Nat.mul_assoc]
      rw [e] at h ⊢
      have i := ih (u / 10) (by omega) a k (UInt8.ofNat (48 + u % 10) :: r)
      generalize a * 10 ^ Lib.nDigits (u / 10) = A at h i ⊢
      rw [List.cons_append, List.nil_append, i (by omega)]
      simp only [sDigits, dig_u8 (show u % 10 < 10 by omega)]
      rw [if_pos (by omega), if_pos (by omega)]
      congr 1
      omega
theorem dec_head {u : Nat} (h : 0 < u) : ∃ y m, Lib.decDigits u = y :: m ∧ isDig y ∧ y ≠ 48 := by
  induction u using Nat.strongRecOn with
  | _ u ih =>
    by_cases hu : u < 10
    · refine ⟨_, [], by rw [Lib.decDigits, dif_pos hu], ?_, ?_⟩
      · unfold isDig; rw [dig_u8 hu]; omega
      · intro e
        have := congrArg UInt8.toNat e
        rw [dig_u8 hu] at this
        simp at this
        omega
    · obtain ⟨y, m, e, h1, h2⟩ := ih (u / 10) (by omega) (by omega)
      exact ⟨y, m ++ [UInt8.ofNat (48 + u % 10)], by rw [Lib.decDigits, dif_neg hu, e]; rfl, h1, h2⟩
theorem digits_rok {r : Bs} (h : Rok r) (a k : Nat) : sDigits a k r = (a, k, r) := by
  cases r with
  | nil => rfl
  | cons x l => unfold sDigits; exact if_neg h
theorem numAt_dec (m : Bool) (u : Nat) (hu : u ≤ 9007199254740991) (hm : m = true → 0 < u) {r : Bs} (hr : Rok r) :
    sNumAt m false (Lib.decDigits u ++ r) = (.mk 2 (if m then -(u : Int) else u) [] [] [], ⟨r, false⟩) := by
  have hd := digits_dec u 0 0 r (by simpa using hu)
  rw [digits_rok hr] at hd
  simp only [Nat.zero_mul, Nat.zero_add] at hd
  by_cases h0 : u = 0
  · subst h0
    have hm' : m = false := by cases m <;> simp at hm ⊢
    subst hm'
    have e : Lib.decDigits 0 = [48] := by rw [Lib.decDigits]; rfl
    rw [e] at hd ⊢
    unfold sNumAt
    simp only [List.cons_append, List.nil_append] at hd ⊢
    rw [if_pos (by decide), hd, Lib.nDigits_small (by decide)]
    rfl
  · obtain ⟨y, t, e, h1, h2⟩ := dec_head (by omega : 0 < u)
    rw [e] at hd ⊢
    unfold sNumAt
    simp only [List.cons_append] at hd ⊢
    rw [if_pos (show 48 ≤ y.toNat ∧ y.toNat ≤ 57 from h1), hd]
    simp only [h2, decide_false, Bool.false_and, Bool.or_false, Bool.false_or]
    rw [decide_eq_false (by omega)]
theorem number_itoa {n : Int} (h1 : -9007199254740991 ≤ n) (h2 : n ≤ 9007199254740991) {r : Bs} (hr : Rok r) :
    sNumber ⟨Lib.itoa n ++ r, false⟩ = (.mk 2 n [] [] [], ⟨r, false⟩) := by
  unfold Lib.itoa
  by_cases hn : n < 0
  · rw [if_pos hn]
    unfold sNumber
    simp only [List.cons_append, if_true]
    rw [numAt_dec true n.natAbs (by omega) (fun _ => by omega) hr]
    congr 2
    simp only [if_true]
    omega
  · rw [if_neg hn]
    have hd := numAt_dec false n.toNat (by omega) (fun h => by cases h) hr
    unfold sNumber
    by_cases h0 : n.toNat = 0
    · rw [h0] at hd ⊢
      have e : Lib.decDigits 0 = [48] := by rw [Lib.decDigits]; rfl
      rw [e] at hd ⊢
      simp only [List.cons_append, List.nil_append] at hd ⊢
      rw [if_neg (by decide), hd]
      congr 2
      simp; omega
    · obtain ⟨y, t, e, h3, h4⟩ := dec_head (by omega : 0 < n.toNat)
      rw [e] at hd ⊢
      simp only [List.cons_append] at hd ⊢
      rw [if_neg (by rintro rfl; unfold isDig at h3; revert h3; decide), hd]
      congr 2
      simp; omega
theorem itoa_head (n : Int) : ∃ y t, Lib.itoa n = y :: t ∧ (isDig y ∨ y = 45) := by
  unfold Lib.itoa
  split
  · exact ⟨_, _, rfl, .inr rfl⟩
  · by_cases h0 : n.toNat = 0
    · rw [h0]
      exact ⟨48, [], by rw [Lib.decDigits]; rfl, .inl (by unfold isDig; decide)⟩
    · obtain ⟨y, t, e, h3, h4⟩ := dec_head (by omega : 0 < n.toNat)
      exact ⟨y, t, e, .inl h3⟩

/-! ### values -/
/-- a value's first sign -/
def Vh (c : UInt8) : Prop := (c ≠ 32 ∧ c ≠ 9 ∧ c ≠ 10 ∧ c ≠ 13) ∧ c ≠ 93 ∧ c ≠ 125
theorem vh_dig {y : UInt8} (h : isDig y ∨ y = 45) : Vh y ∧ y ≠ 110 ∧ y ≠ 116 ∧ y ≠ 102 ∧ y ≠ 34 ∧ y ≠ 91 ∧ y ≠ 123 := by
  unfold Vh isDig at *
  refine ⟨⟨⟨?_, ?_, ?_, ?_⟩, ?_, ?_⟩, ?_, ?_, ?_, ?_, ?_, ?_⟩ <;> (rintro rfl; revert h; decide)
theorem write_head (d : Int) (j : J) (h : pSound d j = true) : ∃ c t, pWrite j = c :: t ∧ Vh c := by
  obtain ⟨k, n, t, l, p⟩ := j
  unfold pSound at h
  unfold pWrite
  split at h
  · subst k; exact ⟨110, _, rfl, by unfold Vh; decide⟩
  split at h
  · subst k
    cases (n == 1)
    · exact ⟨102, _, rfl, by unfold Vh; decide⟩
    · exact ⟨116, _, rfl, by unfold Vh; decide⟩
  split at h
  · subst k
    obtain ⟨y, t, e, hy⟩ := itoa_head n
    exact ⟨y, t, e, (vh_dig hy).1⟩
  split at h
  · subst k; exact ⟨34, _, rfl, by unfold Vh; decide⟩
  split at h
  · cases h
  split at h
  · subst k
    cases l with
    | nil => exact ⟨91, _, rfl, by unfold Vh; decide⟩
    | cons x l => exact ⟨91, _, rfl, by unfold Vh; decide⟩
  split at h
  · subst k
    cases p with
    | nil => exact ⟨123, _, rfl, by unfold Vh; decide⟩
    | cons x l => obtain ⟨nm, x⟩ := x; exact ⟨123, _, rfl, by unfold Vh; decide⟩
  · cases h
theorem rok_of {c : UInt8} {l : Bs} (h : c = 44 ∨ c = 93 ∨ c = 125) : Rok (c :: l) := by
  unfold Rok isDig
  rcases h with rfl | rfl | rfl <;> (simp only; decide)
theorem item_eq {val : St → J × St} {st st' : St} {x : J} (h : val st = (x, st')) (a : List J) : sItem val st a = (st', a ++ [x]) := by unfold sItem; rw [h]
theorem sLoop_end {α : Type} {one : St → α → St × α} {shut : UInt8} {k : Nat} {st : St} {a a1 : α} {s1 l : Bs} (h0 : st.bad = false) (h1 : one st a = (⟨s1, false⟩, a1)) (h2 : sEat shut s1 = some l) : sLoop one shut (k + 1) st a = (⟨l, false⟩, a1) := by
  unfold sLoop
  simp [h0, h1, h2]
theorem sLoop_on {α : Type} {one : St → α → St × α} {shut : UInt8} {k : Nat} {st : St} {a a1 : α} {s1 l : Bs} (h0 : st.bad = false) (h1 : one st a = (⟨s1, false⟩, a1)) (h2 : sEat shut s1 = none) (h3 : sEat 44 (sBlanks s1) = some l) : sLoop one shut (k + 1) st a = sLoop one shut k ⟨l, false⟩ a1 := by
  rw [sLoop]
  simp [h0, h1, h2, h3]
/-- values are read back by val -/
def Reads (val : St → J × St) (j : J) : Prop := ∀ r, Rok r → val ⟨pWrite j ++ r, false⟩ = (j, ⟨r, false⟩)
theorem loop_list {val : St → J × St} (d : Int) : ∀ (js : List J) (j : J) (r : Bs) (a : List J) (k : Nat), (∀ x ∈ j :: js, pSound d x = true) → (∀ x ∈ j :: js, Reads val x) → js.length + 1 ≤ k →
    sLoop (sItem val) 93 k ⟨pWrite j ++ (pWrites 44 js ++ 93 :: r), false⟩ a = (⟨r, false⟩, a ++ j :: js) := by
  intro js
  induction js with
  | nil =>
    intro j r a k hs hr hk
    obtain ⟨k, rfl⟩ : ∃ m, k = m + 1 := ⟨k - 1, by omega⟩
    exact sLoop_end rfl (item_eq (hr j (by simp) _ (rok_of (by simp))) a) (eat_cons (by decide))
  | cons j2 js ih =>
    intro j r a k hs hr hk
    obtain ⟨k, rfl⟩ : ∃ m, k = m + 1 := ⟨k - 1, by omega⟩
    have e : pWrites 44 (j2 :: js) ++ 93 :: r = 44 :: (pWrite j2 ++ (pWrites 44 js ++ 93 :: r)) := by simp [pWrites]
    rw [e, sLoop_on rfl (item_eq (hr j (by simp) _ (rok_of (by simp))) a) (eat_not (by decide) (by decide)) (by rw [blanks_cons (by decide)]; exact eat_cons (by decide))]
    rw [ih j2 r (a ++ [j]) k (fun x hx => hs x (by simp at hx ⊢; exact .inr hx)) (fun x hx => hr x (by simp at hx ⊢; exact .inr hx)) (by simp at hk; omega)]
    simp
theorem loop_pairs {val : St → J × St} (d : Int) : ∀ (ps : List (Bs × J)) (nm : Bs) (j : J) (r : Bs) (a : List (Bs × J)) (k : Nat), (∀ q ∈ (nm, j) :: ps, Vl q.1 ∧ pSound d q.2 = true) → (∀ q ∈ (nm, j) :: ps, Reads val q.2) →
    ((a ++ (nm, j) :: ps).map (·.1)).Nodup → ps.length + 1 ≤ k →
    sLoop (sPair val) 125 k ⟨pQuote nm ++ (58 :: (pWrite j ++ (pWritep 44 ps ++ 125 :: r))), false⟩ a = (⟨r, false⟩, a ++ (nm, j) :: ps) := by
  have one : ∀ (ps : List (Bs × J)) (nm : Bs) (j : J) (r : Bs) (a : List (Bs × J)), (∀ q ∈ (nm, j) :: ps, Vl q.1 ∧ pSound d q.2 = true) → Reads val j → ((a ++ (nm, j) :: ps).map (·.1)).Nodup → Rok r →
      sPair val ⟨pQuote nm ++ (58 :: (pWrite j ++ r)), false⟩ a = (⟨r, false⟩, a ++ [(nm, j)]) := by
    intro ps nm j r a hs hr hn hrk
    unfold sPair
    have hq : sBlanks (pQuote nm ++ (58 :: (pWrite j ++ r))) = pQuote nm ++ (58 :: (pWrite j ++ r)) := by
      unfold pQuote; simp only [List.cons_append]; exact blanks_cons (by decide)
    simp only [hq]
    rw [text_quote (hs (nm, j) (by simp)).1]
    simp only
    unfold sColon
    rw [if_neg, eat_cons (by decide)]
    · simp only
      rw [hr _ hrk]
    · intro hc
      rw [List.contains_iff_mem] at hc
      rw [List.map_append, List.nodup_append] at hn
      exact hn.2.2 nm hc nm (by simp) rfl
  intro ps
  induction ps with
  | nil =>
    intro nm j r a k hs hr hn hk
    obtain ⟨k, rfl⟩ : ∃ m, k = m + 1 := ⟨k - 1, by omega⟩
    exact sLoop_end rfl (one [] nm j _ a hs (hr (nm, j) (by simp)) hn (rok_of (by simp))) (eat_cons (by decide))
  | cons q2 ps ih =>
    obtain ⟨nm2, j2⟩ := q2
    intro nm j r a k hs hr hn hk
    obtain ⟨k, rfl⟩ : ∃ m, k = m + 1 := ⟨k - 1, by omega⟩
    have e : pWritep 44 ((nm2, j2) :: ps) ++ 125 :: r = 44 :: (pQuote nm2 ++ (58 :: (pWrite j2 ++ (pWritep 44 ps ++ 125 :: r)))) := by simp [pWritep]
    rw [e, sLoop_on rfl (one _ nm j _ a hs (hr (nm, j) (by simp)) hn (rok_of (by simp))) (eat_not (by decide) (by decide)) (by rw [blanks_cons (by decide)]; exact eat_cons (by decide))]
    rw [ih nm2 j2 r (a ++ [(nm, j)]) k (fun x hx => hs x (by simp at hx ⊢; exact .inr hx)) (fun x hx => hr x (by simp at hx ⊢; exact .inr hx)) (by simpa using hn) (by simp at hk; omega)]
    simp

theorem soundp_iff (d : Int) : ∀ (p : List (Bs × J)) (names : List Bs), pSoundp d names p = true ↔ (∀ q ∈ p, Vl q.1 ∧ pSound d q.2 = true) ∧ (p.map (·.1)).Nodup ∧ ∀ q ∈ p, q.1 ∉ names := by
  intro p
  induction p with
  | nil => intro names; simp [pSoundp]
  | cons q p ih =>
    obtain ⟨nm, j⟩ := q
    intro names
    unfold pSoundp
    simp only [Bool.and_eq_true, Bool.not_eq_true', ih, valid_vl, List.map_cons, List.nodup_cons, List.mem_cons, forall_eq_or_imp, List.mem_append, List.mem_singleton, not_or, List.mem_map, not_exists, not_and]
    constructor
    · rintro ⟨h1, h2, h3, h4, h5, h6⟩
      refine ⟨⟨⟨h2, h3⟩, h4⟩, ⟨fun x hx e => (h6 x hx).2.1 e, h5⟩, by simpa using h1, fun x hx => (h6 x hx).1⟩
    · rintro ⟨⟨⟨h2, h3⟩, h4⟩, ⟨h7, h5⟩, h1, h6⟩
      exact ⟨by simpa using h1, h2, h3, h4, h5, fun x hx => ⟨h6 x hx, h7 x hx, by simp⟩⟩
theorem sounds_iff (d : Int) : ∀ (l : List J), pSounds d l = true ↔ ∀ j ∈ l, pSound d j = true := by
  intro l
  induction l with
  | nil => simp [pSounds]
  | cons j l ih => unfold pSounds; simp [ih]
theorem writes_len (js : List J) (c : UInt8) : js.length ≤ (pWrites c js).length := by
  induction js generalizing c with
  | nil => simp [pWrites]
  | cons j js ih => have := ih 44; simp [pWrites]; omega
theorem writep_len (js : List (Bs × J)) (c : UInt8) : js.length ≤ (pWritep c js).length := by
  induction js generalizing c with
  | nil => simp [pWritep]
  | cons j js ih => obtain ⟨nm, j⟩ := j; have := ih 44; simp [pWritep]; omega
theorem value_write : ∀ (f : Nat) (d : Int) (j : J), 9 ≤ d + f → pSound d j = true → d ≤ 8 → Reads (sValue f d) j := by
  intro f
  induction f with
  | zero => intro d j h1 _ h2; omega
  | succ f ih =>
    intro d j hf hs hd r hr
    obtain ⟨c0, t0, e0, hv0⟩ := write_head d j hs
    unfold sValue
    rw [e0]
    simp only [List.cons_append]
    rw [blanks_cons hv0.1]
    simp only [Bool.false_eq_true, if_false]
    rw [← List.cons_append, ← e0]
    obtain ⟨k, n, t, l, p⟩ := j
    unfold pSound at hs
    unfold sRead
    split at hs
    · subst k
      simp only [Bool.and_eq_true, beq_iff_eq, List.isEmpty_iff] at hs
      obtain ⟨rfl, rfl, rfl, rfl⟩ := hs
      have e1 : pWrite (.mk 0 0 [] [] []) = sNull := by unfold pWrite; rfl
      rw [e1] at e0 ⊢
      obtain ⟨rfl, rfl⟩ := List.cons.inj e0
      rw [if_pos rfl, must_app]
      rfl
    split at hs
    · subst k
      simp only [Bool.and_eq_true, Bool.or_eq_true, beq_iff_eq, List.isEmpty_iff] at hs
      obtain ⟨hn, rfl, rfl, rfl⟩ := hs
      rcases hn with rfl | rfl
      · have e1 : pWrite (.mk 1 0 [] [] []) = sFalse := by unfold pWrite; rfl
        rw [e1] at e0 ⊢
        obtain ⟨rfl, rfl⟩ := List.cons.inj e0
        rw [if_neg (by decide), if_neg (by decide), if_pos rfl, must_app]
      · have e1 : pWrite (.mk 1 1 [] [] []) = sTrue := by unfold pWrite; rfl
        rw [e1] at e0 ⊢
        obtain ⟨rfl, rfl⟩ := List.cons.inj e0
        rw [if_neg (by decide), if_pos rfl, must_app]
    split at hs
    · subst k
      simp only [Bool.and_eq_true, decide_eq_true_eq, beq_iff_eq, List.isEmpty_iff] at hs
      obtain ⟨h1, h2, rfl, rfl, rfl⟩ := hs
      have e1 : pWrite (.mk 2 n [] [] []) = Lib.itoa n := by unfold pWrite; rfl
      rw [e1] at e0 ⊢
      obtain ⟨y, t, e2, hy⟩ := itoa_head n
      rw [e0] at e2
      obtain ⟨rfl, rfl⟩ := List.cons.inj e2
      obtain ⟨_, a1, a2, a3, a4, a5, a6⟩ := vh_dig hy
      rw [if_neg a1, if_neg a2, if_neg a3, if_neg a4, if_neg a5, if_neg a6]
      exact number_itoa h1 h2 hr
    split at hs
    · subst k
      simp only [Bool.and_eq_true, beq_iff_eq, List.isEmpty_iff] at hs
      obtain ⟨rfl, ht, rfl, rfl⟩ := hs
      have e1 : pWrite (.mk 3 0 t [] []) = pQuote t := by unfold pWrite; rfl
      rw [e1] at e0 ⊢
      obtain ⟨rfl, -⟩ := List.cons.inj e0
      rw [if_neg (by decide), if_neg (by decide), if_neg (by decide), if_pos rfl]
      rw [text_quote ((valid_vl t).1 ht)]
    split at hs
    · cases hs
    rename_i hno
    have hn0 : n = 0 := Classical.byContradiction fun h => hno (.inl h)
    have ht0 : t = [] := Classical.byContradiction fun h => hno (.inr (.inl h))
    have hd8 : d < 8 := by
      rcases Int.lt_or_le d 8 with h | h
      · exact h
      · exact absurd (.inr (.inr h)) hno
    subst hn0 ht0
    split at hs
    · subst k
      simp only [Bool.and_eq_true, List.isEmpty_iff] at hs
      obtain ⟨hl, rfl⟩ := hs
      rw [sounds_iff] at hl
      have e1 : pWrite (.mk 4 0 [] l []) = (if l.isEmpty then [91] else pWrites 91 l) ++ [93] := by unfold pWrite; rfl
      rw [e1] at e0 ⊢
      cases l with
      | nil =>
        obtain ⟨rfl, -⟩ := List.cons.inj e0
        rw [if_neg (by decide), if_neg (by decide), if_neg (by decide), if_neg (by decide), if_pos rfl]
        unfold sEach sOpen
        simp only [List.isEmpty_nil, if_true, List.cons_append, List.nil_append]
        rw [eat_cons (by decide)]
        simp only
        rw [eat_cons (by decide)]
        simp only [Bool.false_or]
        rw [decide_eq_false (by omega)]
      | cons x l =>
        have hx := hl x (by simp)
        obtain ⟨c1, t1, e2, hv1⟩ := write_head (d + 1) x hx
        simp only [List.isEmpty_cons, Bool.false_eq_true, if_false, pWrites, List.cons_append, List.nil_append, List.append_assoc] at e0 ⊢
        obtain ⟨rfl, -⟩ := List.cons.inj e0
        rw [if_neg (by decide), if_neg (by decide), if_neg (by decide), if_neg (by decide), if_pos rfl]
        have key : sEach (sItem (sValue f (d + 1))) 91 93 (d + 1) ⟨91 :: (pWrite x ++ (pWrites 44 l ++ 93 :: r)), false⟩ [] = (⟨r, false⟩, x :: l) := by
          unfold sEach sOpen
          rw [eat_cons (by decide)]
          simp only [Bool.false_or]
          rw [decide_eq_false (by omega)]
          rw [show sEat 93 (pWrite x ++ (pWrites 44 l ++ 93 :: r)) = none by rw [e2]; exact eat_not hv1.1 hv1.2.1]
          simp only
          rw [show sBlanks (pWrite x ++ (pWrites 44 l ++ 93 :: r)) = pWrite x ++ (pWrites 44 l ++ 93 :: r) by rw [e2]; exact blanks_cons hv1.1]
          rw [loop_list (d + 1) l x r [] _ hl (fun y hy => ih (d + 1) y (by omega) (hl y hy) (by omega))]
          · rfl
          · have := writes_len l 44
            simp; omega
        rw [key]
    split at hs
    · subst k
      simp only [Bool.and_eq_true, List.isEmpty_iff] at hs
      obtain ⟨hp, rfl⟩ := hs
      rw [soundp_iff] at hp
      obtain ⟨hp, hnd, -⟩ := hp
      have e1 : pWrite (.mk 5 0 [] [] p) = (if p.isEmpty then [123] else pWritep 123 p) ++ [125] := by unfold pWrite; rfl
      rw [e1] at e0 ⊢
      cases p with
      | nil =>
        obtain ⟨rfl, -⟩ := List.cons.inj e0
        rw [if_neg (by decide), if_neg (by decide), if_neg (by decide), if_neg (by decide), if_neg (by decide), if_pos rfl]
        unfold sEach sOpen
        simp only [List.isEmpty_nil, if_true, List.cons_append, List.nil_append]
        rw [eat_cons (by decide)]
        simp only
        rw [eat_cons (by decide)]
        simp only [Bool.false_or]
        rw [decide_eq_false (by omega)]
      | cons q p =>
        obtain ⟨nm, x⟩ := q
        simp only [List.isEmpty_cons, Bool.false_eq_true, if_false, pWritep, List.cons_append, List.nil_append, List.append_assoc] at e0 ⊢
        obtain ⟨rfl, -⟩ := List.cons.inj e0
        rw [if_neg (by decide), if_neg (by decide), if_neg (by decide), if_neg (by decide), if_neg (by decide), if_pos rfl]
        have key : sEach (sPair (sValue f (d + 1))) 123 125 (d + 1) ⟨123 :: (pQuote nm ++ (58 :: (pWrite x ++ (pWritep 44 p ++ 125 :: r)))), false⟩ [] = (⟨r, false⟩, (nm, x) :: p) := by
          unfold sEach sOpen
          rw [eat_cons (by decide)]
          simp only [Bool.false_or]
          rw [decide_eq_false (by omega)]
          rw [show sEat 125 (pQuote nm ++ (58 :: (pWrite x ++ (pWritep 44 p ++ 125 :: r)))) = none from eat_not (d := 34) (by decide) (by decide)]
          simp only
          rw [show sBlanks (pQuote nm ++ (58 :: (pWrite x ++ (pWritep 44 p ++ 125 :: r)))) = pQuote nm ++ (58 :: (pWrite x ++ (pWritep 44 p ++ 125 :: r))) from blanks_cons (by decide)]
          rw [loop_pairs (d + 1) p nm x r [] _ hp (fun y hy => ih (d + 1) y.2 (by omega) (hp y hy).2 (by omega)) (by simpa using hnd)]
          · rfl
          · have := writep_len p 44
            simp; omega
        rw [key]
    · cases hs
/-- what is written is read back -/
theorem parse_write (j : J) (h : pSound 0 j = true) : sParse (pWrite j) = some j := by
  have := value_write 10 0 j (by omega) h (by omega) [] trivial
  unfold sParse
  rw [List.append_nil] at this
  rw [this]
  simp [sBlanks, Lib.trimLeftS]

theorem bl_conn : ∀ x y : Bs, Op.bytesLess x y = false → Op.bytesLess y x = false → x = y := by
  intro x
  induction x with
  | nil => intro y h1 h2; cases y with
    | nil => rfl
    | cons b y => simp [Op.bytesLess] at h1
  | cons a x ih =>
    intro y h1 h2
    cases y with
    | nil => simp [Op.bytesLess] at h2
    | cons b y =>
      rw [bl_cons] at h1 h2
      simp only [Bool.or_eq_false_iff, Bool.and_eq_false_iff, decide_eq_false_iff_not] at h1 h2
      have e : a.toNat = b.toNat := by omega
      have e2 : a = b := UInt8.toNat_inj.1 e
      subst e2
      rw [ih y (h1.2.resolve_left (by simp)) (h2.2.resolve_left (by simp))]
section
variable {α : Type} {key : α → Bs}
theorem insR_perm (x : α) : ∀ l : List α, (insR key x l).Perm (x :: l) := by
  intro l
  induction l with
  | nil => exact .refl _
  | cons y l ih =>
    unfold insR
    split
    · exact (ih.cons y).trans (.swap ..)
    · exact .refl _
theorem isortR_perm : ∀ (l acc : List α), (isortR key acc l).Perm (l ++ acc) := by
  intro l
  induction l with
  | nil => intro acc; exact .refl _
  | cons x l ih =>
    intro acc
    rw [isortR]
    refine (ih _).trans ?_
    refine ((insR_perm x acc).append_left l).trans ?_
    exact List.perm_middle
theorem isort_perm (l : List α) : (isort key l).Perm l := by
  unfold isort
  refine (List.reverse_perm _).trans ?_
  have := isortR_perm (key := key) l []
  rwa [List.append_nil] at this
/-- falling -/
def Fal (key : α → Bs) (l : List α) : Prop := l.Pairwise (fun x y => Op.bytesLess (key x) (key y) = false)
/-- rising -/
def Ris (key : α → Bs) (l : List α) : Prop := l.Pairwise (fun x y => Op.bytesLess (key y) (key x) = false)
theorem bl_nlt_trans {x y z : Bs} (h1 : Op.bytesLess x y = false) (h2 : Op.bytesLess y z = false) : Op.bytesLess x z = false := by
  cases h : Op.bytesLess x z with
  | false => rfl
  | true =>
    rcases bl_mid x y z h with h | h
    · rw [h] at h1; cases h1
    · rw [h] at h2; cases h2
theorem insR_fal (x : α) : ∀ l : List α, Fal key l → Fal key (insR key x l) := by
  intro l h
  induction l with
  | nil => exact List.pairwise_singleton ..
  | cons y l ih =>
    unfold insR
    unfold Fal at *
    rw [List.pairwise_cons] at h
    cases hxy : Op.bytesLess (key x) (key y) with
    | true =>
      rw [if_pos rfl, List.pairwise_cons]
      refine ⟨fun z hz => ?_, ih h.2⟩
      have := (insR_perm x l).mem_iff.1 hz
      rcases List.mem_cons.1 this with rfl | hz
      · cases hyz : Op.bytesLess (key y) (key z) with
        | false => rfl
        | true =>
          have := bl_trans _ _ _ hxy hyz
          rw [bl_irrefl] at this
          cases this
      · exact h.1 z hz
    | false =>
      rw [if_neg (by simp), List.pairwise_cons]
      refine ⟨fun z hz => ?_, ?_⟩
      · rcases List.mem_cons.1 hz with rfl | hz
        · exact hxy
        · exact bl_nlt_trans hxy (h.1 z hz)
      · rw [List.pairwise_cons]; exact h
theorem isortR_fal : ∀ (l acc : List α), Fal key acc → Fal key (isortR key acc l) := by
  intro l
  induction l with
  | nil => intro acc h; exact h
  | cons x l ih => intro acc h; exact ih _ (insR_fal x acc h)
theorem isort_ris (l : List α) : Ris key (isort key l) := by
  unfold Ris isort
  rw [List.pairwise_reverse]
  exact isortR_fal l [] List.Pairwise.nil
/-- rising lists of the same, each key once, are the same -/
theorem ris_unique : ∀ (l m : List α), Ris key l → Ris key m → l.Perm m → (l.map key).Nodup → l = m := by
  intro l
  induction l with
  | nil => intro m _ _ hp _; exact (List.nil_perm.1 hp).symm
  | cons x l ih =>
    intro m hl hm hp hn
    cases m with
    | nil => exact absurd hp.symm (by intro h; have := List.nil_perm.1 h; cases this)
    | cons y m =>
      unfold Ris at hl hm
      rw [List.pairwise_cons] at hl hm
      have hxy : key x = key y := by
        have hx : x ∈ y :: m := hp.mem_iff.1 (by simp)
        have hy : y ∈ x :: l := hp.mem_iff.2 (by simp)
        rcases List.mem_cons.1 hx with rfl | hx
        · rfl
        rcases List.mem_cons.1 hy with rfl | hy
        · rfl
        exact bl_conn _ _ (hm.1 x hx) (hl.1 y hy)
      have hmem : y ∈ x :: l := hp.mem_iff.2 (by simp)
      have e : y = x := by
        rcases List.mem_cons.1 hmem with h | h
        · exact h
        · rw [List.map_cons, List.nodup_cons] at hn
          exact absurd (hxy ▸ List.mem_map_of_mem h) hn.1
      subst e
      rw [ih m hl.2 hm.2 (List.Perm.cons_inv hp) (by rw [List.map_cons, List.nodup_cons] at hn; exact hn.2)]
theorem isort_of_ris {l : List α} (h : Ris key l) (hn : (l.map key).Nodup) : isort key l = l :=
  ris_unique _ _ (isort_ris l) h (isort_perm l) (by exact ((isort_perm l).map key).nodup_iff.2 hn)
theorem isort_perm_eq {l m : List α} (h : l.Perm m) (hn : (l.map key).Nodup) : isort key l = isort key m :=
  ris_unique _ _ (isort_ris l) (isort_ris m) ((isort_perm l).trans (h.trans (isort_perm m).symm)) (by exact ((isort_perm l).map key).nodup_iff.2 hn)
end
theorem all2_map {α β : Type} {g : α → β} : ∀ {l : List α} {m : List β}, All2 (fun a b => b = g a) l m → m = l.map g := by
  intro l m h
  induction h with
  | nil => rfl
  | cons h _ ih => rw [h, ih]; rfl
theorem all2_of_map {α β : Type} (g : α → β) : ∀ (l : List α), All2 (fun a b => b = g a) l (l.map g) := by
  intro l
  induction l with
  | nil => exact .nil
  | cons a l ih => exact .cons rfl ih
theorem isort_map2 {α β : Type} {key : α → Bs} {key' : β → Bs} (g : α → β) (h : ∀ a, key' (g a) = key a) (l : List α) : isort key' (l.map g) = (isort key l).map g :=
  all2_map (isort_rel (R := fun a b => b = g a) (fun a b hab => by rw [hab, h]) (all2_of_map g l))
theorem perm_of_sub {α : Type} [BEq α] [LawfulBEq α] : ∀ (l m : List α), l.Nodup → l.length = m.length → (∀ x ∈ l, x ∈ m) → l.Perm m := by
  intro l
  induction l with
  | nil => intro m _ h _; rw [List.length_eq_zero_iff.1 h.symm]
  | cons x l ih =>
    intro m hn hl hs
    rw [List.nodup_cons] at hn
    have hx : x ∈ m := hs x (by simp)
    refine List.Perm.trans ?_ (List.perm_cons_erase hx).symm
    refine (ih (m.erase x) hn.2 ?_ ?_).cons x
    · rw [List.length_erase_of_mem hx]; simp at hl; omega
    · intro y hy
      have : y ≠ x := fun e => hn.1 (e ▸ hy)
      exact (List.mem_erase_of_ne this).2 (hs y (by simp [hy]))

/-! ### sorted values -/
theorem sorts_names (f : Nat) (p : List (Bs × J)) : ((isort (fun q : Bs × J => q.1) (p.map fun q => (q.1, pSorts f q.2))).map (·.1)).Perm (p.map (·.1)) := by
  refine ((isort_perm _).map _).trans ?_
  rw [List.map_map]
  exact .refl _
theorem mem_sorts {f : Nat} {p : List (Bs × J)} {q : Bs × J} : q ∈ isort (fun q : Bs × J => q.1) (p.map fun q => (q.1, pSorts f q.2)) ↔ ∃ r ∈ p, (r.1, pSorts f r.2) = q := by
  rw [(isort_perm _).mem_iff, List.mem_map]
/-- a value without rows -/
def Flat (k n : Int) (t : Bs) : Prop :=
  (k = 0 ∧ n = 0 ∧ t = []) ∨ (k = 1 ∧ (n = 0 ∨ n = 1) ∧ t = []) ∨ (k = 2 ∧ -9007199254740991 ≤ n ∧ n ≤ 9007199254740991 ∧ t = []) ∨ (k = 3 ∧ n = 0 ∧ Vl t)
theorem sound_iff (d k n : Int) (t : Bs) (l : List J) (p : List (Bs × J)) : pSound d (.mk k n t l p) = true ↔
    (Flat k n t ∧ l = [] ∧ p = []) ∨ (k = 4 ∧ n = 0 ∧ t = [] ∧ d < 8 ∧ (∀ j ∈ l, pSound (d + 1) j = true) ∧ p = []) ∨
    (k = 5 ∧ n = 0 ∧ t = [] ∧ d < 8 ∧ ((∀ q ∈ p, Vl q.1 ∧ pSound (d + 1) q.2 = true) ∧ (p.map (·.1)).Nodup) ∧ l = []) := by
  conv => lhs; unfold pSound
  unfold Flat
  split
  · subst k; simp
    constructor
    · rintro ⟨h1, h2, h3, h4⟩; exact ⟨⟨h1, h2⟩, h3, h4⟩
    · rintro ⟨⟨h1, h2⟩, h3, h4⟩; exact ⟨h1, h2, h3, h4⟩
  split
  · subst k; simp
    constructor
    · rintro ⟨h1, h2, h3, h4⟩; exact ⟨⟨h1, h2⟩, h3, h4⟩
    · rintro ⟨⟨h1, h2⟩, h3, h4⟩; exact ⟨h1, h2, h3, h4⟩
  split
  · subst k; simp
    constructor
    · rintro ⟨h1, h2, h3, h4, h5⟩; exact ⟨⟨h1, h2, h3⟩, h4, h5⟩
    · rintro ⟨⟨h1, h2, h3⟩, h4, h5⟩; exact ⟨h1, h2, h3, h4, h5⟩
  split
  · subst k; simp [valid_vl]
    constructor
    · rintro ⟨h1, h2, h3, h4⟩; exact ⟨⟨h1, h2⟩, h3, h4⟩
    · rintro ⟨⟨h1, h2⟩, h3, h4⟩; exact ⟨h1, h2, h3, h4⟩
  rename_i h0 h1 h2 h3
  have hF : ¬ ((k = 0 ∧ n = 0 ∧ t = []) ∨ (k = 1 ∧ (n = 0 ∨ n = 1) ∧ t = []) ∨ (k = 2 ∧ -9007199254740991 ≤ n ∧ n ≤ 9007199254740991 ∧ t = []) ∨ (k = 3 ∧ n = 0 ∧ Vl t)) := by
    rintro (h | h | h | h)
    · exact h0 h.1
    · exact h1 h.1
    · exact h2 h.1
    · exact h3 h.1
  split
  · rename_i hno
    constructor
    · intro h; cases h
    · rintro (⟨h, _⟩ | ⟨_, h1, h2, h3, _⟩ | ⟨_, h1, h2, h3, _⟩)
      · exact absurd h hF
      · rcases hno with h | h | h
        · exact absurd h1 h
        · exact absurd h2 h
        · omega
      · rcases hno with h | h | h
        · exact absurd h1 h
        · exact absurd h2 h
        · omega
  rename_i hno
  have hn0 : n = 0 := Classical.byContradiction fun h => hno (.inl h)
  have ht0 : t = [] := Classical.byContradiction fun h => hno (.inr (.inl h))
  have hd8 : d < 8 := by
    rcases Int.lt_or_le d 8 with h | h
    · exact h
    · exact absurd (.inr (.inr h)) hno
  split
  · rename_i h4
    simp only [Bool.and_eq_true, sounds_iff, List.isEmpty_iff]
    constructor
    · rintro ⟨h, hp⟩
      exact .inr (.inl ⟨h4, hn0, ht0, hd8, h, hp⟩)
    · rintro (⟨h, _⟩ | ⟨_, _, _, _, h, hp⟩ | ⟨h, _⟩)
      · exact absurd h hF
      · exact ⟨h, hp⟩
      · omega
  split
  · rename_i h4 h5
    simp only [Bool.and_eq_true, soundp_iff, List.isEmpty_iff]
    constructor
    · rintro ⟨⟨h, h', _⟩, hp⟩
      exact .inr (.inr ⟨h5, hn0, ht0, hd8, ⟨h, h'⟩, hp⟩)
    · rintro (⟨h, _⟩ | ⟨h, _⟩ | ⟨_, _, _, _, ⟨h, h'⟩, hp⟩)
      · exact absurd h hF
      · omega
      · exact ⟨⟨h, h', fun q _ => by simp⟩, hp⟩
  · rename_i h4 h5
    constructor
    · intro h; cases h
    · rintro (⟨h, _⟩ | ⟨h, _⟩ | ⟨h, _⟩)
      · exact absurd h hF
      · exact absurd h h4
      · exact absurd h h5
theorem sorts_sound : ∀ (f : Nat) (d : Int) (j : J), pSound d j = true → pSound d (pSorts f j) = true := by
  intro f
  induction f with
  | zero => intro d j h; exact h
  | succ f ih =>
    intro d j h
    obtain ⟨k, n, t, l, p⟩ := j
    unfold pSorts
    rw [sound_iff] at h ⊢
    rcases h with ⟨h, rfl, rfl⟩ | ⟨h1, h2, h3, h4, h5, rfl⟩ | ⟨h1, h2, h3, h4, h5, rfl⟩
    · exact .inl ⟨h, rfl, rfl⟩
    · refine .inr (.inl ⟨h1, h2, h3, h4, fun j hj => ?_, rfl⟩)
      obtain ⟨x, hx, rfl⟩ := List.mem_map.1 hj
      exact ih _ _ (h5 x hx)
    · refine .inr (.inr ⟨h1, h2, h3, h4, ⟨fun q hq => ?_, (sorts_names f p).nodup_iff.2 h5.2⟩, rfl⟩)
      obtain ⟨r, hr, rfl⟩ := mem_sorts.1 hq
      exact ⟨(h5.1 r hr).1, ih _ _ (h5.1 r hr).2⟩

/-! ### the same values -/
def pGetL (nm : Bs) : List (Bs × J) → Option J
  | [] => none
  | (n, x) :: p => if n = nm then some x else pGetL nm p
/-- the value of a name -/
def pGet (b : J) (nm : Bs) : Option J := if b.kind = 5 then pGetL nm b.pairs else none
mutual
def pSame : J → J → Bool
  | .mk k n t l p, b => (k == b.kind && (n == b.int && (t == b.text && (l.length == b.list.length && p.length == b.pairs.length)))) && (pSamel l b.list && pSamep p b)
def pSamel : List J → List J → Bool
  | [], _ => true
  | _ :: _, [] => true
  | x :: l, y :: m => pSame x y && pSamel l m
def pSamep : List (Bs × J) → J → Bool
  | [], _ => true
  | (nm, x) :: p, b => (match pGet b nm with | some y => pSame x y | none => false) && pSamep p b
end
theorem getL_mem {nm : Bs} {p : List (Bs × J)} (hn : (p.map (·.1)).Nodup) {x : J} : pGetL nm p = some x ↔ (nm, x) ∈ p := by
  induction p with
  | nil => simp [pGetL]
  | cons q p ih =>
    obtain ⟨n, y⟩ := q
    rw [List.map_cons, List.nodup_cons] at hn
    unfold pGetL
    by_cases h : n = nm
    · subst h
      rw [if_pos rfl]
      constructor
      · intro e; cases e; simp
      · intro h
        rcases List.mem_cons.1 h with h | h
        · cases h; rfl
        · exact absurd (List.mem_map_of_mem h) hn.1
    · rw [if_neg h, ih hn.2, List.mem_cons]
      constructor
      · exact .inr
      · rintro (e | h')
        · cases e; exact absurd rfl h
        · exact h'
theorem samep_iff (b : J) : ∀ (p : List (Bs × J)), pSamep p b = true ↔ ∀ q ∈ p, ∃ y, pGet b q.1 = some y ∧ pSame q.2 y = true := by
  intro p
  induction p with
  | nil => simp [pSamep]
  | cons q p ih =>
    obtain ⟨nm, x⟩ := q
    unfold pSamep
    simp only [Bool.and_eq_true, ih, List.mem_cons, forall_eq_or_imp]
    constructor
    · rintro ⟨h1, h2⟩
      refine ⟨?_, h2⟩
      cases hg : pGet b nm with
      | none => rw [hg] at h1; cases h1
      | some y => rw [hg] at h1; exact ⟨y, rfl, h1⟩
    · rintro ⟨⟨y, h1, h1'⟩, h2⟩
      refine ⟨?_, h2⟩
      rw [h1]; exact h1'
theorem samel_iff (f : Nat) (d : Int) (ih : ∀ a b, pSound d a = true → pSound d b = true → (pSame a b = true ↔ pSorts f a = pSorts f b)) : ∀ (l m : List J), (∀ j ∈ l, pSound d j = true) → (∀ j ∈ m, pSound d j = true) →
    ((l.length = m.length ∧ pSamel l m = true) ↔ l.map (pSorts f) = m.map (pSorts f)) := by
  intro l
  induction l with
  | nil =>
    intro m _ _
    cases m with
    | nil => simp [pSamel]
    | cons y m => simp
  | cons x l ihl =>
    intro m h1 h2
    cases m with
    | nil => simp
    | cons y m =>
      have i1 := ihl m (fun j hj => h1 j (by simp [hj])) (fun j hj => h2 j (by simp [hj]))
      have i2 := ih x y (h1 x (by simp)) (h2 y (by simp))
      simp only [pSamel, Bool.and_eq_true, List.map_cons, List.cons.injEq, List.length_cons, ← i1, ← i2]
      constructor
      · rintro ⟨a, b, c⟩; exact ⟨b, by omega, c⟩
      · rintro ⟨b, a, c⟩; exact ⟨by omega, b, c⟩
theorem nodup_of_map {α β : Type} (g : α → β) : ∀ (l : List α), (l.map g).Nodup → l.Nodup := by
  intro l
  induction l with
  | nil => intro _; exact List.nodup_nil
  | cons x l ih =>
    intro h
    rw [List.map_cons, List.nodup_cons] at h
    rw [List.nodup_cons]
    exact ⟨fun hx => h.1 (List.mem_map_of_mem hx), ih h.2⟩
/-- the same values are those that are sorted alike -/
theorem same_iff : ∀ (f : Nat) (d : Int) (a b : J), 8 ≤ d + f → pSound d a = true → pSound d b = true → (pSame a b = true ↔ pSorts f a = pSorts f b) := by
  intro f
  induction f with
  | zero =>
    intro d a b hd ha hb
    obtain ⟨k, n, t, l, p⟩ := a
    obtain ⟨k2, n2, t2, l2, p2⟩ := b
    rw [sound_iff] at ha hb
    have ha' : l = [] ∧ p = [] := by
      rcases ha with ⟨_, h⟩ | ⟨_, _, _, h, _⟩ | ⟨_, _, _, h, _⟩
      · exact h
      · omega
      · omega
    have hb' : l2 = [] ∧ p2 = [] := by
      rcases hb with ⟨_, h⟩ | ⟨_, _, _, h, _⟩ | ⟨_, _, _, h, _⟩
      · exact h
      · omega
      · omega
    obtain ⟨rfl, rfl⟩ := ha'
    obtain ⟨rfl, rfl⟩ := hb'
    unfold pSame pSorts pSamel pSamep
    simp [J.kind, J.int, J.text, J.list, J.pairs]
  | succ f ih =>
    intro d a b hd ha hb
    obtain ⟨k, n, t, l, p⟩ := a
    obtain ⟨k2, n2, t2, l2, p2⟩ := b
    have hil := samel_iff f (d + 1) (fun a b => ih (d + 1) a b (by omega)) l l2
    unfold pSame pSorts
    simp only [Bool.and_eq_true, beq_iff_eq, J.kind, J.int, J.text, J.list, J.pairs, J.mk.injEq, samep_iff]
    rw [sound_iff] at ha hb
    constructor
    · rintro ⟨⟨rfl, rfl, rfl, hl, hp⟩, h1, h2⟩
      rcases ha with ⟨ha, rfl, rfl⟩ | ⟨ha1, ha2, ha3, ha4, ha5, rfl⟩ | ⟨ha1, ha2, ha3, ha4, ha5, rfl⟩
      · have e1 : l2 = [] := List.length_eq_zero_iff.1 hl.symm
        have e2 : p2 = [] := List.length_eq_zero_iff.1 hp.symm
        subst e1 e2
        exact ⟨rfl, rfl, rfl, rfl, rfl⟩
      · rcases hb with ⟨hb, _⟩ | ⟨hb1, hb2, hb3, hb4, hb5, rfl⟩ | ⟨hb1, _⟩
        · unfold Flat at hb; omega
        · exact ⟨rfl, rfl, rfl, (hil ha5 hb5).1 ⟨hl, h1⟩, rfl⟩
        · omega
      · rcases hb with ⟨hb, _⟩ | ⟨hb1, _⟩ | ⟨hb1, hb2, hb3, hb4, hb5, rfl⟩
        · unfold Flat at hb; omega
        · omega
        · refine ⟨rfl, rfl, rfl, rfl, isort_perm_eq ?_ (by rw [List.map_map]; exact ha5.2)⟩
          haveI : DecidableEq (Bs × J) := fun a b => Classical.propDecidable _
          refine perm_of_sub _ _ ?_ (by simp [hp]) ?_
          · have : ((p.map fun q => (q.1, pSorts f q.2)).map (·.1)).Nodup := by rw [List.map_map]; exact ha5.2
            exact nodup_of_map _ _ this
          · intro x hx
            obtain ⟨q, hq, rfl⟩ := List.mem_map.1 hx
            obtain ⟨y, hy, hs⟩ := h2 q hq
            unfold pGet at hy
            rw [if_pos (by exact hb1)] at hy
            have hm := (getL_mem hb5.2).1 hy
            refine List.mem_map.2 ⟨_, hm, ?_⟩
            simp only [Prod.mk.injEq, true_and]
            exact ((ih (d + 1) q.2 y (by omega) (ha5.1 q hq).2 (hb5.1 _ hm).2).1 hs).symm
    · rintro ⟨rfl, rfl, rfl, hl, hp⟩
      have hpl : p.length = p2.length := by
        have := congrArg List.length hp
        simpa [isort_length] using this
      rcases ha with ⟨ha, rfl, rfl⟩ | ⟨ha1, ha2, ha3, ha4, ha5, rfl⟩ | ⟨ha1, ha2, ha3, ha4, ha5, rfl⟩
      · have e1 : l2 = [] := by
          have := congrArg List.length hl
          exact List.length_eq_zero_iff.1 (by simpa using this.symm)
        have e2 : p2 = [] := List.length_eq_zero_iff.1 hpl.symm
        subst e1 e2
        exact ⟨⟨rfl, rfl, rfl, rfl, rfl⟩, by simp [pSamel], by simp⟩
      · rcases hb with ⟨hb, _⟩ | ⟨hb1, hb2, hb3, hb4, hb5, rfl⟩ | ⟨hb1, _⟩
        · unfold Flat at hb; omega
        · have := (hil ha5 hb5).2 hl
          exact ⟨⟨rfl, rfl, rfl, this.1, rfl⟩, this.2, by simp⟩
        · omega
      · rcases hb with ⟨hb, _⟩ | ⟨hb1, _⟩ | ⟨hb1, hb2, hb3, hb4, hb5, rfl⟩
        · unfold Flat at hb; omega
        · omega
        · refine ⟨⟨rfl, rfl, rfl, rfl, hpl⟩, by simp [pSamel], ?_⟩
          intro q hq
          have h1 : (q.1, pSorts f q.2) ∈ isort (fun q : Bs × J => q.1) (p.map fun q => (q.1, pSorts f q.2)) := mem_sorts.2 ⟨q, hq, rfl⟩
          rw [hp] at h1
          obtain ⟨r, hr, e⟩ := mem_sorts.1 h1
          simp only [Prod.mk.injEq] at e
          refine ⟨r.2, ?_, ?_⟩
          · unfold pGet
            rw [if_pos (by exact hb1)]
            refine (getL_mem hb5.2).2 ?_
            rw [← e.1]; exact hr
          · exact (ih (d + 1) q.2 r.2 (by omega) (ha5.1 q hq).2 (hb5.1 r hr).2).2 e.2.symm
/-- sorted twice is sorted once -/
theorem sorts_idem : ∀ (f : Nat) (d : Int) (j : J), pSound d j = true → pSorts f (pSorts f j) = pSorts f j := by
  intro f
  induction f with
  | zero => intro d j _; rfl
  | succ f ih =>
    intro d j h
    obtain ⟨k, n, t, l, p⟩ := j
    rw [sound_iff] at h
    have hl : ∀ x ∈ l, pSorts f (pSorts f x) = pSorts f x := by
      rcases h with ⟨_, rfl, rfl⟩ | ⟨_, _, _, _, h5, rfl⟩ | ⟨_, _, _, _, _, rfl⟩
      · simp
      · exact fun x hx => ih _ _ (h5 x hx)
      · simp
    have hp : (∀ q ∈ p, pSorts f (pSorts f q.2) = pSorts f q.2) ∧ (p.map (·.1)).Nodup := by
      rcases h with ⟨_, rfl, rfl⟩ | ⟨_, _, _, _, h5, rfl⟩ | ⟨_, _, _, _, h5, rfl⟩
      · simp
      · simp
      · exact ⟨fun q hq => ih _ _ (h5.1 q hq).2, h5.2⟩
    simp only [pSorts, List.map_map, J.mk.injEq, true_and]
    constructor
    · exact List.map_congr_left hl
    · have e : (isort (fun q : Bs × J => q.1) (p.map fun q => (q.1, pSorts f q.2))).map (fun q => (q.1, pSorts f q.2)) = isort (fun q : Bs × J => q.1) (p.map fun q => (q.1, pSorts f q.2)) := by
        conv => rhs; rw [← List.map_id (isort _ _)]
        refine List.map_congr_left fun q hq => ?_
        obtain ⟨r, hr, rfl⟩ := mem_sorts.1 hq
        simp [hp.1 r hr]
      rw [e]
      exact isort_of_ris (isort_ris _) ((sorts_names f p).nodup_iff.2 hp.2)
/-- unlike values, unlike texts -/
theorem text_iff {a b : J} (ha : pSound 0 a = true) (hb : pSound 0 b = true) : pSame a b = true ↔ pText a = pText b := by
  rw [same_iff 8 0 a b (by omega) ha hb]
  unfold pText
  constructor
  · intro h; rw [h]
  · intro h
    have h1 := parse_write _ (sorts_sound 8 0 a ha)
    have h2 := parse_write _ (sorts_sound 8 0 b hb)
    rw [h, h2] at h1
    exact (Option.some.inj h1).symm
theorem parse_text {j : J} (h : pSound 0 j = true) : sParse (pText j) = some (pSorts 8 j) := parse_write _ (sorts_sound 8 0 j h)
theorem text_sorts {j : J} (h : pSound 0 j = true) : pText (pSorts 8 j) = pText j := by unfold pText; rw [sorts_idem 8 0 j h]
theorem same_sorts {j : J} (h : pSound 0 j = true) : pSame j (pSorts 8 j) = true := (text_iff h (sorts_sound 8 0 j h)).2 (text_sorts h).symm
end Go.Proofs.YtbfmpbhikipipaaGreatDoor
namespace Go.Proofs.YtbfmpbhikipipaaGreatDoor
set_option linter.unusedVariables false
set_option linter.unusedSimpArgs false
set_option linter.unusedSectionVars false

theorem quote_len (s : Bs) : (pQuote s).length ≤ 6 * s.length + 2 := by
  have h : (pEscs s).length ≤ 6 * s.length := by
    induction s with
    | nil => simp [pEscs]
    | cons c s ih =>
      rw [pEscs, List.length_append, List.length_cons]
      have : (if pEsc c = [] then [c] else pEsc c).length ≤ 6 := by
        split
        · simp
        · unfold pEsc
          repeat' split
          all_goals simp
      omega
  unfold pQuote
  simp; omega
theorem dec_len' : ∀ (f u : Nat), u < 10 ^ f → 1 ≤ f → (Lib.decDigits u).length ≤ f := by
  intro f
  induction f with
  | zero => intro u _ h; omega
  | succ f ih =>
    intro u h _
    by_cases hu : u < 10
    · rw [Lib.decDigits, dif_pos hu]; simp
    · rw [Lib.decDigits, dif_neg hu, List.length_append]
      have h1 : 1 ≤ f := by
        rcases Nat.eq_zero_or_pos f with rfl | h'
        · simp at h; omega
        · exact h'
      have := ih (u / 10) (by rw [Nat.pow_succ] at h; omega) h1
      simp; omega
theorem itoa_len (n : Int) (h1 : -9223372036854775808 ≤ n) (h2 : n ≤ 9223372036854775807) : (Lib.itoa n).length ≤ 20 := by
  unfold Lib.itoa
  split
  · have := dec_len' 19 n.natAbs (by omega) (by omega)
    simp; omega
  · have := dec_len' 19 n.toNat (by omega) (by omega)
    omega
mutual
theorem write_light : ∀ (j : J) (last : Int), ints j = true → pLong j = false → pMany j last ≤ last → ((pWrite j).length : Int) ≤ 60100 * pMany j last - 30050
  | .mk k n t l p, last, hi, hl, hm => by
    have h0 := many_bounds (.mk k n t l p) last
    unfold pMany at hm h0 ⊢
    unfold pLong at hl
    unfold ints at hi
    simp only [Bool.or_eq_false_iff, decide_eq_false_iff_not, Bool.and_eq_true, decide_eq_true_eq] at hl hi
    have b1 := manyl_bounds l 1 last
    have b2 := manyp_bounds p (pManyl 1 l last) last
    have b3 : pManyl 1 l last ≤ last := by omega
    have f1 := writes_light l 91 1 last hi.2.1 hl.2.1 b3
    have f2 := writep_light p 123 (pManyl 1 l last) last hi.2.2 hl.2.2 hm
    have q := quote_len t
    have i := itoa_len n hi.1.1 hi.1.2
    unfold pWrite
    split
    · simp; omega
    split
    · have hb : ∀ b, (Lib.formatBool b).length ≤ 5 := by intro b; cases b <;> decide
      have := hb (n == 1)
      omega
    split
    · omega
    split
    · omega
    split
    · rw [List.length_append]
      split <;> (simp; omega)
    split
    · rw [List.length_append]
      split <;> (simp; omega)
    · simp; omega
theorem writes_light : ∀ (l : List J) (c : UInt8) (n last : Int), intsl l = true → pLongl l = false → pManyl n l last ≤ last → ((pWrites c l).length : Int) + 60100 * n ≤ 60100 * pManyl n l last
  | [], c, n, last, hi, hl, hm => by unfold pManyl pWrites; simp
  | j :: js, c, n, last, hi, hl, hm => by
    unfold pManyl at hm ⊢
    unfold pLongl at hl
    unfold intsl at hi
    simp only [Bool.or_eq_false_iff, Bool.and_eq_true] at hl hi
    split at hm
    · rename_i hn
      rw [if_pos hn]
      have b0 := many_bounds j (last - n)
      have b1 := manyl_bounds js (n + pMany j (last - n)) last
      have f1 := writes_light js 44 (n + pMany j (last - n)) last hi.2 hl.2 hm
      have f2 := write_light j (last - n) hi.1 hl.1 (by omega)
      unfold pWrites
      simp only [List.length_cons, List.length_append, List.cons_append]
      omega
    · omega
theorem writep_light : ∀ (l : List (Bs × J)) (c : UInt8) (n last : Int), intsp l = true → pLongp l = false → pManyp n l last ≤ last → ((pWritep c l).length : Int) + 60100 * n ≤ 60100 * pManyp n l last
  | [], c, n, last, hi, hl, hm => by unfold pManyp pWritep; simp
  | (nm, j) :: js, c, n, last, hi, hl, hm => by
    unfold pManyp at hm ⊢
    unfold pLongp at hl
    unfold intsp at hi
    simp only [Bool.or_eq_false_iff, Bool.and_eq_true, decide_eq_false_iff_not] at hl hi
    split at hm
    · rename_i hn
      rw [if_pos hn]
      have b0 := many_bounds j (last - n)
      have b1 := manyp_bounds js (n + pMany j (last - n)) last
      have f1 := writep_light js 44 (n + pMany j (last - n)) last hi.2 hl.2 hm
      have f2 := write_light j (last - n) hi.1 hl.1.2 (by omega)
      have q := quote_len nm
      unfold pWritep
      simp only [List.length_cons, List.length_append, List.cons_append, List.length_nil]
      omega
    · omega
end
theorem writes_map (g : J → J) : ∀ (l : List J) (c : UInt8), (∀ x ∈ l, (pWrite (g x)).length = (pWrite x).length) → (pWrites c (l.map g)).length = (pWrites c l).length := by
  intro l
  induction l with
  | nil => intro c _; rfl
  | cons x l ih =>
    intro c h
    simp only [List.map_cons, pWrites, List.cons_append, List.length_cons, List.length_append, h x (by simp), ih 44 (fun y hy => h y (by simp [hy]))]
theorem writep_map (g : J → J) : ∀ (l : List (Bs × J)) (c : UInt8), (∀ x ∈ l, (pWrite (g x.2)).length = (pWrite x.2).length) → (pWritep c (l.map fun q => (q.1, g q.2))).length = (pWritep c l).length := by
  intro l
  induction l with
  | nil => intro c _; rfl
  | cons x l ih =>
    obtain ⟨nm, j⟩ := x
    intro c h
    have h1 := h (nm, j) (by simp)
    simp only at h1
    simp only [List.map_cons, pWritep, List.cons_append, List.length_cons, List.length_append, h1, ih 44 (fun y hy => h y (by simp [hy]))]
theorem writep_perm {l m : List (Bs × J)} (h : l.Perm m) : ∀ (c c' : UInt8), (pWritep c l).length = (pWritep c' m).length := by
  induction h with
  | nil => intro c c'; rfl
  | cons x _ ih => obtain ⟨nm, j⟩ := x; intro c c'; simp [pWritep, ih 44 44]
  | swap x y l => obtain ⟨nm, j⟩ := x; obtain ⟨nm2, j2⟩ := y; intro c c'; simp [pWritep]; omega
  | trans _ _ h1 h2 => intro c c'; rw [h1 c 44, h2 44 c']
theorem sorts_len : ∀ (f : Nat) (j : J), (pWrite (pSorts f j)).length = (pWrite j).length := by
  intro f
  induction f with
  | zero => intro j; rfl
  | succ f ih =>
    intro j
    obtain ⟨k, n, t, l, p⟩ := j
    have e : pSorts (f + 1) (.mk k n t l p) = .mk k n t (l.map (pSorts f)) (isort (fun q : Bs × J => q.1) (p.map fun q => (q.1, pSorts f q.2))) := rfl
    rw [e]
    have h1 := fun c => writes_map (pSorts f) l c (fun x _ => ih x)
    have h2 := fun c => (writep_perm (isort_perm (key := fun q : Bs × J => q.1) (p.map fun q => (q.1, pSorts f q.2))) c c).trans (writep_map (pSorts f) p c (fun x _ => ih x.2))
    have h3 : (l.map (pSorts f)).isEmpty = l.isEmpty := by cases l <;> rfl
    have h4 : (isort (fun q : Bs × J => q.1) (p.map fun q => (q.1, pSorts f q.2))).isEmpty = p.isEmpty := by
      have := isort_length (fun q : Bs × J => q.1) (p.map fun q => (q.1, pSorts f q.2))
      rw [List.length_map] at this
      cases p with
      | nil => rfl
      | cons x p =>
        rw [List.isEmpty_cons]
        cases hh : isort (fun q : Bs × J => q.1) ((x :: p).map fun q => (q.1, pSorts f q.2)) with
        | nil => rw [hh] at this; simp at this
        | cons y m => rfl
    unfold pWrite
    simp only [h3, h4]
    split
    · rfl
    split
    · rfl
    split
    · rfl
    split
    · rfl
    split
    · rw [List.length_append, List.length_append]; split
      · rfl
      · rw [h1]
    split
    · rw [List.length_append, List.length_append]; split
      · rfl
      · rw [h2]
    · rfl
/-- the text of what is not heavy is short -/
theorem text_light (j : J) (hi : ints j = true) (h : pHeavy j = false) : (pText j).length ≤ 12020000 := by
  unfold pHeavy at h
  rw [Bool.or_eq_false_iff, decide_eq_false_iff_not] at h
  have := write_light j 200 hi h.2 (by omega)
  unfold pText
  rw [sorts_len]
  omega
end Go.Proofs.YtbfmpbhikipipaaGreatDoor
