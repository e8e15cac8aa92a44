/-
 Signs in UTF-8, as plain data.
-/
import Derived.Test.YtcddlemkimbkcaaGreatDoorKSpecSound
namespace Go.Proofs.YtcddlemkimbkcaaGreatDoor
set_option linter.unusedVariables false
set_option linter.unusedSimpArgs false
set_option linter.unusedSectionVars false

/-- a sign's number -/
def Sc (c : Int) : Prop := (0 ≤ c ∧ c < 55296) ∨ (57344 ≤ c ∧ c ≤ 1114111)
/-- a text of signs -/
inductive Vl : Bs → Prop
 | nil : Vl []
 | cons (c : Int) (hc : Sc c) (l : Bs) (h : Vl l) : Vl (Lib.encodeRune c ++ l)

theorem get!_list (l : Bs) (k : Nat) : (ByteArray.mk l.toArray).get! k = l.getD k 0 := by
 simp only [ByteArray.get!]
 show l.toArray[k]! = _
 rw [List.getElem!_toArray]
 simp [List.getD, getElem!_def]
 rfl
theorem dec_list (l : Bs) (h : l ≠ []) : Lib.decodeGo ⟨l.toArray⟩ = Lib.decodeN l.length (l.getD 0 0).toNat (l.getD 1 0).toNat (l.getD 2 0).toNat (l.getD 3 0).toNat := by
 unfold Lib.decodeGo
 rw [if_neg (by show ¬ l.length = 0; simpa using h), Lib.decode_at]
 simp only [get!_list]
 rfl
theorem u8_int (x : Int) (h0 : 0 ≤ x) (h1 : x < 256) : (x.toNat.toUInt8).toNat = x.toNat := by
 simp; omega
theorem enc_one {c : Int} (h0 : 0 ≤ c) (h1 : c ≤ 127) : Lib.encodeRune c = [c.toNat.toUInt8] := by unfold Lib.encodeRune; rw [Lib.encodeRuneZ_one h0 h1]; rfl
theorem enc_two {c : Int} (h0 : 128 ≤ c) (h1 : c ≤ 2047) : Lib.encodeRune c = [(192 + c / 64).toNat.toUInt8, (128 + c % 64).toNat.toUInt8] := by unfold Lib.encodeRune; rw [Lib.encodeRuneZ_two h0 h1]; rfl
theorem enc_three {c : Int} (h : (2048 ≤ c ∧ c < 55296) ∨ (57343 < c ∧ c ≤ 65535)) : Lib.encodeRune c = [(224 + c / 4096).toNat.toUInt8, (128 + c / 64 % 64).toNat.toUInt8, (128 + c % 64).toNat.toUInt8] := by unfold Lib.encodeRune; rw [Lib.encodeRuneZ_three h]; rfl
theorem enc_four {c : Int} (h0 : 65536 ≤ c) (h1 : c ≤ 1114111) : Lib.encodeRune c = [(240 + c / 262144).toNat.toUInt8, (128 + c / 4096 % 64).toNat.toUInt8, (128 + c / 64 % 64).toNat.toUInt8, (128 + c % 64).toNat.toUInt8] := by unfold Lib.encodeRune; rw [Lib.encodeRuneZ_four h0 h1]; rfl
theorem sc_cases {c : Int} (h : Sc c) : (0 ≤ c ∧ c ≤ 127) ∨ (128 ≤ c ∧ c ≤ 2047) ∨ ((2048 ≤ c ∧ c < 55296) ∨ (57343 < c ∧ c ≤ 65535)) ∨ (65536 ≤ c ∧ c ≤ 1114111) := by
 unfold Sc at h; omega
theorem enc_pos (c : Int) : 1 ≤ (Lib.encodeRune c).length := by
 unfold Lib.encodeRune; rw [List.length_map]; exact (Lib.encodeRuneZ_length c).1
set_option maxRecDepth 4000 in
/-- a sign is read back -/
theorem dec_enc {c : Int} (h : Sc c) (r : Bs) : Lib.decodeGo ⟨(Lib.encodeRune c ++ r).toArray⟩ = (c.toNat, (Lib.encodeRune c).length) := by
 have hne : Lib.encodeRune c ++ r ≠ [] := by
  have := enc_pos c
  intro e
  have := congrArg List.length e
  simp at this
  simp [this] at *
 rw [dec_list _ hne]
 rcases sc_cases h with h | h | h | h
 ·rw [enc_one h.1 h.2]
  simp only [List.cons_append, List.nil_append, List.getD_cons_zero, u8_int c h.1 (by omega)]
  unfold Lib.decodeN
  rw [if_pos (by omega)]
  rfl
 ·rw [enc_two h.1 h.2]
  simp only [List.cons_append, List.nil_append, List.getD_cons_zero, List.getD_cons_succ, List.length_cons, u8_int (192 + c / 64) (by omega) (by omega), u8_int (128 + c % 64) (by omega) (by omega)]
  unfold Lib.decodeN
  rw [if_neg (by omega), if_pos (by omega), if_pos (by omega)]
  apply Prod.ext
  ·simp only; omega
  ·rfl
 ·rw [enc_three h]
  simp only [List.cons_append, List.nil_append, List.getD_cons_zero, List.getD_cons_succ, List.length_cons, u8_int (224 + c / 4096) (by omega) (by omega), u8_int (128 + c / 64 % 64) (by omega) (by omega), u8_int (128 + c % 64) (by omega) (by omega)]
  unfold Lib.decodeN
  rw [if_neg (by omega), if_neg (by omega), if_pos (by omega), if_pos (by omega)]
  apply Prod.ext
  ·simp only; omega
  ·rfl
 ·rw [enc_four h.1 h.2]
  simp only [List.cons_append, List.nil_append, List.getD_cons_zero, List.getD_cons_succ, List.length_cons, u8_int (240 + c / 262144) (by omega) (by omega), u8_int (128 + c / 4096 % 64) (by omega) (by omega), u8_int (128 + c / 64 % 64) (by omega) (by omega), u8_int (128 + c % 64) (by omega) (by omega)]
  unfold Lib.decodeN
  rw [if_neg (by omega), if_neg (by omega), if_neg (by omega), if_pos (by omega), if_pos (by omega)]
  apply Prod.ext
  ·simp only; omega
  ·rfl

theorem take_more (l : Bs) (k : Nat) (h : k ≤ l.length) (hk : k = 1 ∨ k = 2 ∨ k = 3 ∨ k = 4) :
 (k = 1 → ∃ a t, l = a :: t) ∧ (k = 2 → ∃ a b t, l = a :: b :: t) ∧ (k = 3 → ∃ a b c t, l = a :: b :: c :: t) ∧ (k = 4 → ∃ a b c d t, l = a :: b :: c :: d :: t) := by
 rcases l with _ | ⟨a, _ | ⟨b, _ | ⟨c, _ | ⟨d, t⟩⟩⟩⟩ <;> simp at h ⊢ <;> omega
theorem u8_eq {x : UInt8} {n : Nat} (h : x.toNat = n) : x = n.toUInt8 := by
 apply UInt8.toNat_inj.1
 rw [h]
 have := UInt8.toNat_lt x
 simp; omega
set_option maxRecDepth 4000 in
/-- what is read without fault is a sign that stands there -/
theorem dec_inv {s : Bs} (hs : s ≠ []) {c k : Nat} (hd : Lib.decodeGo ⟨s.toArray⟩ = (c, k)) (hn : ¬ (c = 65533 ∧ k = 1)) : Sc c ∧ s = Lib.encodeRune c ++ s.drop k ∧ k = (Lib.encodeRune c).length := by
 rw [dec_list _ hs] at hd
 unfold Lib.decodeN at hd
 have hlen : 1 ≤ s.length := by
  rcases s with _ | ⟨a, t⟩
  ·exact absurd rfl hs
  ·simp
 split at hd
 ·rename_i h0
  obtain ⟨rfl, rfl⟩ := Prod.mk.injEq .. ▸ hd
  obtain ⟨a, t, rfl⟩ := (take_more s 1 hlen (by omega)).1 rfl
  simp only [List.getD_cons_zero] at h0 ⊢
  rw [enc_one (by omega) (by omega)]
  refine ⟨by unfold Sc; omega, ?_, rfl⟩
  simp
 ·split at hd
  ·rename_i h0 h1
   split at hd
   ·rename_i h2
    obtain ⟨rfl, rfl⟩ := Prod.mk.injEq .. ▸ hd
    obtain ⟨a, b, t, rfl⟩ := (take_more s 2 (by omega) (by omega)).2.1 rfl
    simp only [List.getD_cons_zero, List.getD_cons_succ] at h0 h1 h2 ⊢
    have ha := UInt8.toNat_lt a
    have hb := UInt8.toNat_lt b
    rw [enc_two (by omega) (by omega)]
    refine ⟨by unfold Sc; omega, ?_, rfl⟩
    simp only [List.drop_succ_cons, List.drop_zero, List.cons_append, List.nil_append]
    congr 1
    ·exact u8_eq (by omega)
    ·congr 1
     exact u8_eq (by omega)
   ·simp only [Prod.mk.injEq] at hd; omega
  ·split at hd
   ·rename_i h0 h1 h2
    split at hd
    ·rename_i h3
     obtain ⟨rfl, rfl⟩ := Prod.mk.injEq .. ▸ hd
     obtain ⟨a, b, d, t, rfl⟩ := (take_more s 3 (by omega) (by omega)).2.2.1 rfl
     simp only [List.getD_cons_zero, List.getD_cons_succ] at h0 h1 h2 h3 ⊢
     have ha := UInt8.toNat_lt a
     have hb := UInt8.toNat_lt b
     have hdl := UInt8.toNat_lt d
     rw [enc_three (by omega)]
     refine ⟨by unfold Sc; omega, ?_, rfl⟩
     simp only [List.drop_succ_cons, List.drop_zero, List.cons_append, List.nil_append]
     congr 1
     ·exact u8_eq (by omega)
     ·congr 1
      ·exact u8_eq (by omega)
      ·congr 1
       exact u8_eq (by omega)
    ·simp only [Prod.mk.injEq] at hd; omega
   ·split at hd
    ·rename_i h0 h1 h2 h3
     split at hd
     ·rename_i h4
      obtain ⟨rfl, rfl⟩ := Prod.mk.injEq .. ▸ hd
      obtain ⟨a, b, d, e, t, rfl⟩ := (take_more s 4 (by omega) (by omega)).2.2.2 rfl
      simp only [List.getD_cons_zero, List.getD_cons_succ] at h0 h1 h2 h3 h4 ⊢
      have ha := UInt8.toNat_lt a
      have hb := UInt8.toNat_lt b
      have hdl := UInt8.toNat_lt d
      have hel := UInt8.toNat_lt e
      rw [enc_four (by omega) (by omega)]
      refine ⟨by unfold Sc; omega, ?_, rfl⟩
      simp only [List.drop_succ_cons, List.drop_zero, List.cons_append, List.nil_append]
      congr 1
      ·exact u8_eq (by omega)
      ·congr 1
       ·exact u8_eq (by omega)
       ·congr 1
        ·exact u8_eq (by omega)
        ·congr 1
         exact u8_eq (by omega)
     ·simp only [Prod.mk.injEq] at hd; omega
    ·simp only [Prod.mk.injEq] at hd; omega

theorem decL (l : Bs) (h : l ≠ []) : Lib.decodeL l = Lib.decodeGo ⟨l.toArray⟩ := by
 unfold Lib.decodeGo
 rw [if_neg (by show ¬ l.length = 0; simpa using h)]
 rfl
theorem validGo_vl : ∀ (n : Nat) (l : Bs), l.length ≤ n → (Lib.validGoD n l = true ↔ Vl l) := by
 intro n
 induction n with
 | zero =>
   intro l h
   have : l = [] := List.length_eq_zero_iff.1 (by omega)
   subst this
   exact ⟨fun _ => .nil, fun _ => rfl⟩
 | succ n ih =>
   intro l h
   unfold Lib.validGoD
   by_cases hl : l = []
   ·subst hl
    exact ⟨fun _ => .nil, fun _ => by simp⟩
   ·rw [if_neg hl, decL l hl]
    constructor
    ·intro hv
     split at hv
     ·cases hv
     ·rename_i hb
      obtain ⟨hc, hs, hk⟩ := dec_inv hl (c := (Lib.decodeGo ⟨l.toArray⟩).1) (k := (Lib.decodeGo ⟨l.toArray⟩).2) rfl hb
      have hp := enc_pos ((Lib.decodeGo ⟨l.toArray⟩).1 : Int)
      have := (ih (l.drop (Lib.decodeGo ⟨l.toArray⟩).2) (by rw [List.length_drop]; omega)).1 hv
      rw [hs]
      exact .cons _ hc _ this
    ·intro hv
     cases hv with
     | nil => exact absurd rfl hl
     | cons c hc r hr =>
       rw [dec_enc hc]
       have hp := enc_pos c
       rw [if_neg, List.drop_left]
       ·exact (ih r (by simp at h; omega)).2 hr
       ·simp only
        rintro ⟨h1, h2⟩
        have : c = 65533 := by unfold Sc at hc; omega
        subst this
        revert h2
        decide
theorem valid_vl (l : Bs) : Lib.validD l = true ↔ Vl l := validGo_vl _ l (Nat.le_refl _)
theorem Vl.append {a b : Bs} (ha : Vl a) (hb : Vl b) : Vl (a ++ b) := by
 induction ha with
 | nil => exact hb
 | cons c hc l _ ih => rw [List.append_assoc]; exact .cons c hc _ ih
theorem Vl.rune (r : Int) : Vl (Lib.encodeRune r) := by
 by_cases h : Sc r
 ·have := Vl.cons r h [] .nil
  rwa [List.append_nil] at this
 ·have : Lib.encodeRune r = Lib.encodeRune 65533 := by
   unfold Lib.encodeRune
   rw [Lib.encodeRuneZ_bad (by unfold Sc at h; omega)]
   rfl
  rw [this]
  have := Vl.cons 65533 (by unfold Sc; omega) [] .nil
  rwa [List.append_nil] at this

/-! ### the reference's signs -/
/-- the sign that bytes begin with, and how many bytes it has; 0 of these: there is none -/
def dFirst (s : Bs) : Int × Nat :=
 if s = [] then (0, 0) else if (Lib.decodeGo ⟨s.toArray⟩).1 = 65533 ∧ (Lib.decodeGo ⟨s.toArray⟩).2 = 1 then (0, 0) else (((Lib.decodeGo ⟨s.toArray⟩).1 : Int), (Lib.decodeGo ⟨s.toArray⟩).2)
theorem dFirst_enc {c : Int} (h : Sc c) (r : Bs) : dFirst (Lib.encodeRune c ++ r) = (c, (Lib.encodeRune c).length) := by
 have hp := enc_pos c
 unfold dFirst
 rw [if_neg (by intro e; have := congrArg List.length e; simp at this; rw [this.1] at hp; simp at hp), dec_enc h, if_neg]
 ·simp only [Prod.mk.injEq, and_true]
  unfold Sc at h; omega
 ·rintro ⟨h1, h2⟩
  have : c = 65533 := by unfold Sc at h; simp only at h1; omega
  subst this
  revert h2; decide
theorem dFirst_inv {s : Bs} {c : Int} {k : Nat} (h : dFirst s = (c, k)) (hk : k ≠ 0) : Sc c ∧ s = Lib.encodeRune c ++ s.drop k ∧ k = (Lib.encodeRune c).length := by
 unfold dFirst at h
 split at h
 ·simp only [Prod.mk.injEq] at h; omega
 ·rename_i hs
  split at h
  ·simp only [Prod.mk.injEq] at h; omega
  ·rename_i hb
   obtain ⟨rfl, rfl⟩ := Prod.mk.injEq .. ▸ h
   exact dec_inv hs rfl hb
theorem dFirst_none {s : Bs} (h : ∀ c r, Sc c → s ≠ Lib.encodeRune c ++ r) : dFirst s = (0, 0) := by
 unfold dFirst
 split
 ·rfl
 ·rename_i hs
  split
  ·rfl
  ·rename_i hb
   obtain ⟨h1, h2, _⟩ := dec_inv hs (c := (Lib.decodeGo ⟨s.toArray⟩).1) (k := (Lib.decodeGo ⟨s.toArray⟩).2) rfl hb
   exact absurd h2 (h _ _ h1)
theorem dFirst_bytes {s : Bs} {c : Int} {k : Nat} (h : dFirst s = (c, k)) : k ≤ 4 ∧ k ≤ s.length ∧ 0 ≤ c ∧ c ≤ 1114111 ∧ (k = 0 → c = 0) := by
 by_cases hk : k = 0
 ·subst hk
  have : c = 0 := by
   unfold dFirst at h
   split at h
   ·cases h; rfl
   ·rename_i hs
    split at h
    ·cases h; rfl
    ·simp only [Prod.mk.injEq] at h
     have := (dec_facts s).2.2.2 hs
     omega
  subst this
  exact ⟨by omega, by omega, by omega, by omega, fun _ => rfl⟩
 ·obtain ⟨h1, h2, h3⟩ := dFirst_inv h hk
  have := encode_len c
  refine ⟨by omega, ?_, by unfold Sc at h1; omega, by unfold Sc at h1; omega, fun e => absurd e hk⟩
  rw [h2, List.length_append]; omega
/-- the bytes that go on -/
def rCont : Int → Bs → Option Int
 | c, [] => some c
 | c, x :: l => if x.toNat < 128 ∨ 191 < x.toNat then none else rCont (64 * c + x.toNat - 128) l
/-- a first byte's part, and how many bytes it says -/
def rLead (b : Nat) : Int × Nat := if b < 192 then (b, 1) else if b < 224 then (b - 192, 2) else if b < 240 then (b - 224, 3) else (b - 240, 4)
def rOut (c : Int) : Prop := 1114111 < c ∨ (55296 ≤ c ∧ c ≤ 57343)
instance (c : Int) : Decidable (rOut c) := by unfold rOut; exact inferInstance
def rFirst (s : Bs) : Int × Nat :=
 match s with
 | [] => (0, 0)
 | b :: t =>
   if ((rLead b.toNat).2 = 1 ∧ 128 ≤ b.toNat) ∨ t.length + 1 < (rLead b.toNat).2 then (0, 0)
   else match rCont (rLead b.toNat).1 (t.take ((rLead b.toNat).2 - 1)) with
    | none => (0, 0)
    | some c => if rOut c ∨ Lib.encodeRune c ≠ (b :: t).take (rLead b.toNat).2 then (0, 0) else (c, (rLead b.toNat).2)
theorem rCont_nonneg : ∀ (l : Bs) (c c' : Int), 0 ≤ c → rCont c l = some c' → 0 ≤ c' := by
 intro l
 induction l with
 | nil => intro c c' h e; unfold rCont at e; cases e; exact h
 | cons x l ih =>
   intro c c' h e
   unfold rCont at e
   split at e
   ·cases e
   ·exact ih _ _ (by omega) e
theorem rLead_nonneg (b : Nat) : 0 ≤ (rLead b).1 := by
 unfold rLead
 repeat' split
 all_goals (simp only; omega)
theorem rFirst_eq (s : Bs) : rFirst s = dFirst s := by
 by_cases hex : ∃ c r, Sc c ∧ s = Lib.encodeRune c ++ r
 ·obtain ⟨c, r, hc, rfl⟩ := hex
  rw [dFirst_enc hc]
  rcases sc_cases hc with h | h | h | h
  ·rw [enc_one h.1 h.2]
   unfold rFirst
   simp only [List.cons_append, List.nil_append]
   rw [u8_int c h.1 (by omega)]
   have e : rLead c.toNat = (c, 1) := by unfold rLead; rw [if_pos (by omega)]; congr 1; omega
   rw [e]
   simp only [List.length_cons, Nat.sub_self, List.take_zero, rCont, enc_one h.1 h.2, List.take_succ_cons]
   rw [if_neg (by omega), if_neg (by unfold rOut; simp; omega)]
   rfl
  ·rw [enc_two h.1 h.2]
   unfold rFirst
   simp only [List.cons_append, List.nil_append]
   rw [u8_int (192 + c / 64) (by omega) (by omega)]
   have e : rLead (192 + c / 64).toNat = (c / 64, 2) := by unfold rLead; rw [if_neg (by omega), if_pos (by omega)]; congr 1; omega
   rw [e]
   simp only [List.length_cons, Nat.add_one_sub_one, List.take_zero, List.take_succ_cons, rCont]
   rw [u8_int (128 + c % 64) (by omega) (by omega), if_neg (by omega), if_neg (by omega)]
   have e2 : 64 * (c / 64) + ((128 + c % 64).toNat : Int) - 128 = c := by omega
   simp only [e2]
   rw [enc_two h.1 h.2, if_neg (by unfold rOut; simp; omega)]
   rfl
  ·rw [enc_three h]
   unfold rFirst
   simp only [List.cons_append, List.nil_append]
   rw [u8_int (224 + c / 4096) (by omega) (by omega)]
   have e : rLead (224 + c / 4096).toNat = (c / 4096, 3) := by unfold rLead; rw [if_neg (by omega), if_neg (by omega), if_pos (by omega)]; congr 1; omega
   rw [e]
   simp only [List.length_cons, Nat.add_one_sub_one, List.take_zero, List.take_succ_cons, rCont]
   rw [u8_int (128 + c / 64 % 64) (by omega) (by omega), u8_int (128 + c % 64) (by omega) (by omega), if_neg (by omega), if_neg (by omega), if_neg (by omega)]
   have e2 : 64 * (64 * (c / 4096) + ((128 + c / 64 % 64).toNat : Int) - 128) + ((128 + c % 64).toNat : Int) - 128 = c := by omega
   simp only [e2]
   rw [enc_three h, if_neg (by unfold rOut; simp; omega)]
   rfl
  ·rw [enc_four h.1 h.2]
   unfold rFirst
   simp only [List.cons_append, List.nil_append]
   rw [u8_int (240 + c / 262144) (by omega) (by omega)]
   have e : rLead (240 + c / 262144).toNat = (c / 262144, 4) := by unfold rLead; rw [if_neg (by omega), if_neg (by omega), if_neg (by omega)]; congr 1; omega
   rw [e]
   simp only [List.length_cons, Nat.add_one_sub_one, List.take_zero, List.take_succ_cons, rCont]
   rw [u8_int (128 + c / 4096 % 64) (by omega) (by omega), u8_int (128 + c / 64 % 64) (by omega) (by omega), u8_int (128 + c % 64) (by omega) (by omega), if_neg (by omega), if_neg (by omega), if_neg (by omega), if_neg (by omega)]
   have e2 : 64 * (64 * (64 * (c / 262144) + ((128 + c / 4096 % 64).toNat : Int) - 128) + ((128 + c / 64 % 64).toNat : Int) - 128) + ((128 + c % 64).toNat : Int) - 128 = c := by omega
   simp only [e2]
   rw [enc_four h.1 h.2, if_neg (by unfold rOut; simp; omega)]
   rfl
 ·rw [dFirst_none (fun c r hc e => hex ⟨c, r, hc, e⟩)]
  unfold rFirst
  split
  ·rfl
  ·rename_i b t
   split
   ·rfl
   ·split
    ·rfl
    ·rename_i c hcc
     split
     ·rfl
     ·rename_i hno
      exfalso
      apply hex
      have h0 := rCont_nonneg _ _ _ (rLead_nonneg _) hcc
      refine ⟨c, (b :: t).drop (rLead b.toNat).2, ?_, ?_⟩
      ·have : ¬ rOut c := fun h => hno (.inl h)
       unfold rOut at this
       unfold Sc
       omega
      ·have : Lib.encodeRune c = (b :: t).take (rLead b.toNat).2 := Classical.byContradiction fun h => hno (.inr h)
       rw [this, List.take_append_drop]
/-- a text is gone through sign by sign -/
def rValid : Nat → Bs → Bool
 | 0, _ => true
 | n + 1, s => if s = [] then true else if (dFirst s).2 = 0 then false else rValid n (s.drop (dFirst s).2)
theorem rValid_vl : ∀ (n : Nat) (s : Bs), s.length ≤ n → (rValid n s = true ↔ Vl s) := by
 intro n
 induction n with
 | zero =>
   intro l h
   have : l = [] := List.length_eq_zero_iff.1 (by omega)
   subst this
   exact ⟨fun _ => .nil, fun _ => rfl⟩
 | succ n ih =>
   intro l h
   unfold rValid
   by_cases hl : l = []
   ·subst hl
    exact ⟨fun _ => .nil, fun _ => by simp⟩
   ·rw [if_neg hl]
    constructor
    ·intro hv
     split at hv
     ·cases hv
     ·rename_i hb
      obtain ⟨hc, hs, hk⟩ := dFirst_inv (c := (dFirst l).1) (k := (dFirst l).2) rfl hb
      have hp := enc_pos (dFirst l).1
      rw [hs]
      exact .cons _ hc _ ((ih _ (by rw [List.length_drop]; omega)).1 hv)
    ·intro hv
     cases hv with
     | nil => exact absurd rfl hl
     | cons c hc r hr =>
       have hp := enc_pos c
       rw [dFirst_enc hc, if_neg (by simp only; omega), List.drop_left]
       exact (ih r (by simp at h; omega)).2 hr
end Go.Proofs.YtcddlemkimbkcaaGreatDoor
