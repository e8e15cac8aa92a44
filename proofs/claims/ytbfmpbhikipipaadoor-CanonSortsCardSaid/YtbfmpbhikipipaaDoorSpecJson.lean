/-
  What the calls of package json come to, on lists of bytes: plain functions; no program in sight.
-/
import Derived.Lib.RuneBytes
import Derived.Lib.Strings
import Derived.Shelf.Unicode.DecodeSlow
import Derived.Lib.SlTrimSet
import Derived.Lib.TrimU
namespace Go.Proofs.YtbfmpbhikipipaaDoor
set_option linter.unusedVariables false
set_option linter.unusedSimpArgs false
set_option linter.unusedSectionVars false

abbrev Bs := List UInt8

/-- the text that is left, and whether it is bad -/
structure St where
  s : Bs
  bad : Bool

def sBlanks (s : Bs) : Bs := Lib.trimLeftS s [32, 9, 10, 13]
def sEat (c : UInt8) (s : Bs) : Option Bs :=
  match sBlanks s with
  | [] => none
  | x :: l => if x = c then some l else none
def sMust (p : Bs) (st : St) : St := if Lib.hasPrefix st.s p then ⟨Lib.trimPrefix st.s p, st.bad⟩ else ⟨st.s, true⟩
def hexOf (x : UInt8) : Option Nat :=
  if 48 ≤ x.toNat ∧ x.toNat ≤ 57 then some (x.toNat - 48)
  else if 97 ≤ (x.toNat ||| 32) ∧ (x.toNat ||| 32) ≤ 102 then some ((x.toNat ||| 32) - 87)
  else none
/-- k figures more, n so far -/
def sHex : Nat → Nat → St → Nat × St
  | 0, n, st => (n, st)
  | k + 1, n, st =>
    match st.s with
    | [] => (0, ⟨[], true⟩)
    | x :: l => match hexOf x with
      | some v => sHex k (16 * n + v) ⟨l, st.bad⟩
      | none => (0, ⟨x :: l, true⟩)
def sSign (st : St) : Nat × St :=
  match sHex 4 0 st with
  | (n, st1) =>
    if n < 55296 ∨ 57344 ≤ n then (n, st1)
    else if 56320 ≤ n then (0, ⟨st1.s, true⟩)
    else match sHex 4 0 (sMust [92, 117] st1) with
      | (low, st2) => if st2.bad ∨ low < 56320 ∨ 57344 ≤ low then (0, ⟨st2.s, true⟩) else (65536 + (n - 55296) * 1024 + low - 56320, st2)
def plainEsc (c : UInt8) : Option Nat :=
  if c = 34 then some 34 else if c = 92 then some 92 else if c = 47 then some 47
  else if c = 98 then some 8 else if c = 102 then some 12 else if c = 110 then some 10 else if c = 114 then some 13 else if c = 116 then some 9 else none
def sEscape (st : St) : Nat × St :=
  match st.s with
  | [] => (0, ⟨[], true⟩)
  | c :: l => match plainEsc c with
    | some v => (v, ⟨l, st.bad⟩)
    | none => if c = 117 then sSign ⟨l, st.bad⟩ else (0, ⟨l, true⟩)
/-- one sign of a text: 'none': the text ends here -/
def sTextStep (out : Bs) (st : St) : Option Bs × Bs × St :=
  let c := (Lib.decodeGo ⟨st.s.toArray⟩).1
  let size := (Lib.decodeGo ⟨st.s.toArray⟩).2
  let l := st.s.drop size
  if size = 0 ∨ c < 32 ∨ (c = 65533 ∧ size = 1) then (none, out, ⟨l, true⟩)
  else if c = 34 then (some out, out, ⟨l, st.bad⟩)
  else if c = 92 then (none, out ++ Lib.encodeRune (sEscape ⟨l, st.bad⟩).1, (sEscape ⟨l, st.bad⟩).2)
  else (none, out ++ Lib.encodeRune c, ⟨l, st.bad⟩)
def sTextLoop : Nat → Bs → St → Bs × St
  | 0, _, st => ([], st)
  | k + 1, out, st =>
    if st.bad then ([], st)
    else match sTextStep out st with
      | (some r, _, st') => (r, st')
      | (none, out', st') => sTextLoop k out' st'
def sText (st : St) : Bs × St := sTextLoop (st.s.length + 2) [] (sMust [34] st)

theorem decN_le4 (n b0 b1 b2 b3 : Nat) : (Lib.decodeN n b0 b1 b2 b3).2 ≤ 4 := by
  unfold Lib.decodeN
  repeat' split
  all_goals simp
theorem decN_le_n (n b0 b1 b2 b3 : Nat) (hn : 1 ≤ n) : (Lib.decodeN n b0 b1 b2 b3).2 ≤ n := by
  unfold Lib.decodeN
  repeat' split
  all_goals (simp only; omega)
/-- what the decoder hands back: the sign's number and its bytes' -/
theorem dec_facts (s : Bs) : (Lib.decodeGo ⟨s.toArray⟩).1 ≤ 1114111 ∧ (Lib.decodeGo ⟨s.toArray⟩).2 ≤ s.length ∧ (Lib.decodeGo ⟨s.toArray⟩).2 ≤ 4 ∧ (s ≠ [] → 1 ≤ (Lib.decodeGo ⟨s.toArray⟩).2) := by
  have hsz : (ByteArray.mk s.toArray).size = s.length := rfl
  unfold Lib.decodeGo
  split
  · rename_i h0
    refine ⟨by simp, by simp, by simp, fun h => ?_⟩
    rw [hsz] at h0
    exact absurd (List.length_eq_zero_iff.1 h0) h
  · rename_i h0
    rw [hsz] at h0
    rw [Lib.decode_at, hsz]
    exact ⟨Lib.decodeN_rune_le _ _ _ _ _ (UInt8.toNat_lt _), decN_le_n _ _ _ _ _ (by omega), decN_le4 _ _ _ _ _, fun _ => Lib.decodeN_ge1 _ _ _ _ _⟩
theorem must_len (p : Bs) (st : St) : (sMust p st).s.length ≤ st.s.length := by
  unfold sMust
  split
  · unfold Lib.trimPrefix
    split
    · simp
    · simp
  · simp
theorem hex_len : ∀ (k n : Nat) (st : St), (sHex k n st).2.s.length ≤ st.s.length := by
  intro k
  induction k with
  | zero => intro n st; simp [sHex]
  | succ k ih =>
    intro n st
    unfold sHex
    split
    · simp
    · rename_i x l hl
      rw [hl]
      split
      · rename_i v hv
        have := ih (16 * n + v) ⟨l, st.bad⟩
        exact Nat.le_trans this (by simp)
      · simp
theorem sign_len (st : St) : (sSign st).2.s.length ≤ st.s.length := by
  unfold sSign
  have h1 := hex_len 4 0 st
  generalize sHex 4 0 st = G at *
  obtain ⟨n, st1⟩ := G
  simp only at h1 ⊢
  split
  · exact h1
  · split
    · exact h1
    · have h2 := hex_len 4 0 (sMust [92, 117] st1)
      have h3 := must_len [92, 117] st1
      generalize sHex 4 0 (sMust [92, 117] st1) = G2 at *
      obtain ⟨n2, st2⟩ := G2
      simp only at h2 ⊢
      split
      · exact Nat.le_trans h2 (Nat.le_trans h3 h1)
      · exact Nat.le_trans h2 (Nat.le_trans h3 h1)
theorem escape_len (st : St) : (sEscape st).2.s.length ≤ st.s.length := by
  unfold sEscape
  split
  · simp
  · rename_i c l hl
    rw [hl]
    split
    · simp
    · split
      · exact Nat.le_trans (sign_len _) (by simp)
      · simp
theorem encode_len (r : Int) : (Lib.encodeRune r).length ≤ 4 := by
  unfold Lib.encodeRune
  rw [List.length_map]
  unfold Lib.encodeRuneZ
  repeat' split
  all_goals simp
end Go.Proofs.YtbfmpbhikipipaaDoor
