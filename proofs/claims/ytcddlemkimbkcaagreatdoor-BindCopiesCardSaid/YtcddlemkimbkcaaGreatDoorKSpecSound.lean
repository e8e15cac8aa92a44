/-
 What the calls of package json come to, on lists of bytes: plain functions; no program in sight.
-/
import Derived.Lib.RuneBytes
import Derived.Lib.Strings
import Derived.Shelf.Unicode.DecodeSlow
import Derived.Lib.SlTrimSet
import Derived.Lib.TrimU
import Derived.Lib.ValidU
namespace Go.Proofs.YtcddlemkimbkcaaGreatDoor
set_option linter.unusedVariables false
set_option linter.unusedSimpArgs false
set_option linter.unusedSectionVars false

abbrev Bs := List UInt8

/-- the text that is left, and whether it is bad -/
structure St where
 s : Bs
 bad : Bool

def sBlanks (s : Bs) : Bs := Lib.trimLeftS s [32, 9, 10, 13]
def sEat (c : UInt8) (s : Bs) : Option Bs :=
 match sBlanks s with
 | [] => none
 | x :: l => if x = c then some l else none
def sMust (p : Bs) (st : St) : St := if Lib.hasPrefix st.s p then ⟨Lib.trimPrefix st.s p, st.bad⟩ else ⟨st.s, true⟩
def hexOf (x : UInt8) : Option Nat :=
 if 48 ≤ x.toNat ∧ x.toNat ≤ 57 then some (x.toNat - 48)
 else if 97 ≤ (x.toNat ||| 32) ∧ (x.toNat ||| 32) ≤ 102 then some ((x.toNat ||| 32) - 87)
 else none
/-- k figures more, n so far -/
def sHex : Nat → Nat → St → Nat × St
 | 0, n, st => (n, st)
 | k + 1, n, st =>
   match st.s with
   | [] => (0, ⟨[], true⟩)
   | x :: l => match hexOf x with
     | some v => sHex k (16 * n + v) ⟨l, st.bad⟩
     | none => (0, ⟨x :: l, true⟩)
def sSign (st : St) : Nat × St :=
 match sHex 4 0 st with
 | (n, st1) =>
   if n < 55296 ∨ 57344 ≤ n then (n, st1)
   else if 56320 ≤ n then (0, ⟨st1.s, true⟩)
   else match sHex 4 0 (sMust [92, 117] st1) with
    | (low, st2) => if st2.bad ∨ low < 56320 ∨ 57344 ≤ low then (0, ⟨st2.s, true⟩) else (65536 + (n - 55296) * 1024 + low - 56320, st2)
def plainEsc (c : UInt8) : Option Nat :=
 if c = 34 then some 34 else if c = 92 then some 92 else if c = 47 then some 47
 else if c = 98 then some 8 else if c = 102 then some 12 else if c = 110 then some 10 else if c = 114 then some 13 else if c = 116 then some 9 else none
def sEscape (st : St) : Nat × St :=
 match st.s with
 | [] => (0, ⟨[], true⟩)
 | c :: l => match plainEsc c with
   | some v => (v, ⟨l, st.bad⟩)
   | none => if c = 117 then sSign ⟨l, st.bad⟩ else (0, ⟨l, true⟩)
/-- one sign of a text: 'none': the text ends here -/
def sTextStep (out : Bs) (st : St) : Option Bs × Bs × St :=
 let c := (Lib.decodeGo ⟨st.s.toArray⟩).1
 let size := (Lib.decodeGo ⟨st.s.toArray⟩).2
 let l := st.s.drop size
 if size = 0 ∨ c < 32 ∨ (c = 65533 ∧ size = 1) then (none, out, ⟨l, true⟩)
 else if c = 34 then (some out, out, ⟨l, st.bad⟩)
 else if c = 92 then (none, out ++ Lib.encodeRune (sEscape ⟨l, st.bad⟩).1, (sEscape ⟨l, st.bad⟩).2)
 else (none, out ++ Lib.encodeRune c, ⟨l, st.bad⟩)
def sTextLoop : Nat → Bs → St → Bs × St
 | 0, _, st => ([], st)
 | k + 1, out, st =>
   if st.bad then ([], st)
   else match sTextStep out st with
    | (some r, _, st') => (r, st')
    | (none, out', st') => sTextLoop k out' st'
def sText (st : St) : Bs × St := sTextLoop (st.s.length + 2) [] (sMust [34] st)

theorem decN_le4 (n b0 b1 b2 b3 : Nat) : (Lib.decodeN n b0 b1 b2 b3).2 ≤ 4 := by
 unfold Lib.decodeN
 repeat' split
 all_goals simp
theorem decN_le_n (n b0 b1 b2 b3 : Nat) (hn : 1 ≤ n) : (Lib.decodeN n b0 b1 b2 b3).2 ≤ n := by
 unfold Lib.decodeN
 repeat' split
 all_goals (simp only; omega)
/-- what the decoder hands back: the sign's number and its bytes' -/
theorem dec_facts (s : Bs) : (Lib.decodeGo ⟨s.toArray⟩).1 ≤ 1114111 ∧ (Lib.decodeGo ⟨s.toArray⟩).2 ≤ s.length ∧ (Lib.decodeGo ⟨s.toArray⟩).2 ≤ 4 ∧ (s ≠ [] → 1 ≤ (Lib.decodeGo ⟨s.toArray⟩).2) := by
 have hsz : (ByteArray.mk s.toArray).size = s.length := rfl
 unfold Lib.decodeGo
 split
 ·rename_i h0
  refine ⟨by simp, by simp, by simp, fun h => ?_⟩
  rw [hsz] at h0
  exact absurd (List.length_eq_zero_iff.1 h0) h
 ·rename_i h0
  rw [hsz] at h0
  rw [Lib.decode_at, hsz]
  exact ⟨Lib.decodeN_rune_le _ _ _ _ _ (UInt8.toNat_lt _), decN_le_n _ _ _ _ _ (by omega), decN_le4 _ _ _ _ _, fun _ => Lib.decodeN_ge1 _ _ _ _ _⟩
theorem must_len (p : Bs) (st : St) : (sMust p st).s.length ≤ st.s.length := by
 unfold sMust
 split
 ·unfold Lib.trimPrefix
  split
  ·simp
  ·simp
 ·simp
theorem hex_len : ∀ (k n : Nat) (st : St), (sHex k n st).2.s.length ≤ st.s.length := by
 intro k
 induction k with
 | zero => intro n st; simp [sHex]
 | succ k ih =>
   intro n st
   unfold sHex
   split
   ·simp
   ·rename_i x l hl
    rw [hl]
    split
    ·rename_i v hv
     have := ih (16 * n + v) ⟨l, st.bad⟩
     exact Nat.le_trans this (by simp)
    ·simp
theorem sign_len (st : St) : (sSign st).2.s.length ≤ st.s.length := by
 unfold sSign
 have h1 := hex_len 4 0 st
 generalize sHex 4 0 st = G at *
 obtain ⟨n, st1⟩ := G
 simp only at h1 ⊢
 split
 ·exact h1
 ·split
  ·exact h1
  ·have h2 := hex_len 4 0 (sMust [92, 117] st1)
   have h3 := must_len [92, 117] st1
   generalize sHex 4 0 (sMust [92, 117] st1) = G2 at *
   obtain ⟨n2, st2⟩ := G2
   simp only at h2 ⊢
   split
   ·exact Nat.le_trans h2 (Nat.le_trans h3 h1)
   ·exact Nat.le_trans h2 (Nat.le_trans h3 h1)
theorem escape_len (st : St) : (sEscape st).2.s.length ≤ st.s.length := by
 unfold sEscape
 split
 ·simp
 ·rename_i c l hl
  rw [hl]
  split
  ·simp
  ·split
   ·exact Nat.le_trans (sign_len _) (by simp)
   ·simp
theorem encode_len (r : Int) : (Lib.encodeRune r).length ≤ 4 := by
 unfold Lib.encodeRune
 rw [List.length_map]
 unfold Lib.encodeRuneZ
 repeat' split
 all_goals simp
end Go.Proofs.YtcddlemkimbkcaaGreatDoor
namespace Go.Proofs.YtcddlemkimbkcaaGreatDoor
set_option linter.unusedVariables false
set_option linter.unusedSimpArgs false
set_option linter.unusedSectionVars false

/-- a value: its kind, its number, its text, its list, its pairs -/
inductive J where
 | mk (kind int : Int) (text : Bs) (list : List J) (pairs : List (Bs × J))
namespace J
def kind : J → Int | mk k _ _ _ _ => k
def int : J → Int | mk _ n _ _ _ => n
def text : J → Bs | mk _ _ t _ _ => t
def list : J → List J | mk _ _ _ l _ => l
def pairs : J → List (Bs × J) | mk _ _ _ _ p => p
def zero : J := mk 0 0 [] [] []
end J

/-- the figures that come next: the number, how many, what is left -/
def sDigits : Nat → Nat → Bs → Nat × Nat × Bs
 | n, k, [] => (n, k, [])
 | n, k, x :: l => if 48 ≤ x.toNat ∧ x.toNat ≤ 57 then sDigits (if n ≤ 9007199254740991 then 10 * n + (x.toNat - 48) else n) (k + 1) l else (n, k, x :: l)
/-- a number behind its sign -/
def sNumAt (minus : Bool) (bad : Bool) (s : Bs) : J × St :=
 match s with
 | [] => (J.zero, ⟨[], true⟩)
 | y :: m =>
   if 48 ≤ y.toNat ∧ y.toNat ≤ 57 then
    match sDigits 0 0 (y :: m) with
    | (n, k, s2) => (.mk 2 (if minus then -(n : Int) else n) [] [] [], ⟨s2, bad || (decide (9007199254740991 < n) || (decide (y = 48) && (decide (1 < k) || minus)))⟩)
   else (J.zero, ⟨y :: m, true⟩)
def sNumber (st : St) : J × St :=
 match st.s with
 | [] => (J.zero, st)
 | x :: l => if x = 45 then sNumAt true st.bad l else sNumAt false st.bad (x :: l)

section
variable {α : Type}
/-- what stands between two signs: 'one' by one -/
def sLoop (one : St → α → St × α) (shut : UInt8) : Nat → St → α → St × α
 | 0, st, a => (st, a)
 | k + 1, st, a =>
   if st.bad then (st, a) else
   match one st a with
   | (st1, a1) =>
     if st1.bad then (st1, a1) else
     match sEat shut st1.s with
     | some l => (⟨l, false⟩, a1)
     | none => match sEat 44 (sBlanks st1.s) with
       | some l => sLoop one shut k ⟨l, false⟩ a1
       | none => sLoop one shut k ⟨sBlanks (sBlanks st1.s), true⟩ a1
/-- ahead of the loop: the sign that opens; as deep as d -/
def sOpen (op : UInt8) (d : Int) (st : St) : St :=
 match sEat op st.s with
 | some l => ⟨l, st.bad || decide (8 < d)⟩
 | none => ⟨sBlanks st.s, true⟩
def sEach (one : St → α → St × α) (op shut : UInt8) (d : Int) (st : St) (a : α) : St × α :=
 match sEat shut (sOpen op d st).s with
 | some l => (⟨l, (sOpen op d st).bad⟩, a)
 | none => sLoop one shut ((sOpen op d st).s.length + 2) ⟨sBlanks (sOpen op d st).s, (sOpen op d st).bad⟩ a
end
/-- one of a list -/
def sItem (val : St → J × St) (st : St) (a : List J) : St × List J := ((val st).2, a ++ [(val st).1])
/-- behind a name: it is new, and a colon follows -/
def sColon (names : List Bs) (nm : Bs) (st : St) : St :=
 if names.contains nm then ⟨st.s, true⟩
 else match sEat 58 st.s with
  | some l => ⟨l, st.bad⟩
  | none => ⟨sBlanks st.s, true⟩
/-- one of an object -/
def sPair (val : St → J × St) (st : St) (a : List (Bs × J)) : St × List (Bs × J) :=
 match sText ⟨sBlanks st.s, st.bad⟩ with
 | (nm, st1) => match val (sColon (a.map (·.1)) nm st1) with
   | (x, st2) => (st2, a ++ [(nm, x)])
def sNull : Bs := [110, 117, 108, 108]
def sTrue : Bs := [116, 114, 117, 101]
def sFalse : Bs := [102, 97, 108, 115, 101]
/-- what stands behind a value's first sign -/
def sRead (val : St → J × St) (d : Int) (c : UInt8) (st : St) : J × St :=
 if c = 110 then (J.zero, sMust sNull st)
 else if c = 116 then (.mk 1 1 [] [] [], sMust sTrue st)
 else if c = 102 then (.mk 1 0 [] [] [], sMust sFalse st)
 else if c = 34 then (.mk 3 0 (sText st).1 [] [], (sText st).2)
 else if c = 91 then (.mk 4 0 [] (sEach (sItem val) 91 93 (d + 1) st []).2 [], (sEach (sItem val) 91 93 (d + 1) st []).1)
 else if c = 123 then (.mk 5 0 [] [] (sEach (sPair val) 123 125 (d + 1) st []).2, (sEach (sPair val) 123 125 (d + 1) st []).1)
 else sNumber st
/-- a value, d lists and objects deep -/
def sValue : Nat → Int → St → J × St
 | 0, _, st => (J.zero, st)
 | f + 1, d, st =>
   match sBlanks st.s with
   | [] => (J.zero, ⟨[], true⟩)
   | c :: l => if st.bad then (J.zero, ⟨c :: l, true⟩) else sRead (sValue f (d + 1)) d c ⟨c :: l, false⟩
/-- the value of a text, if it is one -/
def sParse (s : Bs) : Option J :=
 match sValue 10 0 ⟨s, false⟩ with
 | (v, st) => if st.bad ∨ sBlanks st.s ≠ [] then none else some v
end Go.Proofs.YtcddlemkimbkcaaGreatDoor
namespace Go.Proofs.YtcddlemkimbkcaaGreatDoor
set_option linter.unusedVariables false
set_option linter.unusedSimpArgs false
set_option linter.unusedSectionVars false
theorem text_step_len (out : Bs) (st : St) : (∀ r o st', sTextStep out st = (some r, o, st') → r.length ≤ out.length ∧ st'.s.length ≤ st.s.length) ∧
 (∀ o st', sTextStep out st = (none, o, st') → o.length + 4 * st'.s.length ≤ out.length + 4 * st.s.length ∧ st'.s.length ≤ st.s.length) := by
 obtain ⟨d1, d2, d3, d4⟩ := dec_facts st.s
 unfold sTextStep
 dsimp only
 generalize hc : (Lib.decodeGo ⟨st.s.toArray⟩).1 = c at *
 generalize hs : (Lib.decodeGo ⟨st.s.toArray⟩).2 = size at *
 have hl : (st.s.drop size).length = st.s.length - size := by simp
 have hesc := escape_len ⟨st.s.drop size, st.bad⟩
 generalize st.s.drop size = l at *
 simp only at hesc ⊢
 have e1 := encode_len c
 have e2 := encode_len ((sEscape ⟨l, st.bad⟩).1)
 generalize sEscape ⟨l, st.bad⟩ = E at *
 split
 ·refine ⟨by simp, ?_⟩
  rintro o st' h
  simp at h
  obtain ⟨rfl, rfl⟩ := h
  simp only
  omega
 ·rename_i hn
  have hs1 : 1 ≤ size := by omega
  split
  ·refine ⟨?_, by simp⟩
   rintro r o st' h
   simp at h
   obtain ⟨rfl, rfl, rfl⟩ := h
   simp only
   omega
  ·split
   ·refine ⟨by simp, ?_⟩
    rintro o st' h
    simp at h
    obtain ⟨rfl, rfl⟩ := h
    simp only [List.length_append]
    omega
   ·refine ⟨by simp, ?_⟩
    rintro o st' h
    simp at h
    obtain ⟨rfl, rfl⟩ := h
    simp only [List.length_append]
    omega
theorem text_loop_len : ∀ (k : Nat) (out : Bs) (st : St), (sTextLoop k out st).1.length ≤ out.length + 4 * st.s.length ∧ (sTextLoop k out st).2.s.length ≤ st.s.length := by
 intro k
 induction k with
 | zero => intro out st; simp [sTextLoop]
 | succ k ih =>
   intro out st
   obtain ⟨h1, h2⟩ := text_step_len out st
   unfold sTextLoop
   split
   ·simp
   ·split
    ·rename_i r o st' he
     have := h1 _ _ _ he
     simp only
     omega
    ·rename_i o st' he
     have := h2 _ _ he
     have := ih o st'
     omega
theorem text_name_len (st : St) : (sText st).1.length ≤ 4 * st.s.length := by
 have h1 := (text_loop_len (st.s.length + 2) [] (sMust [34] st)).1
 have h2 := must_len [34] st
 simp only [List.length_nil] at h1
 unfold sText
 omega
theorem text_len (st : St) : (sText st).2.s.length ≤ st.s.length := by
 have h1 := (text_loop_len (st.s.length + 2) [] (sMust [34] st)).2
 have h2 := must_len [34] st
 unfold sText
 omega
end Go.Proofs.YtcddlemkimbkcaaGreatDoor
namespace Go.Proofs.YtcddlemkimbkcaaGreatDoor
set_option linter.unusedVariables false
set_option linter.unusedSimpArgs false
set_option linter.unusedSectionVars false

theorem blanks_le (s : Bs) : (sBlanks s).length ≤ s.length := by
 unfold sBlanks Lib.trimLeftS
 exact List.Sublist.length_le (List.dropWhile_sublist _)
theorem eat_le {c : UInt8} {s l : Bs} (h : sEat c s = some l) : l.length ≤ s.length := by
 unfold sEat at h
 have hb := blanks_le s
 split at h
 ·simp at h
 ·rename_i x m hm
  rw [hm] at hb
  split at h
  ·simp at h; subst h; simp at hb; omega
  ·simp at h
theorem digits_le : ∀ (s : Bs) (n k : Nat), (sDigits n k s).2.2.length ≤ s.length := by
 intro s
 induction s with
 | nil => intro n k; simp [sDigits]
 | cons x l ih =>
   intro n k
   unfold sDigits
   split
   ·exact Nat.le_trans (ih _ _) (by simp)
   ·simp
theorem numAt_le (m b : Bool) (s : Bs) : (sNumAt m b s).2.s.length ≤ s.length := by
 unfold sNumAt
 split
 ·simp
 ·rename_i y l
  split
  ·have := digits_le (y :: l) 0 0
   generalize sDigits 0 0 (y :: l) = G at *
   obtain ⟨n, k, s2⟩ := G
   exact this
  ·simp
theorem number_le (st : St) : (sNumber st).2.s.length ≤ st.s.length := by
 unfold sNumber
 split
 ·simp
 ·rename_i x l hl
  rw [hl]
  split
  ·exact Nat.le_trans (numAt_le _ _ _) (by simp)
  ·exact numAt_le _ _ _
section
variable {α : Type} {one : St → α → St × α}
theorem loop_le (h : ∀ st a, (one st a).1.s.length ≤ st.s.length) (shut : UInt8) : ∀ (k : Nat) (st : St) (a : α), (sLoop one shut k st a).1.s.length ≤ st.s.length := by
 intro k
 induction k with
 | zero => intro st a; simp [sLoop]
 | succ k ih =>
   intro st a
   unfold sLoop
   split
   ·simp
   ·have h1 := h st a
    generalize one st a = G at *
    obtain ⟨st1, a1⟩ := G
    simp only at h1 ⊢
    split
    ·exact h1
    ·split
     ·rename_i l hl
      exact Nat.le_trans (eat_le hl) h1
     ·have hb := blanks_le st1.s
      split
      ·rename_i l hl
       have := eat_le hl
       have := ih ⟨l, false⟩ a1
       simp only at this
       omega
      ·have := ih ⟨sBlanks (sBlanks st1.s), true⟩ a1
       have h2 := blanks_le (sBlanks st1.s)
       simp only at this
       omega
theorem open_le (op : UInt8) (d : Int) (st : St) : (sOpen op d st).s.length ≤ st.s.length := by
 unfold sOpen
 split
 ·rename_i l hl; exact eat_le hl
 ·exact blanks_le _
theorem each_le (h : ∀ st a, (one st a).1.s.length ≤ st.s.length) (op shut : UInt8) (d : Int) (st : St) (a : α) : (sEach one op shut d st a).1.s.length ≤ st.s.length := by
 unfold sEach
 have h1 := open_le op d st
 generalize sOpen op d st = G at *
 split
 ·rename_i l hl
  have := eat_le hl
  simp only; omega
 ·have h2 := loop_le h shut (G.s.length + 2) ⟨sBlanks G.s, G.bad⟩ a
  have := blanks_le G.s
  simp only at h2
  omega
end
theorem colon_le (names : List Bs) (nm : Bs) (st : St) : (sColon names nm st).s.length ≤ st.s.length := by
 unfold sColon
 split
 ·simp
 ·split
  ·rename_i l hl; exact eat_le hl
  ·exact blanks_le _
theorem item_le {val : St → J × St} (h : ∀ st, (val st).2.s.length ≤ st.s.length) (st : St) (a : List J) : (sItem val st a).1.s.length ≤ st.s.length := h st
theorem pair_le {val : St → J × St} (h : ∀ st, (val st).2.s.length ≤ st.s.length) (st : St) (a : List (Bs × J)) : (sPair val st a).1.s.length ≤ st.s.length := by
 unfold sPair
 have h1 := text_len ⟨sBlanks st.s, st.bad⟩
 have hb := blanks_le st.s
 generalize sText ⟨sBlanks st.s, st.bad⟩ = G at *
 obtain ⟨nm, st1⟩ := G
 simp only at h1 ⊢
 have h2 := colon_le (a.map (·.1)) nm st1
 generalize sColon (a.map (·.1)) nm st1 = C at *
 have h3 := h C
 generalize val C = V at *
 obtain ⟨x, st2⟩ := V
 simp only at h3 ⊢
 omega
theorem pair_more {val : St → J × St} (st : St) (a : List (Bs × J)) : (sPair val st a).2.length = a.length + 1 := by
 unfold sPair
 generalize sText ⟨sBlanks st.s, st.bad⟩ = G at *
 obtain ⟨nm, st1⟩ := G
 simp only
 generalize val (sColon (a.map (·.1)) nm st1) = V at *
 obtain ⟨x, st2⟩ := V
 simp
theorem read_le {val : St → J × St} (h : ∀ st, (val st).2.s.length ≤ st.s.length) (d : Int) (c : UInt8) (st : St) : (sRead val d c st).2.s.length ≤ st.s.length := by
 unfold sRead
 split
 ·exact must_len _ _
 split
 ·exact must_len _ _
 split
 ·exact must_len _ _
 split
 ·exact text_len _
 split
 ·exact each_le (item_le h) _ _ _ _ _
 split
 ·exact each_le (pair_le h) _ _ _ _ _
 ·exact number_le _
theorem value_le : ∀ (f : Nat) (d : Int) (st : St), (sValue f d st).2.s.length ≤ st.s.length := by
 intro f
 induction f with
 | zero => intro d st; simp [sValue]
 | succ f ih =>
   intro d st
   have hb := blanks_le st.s
   unfold sValue
   split
   ·simp
   ·rename_i c l hl
    rw [hl] at hb
    split
    ·exact hb
    ·exact Nat.le_trans (read_le (ih (d + 1)) _ _ _) hb
end Go.Proofs.YtcddlemkimbkcaaGreatDoor
namespace Go.Proofs.YtcddlemkimbkcaaGreatDoor
set_option linter.unusedVariables false
set_option linter.unusedSimpArgs false
set_option linter.unusedSectionVars false

mutual
/-- 'sound', at a depth -/
def pSound : Int → J → Bool
 | d, .mk k n t l p =>
   if k = 0 then (n == 0) && ((t == []) && (l.isEmpty && p.isEmpty))
   else if k = 1 then ((n == 0) || (n == 1)) && ((t == []) && (l.isEmpty && p.isEmpty))
   else if k = 2 then decide (-9007199254740991 ≤ n) && (decide (n ≤ 9007199254740991) && ((t == []) && (l.isEmpty && p.isEmpty)))
   else if k = 3 then (n == 0) && (Lib.validD t && (l.isEmpty && p.isEmpty))
   else if n ≠ 0 ∨ t ≠ [] ∨ 8 ≤ d then false
   else if k = 4 then pSounds (d + 1) l && p.isEmpty
   else if k = 5 then pSoundp (d + 1) [] p && l.isEmpty
   else false
def pSounds : Int → List J → Bool
 | _, [] => true
 | d, j :: js => pSound d j && pSounds d js
def pSoundp : Int → List Bs → List (Bs × J) → Bool
 | _, _, [] => true
 | d, names, (nm, j) :: ps => !names.contains nm && (Lib.validD nm && (pSound d j && pSoundp d (names ++ [nm]) ps))
end

mutual
/-- no text and no row in it is longer than N -/
def fits : Nat → J → Bool
 | N, .mk _ n t l p => (decide (-9223372036854775808 ≤ n) && decide (n ≤ 9223372036854775807)) && (decide (t.length ≤ N) && (decide (l.length ≤ N) && (decide (p.length ≤ N) && (fitsl N l && fitsp N p))))
def fitsl : Nat → List J → Bool
 | _, [] => true
 | N, j :: js => fits N j && fitsl N js
def fitsp : Nat → List (Bs × J) → Bool
 | _, [] => true
 | N, (nm, j) :: ps => decide (nm.length ≤ N) && (fits N j && fitsp N ps)
end
theorem fits.open {N : Nat} {k n : Int} {t : Bs} {l : List J} {p : List (Bs × J)} (h : fits N (.mk k n t l p) = true) : t.length ≤ N ∧ l.length ≤ N ∧ p.length ≤ N ∧ fitsl N l = true ∧ fitsp N p = true := by
 unfold fits at h
 rw [Bool.and_eq_true] at h
 simpa using h.2
theorem fits.int {N : Nat} {k n : Int} {t : Bs} {l : List J} {p : List (Bs × J)} (h : fits N (.mk k n t l p) = true) : -9223372036854775808 ≤ n ∧ n ≤ 9223372036854775807 := by
 unfold fits at h
 rw [Bool.and_eq_true] at h
 simpa using h.1
theorem fitsl.at {N : Nat} : ∀ (l : List J), fitsl N l = true → ∀ (i : Nat) (j : J), l[i]? = some j → fits N j = true := by
 intro l
 induction l with
 | nil => intro _ i j h; simp at h
 | cons x l ih =>
   intro h i j hi
   unfold fitsl at h
   simp at h
   cases i with
   | zero => simp at hi; subst hi; exact h.1
   | succ i => exact ih h.2 i j (by simpa using hi)
theorem fitsp.at {N : Nat} : ∀ (l : List (Bs × J)), fitsp N l = true → ∀ (i : Nat) (nm : Bs) (j : J), l[i]? = some (nm, j) → nm.length ≤ N ∧ fits N j = true := by
 intro l
 induction l with
 | nil => intro _ i nm j h; simp at h
 | cons x l ih =>
   obtain ⟨xn, xj⟩ := x
   intro h i nm j hi
   unfold fitsp at h
   simp at h
   cases i with
   | zero => simp at hi; obtain ⟨rfl, rfl⟩ := hi; exact ⟨h.1, h.2.1⟩
   | succ i => exact ih h.2.2 i nm j (by simpa using hi)
end Go.Proofs.YtcddlemkimbkcaaGreatDoor
