/-
 Bytes as signs (package coder), as plain data: hexadecimal figures there and back.
-/
import Derived.Test.YtcddlemkimbkcaaGreatDoorKSpecSound
import Derived.Shelf.GgClosure.StringsIndexFunc
import Derived.Lib.DecodeN
namespace Go.Proofs.YtcddlemkimbkcaaGreatDoor
set_option linter.unusedVariables false
set_option linter.unusedSimpArgs false
set_option linter.unusedSectionVars false
/-- the sign of a number -/
def sgn (signs : Bs) (n : Nat) : UInt8 := signs.getD n 0
/-- signs, as long as there are bits for one: what comes out, the bits that are left, how many -/
def cEmit (signs : Bs) (nb : Nat) : Nat → Nat → Nat → Bs × Nat × Nat
 | 0, bits, h => ([], bits, h)
 | k + 1, bits, h => if nb ≤ h then (sgn signs (bits / 2 ^ (h - nb)) :: (cEmit signs nb k (bits % 2 ^ (h - nb)) (h - nb)).1, (cEmit signs nb k (bits % 2 ^ (h - nb)) (h - nb)).2) else ([], bits, h)
/-- all signs of bytes, behind some bits -/
def cLoop (signs : Bs) (nb : Nat) : Nat → Nat → Bs → Bs
 | bits, h, [] => if 0 < h then [sgn signs (bits * 2 ^ (nb - h))] else []
 | bits, h, c :: l => (cEmit signs nb (h + 9) (bits * 256 + c.toNat) (h + 8)).1 ++ cLoop signs nb (cEmit signs nb (h + 9) (bits * 256 + c.toNat) (h + 8)).2.1 (cEmit signs nb (h + 9) (bits * 256 + c.toNat) (h + 8)).2.2 l
def hexes : Bs := [48, 49, 50, 51, 52, 53, 54, 55, 56, 57, 97, 98, 99, 100, 101, 102]
/-- bytes as hexadecimal figures -/
def hexS : Bs → Bs
 | [] => []
 | c :: l => sgn hexes (c.toNat / 16) :: sgn hexes (c.toNat % 16) :: hexS l
theorem hexS_len (l : Bs) : (hexS l).length = 2 * l.length := by
 induction l with
 | nil => rfl
 | cons c l ih => simp [hexS, ih]; omega
theorem emit_hex (n : Nat) (hn : n < 256) : cEmit hexes 4 9 n 8 = ([sgn hexes (n / 16), sgn hexes (n % 16)], 0, 0) := by
 have e1 : n % 16 % 2 ^ (4 - 4) = 0 := by simp [Nat.mod_one]
 simp only [cEmit, Nat.le_refl, if_true, show (4 : Nat) ≤ 8 by omega, show 8 - 4 = 4 from rfl, show (2 : Nat) ^ 4 = 16 from rfl, show 4 - 4 = 0 from rfl, show (2 : Nat) ^ 0 = 1 from rfl, Nat.div_one, Nat.mod_one]
 simp
theorem code_hex (l : Bs) : cLoop hexes 4 0 0 l = hexS l := by
 induction l with
 | nil => rfl
 | cons c l ih =>
   have h := emit_hex c.toNat (UInt8.toNat_lt c)
   simp only [cLoop, Nat.zero_mul, Nat.zero_add, h, ih, hexS]
   rfl
/-- a sign's number -/
def idx (signs : Bs) (c : UInt8) : Option Nat := if signs.idxOf c < signs.length then some (signs.idxOf c) else none
/-- the bytes of signs, behind some bits -/
def dLoop (signs : Bs) (nb : Nat) : Nat → Nat → Bs → Bs → Option Bs
 | bits, h, out, [] => if nb ≤ h ∨ bits ≠ 0 then none else some out
 | bits, h, out, c :: l => match idx signs c with
   | none => none
   | some k => if 8 ≤ h + nb then dLoop signs nb ((bits * 2 ^ nb + k) % 2 ^ (h + nb - 8)) (h + nb - 8) (out ++ [UInt8.ofNat ((bits * 2 ^ nb + k) / 2 ^ (h + nb - 8))]) l
     else dLoop signs nb (bits * 2 ^ nb + k) (h + nb) out l
def unhexS (s : Bs) : Option Bs := dLoop hexes 4 0 0 [] s
theorem idx_hexN : ∀ n : Fin 16, idx hexes (sgn hexes n.val) = some n.val := by decide +kernel
theorem sgn_idxN : ∀ c : Fin 256, ∀ k, idx hexes (UInt8.ofNat c.val) = some k → k < 16 ∧ sgn hexes k = UInt8.ofNat c.val := by
 have h : ∀ c : Fin 256, (match idx hexes (UInt8.ofNat c.val) with | none => true | some k => decide (k < 16) && (sgn hexes k == UInt8.ofNat c.val)) = true := by decide +kernel
 intro c k hk
 have := h c
 rw [hk] at this
 simpa using this
theorem sgn_idx {c : UInt8} {k : Nat} (h : idx hexes c = some k) : k < 16 ∧ sgn hexes k = c := by
 have := sgn_idxN ⟨c.toNat, UInt8.toNat_lt c⟩ k (by simpa using h)
 simpa using this
theorem unhex_of (l out : Bs) : dLoop hexes 4 0 0 out (hexS l) = some (out ++ l) := by
 induction l generalizing out with
 | nil => simp [hexS, dLoop]
 | cons c l ih =>
   have hc := UInt8.toNat_lt c
   have h1 := idx_hexN ⟨c.toNat / 16, by omega⟩
   have h2 := idx_hexN ⟨c.toNat % 16, by omega⟩
   simp only at h1 h2
   have e1 : (0 * 2 ^ 4 + c.toNat / 16) * 2 ^ 4 + c.toNat % 16 = c.toNat := by omega
   simp only [hexS, dLoop, h1, h2, show ¬ (8 ≤ 0 + 4) by omega, if_false, show 8 ≤ 0 + 4 + 4 by omega, if_true, e1, show 0 + 4 + 4 - 8 = 0 from rfl, show (2 : Nat) ^ 0 = 1 from rfl, Nat.mod_one, Nat.div_one]
   rw [ih]
   simp
theorem unhex_inv : ∀ (n : Nat) (s out l : Bs), s.length ≤ n → dLoop hexes 4 0 0 out s = some l → ∃ m, l = out ++ m ∧ s = hexS m := by
 intro n
 induction n with
 | zero =>
   intro s out l hn h
   obtain rfl : s = [] := List.length_eq_zero_iff.1 (by omega)
   simp [dLoop] at h
   exact ⟨[], by simp [h], rfl⟩
 | succ n ih =>
   intro s out l hn h
   match s with
   | [] =>
     simp [dLoop] at h
     exact ⟨[], by simp [h], rfl⟩
   | [c] =>
     simp only [dLoop] at h
     cases hc : idx hexes c with
     | none => rw [hc] at h; simp at h
     | some k => rw [hc] at h; simp [dLoop] at h
   | c :: d :: t =>
     simp only [dLoop] at h
     cases hc : idx hexes c with
     | none => rw [hc] at h; simp at h
     | some k =>
       rw [hc] at h
       simp only [show ¬ (8 ≤ 0 + 4) by omega, if_false] at h
       cases hd : idx hexes d with
       | none => rw [hd] at h; simp at h
       | some j =>
         rw [hd] at h
         obtain ⟨k1, k2⟩ := sgn_idx hc
         obtain ⟨j1, j2⟩ := sgn_idx hd
         have e1 : (0 * 2 ^ 4 + k) * 2 ^ 4 + j = 16 * k + j := by omega
         simp only [show 8 ≤ 0 + 4 + 4 by omega, if_true, e1, show 0 + 4 + 4 - 8 = 0 from rfl, show (2 : Nat) ^ 0 = 1 from rfl, Nat.mod_one, Nat.div_one] at h
         obtain ⟨m, rfl, rfl⟩ := ih t _ l (by simp at hn; omega) h
         refine ⟨UInt8.ofNat (16 * k + j) :: m, by simp, ?_⟩
         have hv : (UInt8.ofNat (16 * k + j)).toNat = 16 * k + j := by simp only [UInt8.toNat_ofNat']; omega
         simp only [hexS, hv]
         rw [show (16 * k + j) / 16 = k by omega, show (16 * k + j) % 16 = j by omega, k2, j2]
theorem unhex_iff (s l : Bs) : unhexS s = some l ↔ s = hexS l := by
 constructor
 ·intro h
  obtain ⟨m, h1, h2⟩ := unhex_inv s.length s [] l (Nat.le_refl _) h
  simp at h1
  rw [h1]; exact h2
 ·rintro rfl
  have := unhex_of l []
  unfold unhexS
  simpa using this
/-- what is looked for by coding it again is what is decoded -/
theorem unhex_ref (f : Bs → Bs) (hf : ∀ m, f (hexS m) = m) (s : Bs) : (if hexS (f s) = s then some (f s) else none) = unhexS s := by
 by_cases h : hexS (f s) = s
 ·rw [if_pos h]; exact ((unhex_iff s (f s)).2 h.symm).symm
 ·rw [if_neg h]
  cases hu : unhexS s with
  | none => rfl
  | some l =>
    have := (unhex_iff s l).1 hu
    subst this
    rw [hf] at h
    exact absurd rfl h
/-- a digest by its figures -/
def sumS (s : Bs) : Option Bs := match unhexS s with
 | some l => if l.length = 32 then some l else none
 | none => none
theorem sumS_iff (s l : Bs) : sumS s = some l ↔ s = hexS l ∧ l.length = 32 := by
 unfold sumS
 cases h : unhexS s with
 | none =>
   simp only [reduceCtorEq, false_iff]
   rintro ⟨h1, -⟩
   rw [(unhex_iff s l).2 h1] at h
   simp at h
 | some m =>
   have hm := (unhex_iff s m).1 h
   simp only
   constructor
   ·intro h2
    split at h2
    ·simp at h2; subst h2; exact ⟨hm, by assumption⟩
    ·simp at h2
   ·rintro ⟨h1, h2⟩
    have : m = l := by
     have h3 := (unhex_iff s l).2 h1
     rw [h] at h3; simpa using h3
    subst this
    rw [if_pos h2]
end Go.Proofs.YtcddlemkimbkcaaGreatDoor
namespace Go.Proofs.YtcddlemkimbkcaaGreatDoor
set_option linter.unusedVariables false
set_option linter.unusedSimpArgs false
set_option linter.unusedSectionVars false
/-- a signature: the identity, the key, the bytes -/
structure Sg where
 id : Bs
 key : Bs
 sig : Bs
/-- an entry -/
structure En where
 kind : Int
 digest : Bs
 typ : Bs
 payload : Bs
 op : Int
 ident : Bs
 key : Bs
 sigs : List Sg
def Sg.ok (s : Sg) : Prop := s.key.length = 32 ∧ s.sig.length = 64
def En.ok (e : En) : Prop := e.digest.length = 32 ∧ e.key.length = 32 ∧ ∀ s ∈ e.sigs, s.ok
/-- a sign of a name -/
def nameCh (n : Nat) : Bool := (decide (97 ≤ n) && decide (n ≤ 122)) || ((decide (48 ≤ n) && decide (n ≤ 57)) || (n == 46 || (n == 45 || (n == 95 || n == 64))))
def typCh (n : Nat) : Bool := decide (33 ≤ n) && decide (n ≤ 126)
def pNamed (s : Bs) : Bool := !s.isEmpty && (decide (s.length ≤ 64) && s.all (fun c => nameCh c.toNat))
/-- 'cachet/' -/
def sReserved : Bs := [99, 97, 99, 104, 101, 116, 47]
def pTyped (s : Bs) : Bool := !s.isEmpty && (decide (s.length ≤ 64) && (s.all (fun c => typCh c.toNat) && !Lib.hasPrefix s sReserved))
/-- 'key:' -/
def sKey : Bs := [107, 101, 121, 58]
def pSigner (s : Sg) : Bs := if s.id = [] then sKey ++ hexS s.key else s.id
theorem decode_low {s : ByteArray} {i : Nat} (h : (s.get! i).toNat < 128) : Utf8.decode s i = ((s.get! i).toNat, 1) := by
 rw [Lib.decode_at, Lib.decodeN, if_pos h]
theorem decode_high {s : ByteArray} {i : Nat} (h : 128 ≤ (s.get! i).toNat) : 128 ≤ (Utf8.decode s i).1 := by
 rw [Lib.decode_at, Lib.decodeN, if_neg (by omega)]
 repeat' split
 all_goals (simp only; omega)
theorem get_at (s : Bs) {i : Nat} (h : i < s.length) : (ByteArray.mk s.toArray).get! i = s[i] := by
 show (s.toArray)[i]! = s[i]
 rw [getElem!_pos _ _ (by simpa using h)]
 simp
theorem idx_any (p : Nat → Bool) (hp : ∀ r, 128 ≤ r → p r = true) (s : Bs) : ∀ (f pos : Nat), s.length ≤ pos + f →
 decide (0 ≤ Lib.idxFuncFrom p true ⟨s.toArray⟩ f pos) = (s.drop pos).any (fun c => p c.toNat) := by
 intro f
 induction f with
 | zero =>
   intro pos h
   rw [List.drop_eq_nil_of_le (by omega)]
   rfl
 | succ f ih =>
   intro pos h
   unfold Lib.idxFuncFrom
   have hsz : (ByteArray.mk s.toArray).size = s.length := rfl
   rw [hsz]
   by_cases hlt : pos < s.length
   ·rw [if_pos hlt, List.drop_eq_getElem_cons hlt, List.any_cons]
    have hg := get_at s hlt
    by_cases h8 : s[pos].toNat < 128
    ·rw [decode_low (by rw [hg]; exact h8)]
     simp only
     rw [hg]
     cases hpx : p s[pos].toNat with
     | true => simp
     | false =>
       rw [if_neg (by simp), ih (pos + 1) (by omega)]
       simp
    ·have h1 := hp _ (decode_high (s := ⟨s.toArray⟩) (i := pos) (by rw [hg]; omega))
     have h2 := hp s[pos].toNat (by omega)
     rw [h1, h2]
     simp
   ·rw [if_neg hlt, List.drop_eq_nil_of_le (by omega)]
    rfl
/-- is there an odd sign? -/
theorem idx_odd (p : Nat → Bool) (hp : ∀ r, 128 ≤ r → p r = true) (s : Bs) : decide (0 ≤ Lib.idxFunc p true ⟨s.toArray⟩) = s.any (fun c => p c.toNat) := by
 have h := idx_any p hp s s.length 0 (by omega)
 rw [List.drop_zero] at h
 exact h
end Go.Proofs.YtcddlemkimbkcaaGreatDoor
