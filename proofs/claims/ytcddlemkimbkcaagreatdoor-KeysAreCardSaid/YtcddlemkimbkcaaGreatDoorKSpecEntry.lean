/-
  Entries (package entry), as plain data: names, types, signers, which entries are ones.
-/
import Derived.Test.YtcddlemkimbkcaaGreatDoorKSpecCode
import Derived.Test.YtcddlemkimbkcaaGreatDoorKSpecJ
import Derived.Shelf.GgClosure.StringsIndexFunc
import Derived.Lib.DecodeN
namespace Go.Proofs.YtcddlemkimbkcaaGreatDoor
set_option linter.unusedVariables false
set_option linter.unusedSimpArgs false
set_option linter.unusedSectionVars false
/-- a signature: the identity, the key, the bytes -/
structure Sg where
  id : Bs
  key : Bs
  sig : Bs
/-- an entry -/
structure En where
  kind : Int
  digest : Bs
  typ : Bs
  payload : Bs
  op : Int
  ident : Bs
  key : Bs
  sigs : List Sg
def Sg.ok (s : Sg) : Prop := s.key.length = 32 ∧ s.sig.length = 64
def En.ok (e : En) : Prop := e.digest.length = 32 ∧ e.key.length = 32 ∧ ∀ s ∈ e.sigs, s.ok
/-- a sign of a name -/
def nameCh (n : Nat) : Bool := (decide (97 ≤ n) && decide (n ≤ 122)) || ((decide (48 ≤ n) && decide (n ≤ 57)) || (n == 46 || (n == 45 || (n == 95 || n == 64))))
def typCh (n : Nat) : Bool := decide (33 ≤ n) && decide (n ≤ 126)
def pNamed (s : Bs) : Bool := !s.isEmpty && (decide (s.length ≤ 64) && s.all (fun c => nameCh c.toNat))
/-- 'cachet/' -/
def sReserved : Bs := [99, 97, 99, 104, 101, 116, 47]
def pTyped (s : Bs) : Bool := !s.isEmpty && (decide (s.length ≤ 64) && (s.all (fun c => typCh c.toNat) && !Lib.hasPrefix s sReserved))
/-- 'key:' -/
def sKey : Bs := [107, 101, 121, 58]
def pSigner (s : Sg) : Bs := if s.id = [] then sKey ++ hexS s.key else s.id
theorem decode_low {s : ByteArray} {i : Nat} (h : (s.get! i).toNat < 128) : Utf8.decode s i = ((s.get! i).toNat, 1) := by
  rw [Lib.decode_at, Lib.decodeN, if_pos h]
theorem decode_high {s : ByteArray} {i : Nat} (h : 128 ≤ (s.get! i).toNat) : 128 ≤ (Utf8.decode s i).1 := by
  rw [Lib.decode_at, Lib.decodeN, if_neg (by omega)]
  repeat' split
  all_goals (simp only; omega)
theorem get_at (s : Bs) {i : Nat} (h : i < s.length) : (ByteArray.mk s.toArray).get! i = s[i] := by
  show (s.toArray)[i]! = s[i]
  rw [getElem!_pos _ _ (by simpa using h)]
  simp
theorem idx_any (p : Nat → Bool) (hp : ∀ r, 128 ≤ r → p r = true) (s : Bs) : ∀ (f pos : Nat), s.length ≤ pos + f →
    decide (0 ≤ Lib.idxFuncFrom p true ⟨s.toArray⟩ f pos) = (s.drop pos).any (fun c => p c.toNat) := by
  intro f
  induction f with
  | zero =>
    intro pos h
    rw [List.drop_eq_nil_of_le (by omega)]
    rfl
  | succ f ih =>
    intro pos h
    unfold Lib.idxFuncFrom
    have hsz : (ByteArray.mk s.toArray).size = s.length := rfl
    rw [hsz]
    by_cases hlt : pos < s.length
    · rw [if_pos hlt, List.drop_eq_getElem_cons hlt, List.any_cons]
      have hg := get_at s hlt
      by_cases h8 : s[pos].toNat < 128
      · rw [decode_low (by rw [hg]; exact h8)]
        simp only
        rw [hg]
        cases hpx : p s[pos].toNat with
        | true => simp
        | false =>
          rw [if_neg (by simp), ih (pos + 1) (by omega)]
          simp
      · have h1 := hp _ (decode_high (s := ⟨s.toArray⟩) (i := pos) (by rw [hg]; omega))
        have h2 := hp s[pos].toNat (by omega)
        rw [h1, h2]
        simp
    · rw [if_neg hlt, List.drop_eq_nil_of_le (by omega)]
      rfl
/-- is there an odd sign? -/
theorem idx_odd (p : Nat → Bool) (hp : ∀ r, 128 ≤ r → p r = true) (s : Bs) : decide (0 ≤ Lib.idxFunc p true ⟨s.toArray⟩) = s.any (fun c => p c.toNat) := by
  have h := idx_any p hp s s.length 0 (by omega)
  rw [List.drop_zero] at h
  exact h
end Go.Proofs.YtcddlemkimbkcaaGreatDoor
