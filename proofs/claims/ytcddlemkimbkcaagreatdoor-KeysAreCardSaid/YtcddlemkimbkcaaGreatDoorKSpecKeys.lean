/-
  Keys (package keys), as plain data: which texts are keys.
-/
import Derived.Test.YtcddlemkimbkcaaGreatDoorKSpecCheck
namespace Go.Proofs.YtcddlemkimbkcaaGreatDoor
set_option linter.unusedVariables false
set_option linter.unusedSimpArgs false
set_option linter.unusedSectionVars false
/-- 'id:' -/
def sId : Bs := [105, 100, 58]
/-- 'sha256:' -/
def sSha : Bs := [115, 104, 97, 50, 53, 54, 58]
def pKeyIs (s : Bs) : Bool :=
  if Lib.hasPrefix s sId then pNamed (s.drop 3)
  else if Lib.hasPrefix s sSha then (sumS (s.drop 7)).isSome
  else if Lib.hasPrefix s sKey then (sumS (s.drop 4)).isSome
  else false
/-- the reference's -/
def rKeyIs (s : Bs) : Bool :=
  if 3 < s.length ∧ s.take 3 = sId then pNamed (s.drop 3)
  else if 4 < s.length ∧ s.take 4 = sKey then (sumS (s.drop 4)).isSome
  else if 7 < s.length ∧ s.take 7 = sSha then (sumS (s.drop 7)).isSome
  else false
theorem hasPrefix_iff (s p : Bs) : Lib.hasPrefix s p = true ↔ s.take p.length = p := by
  unfold Lib.hasPrefix
  rw [List.isPrefixOf_iff_prefix]
  constructor
  · intro h
    obtain ⟨t, rfl⟩ := h
    simp
  · intro h
    rw [← h]
    exact List.take_prefix _ _
theorem hasPrefix_append (p s : Bs) : Lib.hasPrefix (p ++ s) p = true := by
  rw [hasPrefix_iff]; simp
theorem named_nil : pNamed [] = false := rfl
theorem sum_nil : sumS [] = none := by
  cases h : sumS [] with
  | none => rfl
  | some l =>
    obtain ⟨h1, h2⟩ := (sumS_iff [] l).1 h
    have := congrArg List.length h1
    rw [hexS_len, h2] at this
    simp at this
theorem keyIs_eq (s : Bs) : rKeyIs s = pKeyIs s := by
  unfold rKeyIs pKeyIs
  have a1 : (Lib.hasPrefix s sId = true) ↔ s.take 3 = sId := hasPrefix_iff s sId
  have a2 : (Lib.hasPrefix s sSha = true) ↔ s.take 7 = sSha := hasPrefix_iff s sSha
  have a3 : (Lib.hasPrefix s sKey = true) ↔ s.take 4 = sKey := hasPrefix_iff s sKey
  have l1 : s.take 3 = sId → 3 ≤ s.length := fun h => by have := congrArg List.length h; simp [sId] at this; omega
  have l2 : s.take 7 = sSha → 7 ≤ s.length := fun h => by have := congrArg List.length h; simp [sSha] at this; omega
  have l3 : s.take 4 = sKey → 4 ≤ s.length := fun h => by have := congrArg List.length h; simp [sKey] at this; omega
  have x12 : s.take 3 = sId → s.take 7 ≠ sSha := fun h g => by
    have : (s.take 7).take 3 = s.take 3 := by rw [List.take_take]; rfl
    rw [g, h] at this; simp [sSha, sId] at this
  have x13 : s.take 3 = sId → s.take 4 ≠ sKey := fun h g => by
    have : (s.take 4).take 3 = s.take 3 := by rw [List.take_take]; rfl
    rw [g, h] at this; simp [sKey, sId] at this
  have x23 : s.take 7 = sSha → s.take 4 ≠ sKey := fun h g => by
    have : (s.take 7).take 4 = s.take 4 := by rw [List.take_take]; rfl
    rw [g, h] at this; simp [sKey, sSha] at this
  have n1 : ∀ k, s.length = k → s.drop k = [] := fun k h => List.drop_eq_nil_of_le (by omega)
  by_cases h1 : s.take 3 = sId
  · rw [if_pos (a1.2 h1)]
    by_cases g : 3 < s.length
    · rw [if_pos ⟨g, h1⟩]
    · rw [if_neg (fun h => g h.1), if_neg (fun h => x13 h1 h.2), if_neg (fun h => x12 h1 h.2), n1 3 (by have := l1 h1; omega)]
      rfl
  · rw [if_neg (fun h => h1 h.2), if_neg (fun h => h1 (a1.1 h))]
    by_cases h2 : s.take 7 = sSha
    · rw [if_pos (a2.2 h2), if_neg (fun h => x23 h2 h.2)]
      by_cases g : 7 < s.length
      · rw [if_pos ⟨g, h2⟩]
      · rw [if_neg (fun h => g h.1), n1 7 (by have := l2 h2; omega), sum_nil]
        rfl
    · rw [if_neg (fun h => h2 (a2.1 h))]
      by_cases h3 : s.take 4 = sKey
      · rw [if_pos (a3.2 h3)]
        by_cases g : 4 < s.length
        · rw [if_pos ⟨g, h3⟩]
        · rw [if_neg (fun h => g h.1), if_neg (fun h => h2 h.2), n1 4 (by have := l3 h3; omega), sum_nil]
          rfl
      · rw [if_neg (fun h => h3 h.2), if_neg (fun h => h2 h.2), if_neg (fun h => h3 (a3.1 h))]
/-- digests' and keys' keys are keys -/
theorem keyIs_sha (d : Bs) (h : d.length = 32) : pKeyIs (sSha ++ hexS d) = true := by
  have h0 : sumS (hexS d) = some d := (sumS_iff _ _).2 ⟨rfl, h⟩
  unfold pKeyIs
  rw [if_neg (by rw [hasPrefix_iff]; simp [sSha, sId]), if_pos (hasPrefix_append _ _)]
  show (sumS (hexS d)).isSome = true
  rw [h0]; rfl
theorem keyIs_key (d : Bs) (h : d.length = 32) : pKeyIs (sKey ++ hexS d) = true := by
  have h0 : sumS (hexS d) = some d := (sumS_iff _ _).2 ⟨rfl, h⟩
  unfold pKeyIs
  rw [if_neg (by rw [hasPrefix_iff]; simp [sKey, sId]), if_neg (by rw [hasPrefix_iff]; simp [sKey, sSha]), if_pos (hasPrefix_append _ _)]
  show (sumS (hexS d)).isSome = true
  rw [h0]; rfl
theorem keyIs_id (s : Bs) : pKeyIs (sId ++ s) = pNamed s := by
  unfold pKeyIs
  rw [if_pos (hasPrefix_append _ _)]
  rfl
end Go.Proofs.YtcddlemkimbkcaaGreatDoor
