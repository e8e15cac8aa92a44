/-
  The walk of the reference's Is (keys).
-/
import Derived.Test.YtcddlemkimbkcaaGreatDoorKKeysS
import Derived.Test.YtcddlemkimbkcaaGreatDoorKRefNamed
namespace Go.Proofs.YtcddlemkimbkcaaGreatDoor
set_option linter.unusedVariables false
set_option linter.unusedSimpArgs false
set_option linter.unusedSectionVars false
open Go.RowKit
variable [OldK]
theorem ext_drop (s : Bs) (k : Nat) : (ByteArray.mk s.toArray).extract k s.length = ⟨(s.drop k).toArray⟩ := by
  apply ByteArray.ext
  simp only [ByteArray.data_extract, List.extract_toArray, List.extract_eq_take_drop]
  rw [List.take_of_length_le (by simp)]
theorem ext_take (s : Bs) (k : Nat) : ((ByteArray.mk s.toArray).extract 0 k).toList = s.take k := by
  rw [ByteArray.toList_eq]
  simp [ByteArray.data_extract]
set_option maxRecDepth 100000 in
set_option maxHeartbeats 2000000 in
theorem refKeyIs_c (s : Bs) (w : World) (hlen : s.length ≤ 1000000) :
    Calls Tryz.prog 17 #[.string ⟨s.toArray⟩] w fun e w' => e = .returned (.bool (rKeyIs s)) ∧ Fr NoB w w' := by
  have hsz : (ByteArray.mk s.toArray).size = s.length := rfl
  obtain ⟨g3, hg3⟩ : ∃ b, decide ((3 : Int) < (s.length : Int)) = b := ⟨_, rfl⟩
  obtain ⟨g4, hg4⟩ : ∃ b, decide ((4 : Int) < (s.length : Int)) = b := ⟨_, rfl⟩
  obtain ⟨g7, hg7⟩ : ∃ b, decide ((7 : Int) < (s.length : Int)) = b := ⟨_, rfl⟩
  obtain ⟨p3, hp3⟩ : ∃ b, (((ByteArray.mk s.toArray).extract 0 3).toList == [105, 100, 58]) = b := ⟨_, rfl⟩
  obtain ⟨p4, hp4⟩ : ∃ b, (((ByteArray.mk s.toArray).extract 0 4).toList == [107, 101, 121, 58]) = b := ⟨_, rfl⟩
  obtain ⟨p7, hp7⟩ : ∃ b, (((ByteArray.mk s.toArray).extract 0 7).toList == [115, 104, 97, 50, 53, 54, 58]) = b := ⟨_, rfl⟩
  have x3 := ext_drop s 3
  have x4 := ext_drop s 4
  have x7 := ext_drop s 7
  have hnm := fun W => refNamed_c (s.drop 3) W (by rw [List.length_drop]; omega)
  have hs4 := fun W => refSum_c (s.drop 4) W (by rw [List.length_drop]; omega)
  have hs7 := fun W => refSum_c (s.drop 7) W (by rw [List.length_drop]; omega)
  obtain ⟨R, hR⟩ : ∃ R, rKeyIs s = R := ⟨_, rfl⟩
  rw [hR]
  have HR : Hid ((if (g3 && p3) = true then pNamed (s.drop 3) else if (g4 && p4) = true then (sumS (s.drop 4)).isSome else if (g7 && p7) = true then (sumS (s.drop 7)).isSome else false) = R) := Lib.hid (by
    rw [← hR, ← hg3, ← hg4, ← hg7, ← hp3, ← hp4, ← hp7, ext_take, ext_take, ext_take]
    unfold rKeyIs sId sKey sSha
    simp only [Bool.and_eq_true, decide_eq_true_eq, beq_iff_eq]
    have e3 : ((3 : Int) < (s.length : Int)) ↔ 3 < s.length := by omega
    have e4 : ((4 : Int) < (s.length : Int)) ↔ 4 < s.length := by omega
    have e7 : ((7 : Int) < (s.length : Int)) ↔ 7 < s.length := by omega
    simp only [e3, e4, e7])
  have HX : Hid ((g7 && p7) = true → (g4 && p4) = false) := Lib.hid (by
    rw [← hg4, ← hg7, ← hp4, ← hp7, ext_take, ext_take]
    intro h
    simp only [Bool.and_eq_true, beq_iff_eq] at h
    have h4 : s.take 4 = [115, 104, 97, 50] := by
      have := congrArg (List.take 4) h.2
      rw [List.take_take] at this
      exact this
    rw [h4]
    simp)
  obtain ⟨bn, hbn⟩ : ∃ b, pNamed (s.drop 3) = b := ⟨_, rfl⟩
  obtain ⟨m4, hm4⟩ : ∃ b, sumS (s.drop 4) = b := ⟨_, rfl⟩
  obtain ⟨m7, hm7⟩ : ∃ b, sumS (s.drop 7) = b := ⟨_, rfl⟩
  have hr := HR.out
  rw [hbn, hm4, hm7] at hr
  rw [hbn] at hnm
  rw [hm4] at hs4
  rw [hm7] at hs7
  have Hnm := Lib.hid hnm
  have Hs4 := Lib.hid hs4
  have Hs7 := Lib.hid hs7
  have HR2 := Lib.hid hr
  have HL := Lib.hid hlen
  clear hnm hs4 hs7 hr HR hbn hm4 hm7 hR
  have l3 : g3 = true → 3 < s.length := fun h => by rw [h] at hg3; have := of_decide_eq_true hg3; omega
  have l4 : g4 = true → 4 < s.length := fun h => by rw [h] at hg4; have := of_decide_eq_true hg4; omega
  have l7 : g7 = true → 7 < s.length := fun h => by rw [h] at hg7; have := of_decide_eq_true hg7; omega
  have k3 : g3 = false → s.length ≤ 3 := fun h => by rw [h] at hg3; have := of_decide_eq_false hg3; omega
  have k4 : g4 = false → s.length ≤ 4 := fun h => by rw [h] at hg4; have := of_decide_eq_false hg4; omega
  have k7 : g7 = false → s.length ≤ 7 := fun h => by rw [h] at hg7; have := of_decide_eq_false hg7; omega
  have L3 := Lib.hid l3
  have L4 := Lib.hid l4
  have L7 := Lib.hid l7
  have K3 := Lib.hid k3
  have K4 := Lib.hid k4
  have K7 := Lib.hid k7
  clear l3 l4 l7 k3 k4 k7
  cases g3
  · have q3 := K3.out rfl
    cases g4
    · cases g7
      · go_enter Tryz.func17, Tryz.ntmps17
        go_wp2_with fail
        go_ret
        exact ⟨ret_bool HR2.out, Fr.refl⟩
      · have := L7.out rfl
        omega
    · have := L4.out rfl
      omega
  have q3 := L3.out rfl
  cases p3
  · cases g7
    · have q7 := K7.out rfl
      cases g4
      · have q4 := K4.out rfl
        go_enter Tryz.func17, Tryz.ntmps17
        go_wp2_with fail
        go_ret
        exact ⟨ret_bool HR2.out, Fr.refl⟩
      · have q4 := L4.out rfl
        cases p4
        · go_enter Tryz.func17, Tryz.ntmps17
          go_wp2_with fail
          go_ret
          exact ⟨ret_bool HR2.out, Fr.refl⟩
        · cases m4
          all_goals
            go_enter Tryz.func17, Tryz.ntmps17
            go_wp2_with fail
            refine (Hs4.out _).mono ?_
            rintro e w1 ⟨hp, hF1⟩
            obtain rfl : e = _ := hp
            have HF1 := Lib.hid hF1
            clear hF1
            go_wp2_with fail
            go_ret
            exact ⟨ret_bool HR2.out, HF1.out⟩
    · have q7 := L7.out rfl
      cases g4
      · have := K4.out rfl
        omega
      · have q4 := L4.out rfl
        cases p7
        · cases p4
          · go_enter Tryz.func17, Tryz.ntmps17
            go_wp2_with fail
            go_ret
            exact ⟨ret_bool HR2.out, Fr.refl⟩
          · cases m4
            all_goals
              go_enter Tryz.func17, Tryz.ntmps17
              go_wp2_with fail
              refine (Hs4.out _).mono ?_
              rintro e w1 ⟨hp, hF1⟩
              obtain rfl : e = _ := hp
              have HF1 := Lib.hid hF1
              clear hF1
              go_wp2_with fail
              go_ret
              exact ⟨ret_bool HR2.out, HF1.out⟩
        · cases p4
          · cases m7
            all_goals
              go_enter Tryz.func17, Tryz.ntmps17
              go_wp2_with fail
              refine (Hs7.out _).mono ?_
              rintro e w1 ⟨hp, hF1⟩
              obtain rfl : e = _ := hp
              have HF1 := Lib.hid hF1
              clear hF1
              go_wp2_with fail
              go_ret
              exact ⟨ret_bool HR2.out, HF1.out⟩
          · exact absurd (HX.out rfl) (by simp)
  · go_enter Tryz.func17, Tryz.ntmps17
    go_wp2_with fail
    refine (Hnm.out _).mono ?_
    rintro e w1 ⟨rfl, rfl⟩
    go_wp2_with fail
    go_ret
    exact ⟨ret_bool HR2.out, Fr.refl⟩
end Go.Proofs.YtcddlemkimbkcaaGreatDoor
