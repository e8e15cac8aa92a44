/-
  The walks of the reference's place, Unhex and Sum.
-/
import Derived.Test.YtcddlemkimbkcaaGreatDoorKRefHex
import Derived.Test.YtcddlemkimbkcaaGreatDoorKEnAt
namespace Go.Proofs.YtcddlemkimbkcaaGreatDoor
set_option linter.unusedVariables false
set_option linter.unusedSimpArgs false
set_option linter.unusedSectionVars false
open Go.RowKit
variable [OldK]
/-- which number a sign stands for, of these signs -/
def placeFrom (c : UInt8) : Bs → Nat → Int
  | [], _ => -1
  | x :: r, n => if x = c then n else placeFrom c r (n + 1)
def rPlace (c : UInt8) : Int := placeFrom c hexes 0
theorem place_bound (c : UInt8) : ∀ (l : Bs) (n : Nat), n + l.length ≤ 16 → -1 ≤ placeFrom c l n ∧ placeFrom c l n ≤ 15
  | [], n, h => by simp [placeFrom]
  | x :: r, n, h => by
    unfold placeFrom
    rw [List.length_cons] at h
    split
    · omega
    · exact place_bound c r (n + 1) (by omega)
theorem place_sgn : ∀ n : Fin 16, rPlace (sgn hexes n.val) = n.val := by decide +kernel
set_option maxRecDepth 100000 in
set_option maxHeartbeats 1000000 in
theorem place_c (c : UInt8) (w : World) : Calls Tryz.prog 165 #[.int .u8 c.toNat, .int .i64 4] w fun e w' => e = .returned (.int .i64 (rPlace c)) ∧ w = w' := by
  obtain ⟨R, hR⟩ : ∃ R, rPlace c = R := ⟨_, rfl⟩
  rw [hR]
  have HR : Hid (placeFrom c (hexes.drop 0) 0 = R) := Lib.hid hR
  clear hR
  go_enter Tryz.func165, Tryz.ntmps165
  go_wp2_with fail
  go_loopg [5] 65 (fun g vi wr => ∃ n : Nat, vi = .int .i64 n ∧ n ≤ 64 ∧ n + g = 65 ∧ w = wr ∧ Hid (placeFrom c (hexes.drop n) n = R))
  case atStart => exact ⟨0, rfl, by omega, by omega, rfl, HR⟩
  case round =>
    obtain ⟨n, rfl, hn, hng, rfl, HS⟩ := hrel
    by_cases h64 : n < 64
    · have h64i : decide ((n : Int) < 64) = true := decide_eq_true (by omega)
      by_cases h16 : n < 16
      · have h16i : decide ((n : Int) < 16) = true := decide_eq_true (by omega)
        have hd : hexes.drop n = sgn hexes n :: hexes.drop (n + 1) := by
          have : n < hexes.length := h16
          rw [List.drop_eq_getElem_cons this]
          congr 1
          unfold sgn
          rw [List.getD_eq_getElem?_getD, List.getElem?_eq_getElem this]
          rfl
        have hS := HS.out
        rw [hd, placeFrom] at hS
        have hb := hexes_at h16
        obtain ⟨x, hx⟩ : ∃ x, sgn hexes n = x := ⟨_, rfl⟩
        rw [hx] at hS hb
        cases hxc : (x == c) with
        | true =>
          have hxc2 : x = c := by simpa using hxc
          rw [if_pos hxc2] at hS
          have ht : ((x.toNat : Int) == (c.toNat : Int)) = true := by rw [hxc2]; simp
          have HS2 := Lib.hid hS
          clear hS HS hd hx hxc2 hxc
          go_wp2_with fail
          go_ret
          exact ⟨ret_int HS2.out, rfl⟩
        | false =>
          have hxc2 : ¬ x = c := by simpa using hxc
          rw [if_neg hxc2] at hS
          have ht : ((x.toNat : Int) == (c.toNat : Int)) = false := by
            rw [beq_eq_false_iff_ne]
            intro e
            exact hxc2 (UInt8.toNat_inj.1 (by omega))
          have HS2 := Lib.hid hS
          clear hS HS hd hx hxc2 hxc
          go_wp2_with fail
          go_roundg (gk - 1)
          case measure => omega
          case rel => exact ⟨n + 1, by simp, by omega, by omega, rfl, HS2⟩
      · have h16i : decide ((n : Int) < 16) = false := decide_eq_false (by omega)
        have hS := HS.out
        rw [List.drop_eq_nil_of_le (show hexes.length ≤ n from by show 16 ≤ n; omega)] at hS
        have HS2 : Hid (placeFrom c (hexes.drop (n + 1)) (n + 1) = R) := Lib.hid (by rw [List.drop_eq_nil_of_le (show hexes.length ≤ n + 1 from by show 16 ≤ n + 1; omega)]; exact hS)
        clear hS HS
        go_wp2_with fail
        go_roundg (gk - 1)
        case measure => omega
        case rel => exact ⟨n + 1, by simp, by omega, by omega, rfl, HS2⟩
    · have h64i : decide ((n : Int) < 64) = false := decide_eq_false (by omega)
      have hS := HS.out
      rw [List.drop_eq_nil_of_le (show hexes.length ≤ n from by show 16 ≤ n; omega)] at hS
      have HS2 := Lib.hid hS
      clear hS HS
      go_wp2_with fail
      go_ret
      exact ⟨ret_int HS2.out, rfl⟩
/-- what figures, two by two, stand for -/
def rUn : Bs → Bs
  | a :: b :: r => UInt8.ofNat ((16 * rPlace a + rPlace b) % 256).toNat :: rUn r
  | _ => []
theorem rUn_hex : ∀ m : Bs, rUn (hexS m) = m
  | [] => rfl
  | c :: m => by
    have h8 := c.toNat_lt
    have h1 := place_sgn ⟨c.toNat / 16, by omega⟩
    have h2 := place_sgn ⟨c.toNat % 16, by omega⟩
    simp only at h1 h2
    unfold hexS rUn
    rw [h1, h2, rUn_hex m]
    congr 1
    rw [show ((16 * ((c.toNat / 16 : Nat) : Int) + ((c.toNat % 16 : Nat) : Int)) % 256).toNat = c.toNat by omega]
    simp
theorem rUn_len : ∀ s : Bs, (rUn s).length ≤ s.length
  | [] => Nat.le_refl _
  | [_] => Nat.zero_le _
  | a :: b :: r => by
    have := rUn_len r
    unfold rUn
    simp only [List.length_cons]
    omega
/-- bytes, or none -/
def RUnPost (B : Nat) (r : Option Bs) (e : Ending) (w' : World) : Prop :=
  match r with
  | some b => ∃ a c, e = .returned (.tuple #[.slice a b.length c, .bool true]) ∧ SB (fun k => B ≤ k) b (.slice a b.length c) w'
  | none => e = .returned (.tuple #[.slice none 0 0, .bool false])
set_option maxRecDepth 100000 in
set_option maxHeartbeats 2000000 in
theorem refUnhex_c (s : Bs) (w : World) (hlen : s.length ≤ 1000000) :
    Calls Tryz.prog 112 #[.string ⟨s.toArray⟩] w fun e w' => RUnPost w.heap.size (unhexS s) e w' ∧ Fr NoB w w' := by
  rw [← unhex_ref rUn rUn_hex s]
  have hsz : (ByteArray.mk s.toArray).size = s.length := rfl
  obtain ⟨F, hF⟩ : ∃ F, rUn s = F := ⟨_, rfl⟩
  have hfl := rUn_len s
  rw [hF] at hfl ⊢
  have HG : Hid (([] : Bs) ++ rUn (s.drop 0) = F) := Lib.hid (by simpa using hF)
  have hO0 : OB w.heap.size [] (.slice none 0 0) w := ⟨rfl, .inl ⟨rfl, rfl⟩⟩
  have HO0 := Lib.hid hO0
  obtain ⟨i0, hi0, hz0, hz1, hz2⟩ := info_parts Tryz.infoByte
  clear hF hO0
  go_enter Tryz.func112, Tryz.ntmps112
  go_wp2_with fail
  go_loopg [4, 5] (s.length + 2) (fun g vo vi wr => ∃ (i : Nat) (out : Bs), vi = .int .i64 i ∧ i ≤ s.length + 1 ∧ s.length + 2 ≤ i + g ∧ out.length ≤ i ∧ Hid (OB w.heap.size out vo wr) ∧ Hid (Fr NoB w wr) ∧ Hid (out ++ rUn (s.drop i) = F))
  case atStart => exact ⟨0, [], rfl, by omega, by omega, Nat.le_refl _, HO0, Lib.hid Fr.refl, HG⟩
  case round =>
    obtain ⟨i, out, rfl, hi, hgk, hol, HO, HF, HS⟩ := hrel
    have hwB := HF.out.size
    by_cases hlt : i + 1 < s.length
    · have hlti : decide ((i : Int) + 1 < (s.length : Int)) = true := decide_eq_true (by omega)
      obtain ⟨c1, hc1⟩ : ∃ c, s[i]? = some c := ⟨_, List.getElem?_eq_getElem (by omega)⟩
      obtain ⟨c2, hc2⟩ : ∃ c, s[i + 1]? = some c := ⟨_, List.getElem?_eq_getElem hlt⟩
      have hb1 : ∀ h, (ByteArray.mk s.toArray)[i]'h = c1 := by
        intro h
        obtain ⟨h1, h2⟩ := List.getElem?_eq_some_iff.1 hc1
        exact h2
      have hb2 : ∀ h, (ByteArray.mk s.toArray)[i + 1]'h = c2 := by
        intro h
        obtain ⟨h1, h2⟩ := List.getElem?_eq_some_iff.1 hc2
        exact h2
      have hS := HS.out
      rw [drop_at hc1, drop_at hc2, rUn] at hS
      have hp1 := fun W => place_c c1 W
      have hp2 := fun W => place_c c2 W
      obtain ⟨l1, l2⟩ := place_bound c1 hexes 0 (by decide)
      obtain ⟨l3, l4⟩ := place_bound c2 hexes 0 (by decide)
      change -1 ≤ rPlace c1 at l1
      change rPlace c1 ≤ 15 at l2
      change -1 ≤ rPlace c2 at l3
      change rPlace c2 ≤ 15 at l4
      obtain ⟨p1, hq1⟩ : ∃ p, rPlace c1 = p := ⟨_, rfl⟩
      obtain ⟨p2, hq2⟩ : ∃ p, rPlace c2 = p := ⟨_, rfl⟩
      rw [hq1] at hS hp1 l1 l2
      rw [hq2] at hS hp2 l3 l4
      obtain ⟨y, hy⟩ : ∃ y, UInt8.ofNat ((16 * p1 + p2) % 256).toNat = y := ⟨_, rfl⟩
      rw [hy] at hS
      have hw1 : IntKind.u8.wrap (16 * p1 + p2) = (y.toNat : Int) := by
        rw [← hy]
        have : (UInt8.ofNat ((16 * p1 + p2) % 256).toNat).toNat = ((16 * p1 + p2) % 256).toNat := by
          rw [UInt8.toNat_ofNat']
          omega
        rw [this]
        simp [IntKind.wrap, IntKind.signed, IntKind.bits]
        omega
      have hw2 : IntKind.i64.wrap (16 * p1) = 16 * p1 := IntWalk.i64_in _ (by omega)
      have hw3 : IntKind.i64.wrap (16 * p1 + p2) = 16 * p1 + p2 := IntWalk.i64_in _ (by omega)
      have hw4 : IntKind.i64.wrap ((i : Int) + 1) = (i : Int) + 1 := IntWalk.i64_in _ (by omega)
      have hw5 : (0 : Int) ≤ (i : Int) + 1 := by omega
      have hw6 : ((i : Int) + 1).toNat = i + 1 := by omega
      have hw7 : (i : Int) + 1 < (s.length : Int) := by omega
      have hw8 : (i : Int) < (s.length : Int) := by omega
      have HS2 := Lib.hid hS
      have Hp1 := Lib.hid hp1
      have Hp2 := Lib.hid hp2
      obtain ⟨ao, co, hvo⟩ := HO.out.form
      subst hvo
      have HOL := Lib.hid hol
      clear hc1 hc2 hS HS hp1 hp2 hq1 hq2 hy hol
      go_upto_region 5 with (fail)
      refine wp_region_held_drew (S := fun _ => True) (by kernel_rfl) trivial (fun hHeld => ?_)
      simp only [List.size_toArray, List.length_cons, List.length_nil]
      refine wpAnyH_take (i := 0) (v := ?_) rfl (by kernel_rfl) (by kernel_rfl) (by kernel_rfl) (fun _ _ _ h => h) (Or.inl ⟨by rfl, ?_⟩) hHeld ?_
      rotate_left
      · intro W hSw
        try simp only [List.getElem_toArray, List.getElem_cons_zero, List.getElem_cons_succ]
        go_simp
        try rw [if_neg (by omega)]
        try with_reducible rfl
      try simp only [Act.put, List.setIfInBounds_toArray, List.set_cons_zero, List.set_cons_succ, List.getElem_toArray, List.getElem_cons_zero, List.getElem_cons_succ]
      refine wpAnyH_take (i := 1) (v := ?_) rfl (by kernel_rfl) (by kernel_rfl) (by kernel_rfl) (fun _ _ _ h => h) (Or.inl ⟨by rfl, ?_⟩) hHeld ?_
      rotate_left
      · intro W hSw
        try simp only [List.getElem_toArray, List.getElem_cons_zero, List.getElem_cons_succ]
        go_simp
        try rw [if_neg (by omega)]
        try with_reducible rfl
      try simp only [Act.put, List.setIfInBounds_toArray, List.set_cons_zero, List.set_cons_succ, List.getElem_toArray, List.getElem_cons_zero, List.getElem_cons_succ]
      refine wpAnyH_take (i := 2) (v := ?_) rfl (by kernel_rfl) (by kernel_rfl) (by kernel_rfl) (fun _ _ _ h => h) (Or.inl ⟨by rfl, ?_⟩) hHeld ?_
      rotate_left
      · intro W hSw
        try simp only [List.getElem_toArray, List.getElem_cons_zero, List.getElem_cons_succ]
        go_simp
        try rw [if_neg (by omega)]
        try with_reducible rfl
      try simp only [Act.put, List.setIfInBounds_toArray, List.set_cons_zero, List.set_cons_succ, List.getElem_toArray, List.getElem_cons_zero, List.getElem_cons_succ]
      refine wpAnyH_take (i := 3) (v := ?_) rfl (by kernel_rfl) (by kernel_rfl) (by kernel_rfl) (fun _ _ _ h => h) (Or.inl ⟨by rfl, ?_⟩) hHeld ?_
      rotate_left
      · intro W hSw
        try simp only [List.getElem_toArray, List.getElem_cons_zero, List.getElem_cons_succ]
        go_simp
        try rw [if_neg (by omega)]
        try with_reducible rfl
      try simp only [Act.put, List.setIfInBounds_toArray, List.set_cons_zero, List.set_cons_succ, List.getElem_toArray, List.getElem_cons_zero, List.getElem_cons_succ]
      refine wpAnyH_take (i := 6) (v := ?_) rfl (by kernel_rfl) (by kernel_rfl) (by kernel_rfl) (fun _ _ _ h => h) (Or.inl ⟨by rfl, ?_⟩) hHeld ?_
      rotate_left
      · intro W hSw
        try simp only [List.getElem_toArray, List.getElem_cons_zero, List.getElem_cons_succ]
        go_simp
        try rw [if_neg (by omega)]
        try with_reducible rfl
      try simp only [Act.put, List.setIfInBounds_toArray, List.set_cons_zero, List.set_cons_succ, List.getElem_toArray, List.getElem_cons_zero, List.getElem_cons_succ]
      refine wpAnyH_take (i := 7) (v := ?_) rfl (by kernel_rfl) (by kernel_rfl) (by kernel_rfl) (fun _ _ _ h => h) (Or.inl ⟨by rfl, ?_⟩) hHeld ?_
      rotate_left
      · intro W hSw
        try simp only [List.getElem_toArray, List.getElem_cons_zero, List.getElem_cons_succ]
        go_simp
        try rw [if_neg (by omega)]
        try with_reducible rfl
      try simp only [Act.put, List.setIfInBounds_toArray, List.set_cons_zero, List.set_cons_succ, List.getElem_toArray, List.getElem_cons_zero, List.getElem_cons_succ]
      refine wpAnyH_take (i := 8) (v := ?_) rfl (by kernel_rfl) (by kernel_rfl) (by kernel_rfl) (fun _ _ _ h => h) (Or.inl ⟨by rfl, ?_⟩) hHeld ?_
      rotate_left
      · intro W hSw
        try simp only [List.getElem_toArray, List.getElem_cons_zero, List.getElem_cons_succ]
        go_simp
        try rw [if_neg (by omega)]
        try with_reducible rfl
      try simp only [Act.put, List.setIfInBounds_toArray, List.set_cons_zero, List.set_cons_succ, List.getElem_toArray, List.getElem_cons_zero, List.getElem_cons_succ]
      refine wpAnyH_take (i := 9) (v := ?_) rfl (by kernel_rfl) (by kernel_rfl) (by kernel_rfl) (fun _ _ _ h => h) (Or.inl ⟨by rfl, ?_⟩) hHeld ?_
      rotate_left
      · intro W hSw
        try simp only [List.getElem_toArray, List.getElem_cons_zero, List.getElem_cons_succ]
        go_simp
        try rw [if_neg (by omega)]
        try with_reducible rfl
      try simp only [Act.put, List.setIfInBounds_toArray, List.set_cons_zero, List.set_cons_succ, List.getElem_toArray, List.getElem_cons_zero, List.getElem_cons_succ]
      refine wpAnyH_ready (rs := [4]) (by kernel_rfl) (by simp) (AllReadyH.cons rfl (fun K hK => ?_) AllReadyH.nil)
      try simp only [List.getElem_toArray, List.getElem_cons_zero, List.getElem_cons_succ]
      go_simp
      refine (Hp1.out _).mono ?_; rintro e w1 ⟨rfl, rfl⟩
      refine hK.out _ _ trivial (fun hHeld => ?_)
      clear hK K
      try simp only [Act.put, List.setIfInBounds_toArray, List.set_cons_zero, List.set_cons_succ, List.getElem_toArray, List.getElem_cons_zero, List.getElem_cons_succ]
      refine wpAnyH_take (i := 5) (v := ?_) rfl (by kernel_rfl) (by kernel_rfl) (by kernel_rfl) (fun _ _ _ h => h) (Or.inl ⟨by rfl, ?_⟩) hHeld ?_
      rotate_left
      · intro W hSw
        try simp only [List.getElem_toArray, List.getElem_cons_zero, List.getElem_cons_succ]
        go_simp
        try rw [if_neg (by omega)]
        try with_reducible rfl
      try simp only [Act.put, List.setIfInBounds_toArray, List.set_cons_zero, List.set_cons_succ, List.getElem_toArray, List.getElem_cons_zero, List.getElem_cons_succ]
      refine wpAnyH_ready (rs := [10]) (by kernel_rfl) (by simp) (AllReadyH.cons rfl (fun K hK => ?_) AllReadyH.nil)
      try simp only [List.getElem_toArray, List.getElem_cons_zero, List.getElem_cons_succ]
      go_simp
      refine (Hp2.out _).mono ?_; rintro e w1 ⟨rfl, rfl⟩
      refine hK.out _ _ trivial (fun hHeld => ?_)
      clear hK K
      try simp only [Act.put, List.setIfInBounds_toArray, List.set_cons_zero, List.set_cons_succ, List.getElem_toArray, List.getElem_cons_zero, List.getElem_cons_succ]
      refine wpAnyH_take (i := 11) (v := ?_) rfl (by kernel_rfl) (by kernel_rfl) (by kernel_rfl) (fun _ _ _ h => h) (Or.inl ⟨by rfl, ?_⟩) hHeld ?_
      rotate_left
      · intro W hSw
        try simp only [List.getElem_toArray, List.getElem_cons_zero, List.getElem_cons_succ]
        go_simp
        try rw [if_neg (by omega)]
        try with_reducible rfl
      try simp only [Act.put, List.setIfInBounds_toArray, List.set_cons_zero, List.set_cons_succ, List.getElem_toArray, List.getElem_cons_zero, List.getElem_cons_succ]
      refine wpAnyH_take (i := 12) (v := ?_) rfl (by kernel_rfl) (by kernel_rfl) (by kernel_rfl) (fun _ _ _ h => h) (Or.inl ⟨by rfl, ?_⟩) hHeld ?_
      rotate_left
      · intro W hSw
        try simp only [List.getElem_toArray, List.getElem_cons_zero, List.getElem_cons_succ]
        go_simp
        try rw [if_neg (by omega)]
        try with_reducible rfl
      try simp only [Act.put, List.setIfInBounds_toArray, List.set_cons_zero, List.set_cons_succ, List.getElem_toArray, List.getElem_cons_zero, List.getElem_cons_succ]
      refine wpAnyH_ready (rs := [13]) (by kernel_rfl) (by simp) (AllReadyH.cons rfl (fun K hK => ?_) AllReadyH.nil)
      try simp only [List.getElem_toArray, List.getElem_cons_zero, List.getElem_cons_succ]
      go_simp
      refine hK.out _ _ trivial (fun hHeld => ?_)
      clear hK K
      try simp only [Act.put, List.setIfInBounds_toArray, List.set_cons_zero, List.set_cons_succ, List.getElem_toArray, List.getElem_cons_zero, List.getElem_cons_succ]
      refine wpAnyH_ready (rs := [14]) (by kernel_rfl) (by simp) (AllReadyH.cons rfl (fun K hK => ?_) AllReadyH.nil)
      try simp only [List.getElem_toArray, List.getElem_cons_zero, List.getElem_cons_succ]
      rw [if_pos (by rfl)]; refine wp_append_many (.tmp 13) (.tmp 26) 36 (by rfl) w.heap.size 5 i0 (.int .u8 0) 1 1 Tryz.underlying36 hi0 hz0 hz1 hz2 rfl (by decide) (.slice ao out.length co) out.length (Lib.byteCells out) (by rfl) (by exact HO.out.alloc (.cells #[.int .u8 y.toNat] 5)) ⟨wr.heap.size, 0, none⟩ 1 1 [.int .u8 y.toNat] (by rfl) rfl (by exact cells_at wr 5 [.int .u8 y.toNat] _ rfl) (by simp [Value.oneCell']) (by have := HOL.out; unfold maxLen; omega) (by have := HOL.out; omega) (by simp; omega) ?_; intro v' w2 hown' hgrow
      refine hK.out _ _ trivial (fun hHeld => ?_)
      clear hK K
      try simp only [Act.put, List.setIfInBounds_toArray, List.set_cons_zero, List.set_cons_succ, List.getElem_toArray, List.getElem_cons_zero, List.getElem_cons_succ]
      obtain ⟨hO3, hF3⟩ := HO.out.push (news := [y]) (Fr.refl.alloc (.cells #[.int .u8 y.toNat] 5)).drew hown' hgrow
      have HO3 := Lib.hid hO3
      have HF3 := Lib.hid (HF.out.trans hF3 (fun _ _ h => .inr h))
      clear hown' hgrow hO3 hF3 hw1 hw2 hw3 hw4 hw5 hw6 hw7 hw8
      refine wpAnyH_take (i := 15) (v := ?_) rfl (by kernel_rfl) (by kernel_rfl) (by kernel_rfl) (fun _ _ _ h => h) (Or.inl ⟨by rfl, ?_⟩) hHeld ?_
      rotate_left
      · intro W hSw
        try simp only [List.getElem_toArray, List.getElem_cons_zero, List.getElem_cons_succ]
        go_simp
        try rw [if_neg (by omega)]
        try with_reducible rfl
      try simp only [Act.put, List.setIfInBounds_toArray, List.set_cons_zero, List.set_cons_succ, List.getElem_toArray, List.getElem_cons_zero, List.getElem_cons_succ]
      refine wpAnyH_done (by kernel_rfl) ?_ _
      clear hHeld
      go_wp2_with fail
      go_roundg (gk - 1)
      case measure => omega
      case rel => exact ⟨i + 2, out ++ [y], by simp, by omega, by omega, by have := HOL.out; simp; omega, HO3, HF3, by have := HS2.out; simpa using Lib.hid this⟩
    · have hlti : decide ((i : Int) + 1 < (s.length : Int)) = false := decide_eq_false (by omega)
      have hS := HS.out
      have hd : rUn (s.drop i) = [] := by
        rcases hx : s.drop i with _ | ⟨a, _ | ⟨b, r⟩⟩
        · rfl
        · rfl
        · have := congrArg List.length hx
          rw [List.length_drop] at this
          simp only [List.length_cons] at this
          omega
      rw [hd, List.append_nil] at hS
      subst hS
      have hx := fun W (h : Fr NoB wr W) => refHex_c (fun k => w.heap.size ≤ k) out _ W (HO.out.sb.fr h (fun _ _ _ _ h => h)) (by omega)
      obtain ⟨ao, co, hvo⟩ := HO.out.form
      subst hvo
      obtain ⟨X, hX⟩ : ∃ X, hexS out = X := ⟨_, rfl⟩
      have HOL := Lib.hid hol
      rw [hX] at hx
      have Hx := Lib.hid hx
      have HX := Lib.hid hX
      cases hb : (X == s) with
      | true =>
        have hb2 : (X != s) = false := by rw [bne, hb]; rfl
        have Hb : Hid (hexS out = s) := Lib.hid (by rw [hX]; simpa using hb)
        clear hd hx hX hol HS hfl
        go_wp2_with fail
        refine (Hx.out _ Fr.refl).mono ?_
        rintro e w1 ⟨rfl, hF1⟩
        have HF1 := Lib.hid hF1
        clear hF1
        go_wp2_with fail
        go_ret2
        try rw [if_pos Hb.out]
        exact ⟨⟨ao, co, rfl, HO.out.sb.fr HF1.out (fun _ _ _ _ h => h)⟩, HF.out.trans' HF1.out⟩
      | false =>
        have hb2 : (X != s) = true := by rw [bne, hb]; rfl
        have Hb : Hid (¬ hexS out = s) := Lib.hid (by rw [hX]; simpa using hb)
        clear hd hx hX hol HS hfl
        go_wp2_with fail
        refine (Hx.out _ Fr.refl).mono ?_
        rintro e w1 ⟨rfl, hF1⟩
        have HF1 := Lib.hid hF1
        clear hF1
        go_wp2_with fail
        go_ret2
        try rw [if_neg Hb.out]
        exact ⟨rfl, HF.out.trans' HF1.out⟩
/-- a digest, or none -/
def RSumPost (r : Option Bs) (e : Ending) : Prop :=
  match r with
  | some b => e = .returned (.tuple #[.agg (Lib.byteCells b).toArray, .bool true])
  | none => e = .returned (.tuple #[.agg #[.int .u8 0, .int .u8 0, .int .u8 0, .int .u8 0, .int .u8 0, .int .u8 0, .int .u8 0, .int .u8 0, .int .u8 0, .int .u8 0, .int .u8 0, .int .u8 0, .int .u8 0, .int .u8 0, .int .u8 0, .int .u8 0, .int .u8 0, .int .u8 0, .int .u8 0, .int .u8 0, .int .u8 0, .int .u8 0, .int .u8 0, .int .u8 0, .int .u8 0, .int .u8 0, .int .u8 0, .int .u8 0, .int .u8 0, .int .u8 0, .int .u8 0, .int .u8 0], .bool false])
set_option maxRecDepth 100000 in
set_option maxHeartbeats 2000000 in
theorem refSum_c (s : Bs) (w : World) (hlen : s.length ≤ 1000000) :
    Calls Tryz.prog 61 #[.string ⟨s.toArray⟩] w fun e w' => RSumPost (sumS s) e ∧ Fr NoB w w' := by
  have hc := fun W => refUnhex_c s W hlen
  unfold sumS
  obtain ⟨U, hU⟩ : ∃ U, unhexS s = U := ⟨_, rfl⟩
  rw [hU] at hc ⊢
  have Hc := Lib.hid hc
  clear hc hU
  have hA : ((w.alloc (.cells #[.int .u8 0, .int .u8 0, .int .u8 0, .int .u8 0, .int .u8 0, .int .u8 0, .int .u8 0, .int .u8 0, .int .u8 0, .int .u8 0, .int .u8 0, .int .u8 0, .int .u8 0, .int .u8 0, .int .u8 0, .int .u8 0, .int .u8 0, .int .u8 0, .int .u8 0, .int .u8 0, .int .u8 0, .int .u8 0, .int .u8 0, .int .u8 0, .int .u8 0, .int .u8 0, .int .u8 0, .int .u8 0, .int .u8 0, .int .u8 0, .int .u8 0, .int .u8 0] 23)).alloc (.cells #[.int .u8 0, .int .u8 0, .int .u8 0, .int .u8 0, .int .u8 0, .int .u8 0, .int .u8 0, .int .u8 0, .int .u8 0, .int .u8 0, .int .u8 0, .int .u8 0, .int .u8 0, .int .u8 0, .int .u8 0, .int .u8 0, .int .u8 0, .int .u8 0, .int .u8 0, .int .u8 0, .int .u8 0, .int .u8 0, .int .u8 0, .int .u8 0, .int .u8 0, .int .u8 0, .int .u8 0, .int .u8 0, .int .u8 0, .int .u8 0, .int .u8 0, .int .u8 0] 23)).heap[w.heap.size]? = some (.cells #[.int .u8 0, .int .u8 0, .int .u8 0, .int .u8 0, .int .u8 0, .int .u8 0, .int .u8 0, .int .u8 0, .int .u8 0, .int .u8 0, .int .u8 0, .int .u8 0, .int .u8 0, .int .u8 0, .int .u8 0, .int .u8 0, .int .u8 0, .int .u8 0, .int .u8 0, .int .u8 0, .int .u8 0, .int .u8 0, .int .u8 0, .int .u8 0, .int .u8 0, .int .u8 0, .int .u8 0, .int .u8 0, .int .u8 0, .int .u8 0, .int .u8 0, .int .u8 0] 23 (0, 0)) := by
    rw [Below.heap_alloc _ _ _ (by rw [World.size_alloc]; omega)]
    exact heap_alloc_new w _
  have hD : ((w.alloc (.cells #[.int .u8 0, .int .u8 0, .int .u8 0, .int .u8 0, .int .u8 0, .int .u8 0, .int .u8 0, .int .u8 0, .int .u8 0, .int .u8 0, .int .u8 0, .int .u8 0, .int .u8 0, .int .u8 0, .int .u8 0, .int .u8 0, .int .u8 0, .int .u8 0, .int .u8 0, .int .u8 0, .int .u8 0, .int .u8 0, .int .u8 0, .int .u8 0, .int .u8 0, .int .u8 0, .int .u8 0, .int .u8 0, .int .u8 0, .int .u8 0, .int .u8 0, .int .u8 0] 23)).alloc (.cells #[.int .u8 0, .int .u8 0, .int .u8 0, .int .u8 0, .int .u8 0, .int .u8 0, .int .u8 0, .int .u8 0, .int .u8 0, .int .u8 0, .int .u8 0, .int .u8 0, .int .u8 0, .int .u8 0, .int .u8 0, .int .u8 0, .int .u8 0, .int .u8 0, .int .u8 0, .int .u8 0, .int .u8 0, .int .u8 0, .int .u8 0, .int .u8 0, .int .u8 0, .int .u8 0, .int .u8 0, .int .u8 0, .int .u8 0, .int .u8 0, .int .u8 0, .int .u8 0] 23)).heap[w.heap.size + 1]? = some (.cells #[.int .u8 0, .int .u8 0, .int .u8 0, .int .u8 0, .int .u8 0, .int .u8 0, .int .u8 0, .int .u8 0, .int .u8 0, .int .u8 0, .int .u8 0, .int .u8 0, .int .u8 0, .int .u8 0, .int .u8 0, .int .u8 0, .int .u8 0, .int .u8 0, .int .u8 0, .int .u8 0, .int .u8 0, .int .u8 0, .int .u8 0, .int .u8 0, .int .u8 0, .int .u8 0, .int .u8 0, .int .u8 0, .int .u8 0, .int .u8 0, .int .u8 0, .int .u8 0] 23 (0, 0)) := by
    have := heap_alloc_new (w.alloc (.cells #[.int .u8 0, .int .u8 0, .int .u8 0, .int .u8 0, .int .u8 0, .int .u8 0, .int .u8 0, .int .u8 0, .int .u8 0, .int .u8 0, .int .u8 0, .int .u8 0, .int .u8 0, .int .u8 0, .int .u8 0, .int .u8 0, .int .u8 0, .int .u8 0, .int .u8 0, .int .u8 0, .int .u8 0, .int .u8 0, .int .u8 0, .int .u8 0, .int .u8 0, .int .u8 0, .int .u8 0, .int .u8 0, .int .u8 0, .int .u8 0, .int .u8 0, .int .u8 0] 23)) (.cells #[.int .u8 0, .int .u8 0, .int .u8 0, .int .u8 0, .int .u8 0, .int .u8 0, .int .u8 0, .int .u8 0, .int .u8 0, .int .u8 0, .int .u8 0, .int .u8 0, .int .u8 0, .int .u8 0, .int .u8 0, .int .u8 0, .int .u8 0, .int .u8 0, .int .u8 0, .int .u8 0, .int .u8 0, .int .u8 0, .int .u8 0, .int .u8 0, .int .u8 0, .int .u8 0, .int .u8 0, .int .u8 0, .int .u8 0, .int .u8 0, .int .u8 0, .int .u8 0] 23)
    rwa [World.size_alloc] at this
  have hF : Fr NoB w ((w.alloc (.cells #[.int .u8 0, .int .u8 0, .int .u8 0, .int .u8 0, .int .u8 0, .int .u8 0, .int .u8 0, .int .u8 0, .int .u8 0, .int .u8 0, .int .u8 0, .int .u8 0, .int .u8 0, .int .u8 0, .int .u8 0, .int .u8 0, .int .u8 0, .int .u8 0, .int .u8 0, .int .u8 0, .int .u8 0, .int .u8 0, .int .u8 0, .int .u8 0, .int .u8 0, .int .u8 0, .int .u8 0, .int .u8 0, .int .u8 0, .int .u8 0, .int .u8 0, .int .u8 0] 23)).alloc (.cells #[.int .u8 0, .int .u8 0, .int .u8 0, .int .u8 0, .int .u8 0, .int .u8 0, .int .u8 0, .int .u8 0, .int .u8 0, .int .u8 0, .int .u8 0, .int .u8 0, .int .u8 0, .int .u8 0, .int .u8 0, .int .u8 0, .int .u8 0, .int .u8 0, .int .u8 0, .int .u8 0, .int .u8 0, .int .u8 0, .int .u8 0, .int .u8 0, .int .u8 0, .int .u8 0, .int .u8 0, .int .u8 0, .int .u8 0, .int .u8 0, .int .u8 0, .int .u8 0] 23)) := (Fr.refl.alloc _).alloc _
  have hsW : ((w.alloc (.cells #[.int .u8 0, .int .u8 0, .int .u8 0, .int .u8 0, .int .u8 0, .int .u8 0, .int .u8 0, .int .u8 0, .int .u8 0, .int .u8 0, .int .u8 0, .int .u8 0, .int .u8 0, .int .u8 0, .int .u8 0, .int .u8 0, .int .u8 0, .int .u8 0, .int .u8 0, .int .u8 0, .int .u8 0, .int .u8 0, .int .u8 0, .int .u8 0, .int .u8 0, .int .u8 0, .int .u8 0, .int .u8 0, .int .u8 0, .int .u8 0, .int .u8 0, .int .u8 0] 23)).alloc (.cells #[.int .u8 0, .int .u8 0, .int .u8 0, .int .u8 0, .int .u8 0, .int .u8 0, .int .u8 0, .int .u8 0, .int .u8 0, .int .u8 0, .int .u8 0, .int .u8 0, .int .u8 0, .int .u8 0, .int .u8 0, .int .u8 0, .int .u8 0, .int .u8 0, .int .u8 0, .int .u8 0, .int .u8 0, .int .u8 0, .int .u8 0, .int .u8 0, .int .u8 0, .int .u8 0, .int .u8 0, .int .u8 0, .int .u8 0, .int .u8 0, .int .u8 0, .int .u8 0] 23)).heap.size = w.heap.size + 2 := by rw [World.size_alloc, World.size_alloc]
  have H32 := Lib.hid (show ((#[.int .u8 0, .int .u8 0, .int .u8 0, .int .u8 0, .int .u8 0, .int .u8 0, .int .u8 0, .int .u8 0, .int .u8 0, .int .u8 0, .int .u8 0, .int .u8 0, .int .u8 0, .int .u8 0, .int .u8 0, .int .u8 0, .int .u8 0, .int .u8 0, .int .u8 0, .int .u8 0, .int .u8 0, .int .u8 0, .int .u8 0, .int .u8 0, .int .u8 0, .int .u8 0, .int .u8 0, .int .u8 0, .int .u8 0, .int .u8 0, .int .u8 0, .int .u8 0] : Array Value).all (·.oneCell')) = true by simp [Value.oneCell'])
  cases U with
  | none =>
    go_enter Tryz.func61, Tryz.ntmps61
    go_upto_region 2 with (fail)
    change Code.wp _ _ _ _ ((w.alloc (.cells #[.int .u8 0, .int .u8 0, .int .u8 0, .int .u8 0, .int .u8 0, .int .u8 0, .int .u8 0, .int .u8 0, .int .u8 0, .int .u8 0, .int .u8 0, .int .u8 0, .int .u8 0, .int .u8 0, .int .u8 0, .int .u8 0, .int .u8 0, .int .u8 0, .int .u8 0, .int .u8 0, .int .u8 0, .int .u8 0, .int .u8 0, .int .u8 0, .int .u8 0, .int .u8 0, .int .u8 0, .int .u8 0, .int .u8 0, .int .u8 0, .int .u8 0, .int .u8 0] 23)).alloc (.cells #[.int .u8 0, .int .u8 0, .int .u8 0, .int .u8 0, .int .u8 0, .int .u8 0, .int .u8 0, .int .u8 0, .int .u8 0, .int .u8 0, .int .u8 0, .int .u8 0, .int .u8 0, .int .u8 0, .int .u8 0, .int .u8 0, .int .u8 0, .int .u8 0, .int .u8 0, .int .u8 0, .int .u8 0, .int .u8 0, .int .u8 0, .int .u8 0, .int .u8 0, .int .u8 0, .int .u8 0, .int .u8 0, .int .u8 0, .int .u8 0, .int .u8 0, .int .u8 0] 23))
    obtain ⟨W, hW⟩ : ∃ W, (w.alloc (.cells #[.int .u8 0, .int .u8 0, .int .u8 0, .int .u8 0, .int .u8 0, .int .u8 0, .int .u8 0, .int .u8 0, .int .u8 0, .int .u8 0, .int .u8 0, .int .u8 0, .int .u8 0, .int .u8 0, .int .u8 0, .int .u8 0, .int .u8 0, .int .u8 0, .int .u8 0, .int .u8 0, .int .u8 0, .int .u8 0, .int .u8 0, .int .u8 0, .int .u8 0, .int .u8 0, .int .u8 0, .int .u8 0, .int .u8 0, .int .u8 0, .int .u8 0, .int .u8 0] 23)).alloc (.cells #[.int .u8 0, .int .u8 0, .int .u8 0, .int .u8 0, .int .u8 0, .int .u8 0, .int .u8 0, .int .u8 0, .int .u8 0, .int .u8 0, .int .u8 0, .int .u8 0, .int .u8 0, .int .u8 0, .int .u8 0, .int .u8 0, .int .u8 0, .int .u8 0, .int .u8 0, .int .u8 0, .int .u8 0, .int .u8 0, .int .u8 0, .int .u8 0, .int .u8 0, .int .u8 0, .int .u8 0, .int .u8 0, .int .u8 0, .int .u8 0, .int .u8 0, .int .u8 0] 23) = W := ⟨_, rfl⟩
    rw [hW] at hA hD hF hsW ⊢
    obtain ⟨r, hr⟩ : ∃ r, w.heap.size = r := ⟨_, rfl⟩
    obtain ⟨d, hd⟩ : ∃ d, r + 1 = d := ⟨_, rfl⟩
    have hrw : w.heap.size ≤ r := by omega
    rw [hr] at hA hD hsW
    rw [hr, hd]
    rw [hd] at hD
    have hrd : r < d := by omega
    have hdW : d < W.heap.size := by omega
    have HA := Lib.hid hA
    have HD := Lib.hid hD
    have HF := Lib.hid hF
    clear hW hr hd hA hD hF hsW
    go_wp2_with fail
    refine (Hc.out _).mono ?_
    rintro e w1 ⟨hp, hF1⟩
    obtain rfl : e = _ := hp
    have hA1 := hF1.block _ _ HA.out (fun h => h)
    have hD1 := hF1.block _ _ HD.out (fun h => h)
    obtain ⟨L, hL⟩ : ∃ L, Lib.byteCells zero32 = L := ⟨_, rfl⟩
    have hR1 : w1.rangeAt d 0 L := by rw [← hL]; exact range_block hD1
    have hl : L.length = 32 := by rw [← hL]; rfl
    have HR1 := Lib.hid hR1
    have HT1 := Lib.hid (show w1.there r 0 L.toArray.size from there_block hA1 (by rw [List.size_toArray, hl]; exact Nat.le_refl _))
    have HF1 := Lib.hid (HF.out.trans' hF1)
    have HO1 := Lib.hid (show L.toArray.all (·.oneCell') = true by rw [← hL]; exact all_oneCell_toArray (cells_one _))
    have HL := Lib.hid hL
    have HZ := Lib.hid (show (Tryz.prog.info? 23).map (·.size) = some L.length by rw [Tryz.sizeSum, hl])
    have HZ2 := Lib.hid (show (Tryz.prog.info? 23).map (·.size) = some L.toArray.size by rw [Tryz.sizeSum, List.size_toArray, hl])
    clear hL hl
    go_wp2_with (first | ((with_reducible refine wpList_load_mid ?_ 23 _ rfl d 0 ?_ L (.array 32 5) HR1.out Tryz.underSum ?_ HZ.out ?_); rfl; rfl; rfl) | ((with_reducible refine wpList_store_mid ?_ 23 _ _ rfl r 0 L.toArray ?_ ?_ HT1.out HZ2.out HO1.out ?_); rfl; rfl; rfl))
    have hld := run_loadVar_mid (P := Tryz.prog) _ r 0 23 L (.array 32 5) (World.rangeAt_setCells_same _ r 0 L (by simpa using HT1.out)) Tryz.underSum rfl HZ.out
    refine bodyPost_ret (v := .tuple #[.agg L.toArray, .bool false]) ?_ rfl ⟨?_, HF1.out.trans (setCells_fr _ _ _ _) (fun k _ hm => .inr (by omega))⟩
    · rw [results_cell_tmp rfl]
      simp [asAddr, Result.andThen, hld, Act.put]
    · rw [← HL.out]
      rfl
  | some b =>
    simp only
    by_cases h32 : b.length = 32
    · rw [if_pos h32]
      have H := Lib.hid h32
      clear h32
      go_enter Tryz.func61, Tryz.ntmps61
      go_upto_region 2 with (fail)
      change Code.wp _ _ _ _ ((w.alloc (.cells #[.int .u8 0, .int .u8 0, .int .u8 0, .int .u8 0, .int .u8 0, .int .u8 0, .int .u8 0, .int .u8 0, .int .u8 0, .int .u8 0, .int .u8 0, .int .u8 0, .int .u8 0, .int .u8 0, .int .u8 0, .int .u8 0, .int .u8 0, .int .u8 0, .int .u8 0, .int .u8 0, .int .u8 0, .int .u8 0, .int .u8 0, .int .u8 0, .int .u8 0, .int .u8 0, .int .u8 0, .int .u8 0, .int .u8 0, .int .u8 0, .int .u8 0, .int .u8 0] 23)).alloc (.cells #[.int .u8 0, .int .u8 0, .int .u8 0, .int .u8 0, .int .u8 0, .int .u8 0, .int .u8 0, .int .u8 0, .int .u8 0, .int .u8 0, .int .u8 0, .int .u8 0, .int .u8 0, .int .u8 0, .int .u8 0, .int .u8 0, .int .u8 0, .int .u8 0, .int .u8 0, .int .u8 0, .int .u8 0, .int .u8 0, .int .u8 0, .int .u8 0, .int .u8 0, .int .u8 0, .int .u8 0, .int .u8 0, .int .u8 0, .int .u8 0, .int .u8 0, .int .u8 0] 23))
      obtain ⟨W, hW⟩ : ∃ W, (w.alloc (.cells #[.int .u8 0, .int .u8 0, .int .u8 0, .int .u8 0, .int .u8 0, .int .u8 0, .int .u8 0, .int .u8 0, .int .u8 0, .int .u8 0, .int .u8 0, .int .u8 0, .int .u8 0, .int .u8 0, .int .u8 0, .int .u8 0, .int .u8 0, .int .u8 0, .int .u8 0, .int .u8 0, .int .u8 0, .int .u8 0, .int .u8 0, .int .u8 0, .int .u8 0, .int .u8 0, .int .u8 0, .int .u8 0, .int .u8 0, .int .u8 0, .int .u8 0, .int .u8 0] 23)).alloc (.cells #[.int .u8 0, .int .u8 0, .int .u8 0, .int .u8 0, .int .u8 0, .int .u8 0, .int .u8 0, .int .u8 0, .int .u8 0, .int .u8 0, .int .u8 0, .int .u8 0, .int .u8 0, .int .u8 0, .int .u8 0, .int .u8 0, .int .u8 0, .int .u8 0, .int .u8 0, .int .u8 0, .int .u8 0, .int .u8 0, .int .u8 0, .int .u8 0, .int .u8 0, .int .u8 0, .int .u8 0, .int .u8 0, .int .u8 0, .int .u8 0, .int .u8 0, .int .u8 0] 23) = W := ⟨_, rfl⟩
      rw [hW] at hA hD hF hsW ⊢
      obtain ⟨r, hr⟩ : ∃ r, w.heap.size = r := ⟨_, rfl⟩
      obtain ⟨d, hd⟩ : ∃ d, r + 1 = d := ⟨_, rfl⟩
      have hrw : w.heap.size ≤ r := by omega
      rw [hr] at hA hD hsW
      rw [hr, hd]
      rw [hd] at hD
      have hrd : r < d := by omega
      have hdW : d < W.heap.size := by omega
      have HA := Lib.hid hA
      have HD := Lib.hid hD
      have HF := Lib.hid hF
      clear hW hr hd hA hD hF hsW
      go_wp2_with fail
      refine (Hc.out _).mono ?_
      rintro e w1 ⟨⟨a, c, rfl, hsb⟩, hF1⟩
      have hA1 := hF1.block _ _ HA.out (fun h => h)
      have hD1 := hF1.block _ _ HD.out (fun h => h)
      obtain ⟨g, o, c', e1, -, hgW, -, -⟩ := hsb.cellsAt (by intro h; have := H.out; rw [h] at this; simp at this)
      obtain ⟨rfl, rfl⟩ : a = some ⟨g, o, none⟩ ∧ c = c' := by simpa using e1
      have h32i : ((b.length : Int) != 32) = false := by rw [H.out]; rfl
      have hR1 : w1.rangeAt d 0 (Lib.byteCells (b.take 0) ++ Lib.byteCells (List.replicate (32 - 0) 0)) := range_block hD1
      have HR1 := Lib.hid hR1
      have HT1 := Lib.hid (show w1.there r 0 32 from there_block hA1 (Nat.le_refl _))
      have HTD := Lib.hid (show w1.there d 0 32 from there_block hD1 (Nat.le_refl _))
      have HF1 := Lib.hid (HF.out.trans' hF1)
      have Hsb := Lib.hid hsb
      have hsz1 := hF1.size
      clear hF1 hA1 hD1 hR1 hsb e1
      go_wp2_with fail
      go_loopg [7] 33 (fun gf vi wr => ∃ i : Nat, vi = .int .i64 i ∧ i ≤ 32 ∧ i + gf = 33 ∧ Hid (Fr NoB w wr) ∧ Hid (wr.rangeAt d 0 (Lib.byteCells (b.take i) ++ Lib.byteCells (List.replicate (32 - i) 0))) ∧ Hid (wr.there r 0 32) ∧ Hid (wr.there d 0 32) ∧ Hid (SB (fun k => W.heap.size ≤ k) b (.slice (some ⟨g, o, none⟩) b.length c) wr))
      case atStart => exact ⟨0, rfl, by omega, by omega, HF1, HR1, HT1, HTD, Hsb⟩
      case round =>
        obtain ⟨i, rfl, hi, hig, HFr, HRr, HTr, HTd, HSb⟩ := hrel
        by_cases hlt : i < 32
        · have hlti : decide ((i : Int) < 32) = true := decide_eq_true (by omega)
          have hib : i < b.length := by rw [H.out]; exact hlt
          obtain ⟨x, hx⟩ : ∃ x, b[i]? = some x := ⟨_, List.getElem?_eq_getElem hib⟩
          obtain ⟨g', o', cap', e1, k1⟩ := HSb.out.at hx
          obtain ⟨⟨rfl, rfl⟩, rfl⟩ : (g = g' ∧ o = o') ∧ c = cap' := by simpa using e1
          have hlx : (Lib.byteCells (b.take i)).length = i := by rw [byteCells_len, List.length_take]; omega
          have hrep : Lib.byteCells (List.replicate (32 - i) 0) = [.int .u8 0] ++ Lib.byteCells (List.replicate (32 - (i + 1)) 0) := by
            rw [show 32 - i = (32 - (i + 1)) + 1 by omega, List.replicate_succ]
            rfl
          have hRr := HRr.out
          rw [hrep] at hRr
          have hR2 := range_put (Lib.byteCells (b.take i)) [.int .u8 0] (Lib.byteCells (List.replicate (32 - (i + 1)) 0)) [.int .u8 x.toNat] hRr rfl
          rw [hlx] at hR2
          have htk : Lib.byteCells (b.take (i + 1)) = Lib.byteCells (b.take i) ++ [.int .u8 x.toNat] := by
            rw [List.take_add_one, hx]
            simp [Lib.byteCells]
          have hR3 : (wr.setCell ⟨d, i, none⟩ (.int .u8 x.toNat)).rangeAt d 0 (Lib.byteCells (b.take (i + 1)) ++ Lib.byteCells (List.replicate (32 - (i + 1)) 0)) := by
            rw [htk, List.append_assoc]
            exact hR2
          have HR3 := Lib.hid hR3
          have kd := (HTd.out i (by omega))
          rw [Nat.zero_add] at kd
          obtain ⟨vd, hvd⟩ := Option.isSome_iff_exists.1 kd.1
          have hfd := kd.2
          have hib2 : (i : Int) < b.length := by omega
          have HT2 := Lib.hid (there_setCell HTr.out d i (.int .u8 x.toNat))
          have HTD2 := Lib.hid (there_setCell HTd.out d i (.int .u8 x.toNat))
          have HF2 := Lib.hid (HFr.out.setNew ⟨d, i, none⟩ (.int .u8 x.toNat) (by show w.heap.size ≤ d; omega))
          have HS2 := Lib.hid (HSb.out.fr ((Fr.refl (M := fun k _ => k = d)).setCell ⟨d, i, none⟩ (.int .u8 x.toNat) (fun _ _ => rfl)) (fun k _ hk _ hm => by omega))
          clear hRr hR2 hR3 htk hrep hlx e1 hx kd HRr HTr HTd HSb HFr
          go_wp2_with fail
          go_roundg (gk - 1)
          case measure => omega
          case rel => exact ⟨i + 1, by simp, by omega, by omega, HF2, HR3, HT2, HTD2, HS2⟩
        · obtain rfl : i = 32 := by omega
          obtain ⟨L, hL⟩ : ∃ L, Lib.byteCells b = L := ⟨_, rfl⟩
          have hR1 : wr.rangeAt d 0 L := by
            have := HRr.out
            rw [List.take_of_length_le (by rw [H.out]; exact Nat.le_refl _)] at this
            rw [← hL]
            simpa [Lib.byteCells] using this
          have hl : L.length = 32 := by rw [← hL, byteCells_len, H.out]
          have HR1 := Lib.hid hR1
          have HT1 := Lib.hid (show wr.there r 0 L.toArray.size by rw [List.size_toArray, hl]; exact HTr.out)
          have HO1 := Lib.hid (show L.toArray.all (·.oneCell') = true by rw [← hL]; exact all_oneCell_toArray (cells_one _))
          have hlti : decide ((32 : Int) < 32) = false := rfl
          clear hR1 HRr HTr HTd HSb
          have HL := Lib.hid hL
          have HZ := Lib.hid (show (Tryz.prog.info? 23).map (·.size) = some L.length by rw [Tryz.sizeSum, hl])
          have HZ2 := Lib.hid (show (Tryz.prog.info? 23).map (·.size) = some L.toArray.size by rw [Tryz.sizeSum, List.size_toArray, hl])
          clear hL hl
          go_wp2_with (first | ((with_reducible refine wpList_load_mid ?_ 23 _ rfl d 0 ?_ L (.array 32 5) HR1.out Tryz.underSum ?_ HZ.out ?_); rfl; rfl; rfl) | ((with_reducible refine wpList_store_mid ?_ 23 _ _ rfl r 0 L.toArray ?_ ?_ HT1.out HZ2.out HO1.out ?_); rfl; rfl; rfl))
          have hld := run_loadVar_mid (P := Tryz.prog) _ r 0 23 L (.array 32 5) (World.rangeAt_setCells_same _ r 0 L (by simpa using HT1.out)) Tryz.underSum rfl HZ.out
          refine bodyPost_ret (v := .tuple #[.agg L.toArray, .bool true]) ?_ rfl ⟨?_, HFr.out.trans (setCells_fr _ _ _ _) (fun k _ hm => .inr (by omega))⟩
          · rw [results_cell_tmp rfl]
            simp [asAddr, Result.andThen, hld, Act.put]
          · rw [← HL.out]
            rfl
    · rw [if_neg h32]
      have h32i : ((b.length : Int) != 32) = true := by simp; omega
      have h32n : (b.length != 32) = true := by simp; omega
      clear h32
      go_enter Tryz.func61, Tryz.ntmps61
      go_upto_region 2 with (fail)
      change Code.wp _ _ _ _ ((w.alloc (.cells #[.int .u8 0, .int .u8 0, .int .u8 0, .int .u8 0, .int .u8 0, .int .u8 0, .int .u8 0, .int .u8 0, .int .u8 0, .int .u8 0, .int .u8 0, .int .u8 0, .int .u8 0, .int .u8 0, .int .u8 0, .int .u8 0, .int .u8 0, .int .u8 0, .int .u8 0, .int .u8 0, .int .u8 0, .int .u8 0, .int .u8 0, .int .u8 0, .int .u8 0, .int .u8 0, .int .u8 0, .int .u8 0, .int .u8 0, .int .u8 0, .int .u8 0, .int .u8 0] 23)).alloc (.cells #[.int .u8 0, .int .u8 0, .int .u8 0, .int .u8 0, .int .u8 0, .int .u8 0, .int .u8 0, .int .u8 0, .int .u8 0, .int .u8 0, .int .u8 0, .int .u8 0, .int .u8 0, .int .u8 0, .int .u8 0, .int .u8 0, .int .u8 0, .int .u8 0, .int .u8 0, .int .u8 0, .int .u8 0, .int .u8 0, .int .u8 0, .int .u8 0, .int .u8 0, .int .u8 0, .int .u8 0, .int .u8 0, .int .u8 0, .int .u8 0, .int .u8 0, .int .u8 0] 23))
      obtain ⟨W, hW⟩ : ∃ W, (w.alloc (.cells #[.int .u8 0, .int .u8 0, .int .u8 0, .int .u8 0, .int .u8 0, .int .u8 0, .int .u8 0, .int .u8 0, .int .u8 0, .int .u8 0, .int .u8 0, .int .u8 0, .int .u8 0, .int .u8 0, .int .u8 0, .int .u8 0, .int .u8 0, .int .u8 0, .int .u8 0, .int .u8 0, .int .u8 0, .int .u8 0, .int .u8 0, .int .u8 0, .int .u8 0, .int .u8 0, .int .u8 0, .int .u8 0, .int .u8 0, .int .u8 0, .int .u8 0, .int .u8 0] 23)).alloc (.cells #[.int .u8 0, .int .u8 0, .int .u8 0, .int .u8 0, .int .u8 0, .int .u8 0, .int .u8 0, .int .u8 0, .int .u8 0, .int .u8 0, .int .u8 0, .int .u8 0, .int .u8 0, .int .u8 0, .int .u8 0, .int .u8 0, .int .u8 0, .int .u8 0, .int .u8 0, .int .u8 0, .int .u8 0, .int .u8 0, .int .u8 0, .int .u8 0, .int .u8 0, .int .u8 0, .int .u8 0, .int .u8 0, .int .u8 0, .int .u8 0, .int .u8 0, .int .u8 0] 23) = W := ⟨_, rfl⟩
      rw [hW] at hA hD hF hsW ⊢
      obtain ⟨r, hr⟩ : ∃ r, w.heap.size = r := ⟨_, rfl⟩
      obtain ⟨d, hd⟩ : ∃ d, r + 1 = d := ⟨_, rfl⟩
      have hrw : w.heap.size ≤ r := by omega
      rw [hr] at hA hD hsW
      rw [hr, hd]
      rw [hd] at hD
      have hrd : r < d := by omega
      have hdW : d < W.heap.size := by omega
      have HA := Lib.hid hA
      have HD := Lib.hid hD
      have HF := Lib.hid hF
      clear hW hr hd hA hD hF hsW
      go_wp2_with fail
      refine (Hc.out _).mono ?_
      rintro e w1 ⟨⟨a, c, rfl, hsb⟩, hF1⟩
      have hA1 := hF1.block _ _ HA.out (fun h => h)
      have hD1 := hF1.block _ _ HD.out (fun h => h)
      obtain ⟨L, hL⟩ : ∃ L, Lib.byteCells zero32 = L := ⟨_, rfl⟩
      have hR1 : w1.rangeAt d 0 L := by rw [← hL]; exact range_block hD1
      have hl : L.length = 32 := by rw [← hL]; rfl
      have HR1 := Lib.hid hR1
      have HT1 := Lib.hid (show w1.there r 0 L.toArray.size from there_block hA1 (by rw [List.size_toArray, hl]; exact Nat.le_refl _))
      have HF1 := Lib.hid (HF.out.trans' hF1)
      have HO1 := Lib.hid (show L.toArray.all (·.oneCell') = true by rw [← hL]; exact all_oneCell_toArray (cells_one _))
      clear hsb hF1 hA1 hD1 hR1
      have HL := Lib.hid hL
      have HZ := Lib.hid (show (Tryz.prog.info? 23).map (·.size) = some L.length by rw [Tryz.sizeSum, hl])
      have HZ2 := Lib.hid (show (Tryz.prog.info? 23).map (·.size) = some L.toArray.size by rw [Tryz.sizeSum, List.size_toArray, hl])
      clear hL hl
      go_wp2_with (first | ((with_reducible refine wpList_load_mid ?_ 23 _ rfl d 0 ?_ L (.array 32 5) HR1.out Tryz.underSum ?_ HZ.out ?_); rfl; rfl; rfl) | ((with_reducible refine wpList_store_mid ?_ 23 _ _ rfl r 0 L.toArray ?_ ?_ HT1.out HZ2.out HO1.out ?_); rfl; rfl; rfl))
      have hld := run_loadVar_mid (P := Tryz.prog) _ r 0 23 L (.array 32 5) (World.rangeAt_setCells_same _ r 0 L (by simpa using HT1.out)) Tryz.underSum rfl HZ.out
      refine bodyPost_ret (v := .tuple #[.agg L.toArray, .bool false]) ?_ rfl ⟨?_, HF1.out.trans (setCells_fr _ _ _ _) (fun k _ hm => .inr (by omega))⟩
      · rw [results_cell_tmp rfl]
        simp [asAddr, Result.andThen, hld, Act.put]
      · rw [← HL.out]
        rfl
end Go.Proofs.YtcddlemkimbkcaaGreatDoor
