/-
  The walk of keys.Is.
-/
import Derived.Test.YtcddlemkimbkcaaGreatDoorKCheckE
import Derived.Test.YtcddlemkimbkcaaGreatDoorKKeysS
import Derived.Test.YtcddlemkimbkcaaGreatDoorKSpecKeys
import Derived.Great.BuildSlice
import Derived.Great.Walk
namespace Go.Proofs.YtcddlemkimbkcaaGreatDoor
set_option linter.unusedVariables false
set_option linter.unusedSimpArgs false
set_option linter.unusedSectionVars false
open Go.RowKit
variable [OldK]
/-- 64 zero bytes -/
def zero64 : Bs := List.replicate 64 0
def sgZero : Sg := ⟨[], zero32, zero64⟩
/-- the entry by which a name is tried -/
def enId (n : Bs) : En := ⟨4, zero32, [], [], 3, n, zero32, [sgZero]⟩
theorem signer_zero : pSigner sgZero = sKey ++ hexS zero32 := rfl
theorem check_id (sub : Bs → Bool) (n : Bs) : pCheck sub (enId n) = pNamed n := by
  have h1 : pSigned [sgZero] = true := by
    unfold pSigned signedFrom sgBad
    rw [signer_zero]
    rfl
  have h2 : enEq (pBlank (enId n)) (enOnly 4 [sgZero]) = true := by
    unfold enEq pBlank enId enOnly
    simp [sgsEq_same]
  unfold pCheck
  show (pOwn sub (enId n) && (pSigned [sgZero] && enEq (pBlank (enId n)) (enOnly 4 [sgZero]))) = _
  rw [h1, h2]
  simp [pOwn, enId]
theorem enId_ok (n : Bs) : (enId n).ok := ⟨rfl, rfl, fun s hs => by
  simp only [enId, List.mem_singleton] at hs
  subst hs
  exact ⟨rfl, rfl⟩⟩
set_option maxRecDepth 100000 in
set_option maxHeartbeats 2000000 in
theorem keysIs_c (s : Bs) (w : World) (hlen : s.length ≤ 1000000) :
    Calls Tryz.prog 16 #[.string ⟨s.toArray⟩] w fun e w' => e = .returned (.bool (pKeyIs s)) ∧ Fr NoB w w' := by
  have hcut := fun (p : Bs) (W : World) => Tryz.strings_CutPrefix ⟨s.toArray⟩ ⟨p.toArray⟩ W
  obtain ⟨R, hR⟩ : ∃ R, pKeyIs s = R := ⟨_, rfl⟩
  rw [hR]
  unfold pKeyIs at hR
  obtain ⟨b1, hb1⟩ : ∃ b, Lib.hasPrefix s sId = b := ⟨_, rfl⟩
  cases b1 with
  | true =>
    have h1 := hcut sId
    rw [show (ByteArray.mk s.toArray).data.toList = s by simp, show (ByteArray.mk sId.toArray).data.toList = sId by simp, hb1] at h1
    obtain ⟨n, hn⟩ : ∃ n, Lib.trimPrefix s sId = n := ⟨_, rfl⟩
    rw [hn] at h1
    have hn3 : n = s.drop 3 := by rw [← hn]; unfold Lib.trimPrefix; rw [hb1]; rfl
    have hnl : n.length ≤ 1000000 := by rw [hn3, List.length_drop]; omega
    rw [hb1, if_pos rfl, ← hn3] at hR
    obtain ⟨b, hb⟩ : ∃ b, pNamed n = b := ⟨_, rfl⟩
    have HR : Hid (b = R) := Lib.hid (by rw [← hb]; exact hR)
    have hck : ∀ (S : Nat → Prop) (sv : Value) (W : World), GS S [sgZero] sv W → Calls Tryz.prog 59 #[.agg ((enId n).cells (.slice none 0 0) sv).toArray] W fun r w' => r = .returned (chkV b) ∧ Fr NoB W w' := fun S sv W hg => by
      have := checkE_c (fun _ => false) (fun _ => True) S (enId n) (.slice none 0 0) sv W (enId_ok n) (SB.nil _ W 0) hg (fun h => absurd h (by show ¬ (4 : Int) = 3; omega)) (Nat.zero_le _) hnl (Nat.zero_le _) (by show 1 ≤ 1000; omega) (fun s hs => by
        simp only [enId, List.mem_singleton] at hs
        subst hs
        exact Nat.zero_le _)
      rwa [check_id, hb] at this
    have Hck := Lib.hid hck
    have H1 := Lib.hid h1
    clear hcut h1 hck hR hb hn3 hn hb1
    obtain ⟨d, hu, hd⟩ := Tryz.rowEntry
    go_enter Tryz.func16, Tryz.ntmps16
    go_wp2_with fail
    refine (H1.out _).mono ?_
    rintro e w1 ⟨rfl, rfl⟩
    have HTq := Lib.hid (show ((w1.alloc (.cells sgZero.cells 54)).alloc (.cells Tryz.zeroCells39 39)).there (w1.heap.size + 1) 0 ((enId n).cells (.slice none 0 0) (.slice (some ⟨w1.heap.size, 0, none⟩) 1 1)).toArray.size by
      have := there_block (heap_alloc_new (w1.alloc (.cells sgZero.cells 54)) (.cells Tryz.zeroCells39 39)) (n := ((enId n).cells (.slice none 0 0) (.slice (some ⟨w1.heap.size, 0, none⟩) 1 1)).toArray.size) (by rw [List.size_toArray, En.size (enId_ok n)]; exact Nat.le_refl _)
      rwa [World.size_alloc] at this)
    have Hu := Lib.hid hu
    have Hd := Lib.hid hd
    have Hz := Lib.hid (show (Tryz.prog.info? 39).map (·.size) = some ((enId n).cells (.slice none 0 0) (.slice (some ⟨w1.heap.size, 0, none⟩) 1 1)).length by rw [Tryz.sizeEntry, En.size (enId_ok n)])
    have Hz2 := Lib.hid (show (Tryz.prog.info? 39).map (·.size) = some ((enId n).cells (.slice none 0 0) (.slice (some ⟨w1.heap.size, 0, none⟩) 1 1)).toArray.size by rw [Tryz.sizeEntry, List.size_toArray, En.size (enId_ok n)])
    have HO := Lib.hid (En.one (e := enId n) (pv := .slice none 0 0) (sv := .slice (some ⟨w1.heap.size, 0, none⟩) 1 1) rfl rfl)
    clear hu hd
    go_upto_region 4 with (first
      | ((with_reducible refine wpList_buildTo ?_ 54 _ rfl _ rfl sgZero.cells ?_ ?_); rfl; kernel_rfl)
      | ((with_reducible refine Great.wpList_buildSliceTo ?_ 37 54 1 _ rfl w1.heap.size rfl _ rfl Tryz.underlying37 sgZero.cells ?_ ?_); rfl; kernel_rfl)
      | ((with_reducible refine wpList_buildTo ?_ 39 _ rfl _ rfl ((enId n).cells (.slice none 0 0) (.slice (some ⟨w1.heap.size, 0, none⟩) 1 1)).toArray ?_ ?_); rfl; kernel_rfl)
      | ((with_reducible refine wpList_store_mid ?_ 39 _ _ rfl (w1.heap.size + 1) 0 ((enId n).cells (.slice none 0 0) (.slice (some ⟨w1.heap.size, 0, none⟩) 1 1)).toArray ?_ ?_ HTq.out Hz2.out HO.out ?_); rfl; rfl; rfl))
    obtain ⟨C, hC⟩ : ∃ C, (enId n).cells (.slice none 0 0) (.slice (some ⟨w1.heap.size, 0, none⟩) 1 1) = C := ⟨_, rfl⟩
    have hck := Hck.out (fun k => k = w1.heap.size) (.slice (some ⟨w1.heap.size, 0, none⟩) 1 1)
    rw [hC] at HTq Hz hck ⊢
    have hA : ((w1.alloc (.cells sgZero.cells 54)).alloc (.cells Tryz.zeroCells39 39)).heap[w1.heap.size]? = some (.cells sgZero.cells 54) := by
      rw [Below.heap_alloc _ _ _ (by rw [World.size_alloc]; omega)]
      exact heap_alloc_new w1 _
    have hR := World.rangeAt_setCells_same _ (w1.heap.size + 1) 0 C (by simpa using HTq.out)
    have hF : Fr NoB w1 (((w1.alloc (.cells sgZero.cells 54)).alloc (.cells Tryz.zeroCells39 39)).setCells (w1.heap.size + 1) 0 C) := ((Fr.refl.alloc _).alloc _).trans (setCells_fr _ _ _ _) (fun k _ hm => .inr (by omega))
    have hG0 : GS (fun k => k = w1.heap.size) [sgZero] (.slice (some ⟨w1.heap.size, 0, none⟩) 1 1) ((w1.alloc (.cells sgZero.cells 54)).alloc (.cells Tryz.zeroCells39 39)) := by
      refine ⟨_, _, rfl, Nat.le_refl _, .inr ⟨w1.heap.size, 0, rfl, rfl, by rw [World.size_alloc, World.size_alloc]; omega, fun i hi => ?_⟩⟩
      obtain rfl : i = 0 := by simpa using hi
      exact range_block hA
    have hG : GS (fun k => k = w1.heap.size) [sgZero] (.slice (some ⟨w1.heap.size, 0, none⟩) 1 1) (((w1.alloc (.cells sgZero.cells 54)).alloc (.cells Tryz.zeroCells39 39)).setCells (w1.heap.size + 1) 0 C) :=
      hG0.fr (setCells_fr (w1.heap.size + 1) C 0 _) (fun k _ hk hm => by omega)
    obtain ⟨W, hW⟩ : ∃ W, ((w1.alloc (.cells sgZero.cells 54)).alloc (.cells Tryz.zeroCells39 39)).setCells (w1.heap.size + 1) 0 C = W := ⟨_, rfl⟩
    rw [hW] at hR hF hG ⊢
    have Hck2 := Lib.hid (hck W hG)
    have HR1 := Lib.hid hR
    have HF := Lib.hid hF
    clear hck hR hF hG hG0 hA hW HTq Hz2 HO hC Hck H1
    cases b
    all_goals
      go_wp2_with ((with_reducible refine wpList_load_mid ?_ 39 _ rfl (w1.heap.size + 1) 0 ?_ C d HR1.out Hu.out ?_ Hz.out ?_); rfl; rfl; exact Hd.out)
      refine Hck2.out.mono ?_
      rintro r w3 ⟨rfl, hF3⟩
      have HF3 := Lib.hid (HF.out.trans' hF3)
      clear hF3
      unfold chkV
      go_wp2_with fail
      go_ret
      exact ⟨ret_bool HR.out, HF3.out⟩
  | false =>
    rw [hb1] at hR
    simp only [Bool.false_eq_true, if_false] at hR
    have h1 := fun W => hcut sId W
    have h7 := fun W => hcut sSha W
    have h4 := fun W => hcut sKey W
    obtain ⟨b7, hb7⟩ : ∃ b, Lib.hasPrefix s sSha = b := ⟨_, rfl⟩
    obtain ⟨b4, hb4⟩ : ∃ b, Lib.hasPrefix s sKey = b := ⟨_, rfl⟩
    simp only [show (ByteArray.mk s.toArray).data.toList = s by simp, show (ByteArray.mk sId.toArray).data.toList = sId by simp, hb1] at h1
    simp only [show (ByteArray.mk s.toArray).data.toList = s by simp, show (ByteArray.mk sSha.toArray).data.toList = sSha by simp, hb7] at h7
    simp only [show (ByteArray.mk s.toArray).data.toList = s by simp, show (ByteArray.mk sKey.toArray).data.toList = sKey by simp, hb4] at h4
    have t7 : b7 = true → Lib.trimPrefix s sSha = s.drop 7 := fun h => by unfold Lib.trimPrefix; rw [hb7, h]; rfl
    have t4 : b4 = true → Lib.trimPrefix s sKey = s.drop 4 := fun h => by unfold Lib.trimPrefix; rw [hb4, h]; rfl
    obtain ⟨n1, hn1⟩ : ∃ n, Lib.trimPrefix s sId = n := ⟨_, rfl⟩
    obtain ⟨n7, hn7⟩ : ∃ n, Lib.trimPrefix s sSha = n := ⟨_, rfl⟩
    obtain ⟨n4, hn4⟩ : ∃ n, Lib.trimPrefix s sKey = n := ⟨_, rfl⟩
    rw [hn1] at h1
    rw [hn7] at h7 t7
    rw [hn4] at h4 t4
    rw [hb7, hb4] at hR
    have hl7 : b7 = true → n7.length ≤ 1000000 := fun h => by rw [t7 h, List.length_drop]; omega
    have hl4 : b4 = true → n4.length ≤ 1000000 := fun h => by rw [t4 h, List.length_drop]; omega
    have hR2 : (if b7 = true then (sumS n7).isSome else if b4 = true then (sumS n4).isSome else false) = R := by
      rw [← hR]
      cases b7
      · cases b4
        · rfl
        · rw [t4 rfl]; rfl
      · rw [t7 rfl]; rfl
    have hs7 := fun h W => sum_c n7 W (hl7 h)
    have hs4 := fun h W => sum_c n4 W (hl4 h)
    obtain ⟨m7, hm7⟩ : ∃ m, sumS n7 = m := ⟨_, rfl⟩
    obtain ⟨m4, hm4⟩ : ∃ m, sumS n4 = m := ⟨_, rfl⟩
    have k7 : ∀ b, m7 = some b → b.length = 32 := fun b h => ((sumS_iff n7 b).1 (hm7.trans h)).2
    have k4 : ∀ b, m4 = some b → b.length = 32 := fun b h => ((sumS_iff n4 b).1 (hm4.trans h)).2
    rw [hm7] at hs7 hR2
    rw [hm4] at hs4 hR2
    have HR := Lib.hid hR2
    have H1 := Lib.hid h1
    have H7 := Lib.hid h7
    have H4 := Lib.hid h4
    have Hs7 := Lib.hid hs7
    have Hs4 := Lib.hid hs4
    have K7 := Lib.hid k7
    have K4 := Lib.hid k4
    have H32 := Lib.hid (show ((#[.int .u8 0, .int .u8 0, .int .u8 0, .int .u8 0, .int .u8 0, .int .u8 0, .int .u8 0, .int .u8 0, .int .u8 0, .int .u8 0, .int .u8 0, .int .u8 0, .int .u8 0, .int .u8 0, .int .u8 0, .int .u8 0, .int .u8 0, .int .u8 0, .int .u8 0, .int .u8 0, .int .u8 0, .int .u8 0, .int .u8 0, .int .u8 0, .int .u8 0, .int .u8 0, .int .u8 0, .int .u8 0, .int .u8 0, .int .u8 0, .int .u8 0, .int .u8 0] : Array Value).all (·.oneCell')) = true by simp [Value.oneCell'])
    clear hcut h1 h7 h4 hR hR2 hs7 hs4 hb1 hb7 hb4 t7 t4 hn1 hn7 hn4 hl7 hl4 hm7 hm4 k7 k4
    go_enter Tryz.func16, Tryz.ntmps16
    go_wp2_with fail
    refine (H1.out _).mono ?_
    rintro e w1 ⟨rfl, rfl⟩
    go_wp2_with fail
    have hF0 : Fr NoB w1 (w1.alloc (.cells #[.string ⟨sSha.toArray⟩, .string ⟨sKey.toArray⟩] 9)) := Fr.refl.alloc _
    have hA := heap_alloc_new w1 (.cells #[.string ⟨sSha.toArray⟩, .string ⟨sKey.toArray⟩] 9)
    change Code.wp _ _ _ _ (w1.alloc (.cells #[.string ⟨sSha.toArray⟩, .string ⟨sKey.toArray⟩] 9))
    obtain ⟨W0, hW0⟩ : ∃ W, w1.alloc (.cells #[.string ⟨sSha.toArray⟩, .string ⟨sKey.toArray⟩] 9) = W := ⟨_, rfl⟩
    rw [hW0] at hF0 hA ⊢
    obtain ⟨gl, hgl⟩ : ∃ g, w1.heap.size = g := ⟨_, rfl⟩
    rw [hgl] at hA ⊢
    have HF0 := Lib.hid hF0
    have HA := Lib.hid hA
    have HR0 : Hid ((if (0 : Nat) = 0 then (if b7 = true then m7.isSome else if b4 = true then m4.isSome else false) else if (0 : Nat) = 1 then (if b4 = true then m4.isSome else false) else false) = R) := Lib.hid (by rw [if_pos rfl]; exact HR.out)
    clear hW0 hgl hF0 hA
    go_loopg [27] 3 (fun gf vi wr => ∃ i : Nat, vi = .int .i64 i ∧ i + gf = 3 ∧ i ≤ 2 ∧ Fr NoB W0 wr ∧ Hid ((if i = 0 then (if b7 = true then m7.isSome else if b4 = true then m4.isSome else false) else if i = 1 then (if b4 = true then m4.isSome else false) else false) = R))
    case atStart => exact ⟨0, rfl, rfl, by omega, Fr.refl, HR0⟩
    case round =>
      obtain ⟨i, rfl, hig, hi2, hFr, HG⟩ := hrel
      have hA2 := hFr.block _ _ HA.out (fun h => h)
      have k0 : wr.cell? ⟨gl, 0, none⟩ = some (.string ⟨sSha.toArray⟩) := by simp [World.cell?, hA2]
      have k1 : wr.cell? ⟨gl, 1, none⟩ = some (.string ⟨sKey.toArray⟩) := by simp [World.cell?, hA2]
      have HFr := Lib.hid (HF0.out.trans' hFr)
      have HFw := Lib.hid hFr
      clear hFr hA2
      have h012 : i = 0 ∨ i = 1 ∨ i = 2 := by omega
      rcases h012 with rfl | rfl | rfl
      · cases b7 with
        | false =>
          go_wp2_with fail
          refine (H7.out _).mono ?_
          rintro e w2 ⟨rfl, rfl⟩
          go_wp2_with fail
          go_roundg (gk - 1)
          case measure => omega
          case rel => exact ⟨0 + 1, by simp, by omega, by omega, HFw.out, by simpa using HG⟩
        | true =>
          have hs := Hs7.out rfl
          have Hs := Lib.hid hs
          clear hs
          cases m7 with
          | none =>
            go_wp2_with fail
            refine (H7.out _).mono ?_
            rintro e w2 ⟨rfl, rfl⟩
            go_wp2_with fail
            refine (Hs.out _).mono ?_
            rintro e w3 ⟨hp, hF3⟩
            obtain rfl : e = _ := hp
            have HF3 := Lib.hid (HFr.out.trans' hF3)
            obtain ⟨L, hL⟩ : ∃ L, (#[.int .u8 0, .int .u8 0, .int .u8 0, .int .u8 0, .int .u8 0, .int .u8 0, .int .u8 0, .int .u8 0, .int .u8 0, .int .u8 0, .int .u8 0, .int .u8 0, .int .u8 0, .int .u8 0, .int .u8 0, .int .u8 0, .int .u8 0, .int .u8 0, .int .u8 0, .int .u8 0, .int .u8 0, .int .u8 0, .int .u8 0, .int .u8 0, .int .u8 0, .int .u8 0, .int .u8 0, .int .u8 0, .int .u8 0, .int .u8 0, .int .u8 0, .int .u8 0] : Array Value) = L := ⟨_, rfl⟩
            have hcl : L.size = 32 := by rw [← hL]; rfl
            have HO1 := Lib.hid (show L.all (·.oneCell') = true by rw [← hL]; exact H32.out)
            rw [hL]
            have HT := Lib.hid (there_block (heap_alloc_new w3 (.cells #[.int .u8 0, .int .u8 0, .int .u8 0, .int .u8 0, .int .u8 0, .int .u8 0, .int .u8 0, .int .u8 0, .int .u8 0, .int .u8 0, .int .u8 0, .int .u8 0, .int .u8 0, .int .u8 0, .int .u8 0, .int .u8 0, .int .u8 0, .int .u8 0, .int .u8 0, .int .u8 0, .int .u8 0, .int .u8 0, .int .u8 0, .int .u8 0, .int .u8 0, .int .u8 0, .int .u8 0, .int .u8 0, .int .u8 0, .int .u8 0, .int .u8 0, .int .u8 0] 23)) (n := L.size) (by rw [hcl]; exact Nat.le_refl _))
            have HZ2 := Lib.hid (show (Tryz.prog.info? 23).map (·.size) = some L.size by rw [Tryz.sizeSum, hcl])
            clear hF3 hL hcl
            go_wp2_with ((with_reducible refine wpList_store_mid ?_ 23 _ _ rfl w3.heap.size 0 L ?_ ?_ HT.out HZ2.out HO1.out ?_); rfl; rfl; rfl)
            go_ret
            exact ⟨ret_bool (by simpa using HG.out), (HF3.out.alloc _).trans (setCells_fr _ _ _ _) (fun k _ hm => .inr (by have := HF3.out.size; omega))⟩
          | some bb =>
            have h32 := K7.out bb rfl
            go_wp2_with fail
            refine (H7.out _).mono ?_
            rintro e w2 ⟨rfl, rfl⟩
            go_wp2_with fail
            refine (Hs.out _).mono ?_
            rintro e w3 ⟨hp, hF3⟩
            obtain rfl : e = _ := hp
            have HF3 := Lib.hid (HFr.out.trans' hF3)
            have hcl : (Lib.byteCells bb).toArray.size = 32 := by rw [List.size_toArray, byteCells_len, h32]
            have HO1 := Lib.hid (show (Lib.byteCells bb).toArray.all (·.oneCell') = true from all_oneCell_toArray (cells_one _))
            obtain ⟨L, hL⟩ : ∃ L, (Lib.byteCells bb).toArray = L := ⟨_, rfl⟩
            rw [hL] at hcl HO1 ⊢
            have HT := Lib.hid (there_block (heap_alloc_new w3 (.cells #[.int .u8 0, .int .u8 0, .int .u8 0, .int .u8 0, .int .u8 0, .int .u8 0, .int .u8 0, .int .u8 0, .int .u8 0, .int .u8 0, .int .u8 0, .int .u8 0, .int .u8 0, .int .u8 0, .int .u8 0, .int .u8 0, .int .u8 0, .int .u8 0, .int .u8 0, .int .u8 0, .int .u8 0, .int .u8 0, .int .u8 0, .int .u8 0, .int .u8 0, .int .u8 0, .int .u8 0, .int .u8 0, .int .u8 0, .int .u8 0, .int .u8 0, .int .u8 0] 23)) (n := L.size) (by rw [hcl]; exact Nat.le_refl _))
            have HZ2 := Lib.hid (show (Tryz.prog.info? 23).map (·.size) = some L.size by rw [Tryz.sizeSum, hcl])
            clear hF3 hL hcl h32
            go_wp2_with ((with_reducible refine wpList_store_mid ?_ 23 _ _ rfl w3.heap.size 0 L ?_ ?_ HT.out HZ2.out HO1.out ?_); rfl; rfl; rfl)
            go_ret
            exact ⟨ret_bool (by simpa using HG.out), (HF3.out.alloc _).trans (setCells_fr _ _ _ _) (fun k _ hm => .inr (by have := HF3.out.size; omega))⟩
      · cases b4 with
        | false =>
          go_wp2_with fail
          refine (H4.out _).mono ?_
          rintro e w2 ⟨rfl, rfl⟩
          go_wp2_with fail
          go_roundg (gk - 1)
          case measure => omega
          case rel => exact ⟨1 + 1, by simp, by omega, by omega, HFw.out, by simpa using HG⟩
        | true =>
          have hs := Hs4.out rfl
          have Hs := Lib.hid hs
          clear hs
          cases m4 with
          | none =>
            go_wp2_with fail
            refine (H4.out _).mono ?_
            rintro e w2 ⟨rfl, rfl⟩
            go_wp2_with fail
            refine (Hs.out _).mono ?_
            rintro e w3 ⟨hp, hF3⟩
            obtain rfl : e = _ := hp
            have HF3 := Lib.hid (HFr.out.trans' hF3)
            obtain ⟨L, hL⟩ : ∃ L, (#[.int .u8 0, .int .u8 0, .int .u8 0, .int .u8 0, .int .u8 0, .int .u8 0, .int .u8 0, .int .u8 0, .int .u8 0, .int .u8 0, .int .u8 0, .int .u8 0, .int .u8 0, .int .u8 0, .int .u8 0, .int .u8 0, .int .u8 0, .int .u8 0, .int .u8 0, .int .u8 0, .int .u8 0, .int .u8 0, .int .u8 0, .int .u8 0, .int .u8 0, .int .u8 0, .int .u8 0, .int .u8 0, .int .u8 0, .int .u8 0, .int .u8 0, .int .u8 0] : Array Value) = L := ⟨_, rfl⟩
            have hcl : L.size = 32 := by rw [← hL]; rfl
            have HO1 := Lib.hid (show L.all (·.oneCell') = true by rw [← hL]; exact H32.out)
            rw [hL]
            have HT := Lib.hid (there_block (heap_alloc_new w3 (.cells #[.int .u8 0, .int .u8 0, .int .u8 0, .int .u8 0, .int .u8 0, .int .u8 0, .int .u8 0, .int .u8 0, .int .u8 0, .int .u8 0, .int .u8 0, .int .u8 0, .int .u8 0, .int .u8 0, .int .u8 0, .int .u8 0, .int .u8 0, .int .u8 0, .int .u8 0, .int .u8 0, .int .u8 0, .int .u8 0, .int .u8 0, .int .u8 0, .int .u8 0, .int .u8 0, .int .u8 0, .int .u8 0, .int .u8 0, .int .u8 0, .int .u8 0, .int .u8 0] 23)) (n := L.size) (by rw [hcl]; exact Nat.le_refl _))
            have HZ2 := Lib.hid (show (Tryz.prog.info? 23).map (·.size) = some L.size by rw [Tryz.sizeSum, hcl])
            clear hF3 hL hcl
            go_wp2_with ((with_reducible refine wpList_store_mid ?_ 23 _ _ rfl w3.heap.size 0 L ?_ ?_ HT.out HZ2.out HO1.out ?_); rfl; rfl; rfl)
            go_ret
            exact ⟨ret_bool (by simpa using HG.out), (HF3.out.alloc _).trans (setCells_fr _ _ _ _) (fun k _ hm => .inr (by have := HF3.out.size; omega))⟩
          | some bb =>
            have h32 := K4.out bb rfl
            go_wp2_with fail
            refine (H4.out _).mono ?_
            rintro e w2 ⟨rfl, rfl⟩
            go_wp2_with fail
            refine (Hs.out _).mono ?_
            rintro e w3 ⟨hp, hF3⟩
            obtain rfl : e = _ := hp
            have HF3 := Lib.hid (HFr.out.trans' hF3)
            have hcl : (Lib.byteCells bb).toArray.size = 32 := by rw [List.size_toArray, byteCells_len, h32]
            have HO1 := Lib.hid (show (Lib.byteCells bb).toArray.all (·.oneCell') = true from all_oneCell_toArray (cells_one _))
            obtain ⟨L, hL⟩ : ∃ L, (Lib.byteCells bb).toArray = L := ⟨_, rfl⟩
            rw [hL] at hcl HO1 ⊢
            have HT := Lib.hid (there_block (heap_alloc_new w3 (.cells #[.int .u8 0, .int .u8 0, .int .u8 0, .int .u8 0, .int .u8 0, .int .u8 0, .int .u8 0, .int .u8 0, .int .u8 0, .int .u8 0, .int .u8 0, .int .u8 0, .int .u8 0, .int .u8 0, .int .u8 0, .int .u8 0, .int .u8 0, .int .u8 0, .int .u8 0, .int .u8 0, .int .u8 0, .int .u8 0, .int .u8 0, .int .u8 0, .int .u8 0, .int .u8 0, .int .u8 0, .int .u8 0, .int .u8 0, .int .u8 0, .int .u8 0, .int .u8 0] 23)) (n := L.size) (by rw [hcl]; exact Nat.le_refl _))
            have HZ2 := Lib.hid (show (Tryz.prog.info? 23).map (·.size) = some L.size by rw [Tryz.sizeSum, hcl])
            clear hF3 hL hcl h32
            go_wp2_with ((with_reducible refine wpList_store_mid ?_ 23 _ _ rfl w3.heap.size 0 L ?_ ?_ HT.out HZ2.out HO1.out ?_); rfl; rfl; rfl)
            go_ret
            exact ⟨ret_bool (by simpa using HG.out), (HF3.out.alloc _).trans (setCells_fr _ _ _ _) (fun k _ hm => .inr (by have := HF3.out.size; omega))⟩
      · clear k0 k1
        go_wp2_with fail
        go_ret
        exact ⟨ret_bool HG.out, HFr.out⟩
end Go.Proofs.YtcddlemkimbkcaaGreatDoor
