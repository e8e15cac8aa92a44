/-
  The walk of the law KeysAre.
-/
import Derived.Test.YtcddlemkimbkcaaGreatDoorKAlive16
import Derived.Test.YtcddlemkimbkcaaGreatDoorKRefKeyIs
namespace Go.Proofs.YtcddlemkimbkcaaGreatDoor
set_option linter.unusedVariables false
set_option linter.unusedSimpArgs false
set_option linter.unusedSectionVars false
open Go.RowKit Go.Sort
variable [OldK]
set_option maxRecDepth 100000 in
set_option maxHeartbeats 4000000 in
theorem keysAre_c (s d k : Bs) (w : World) (hd : d.length = 32) (hk : k.length = 32) (hs : s.length ≤ maxLen) :
    Calls Tryz.prog 3 #[.string ⟨s.toArray⟩, .agg (Lib.byteCells d).toArray, .agg (Lib.byteCells k).toArray] w fun e w' => e = .returned (.bool true) ∧ Fr NoB w w' := by
  have hsz : (ByteArray.mk s.toArray).size = s.length := rfl
  have Hal := Lib.hid (fun W => alive16_c W)
  have hR1 : ((w.alloc (.cells (Lib.byteCells d).toArray 23)).alloc (.cells (Lib.byteCells k).toArray 24)).rangeAt w.heap.size 0 (Lib.byteCells d) := World.rangeAt_alloc (by simpa using range_block (heap_alloc_new w (.cells (Lib.byteCells d).toArray 23))) _
  have hR2 : ((w.alloc (.cells (Lib.byteCells d).toArray 23)).alloc (.cells (Lib.byteCells k).toArray 24)).rangeAt (w.heap.size + 1) 0 (Lib.byteCells k) := by
    have := range_block (heap_alloc_new (w.alloc (.cells (Lib.byteCells d).toArray 23)) (.cells (Lib.byteCells k).toArray 24))
    rw [World.size_alloc] at this
    simpa using this
  have hF : Fr NoB w ((w.alloc (.cells (Lib.byteCells d).toArray 23)).alloc (.cells (Lib.byteCells k).toArray 24)) := (Fr.refl.alloc _).alloc _
  have hW : w.heap.size + 1 < ((w.alloc (.cells (Lib.byteCells d).toArray 23)).alloc (.cells (Lib.byteCells k).toArray 24)).heap.size := by rw [World.size_alloc, World.size_alloc]; omega
  have hZ1 : (Tryz.prog.info? 23).map (·.size) = some (Lib.byteCells d).length := by rw [Tryz.sizeSum, byteCells_len, hd]
  have hZ2 : (Tryz.prog.info? 24).map (·.size) = some (Lib.byteCells k).length := by rw [Tryz.sizeKey, byteCells_len, hk]
  have h1 := fun (_ : s.length ≤ 1000) W => keysIs_c s W (by omega)
  have h2 := fun (_ : s.length ≤ 1000) W => refKeyIs_c s W (by omega)
  rw [keyIs_eq] at h2
  have h3 := fun W => kDigest_c d W hd
  have h4 := fun W => rDigest_c d W hd
  have h5 := fun W => kKey_c k W hk
  have h6 := fun W => rKey_c k W hk
  have h7 := fun (_ : s.length ≤ 1000) W => kIdentity_c s W (by omega)
  have h8 := fun W => keysIs_c (sSha ++ hexS d) W (by rw [List.length_append, hexS_len, hd]; decide)
  rw [keyIs_sha d hd] at h8
  have h9 := fun W => keysIs_c (sKey ++ hexS k) W (by rw [List.length_append, hexS_len, hk]; decide)
  rw [keyIs_key k hk] at h9
  have h10 := fun (h : s.length ≤ 1000) W => keysIs_c (sId ++ s) W (by rw [List.length_append]; show 3 + s.length ≤ 1000000; omega)
  rw [keyIs_id] at h10
  have h11 := fun (_ : s.length ≤ 1000) W => refNamed_c s W (by omega)
  have hcat : (ByteArray.mk #[105, 100, 58]) ++ (ByteArray.mk s.toArray) = ⟨(sId ++ s).toArray⟩ := by
    apply ByteArray.ext
    simp [sId]
  obtain ⟨DS, hDS⟩ : ∃ D, sSha ++ hexS d = D := ⟨_, rfl⟩
  obtain ⟨KS, hKS⟩ : ∃ D, sKey ++ hexS k = D := ⟨_, rfl⟩
  obtain ⟨IS, hIS⟩ : ∃ D, sId ++ s = D := ⟨_, rfl⟩
  obtain ⟨bA, hbA⟩ : ∃ b, pKeyIs s = b := ⟨_, rfl⟩
  obtain ⟨bN, hbN⟩ : ∃ b, pNamed s = b := ⟨_, rfl⟩
  rw [hbA] at h1 h2
  rw [hDS] at h3 h4 h8
  rw [hKS] at h5 h6 h9
  rw [hIS] at h7 h10 hcat
  rw [hbN] at h10 h11
  obtain ⟨CD, hCD⟩ : ∃ C, Lib.byteCells d = C := ⟨_, rfl⟩
  obtain ⟨CK, hCK⟩ : ∃ C, Lib.byteCells k = C := ⟨_, rfl⟩
  rw [hCD, hCK] at hR1 hR2 hF hW
  rw [hCD] at hZ1 h3 h4 ⊢
  rw [hCK] at hZ2 h5 h6 ⊢
  have H1 := Lib.hid h1
  have H2 := Lib.hid h2
  have H3 := Lib.hid h3
  have H4 := Lib.hid h4
  have H5 := Lib.hid h5
  have H6 := Lib.hid h6
  have H7 := Lib.hid h7
  have H8 := Lib.hid h8
  have H9 := Lib.hid h9
  have H10 := Lib.hid h10
  have H11 := Lib.hid h11
  have Z1 := Lib.hid hZ1
  have Z2 := Lib.hid hZ2
  clear h1 h2 h3 h4 h5 h6 h7 h8 h9 h10 h11 hZ1 hZ2 hDS hKS hIS hbA hbN hCD hCK hd hk
  unfold maxLen at hs
  go_enter Tryz.func3, Tryz.ntmps3
  go_upto_region 1 with (fail)
  change Code.wp _ _ _ _ ((w.alloc (.cells CD.toArray 23)).alloc (.cells CK.toArray 24))
  obtain ⟨W, hWe⟩ : ∃ W, (w.alloc (.cells CD.toArray 23)).alloc (.cells CK.toArray 24) = W := ⟨_, rfl⟩
  rw [hWe] at hR1 hR2 hF hW ⊢
  obtain ⟨p, hp⟩ : ∃ p, w.heap.size = p := ⟨_, rfl⟩
  obtain ⟨q, hq⟩ : ∃ q, p + 1 = q := ⟨_, rfl⟩
  rw [hp, hq] at hR2 hW
  rw [hp] at hR1
  rw [hp, hq]
  have hpW : p < W.heap.size := by omega
  clear hWe hp hq
  have HR1 := Lib.hid hR1
  have HR2 := Lib.hid hR2
  have HF := Lib.hid hF
  clear hR1 hR2 hF
  go_wp2_with fail
  refine (Hal.out _).mono ?_
  rintro e w1 ⟨rfl, hF1⟩
  have HF1 := Lib.hid (HF.out.trans' hF1)
  have HA := Lib.hid (show w1.drew.rangeAt p 0 CD ∧ w1.drew.rangeAt q 0 CK from ⟨(World.rangeAt_drew _ _ _ _).2 (range_fr HR1.out hF1 hpW (fun _ h => h)), (World.rangeAt_drew _ _ _ _).2 (range_fr HR2.out hF1 hW (fun _ h => h))⟩)
  have hp1 : p < w1.heap.size := Nat.lt_of_lt_of_le hpW hF1.size
  have hq1 : q < w1.heap.size := Nat.lt_of_lt_of_le hW hF1.size
  clear hF1 HR1 HR2
  by_cases hl : s.length ≤ 1000
  · have hli : decide ((1000 : Int) < (s.length : Int)) = false := decide_eq_false (by omega)
    have HL := Lib.hid hl
    clear hs
    go_upto_region 5 with (fail)
    refine wp_region_held_drew (S := fun V => Hid (Fr NoB w1.drew V) ∧ V.rangeAt p 0 CD ∧ V.rangeAt q 0 CK) (by kernel_rfl) ⟨Lib.hid Fr.refl, HA.out⟩ (fun hHeld => ?_)
    simp only [List.size_toArray, List.length_cons, List.length_nil]
    refine wpAnyH_take (i := 0) (v := ?_) rfl (by kernel_rfl) (by kernel_rfl) (by kernel_rfl) (fun _ _ _ h => h) (Or.inl ⟨by rfl, ?_⟩) hHeld ?_
    rotate_left
    · intro W hSw
      try simp only [List.getElem_toArray, List.getElem_cons_zero, List.getElem_cons_succ]
      go_simp
      try rw [if_neg (by omega)]
      try with_reducible rfl
    try simp only [Act.put, List.setIfInBounds_toArray, List.set_cons_zero, List.set_cons_succ, List.getElem_toArray, List.getElem_cons_zero, List.getElem_cons_succ]
    refine wpAnyH_take (i := 2) (v := ?_) rfl (by kernel_rfl) (by kernel_rfl) (by kernel_rfl) (fun _ _ _ h => h) (Or.inl ⟨by rfl, ?_⟩) hHeld ?_
    rotate_left
    · intro W hSw
      try simp only [List.getElem_toArray, List.getElem_cons_zero, List.getElem_cons_succ]
      go_simp
      try rw [if_neg (by omega)]
      try with_reducible rfl
    try simp only [Act.put, List.setIfInBounds_toArray, List.set_cons_zero, List.set_cons_succ, List.getElem_toArray, List.getElem_cons_zero, List.getElem_cons_succ]
    refine wpAnyH_ready (rs := [1]) (by kernel_rfl) (by simp) (AllReadyH.cons rfl (fun K hK => ?_) AllReadyH.nil)
    try simp only [List.getElem_toArray, List.getElem_cons_zero, List.getElem_cons_succ]
    go_simp
    refine (H1.out HL.out _).mono ?_; rintro r w2 ⟨rfl, hF2⟩
    refine hK.out _ _ ⟨Lib.hid (hHeld.1.out.trans' hF2), range_fr hHeld.2.1 hF2 (Nat.lt_of_lt_of_le hp1 hHeld.1.out.size) (fun _ h => h), range_fr hHeld.2.2 hF2 (Nat.lt_of_lt_of_le hq1 hHeld.1.out.size) (fun _ h => h)⟩ (fun hHeld => ?_)
    clear hK K
    try simp only [Act.put, List.setIfInBounds_toArray, List.set_cons_zero, List.set_cons_succ, List.getElem_toArray, List.getElem_cons_zero, List.getElem_cons_succ]
    clear hF2
    refine wpAnyH_ready (rs := [3]) (by kernel_rfl) (by simp) (AllReadyH.cons rfl (fun K hK => ?_) AllReadyH.nil)
    try simp only [List.getElem_toArray, List.getElem_cons_zero, List.getElem_cons_succ]
    go_simp
    refine (H2.out HL.out _).mono ?_; rintro r w2 ⟨rfl, hF2⟩
    refine hK.out _ _ ⟨Lib.hid (hHeld.1.out.trans' hF2), range_fr hHeld.2.1 hF2 (Nat.lt_of_lt_of_le hp1 hHeld.1.out.size) (fun _ h => h), range_fr hHeld.2.2 hF2 (Nat.lt_of_lt_of_le hq1 hHeld.1.out.size) (fun _ h => h)⟩ (fun hHeld => ?_)
    clear hK K
    try simp only [Act.put, List.setIfInBounds_toArray, List.set_cons_zero, List.set_cons_succ, List.getElem_toArray, List.getElem_cons_zero, List.getElem_cons_succ]
    clear hF2
    refine wpAnyH_take (i := 4) (v := ?_) rfl (by kernel_rfl) (by kernel_rfl) (by kernel_rfl) (fun _ _ _ h => h) (Or.inl ⟨by rfl, ?_⟩) hHeld ?_
    rotate_left
    · intro W hSw
      try simp only [List.getElem_toArray, List.getElem_cons_zero, List.getElem_cons_succ]
      go_simp
      try rw [if_neg (by omega)]
      try with_reducible rfl
    try simp only [Act.put, List.setIfInBounds_toArray, List.set_cons_zero, List.set_cons_succ, List.getElem_toArray, List.getElem_cons_zero, List.getElem_cons_succ]
    refine wpAnyH_take (i := 5) (v := ?_) rfl (by kernel_rfl) (by kernel_rfl) (by kernel_rfl) (fun _ _ _ h => h) (Or.inl ⟨by rfl, ?_⟩) hHeld ?_
    rotate_left
    · intro W hSw
      try simp only [List.getElem_toArray, List.getElem_cons_zero, List.getElem_cons_succ]
      go_simp
      try rw [if_neg (by omega)]
      try with_reducible rfl
    try simp only [Act.put, List.setIfInBounds_toArray, List.set_cons_zero, List.set_cons_succ, List.getElem_toArray, List.getElem_cons_zero, List.getElem_cons_succ]
    refine wpAnyH_take (i := 6) rfl (by kernel_rfl) (by kernel_rfl) (by kernel_rfl) (fun _ _ _ h => h) (yieldsIf_load_mid (by rfl) 23 _ rfl p 0 rfl CD (.array 32 5) (fun _ h => h.2.1) Tryz.underSum rfl Z1.out) hHeld ?_
    try simp only [Act.put, List.setIfInBounds_toArray, List.set_cons_zero, List.set_cons_succ, List.getElem_toArray, List.getElem_cons_zero, List.getElem_cons_succ]
    refine wpAnyH_take (i := 8) rfl (by kernel_rfl) (by kernel_rfl) (by kernel_rfl) (fun _ _ _ h => h) (yieldsIf_load_mid (by rfl) 23 _ rfl p 0 rfl CD (.array 32 5) (fun _ h => h.2.1) Tryz.underSum rfl Z1.out) hHeld ?_
    try simp only [Act.put, List.setIfInBounds_toArray, List.set_cons_zero, List.set_cons_succ, List.getElem_toArray, List.getElem_cons_zero, List.getElem_cons_succ]
    refine wpAnyH_ready (rs := [7]) (by kernel_rfl) (by simp) (AllReadyH.cons rfl (fun K hK => ?_) AllReadyH.nil)
    try simp only [List.getElem_toArray, List.getElem_cons_zero, List.getElem_cons_succ]
    go_simp
    refine (H3.out _).mono ?_; rintro r w2 ⟨rfl, hF2⟩
    refine hK.out _ _ ⟨Lib.hid (hHeld.1.out.trans' hF2), range_fr hHeld.2.1 hF2 (Nat.lt_of_lt_of_le hp1 hHeld.1.out.size) (fun _ h => h), range_fr hHeld.2.2 hF2 (Nat.lt_of_lt_of_le hq1 hHeld.1.out.size) (fun _ h => h)⟩ (fun hHeld => ?_)
    clear hK K
    try simp only [Act.put, List.setIfInBounds_toArray, List.set_cons_zero, List.set_cons_succ, List.getElem_toArray, List.getElem_cons_zero, List.getElem_cons_succ]
    clear hF2
    refine wpAnyH_ready (rs := [9]) (by kernel_rfl) (by simp) (AllReadyH.cons rfl (fun K hK => ?_) AllReadyH.nil)
    try simp only [List.getElem_toArray, List.getElem_cons_zero, List.getElem_cons_succ]
    go_simp
    refine (H4.out _).mono ?_; rintro r w2 ⟨rfl, hF2⟩
    refine hK.out _ _ ⟨Lib.hid (hHeld.1.out.trans' hF2), range_fr hHeld.2.1 hF2 (Nat.lt_of_lt_of_le hp1 hHeld.1.out.size) (fun _ h => h), range_fr hHeld.2.2 hF2 (Nat.lt_of_lt_of_le hq1 hHeld.1.out.size) (fun _ h => h)⟩ (fun hHeld => ?_)
    clear hK K
    try simp only [Act.put, List.setIfInBounds_toArray, List.set_cons_zero, List.set_cons_succ, List.getElem_toArray, List.getElem_cons_zero, List.getElem_cons_succ]
    clear hF2
    refine wpAnyH_take (i := 10) (v := ?_) rfl (by kernel_rfl) (by kernel_rfl) (by kernel_rfl) (fun _ _ _ h => h) (Or.inl ⟨by rfl, ?_⟩) hHeld ?_
    rotate_left
    · intro W hSw
      try simp only [List.getElem_toArray, List.getElem_cons_zero, List.getElem_cons_succ]
      go_simp
      try rw [if_neg (by omega)]
      try with_reducible rfl
    try simp only [Act.put, List.setIfInBounds_toArray, List.set_cons_zero, List.set_cons_succ, List.getElem_toArray, List.getElem_cons_zero, List.getElem_cons_succ]
    refine wpAnyH_take (i := 11) (v := ?_) rfl (by kernel_rfl) (by kernel_rfl) (by kernel_rfl) (fun _ _ _ h => h) (Or.inl ⟨by rfl, ?_⟩) hHeld ?_
    rotate_left
    · intro W hSw
      try simp only [List.getElem_toArray, List.getElem_cons_zero, List.getElem_cons_succ]
      go_simp
      try rw [if_neg (by omega)]
      try with_reducible rfl
    try simp only [Act.put, List.setIfInBounds_toArray, List.set_cons_zero, List.set_cons_succ, List.getElem_toArray, List.getElem_cons_zero, List.getElem_cons_succ]
    refine wpAnyH_take (i := 12) (v := ?_) rfl (by kernel_rfl) (by kernel_rfl) (by kernel_rfl) (fun _ _ _ h => h) (Or.inl ⟨by rfl, ?_⟩) hHeld ?_
    rotate_left
    · intro W hSw
      try simp only [List.getElem_toArray, List.getElem_cons_zero, List.getElem_cons_succ]
      go_simp
      try rw [if_neg (by omega)]
      try with_reducible rfl
    try simp only [Act.put, List.setIfInBounds_toArray, List.set_cons_zero, List.set_cons_succ, List.getElem_toArray, List.getElem_cons_zero, List.getElem_cons_succ]
    refine wpAnyH_take (i := 13) rfl (by kernel_rfl) (by kernel_rfl) (by kernel_rfl) (fun _ _ _ h => h) (yieldsIf_load_mid (by rfl) 24 _ rfl q 0 rfl CK (.array 32 5) (fun _ h => h.2.2) Tryz.underKey rfl Z2.out) hHeld ?_
    try simp only [Act.put, List.setIfInBounds_toArray, List.set_cons_zero, List.set_cons_succ, List.getElem_toArray, List.getElem_cons_zero, List.getElem_cons_succ]
    refine wpAnyH_take (i := 15) rfl (by kernel_rfl) (by kernel_rfl) (by kernel_rfl) (fun _ _ _ h => h) (yieldsIf_load_mid (by rfl) 24 _ rfl q 0 rfl CK (.array 32 5) (fun _ h => h.2.2) Tryz.underKey rfl Z2.out) hHeld ?_
    try simp only [Act.put, List.setIfInBounds_toArray, List.set_cons_zero, List.set_cons_succ, List.getElem_toArray, List.getElem_cons_zero, List.getElem_cons_succ]
    refine wpAnyH_ready (rs := [14]) (by kernel_rfl) (by simp) (AllReadyH.cons rfl (fun K hK => ?_) AllReadyH.nil)
    try simp only [List.getElem_toArray, List.getElem_cons_zero, List.getElem_cons_succ]
    go_simp
    refine (H5.out _).mono ?_; rintro r w2 ⟨rfl, hF2⟩
    refine hK.out _ _ ⟨Lib.hid (hHeld.1.out.trans' hF2), range_fr hHeld.2.1 hF2 (Nat.lt_of_lt_of_le hp1 hHeld.1.out.size) (fun _ h => h), range_fr hHeld.2.2 hF2 (Nat.lt_of_lt_of_le hq1 hHeld.1.out.size) (fun _ h => h)⟩ (fun hHeld => ?_)
    clear hK K
    try simp only [Act.put, List.setIfInBounds_toArray, List.set_cons_zero, List.set_cons_succ, List.getElem_toArray, List.getElem_cons_zero, List.getElem_cons_succ]
    clear hF2
    refine wpAnyH_ready (rs := [16]) (by kernel_rfl) (by simp) (AllReadyH.cons rfl (fun K hK => ?_) AllReadyH.nil)
    try simp only [List.getElem_toArray, List.getElem_cons_zero, List.getElem_cons_succ]
    go_simp
    refine (H6.out _).mono ?_; rintro r w2 ⟨rfl, hF2⟩
    refine hK.out _ _ ⟨Lib.hid (hHeld.1.out.trans' hF2), range_fr hHeld.2.1 hF2 (Nat.lt_of_lt_of_le hp1 hHeld.1.out.size) (fun _ h => h), range_fr hHeld.2.2 hF2 (Nat.lt_of_lt_of_le hq1 hHeld.1.out.size) (fun _ h => h)⟩ (fun hHeld => ?_)
    clear hK K
    try simp only [Act.put, List.setIfInBounds_toArray, List.set_cons_zero, List.set_cons_succ, List.getElem_toArray, List.getElem_cons_zero, List.getElem_cons_succ]
    clear hF2
    refine wpAnyH_take (i := 17) (v := ?_) rfl (by kernel_rfl) (by kernel_rfl) (by kernel_rfl) (fun _ _ _ h => h) (Or.inl ⟨by rfl, ?_⟩) hHeld ?_
    rotate_left
    · intro W hSw
      try simp only [List.getElem_toArray, List.getElem_cons_zero, List.getElem_cons_succ]
      go_simp
      try rw [if_neg (by omega)]
      try with_reducible rfl
    try simp only [Act.put, List.setIfInBounds_toArray, List.set_cons_zero, List.set_cons_succ, List.getElem_toArray, List.getElem_cons_zero, List.getElem_cons_succ]
    refine wpAnyH_take (i := 18) (v := ?_) rfl (by kernel_rfl) (by kernel_rfl) (by kernel_rfl) (fun _ _ _ h => h) (Or.inl ⟨by rfl, ?_⟩) hHeld ?_
    rotate_left
    · intro W hSw
      try simp only [List.getElem_toArray, List.getElem_cons_zero, List.getElem_cons_succ]
      go_simp
      try rw [if_neg (by omega)]
      try with_reducible rfl
    try simp only [Act.put, List.setIfInBounds_toArray, List.set_cons_zero, List.set_cons_succ, List.getElem_toArray, List.getElem_cons_zero, List.getElem_cons_succ]
    refine wpAnyH_take (i := 19) (v := ?_) rfl (by kernel_rfl) (by kernel_rfl) (by kernel_rfl) (fun _ _ _ h => h) (Or.inl ⟨by rfl, ?_⟩) hHeld ?_
    rotate_left
    · intro W hSw
      try simp only [List.getElem_toArray, List.getElem_cons_zero, List.getElem_cons_succ]
      go_simp
      try rw [if_neg (by omega)]
      try with_reducible rfl
    try simp only [Act.put, List.setIfInBounds_toArray, List.set_cons_zero, List.set_cons_succ, List.getElem_toArray, List.getElem_cons_zero, List.getElem_cons_succ]
    refine wpAnyH_take (i := 20) (v := ?_) rfl (by kernel_rfl) (by kernel_rfl) (by kernel_rfl) (fun _ _ _ h => h) (Or.inl ⟨by rfl, ?_⟩) hHeld ?_
    rotate_left
    · intro W hSw
      try simp only [List.getElem_toArray, List.getElem_cons_zero, List.getElem_cons_succ]
      go_simp
      try rw [if_neg (by omega)]
      try with_reducible rfl
    try simp only [Act.put, List.setIfInBounds_toArray, List.set_cons_zero, List.set_cons_succ, List.getElem_toArray, List.getElem_cons_zero, List.getElem_cons_succ]
    refine wpAnyH_take (i := 22) (v := ?_) rfl (by kernel_rfl) (by kernel_rfl) (by kernel_rfl) (fun _ _ _ h => h) (Or.inl ⟨by rfl, ?_⟩) hHeld ?_
    rotate_left
    · intro W hSw
      try simp only [List.getElem_toArray, List.getElem_cons_zero, List.getElem_cons_succ]
      go_simp
      try rw [if_neg (by omega)]
      try with_reducible rfl
    try simp only [Act.put, List.setIfInBounds_toArray, List.set_cons_zero, List.set_cons_succ, List.getElem_toArray, List.getElem_cons_zero, List.getElem_cons_succ]
    refine wpAnyH_take (i := 23) (v := ?_) rfl (by kernel_rfl) (by kernel_rfl) (by kernel_rfl) (fun _ _ _ h => h) (Or.inl ⟨by rfl, ?_⟩) hHeld ?_
    rotate_left
    · intro W hSw
      try simp only [List.getElem_toArray, List.getElem_cons_zero, List.getElem_cons_succ]
      go_simp
      try rw [if_neg (by omega)]
      try with_reducible rfl
    try simp only [Act.put, List.setIfInBounds_toArray, List.set_cons_zero, List.set_cons_succ, List.getElem_toArray, List.getElem_cons_zero, List.getElem_cons_succ]
    refine wpAnyH_ready (rs := [21]) (by kernel_rfl) (by simp) (AllReadyH.cons rfl (fun K hK => ?_) AllReadyH.nil)
    try simp only [List.getElem_toArray, List.getElem_cons_zero, List.getElem_cons_succ]
    go_simp
    refine (H7.out HL.out _).mono ?_; rintro r w2 ⟨rfl, rfl⟩
    refine hK.out _ _ hHeld (fun hHeld => ?_)
    clear hK K
    try simp only [Act.put, List.setIfInBounds_toArray, List.set_cons_zero, List.set_cons_succ, List.getElem_toArray, List.getElem_cons_zero, List.getElem_cons_succ]
    refine wpAnyH_take (i := 24) (v := ?_) rfl (by kernel_rfl) (by kernel_rfl) (by kernel_rfl) (fun _ _ _ h => h) (Or.inl ⟨by rfl, ?_⟩) hHeld ?_
    rotate_left
    · intro W hSw
      try simp only [List.getElem_toArray, List.getElem_cons_zero, List.getElem_cons_succ]
      go_simp
      try rw [if_neg (by omega)]
      try with_reducible rfl
    try simp only [Act.put, List.setIfInBounds_toArray, List.set_cons_zero, List.set_cons_succ, List.getElem_toArray, List.getElem_cons_zero, List.getElem_cons_succ]
    refine wpAnyH_take (i := 25) (v := ?_) rfl (by kernel_rfl) (by kernel_rfl) (by kernel_rfl) (fun _ _ _ h => h) (Or.inl ⟨by rfl, ?_⟩) hHeld ?_
    rotate_left
    · intro W hSw
      try simp only [List.getElem_toArray, List.getElem_cons_zero, List.getElem_cons_succ]
      go_simp
      try rw [if_neg (by omega)]
      try with_reducible rfl
    try simp only [Act.put, List.setIfInBounds_toArray, List.set_cons_zero, List.set_cons_succ, List.getElem_toArray, List.getElem_cons_zero, List.getElem_cons_succ]
    refine wpAnyH_take (i := 26) (v := ?_) rfl (by kernel_rfl) (by kernel_rfl) (by kernel_rfl) (fun _ _ _ h => h) (Or.inl ⟨by rfl, ?_⟩) hHeld ?_
    rotate_left
    · intro W hSw
      try simp only [List.getElem_toArray, List.getElem_cons_zero, List.getElem_cons_succ]
      go_simp
      try rw [if_neg (by omega)]
      try with_reducible rfl
    try simp only [Act.put, List.setIfInBounds_toArray, List.set_cons_zero, List.set_cons_succ, List.getElem_toArray, List.getElem_cons_zero, List.getElem_cons_succ]
    refine wpAnyH_take (i := 27) rfl (by kernel_rfl) (by kernel_rfl) (by kernel_rfl) (fun _ _ _ h => h) (yieldsIf_load_mid (by rfl) 23 _ rfl p 0 rfl CD (.array 32 5) (fun _ h => h.2.1) Tryz.underSum rfl Z1.out) hHeld ?_
    try simp only [Act.put, List.setIfInBounds_toArray, List.set_cons_zero, List.set_cons_succ, List.getElem_toArray, List.getElem_cons_zero, List.getElem_cons_succ]
    refine wpAnyH_ready (rs := [28]) (by kernel_rfl) (by simp) (AllReadyH.cons rfl (fun K hK => ?_) AllReadyH.nil)
    try simp only [List.getElem_toArray, List.getElem_cons_zero, List.getElem_cons_succ]
    go_simp
    refine (H3.out _).mono ?_; rintro r w2 ⟨rfl, hF2⟩
    refine hK.out _ _ ⟨Lib.hid (hHeld.1.out.trans' hF2), range_fr hHeld.2.1 hF2 (Nat.lt_of_lt_of_le hp1 hHeld.1.out.size) (fun _ h => h), range_fr hHeld.2.2 hF2 (Nat.lt_of_lt_of_le hq1 hHeld.1.out.size) (fun _ h => h)⟩ (fun hHeld => ?_)
    clear hK K
    try simp only [Act.put, List.setIfInBounds_toArray, List.set_cons_zero, List.set_cons_succ, List.getElem_toArray, List.getElem_cons_zero, List.getElem_cons_succ]
    clear hF2
    refine wpAnyH_ready (rs := [29]) (by kernel_rfl) (by simp) (AllReadyH.cons rfl (fun K hK => ?_) AllReadyH.nil)
    try simp only [List.getElem_toArray, List.getElem_cons_zero, List.getElem_cons_succ]
    go_simp
    refine (H8.out _).mono ?_; rintro r w2 ⟨rfl, hF2⟩
    refine hK.out _ _ ⟨Lib.hid (hHeld.1.out.trans' hF2), range_fr hHeld.2.1 hF2 (Nat.lt_of_lt_of_le hp1 hHeld.1.out.size) (fun _ h => h), range_fr hHeld.2.2 hF2 (Nat.lt_of_lt_of_le hq1 hHeld.1.out.size) (fun _ h => h)⟩ (fun hHeld => ?_)
    clear hK K
    try simp only [Act.put, List.setIfInBounds_toArray, List.set_cons_zero, List.set_cons_succ, List.getElem_toArray, List.getElem_cons_zero, List.getElem_cons_succ]
    clear hF2
    refine wpAnyH_take (i := 30) (v := ?_) rfl (by kernel_rfl) (by kernel_rfl) (by kernel_rfl) (fun _ _ _ h => h) (Or.inl ⟨by rfl, ?_⟩) hHeld ?_
    rotate_left
    · intro W hSw
      try simp only [List.getElem_toArray, List.getElem_cons_zero, List.getElem_cons_succ]
      go_simp
      try rw [if_neg (by omega)]
      try with_reducible rfl
    try simp only [Act.put, List.setIfInBounds_toArray, List.set_cons_zero, List.set_cons_succ, List.getElem_toArray, List.getElem_cons_zero, List.getElem_cons_succ]
    refine wpAnyH_take (i := 31) (v := ?_) rfl (by kernel_rfl) (by kernel_rfl) (by kernel_rfl) (fun _ _ _ h => h) (Or.inl ⟨by rfl, ?_⟩) hHeld ?_
    rotate_left
    · intro W hSw
      try simp only [List.getElem_toArray, List.getElem_cons_zero, List.getElem_cons_succ]
      go_simp
      try rw [if_neg (by omega)]
      try with_reducible rfl
    try simp only [Act.put, List.setIfInBounds_toArray, List.set_cons_zero, List.set_cons_succ, List.getElem_toArray, List.getElem_cons_zero, List.getElem_cons_succ]
    refine wpAnyH_take (i := 32) rfl (by kernel_rfl) (by kernel_rfl) (by kernel_rfl) (fun _ _ _ h => h) (yieldsIf_load_mid (by rfl) 24 _ rfl q 0 rfl CK (.array 32 5) (fun _ h => h.2.2) Tryz.underKey rfl Z2.out) hHeld ?_
    try simp only [Act.put, List.setIfInBounds_toArray, List.set_cons_zero, List.set_cons_succ, List.getElem_toArray, List.getElem_cons_zero, List.getElem_cons_succ]
    refine wpAnyH_ready (rs := [33]) (by kernel_rfl) (by simp) (AllReadyH.cons rfl (fun K hK => ?_) AllReadyH.nil)
    try simp only [List.getElem_toArray, List.getElem_cons_zero, List.getElem_cons_succ]
    go_simp
    refine (H5.out _).mono ?_; rintro r w2 ⟨rfl, hF2⟩
    refine hK.out _ _ ⟨Lib.hid (hHeld.1.out.trans' hF2), range_fr hHeld.2.1 hF2 (Nat.lt_of_lt_of_le hp1 hHeld.1.out.size) (fun _ h => h), range_fr hHeld.2.2 hF2 (Nat.lt_of_lt_of_le hq1 hHeld.1.out.size) (fun _ h => h)⟩ (fun hHeld => ?_)
    clear hK K
    try simp only [Act.put, List.setIfInBounds_toArray, List.set_cons_zero, List.set_cons_succ, List.getElem_toArray, List.getElem_cons_zero, List.getElem_cons_succ]
    clear hF2
    refine wpAnyH_ready (rs := [34]) (by kernel_rfl) (by simp) (AllReadyH.cons rfl (fun K hK => ?_) AllReadyH.nil)
    try simp only [List.getElem_toArray, List.getElem_cons_zero, List.getElem_cons_succ]
    go_simp
    refine (H9.out _).mono ?_; rintro r w2 ⟨rfl, hF2⟩
    refine hK.out _ _ ⟨Lib.hid (hHeld.1.out.trans' hF2), range_fr hHeld.2.1 hF2 (Nat.lt_of_lt_of_le hp1 hHeld.1.out.size) (fun _ h => h), range_fr hHeld.2.2 hF2 (Nat.lt_of_lt_of_le hq1 hHeld.1.out.size) (fun _ h => h)⟩ (fun hHeld => ?_)
    clear hK K
    try simp only [Act.put, List.setIfInBounds_toArray, List.set_cons_zero, List.set_cons_succ, List.getElem_toArray, List.getElem_cons_zero, List.getElem_cons_succ]
    clear hF2
    refine wpAnyH_take (i := 35) (v := ?_) rfl (by kernel_rfl) (by kernel_rfl) (by kernel_rfl) (fun _ _ _ h => h) (Or.inl ⟨by rfl, ?_⟩) hHeld ?_
    rotate_left
    · intro W hSw
      try simp only [List.getElem_toArray, List.getElem_cons_zero, List.getElem_cons_succ]
      go_simp
      try rw [if_neg (by omega)]
      try with_reducible rfl
    try simp only [Act.put, List.setIfInBounds_toArray, List.set_cons_zero, List.set_cons_succ, List.getElem_toArray, List.getElem_cons_zero, List.getElem_cons_succ]
    refine wpAnyH_take (i := 36) (v := ?_) rfl (by kernel_rfl) (by kernel_rfl) (by kernel_rfl) (fun _ _ _ h => h) (Or.inl ⟨by rfl, ?_⟩) hHeld ?_
    rotate_left
    · intro W hSw
      try simp only [List.getElem_toArray, List.getElem_cons_zero, List.getElem_cons_succ]
      go_simp
      try rw [if_neg (by omega)]
      try with_reducible rfl
    try simp only [Act.put, List.setIfInBounds_toArray, List.set_cons_zero, List.set_cons_succ, List.getElem_toArray, List.getElem_cons_zero, List.getElem_cons_succ]
    refine wpAnyH_take (i := 37) (v := ?_) rfl (by kernel_rfl) (by kernel_rfl) (by kernel_rfl) (fun _ _ _ h => h) (Or.inl ⟨by rfl, ?_⟩) hHeld ?_
    rotate_left
    · intro W hSw
      try simp only [List.getElem_toArray, List.getElem_cons_zero, List.getElem_cons_succ]
      go_simp
      try rw [if_neg (by omega)]
      try with_reducible rfl
    try simp only [Act.put, List.setIfInBounds_toArray, List.set_cons_zero, List.set_cons_succ, List.getElem_toArray, List.getElem_cons_zero, List.getElem_cons_succ]
    refine wpAnyH_take (i := 40) (v := ?_) rfl (by kernel_rfl) (by kernel_rfl) (by kernel_rfl) (fun _ _ _ h => h) (Or.inl ⟨by rfl, ?_⟩) hHeld ?_
    rotate_left
    · intro W hSw
      try simp only [List.getElem_toArray, List.getElem_cons_zero, List.getElem_cons_succ]
      go_simp
      try rw [if_neg (by omega)]
      try with_reducible rfl
    try simp only [Act.put, List.setIfInBounds_toArray, List.set_cons_zero, List.set_cons_succ, List.getElem_toArray, List.getElem_cons_zero, List.getElem_cons_succ]
    refine wpAnyH_ready (rs := [38]) (by kernel_rfl) (by simp) (AllReadyH.cons rfl (fun K hK => ?_) AllReadyH.nil)
    try simp only [List.getElem_toArray, List.getElem_cons_zero, List.getElem_cons_succ]
    go_simp
    refine (H7.out HL.out _).mono ?_; rintro r w2 ⟨rfl, rfl⟩
    refine hK.out _ _ hHeld (fun hHeld => ?_)
    clear hK K
    try simp only [Act.put, List.setIfInBounds_toArray, List.set_cons_zero, List.set_cons_succ, List.getElem_toArray, List.getElem_cons_zero, List.getElem_cons_succ]
    refine wpAnyH_ready (rs := [39]) (by kernel_rfl) (by simp) (AllReadyH.cons rfl (fun K hK => ?_) AllReadyH.nil)
    try simp only [List.getElem_toArray, List.getElem_cons_zero, List.getElem_cons_succ]
    go_simp
    refine (H10.out HL.out _).mono ?_; rintro r w2 ⟨rfl, hF2⟩
    refine hK.out _ _ ⟨Lib.hid (hHeld.1.out.trans' hF2), range_fr hHeld.2.1 hF2 (Nat.lt_of_lt_of_le hp1 hHeld.1.out.size) (fun _ h => h), range_fr hHeld.2.2 hF2 (Nat.lt_of_lt_of_le hq1 hHeld.1.out.size) (fun _ h => h)⟩ (fun hHeld => ?_)
    clear hK K
    try simp only [Act.put, List.setIfInBounds_toArray, List.set_cons_zero, List.set_cons_succ, List.getElem_toArray, List.getElem_cons_zero, List.getElem_cons_succ]
    clear hF2
    refine wpAnyH_ready (rs := [41]) (by kernel_rfl) (by simp) (AllReadyH.cons rfl (fun K hK => ?_) AllReadyH.nil)
    try simp only [List.getElem_toArray, List.getElem_cons_zero, List.getElem_cons_succ]
    go_simp
    refine (H11.out HL.out _).mono ?_; rintro r w2 ⟨rfl, rfl⟩
    refine hK.out _ _ hHeld (fun hHeld => ?_)
    clear hK K
    try simp only [Act.put, List.setIfInBounds_toArray, List.set_cons_zero, List.set_cons_succ, List.getElem_toArray, List.getElem_cons_zero, List.getElem_cons_succ]
    refine wpAnyH_take (i := 42) (v := ?_) rfl (by kernel_rfl) (by kernel_rfl) (by kernel_rfl) (fun _ _ _ h => h) (Or.inl ⟨by rfl, ?_⟩) hHeld ?_
    rotate_left
    · intro W hSw
      try simp only [List.getElem_toArray, List.getElem_cons_zero, List.getElem_cons_succ]
      go_simp
      try rw [if_neg (by omega)]
      try with_reducible rfl
    try simp only [Act.put, List.setIfInBounds_toArray, List.set_cons_zero, List.set_cons_succ, List.getElem_toArray, List.getElem_cons_zero, List.getElem_cons_succ]
    refine wpAnyH_take (i := 43) (v := ?_) rfl (by kernel_rfl) (by kernel_rfl) (by kernel_rfl) (fun _ _ _ h => h) (Or.inl ⟨by rfl, ?_⟩) hHeld ?_
    rotate_left
    · intro W hSw
      try simp only [List.getElem_toArray, List.getElem_cons_zero, List.getElem_cons_succ]
      go_simp
      try rw [if_neg (by omega)]
      try with_reducible rfl
    try simp only [Act.put, List.setIfInBounds_toArray, List.set_cons_zero, List.set_cons_succ, List.getElem_toArray, List.getElem_cons_zero, List.getElem_cons_succ]
    refine wpAnyH_take (i := 44) (v := ?_) rfl (by kernel_rfl) (by kernel_rfl) (by kernel_rfl) (fun _ _ _ h => h) (Or.inl ⟨by rfl, ?_⟩) hHeld ?_
    rotate_left
    · intro W hSw
      try simp only [List.getElem_toArray, List.getElem_cons_zero, List.getElem_cons_succ]
      go_simp
      try rw [if_neg (by omega)]
      try with_reducible rfl
    try simp only [Act.put, List.setIfInBounds_toArray, List.set_cons_zero, List.set_cons_succ, List.getElem_toArray, List.getElem_cons_zero, List.getElem_cons_succ]
    refine wpAnyH_done (by kernel_rfl) ?_ _
    have HE := Lib.hid (HF1.out.drew.trans' hHeld.1.out)
    clear hHeld
    go_wp2_with fail
    go_ret
    exact ⟨rfl, HE.out⟩
  · have hli : decide ((1000 : Int) < (s.length : Int)) = true := decide_eq_true (by omega)
    go_wp2_with fail
    go_ret
    exact ⟨rfl, HF1.out⟩
end Go.Proofs.YtcddlemkimbkcaaGreatDoor
