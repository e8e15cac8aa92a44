/-
  The walks of keys.signer and of keys.Of at an artifact.
-/
import Derived.Test.YtcddlemkimbkcaaGreatDoorKStrs
import Derived.Test.YtcddlemkimbkcaaGreatDoorKKeysIs
namespace Go.Proofs.YtcddlemkimbkcaaGreatDoor
set_option linter.unusedVariables false
set_option linter.unusedSimpArgs false
set_option linter.unusedSectionVars false
open Go.RowKit Go.Sort
variable [OldK]
/-- the key of a signer -/
def kSigner (s : Sg) : Bs := if s.id = [] then sKey ++ hexS s.key else sId ++ s.id
set_option maxRecDepth 100000 in
set_option maxHeartbeats 1000000 in
theorem kSigner_c (s : Sg) (w : World) (hok : s.ok) (hlen : s.id.length ≤ 1000000) :
    Calls Tryz.prog 93 #[.agg s.cells] w fun e w' => e = .returned (.string ⟨(kSigner s).toArray⟩) ∧ Fr NoB w w' := by
  have hR : (w.alloc (.cells s.cells 54)).rangeAt w.heap.size 0 s.cells.toList := range_block (heap_alloc_new w (.cells s.cells 54))
  have hF := (Fr.refl (M := NoB)).alloc (w := w) (.cells s.cells 54)
  have hW : w.heap.size < (w.alloc (.cells s.cells 54)).heap.size := by rw [World.size_alloc]; omega
  rw [Sg.list, range_append, range_append, range_one] at hR
  obtain ⟨c0, cK, -⟩ := hR
  obtain ⟨R, hRv⟩ : ∃ R, kSigner s = R := ⟨_, rfl⟩
  rw [hRv]
  have hkl := hok.1
  obtain ⟨cs, hcs⟩ : ∃ cs, s.cells = cs := ⟨_, rfl⟩
  rw [hcs] at c0 cK hF hW ⊢
  clear hcs hok
  obtain ⟨id, key, sig⟩ := s
  simp only at c0 cK hkl hlen
  go_enter Tryz.func93, Tryz.ntmps93
  go_upto_region 1 with (fail)
  change Code.wp _ _ _ _ (w.alloc (.cells cs 54))
  obtain ⟨W, hWe⟩ : ∃ W, w.alloc (.cells cs 54) = W := ⟨_, rfl⟩
  rw [hWe] at c0 cK hF hW ⊢
  obtain ⟨p, hp⟩ : ∃ p, w.heap.size = p := ⟨_, rfl⟩
  rw [hp] at c0 cK hW
  rw [hp]
  clear hWe hp
  have HF := Lib.hid hF
  cases id with
  | cons c r =>
    have hne : (c :: r : Bs).isEmpty = false := rfl
    have HR : Hid (sId ++ (c :: r) = R) := Lib.hid (by rw [← hRv]; rfl)
    obtain ⟨l, hl⟩ : ∃ l, (c :: r : Bs) = l := ⟨_, rfl⟩
    rw [hl] at c0 hne hlen HR
    have HI := Lib.hid (fun V => kIdentity_c l V (by omega))
    clear hl hRv hF cK
    go_wp2_with fail
    refine (HI.out _).mono ?_
    rintro e w1 ⟨rfl, rfl⟩
    go_wp2_with fail
    go_ret
    exact ⟨by rw [HR.out] <;> rfl, HF.out⟩
  | nil =>
    have HR : Hid (sKey ++ hexS key = R) := Lib.hid (by rw [← hRv]; rfl)
    have HI := Lib.hid (fun V => kKey_c key V hkl)
    have cK' : W.rangeAt p 1 (Lib.byteCells key) := cK
    have HK := Lib.hid cK'
    have HZ := Lib.hid (show (Tryz.prog.info? 24).map (·.size) = some (Lib.byteCells key).length by rw [Tryz.sizeKey, byteCells_len, hkl])
    clear hRv hF cK cK' hkl
    go_wp2_with ((with_reducible refine wpList_load_mid ?_ 24 _ rfl p 1 ?_ (Lib.byteCells key) (.array 32 5) HK.out Tryz.underKey ?_ HZ.out ?_); rfl; rfl; rfl)
    refine (HI.out _).mono ?_
    rintro e w1 ⟨rfl, hF1⟩
    have HF1 := Lib.hid (HF.out.trans' hF1)
    clear hF1
    go_wp2_with fail
    go_ret
    exact ⟨by rw [HR.out] <;> rfl, HF1.out⟩
theorem Tryz.infoStr : (Tryz.prog.info? 9).map (fun i => (i.zero, i.size, i.bytes)) = some (some (.string ⟨#[]⟩), 1, 16) := by kernel_rfl
/-- what an artifact's keys are -/
def pKeys1 (e : En) : List Bs := Lib.compact (sortS (e.sigs.map kSigner ++ [sSha ++ hexS e.digest]))
set_option maxRecDepth 100000 in
set_option maxHeartbeats 4000000 in
theorem keysOf1_c (S S' : Nat → Prop) (e : En) (pv sv : Value) (w : World) (hk : e.kind = 1) (hok : e.ok) (hb : SB S e.payload pv w) (hg : GS S' e.sigs sv w) (hchk : pCheck (fun _ => false) e = true)
    (hty : e.typ.length ≤ 1000000) (hid : e.ident.length ≤ 1000000) (hpl : e.payload.length ≤ 1000000000) (hsl : e.sigs.length ≤ 1000) (hsi : ∀ s ∈ e.sigs, s.id.length ≤ 1000000) :
    Calls Tryz.prog 52 #[.agg (e.cells pv sv).toArray] w fun r w' => (∃ v, r = .returned (.tuple #[v, .nilIface]) ∧ SS (fun k => w.heap.size ≤ k) (pKeys1 e) v w') ∧ Fr NoB w w' := by
  obtain ⟨a3, c3, rfl, hc3, hg3⟩ := id hg
  have hR : (w.alloc (.cells (e.cells pv (.slice a3 e.sigs.length c3)).toArray 39)).rangeAt w.heap.size 0 (e.cells pv (.slice a3 e.sigs.length c3)) := by simpa using range_block (heap_alloc_new w (.cells (e.cells pv (.slice a3 e.sigs.length c3)).toArray 39))
  have hF : Fr NoB w (w.alloc (.cells (e.cells pv (.slice a3 e.sigs.length c3)).toArray 39)) := Fr.refl.alloc _
  have hW : w.heap.size < (w.alloc (.cells (e.cells pv (.slice a3 e.sigs.length c3)).toArray 39)).heap.size := by rw [World.size_alloc]; omega
  obtain ⟨c0, cD, -, -, -, -, -, c69⟩ := En.parts hok hR
  rw [hk] at c0
  have hck := fun V (h : Fr NoB w V) => checkE_c (fun _ => false) S S' e pv (.slice a3 e.sigs.length c3) V hok (hb.fr h (fun _ _ _ _ h => h)) (hg.fr h (fun _ _ _ h => h)) (fun h => absurd h (by omega)) hty hid hpl hsl hsi
  simp only [hchk] at hck
  have hdg := fun V => kDigest_c e.digest V hok.1
  have hsz := En.size hok pv (.slice a3 e.sigs.length c3)
  have hz : (Tryz.prog.info? 39).map (·.size) = some (e.cells pv (.slice a3 e.sigs.length c3)).length := by rw [Tryz.sizeEntry, hsz]
  have hzD : (Tryz.prog.info? 23).map (·.size) = some (Lib.byteCells e.digest).length := by rw [Tryz.sizeSum, byteCells_len, hok.1]
  obtain ⟨C, hC⟩ : ∃ C, e.cells pv (.slice a3 e.sigs.length c3) = C := ⟨_, rfl⟩
  rw [hC] at hR hF hW c0 cD c69 hck hz ⊢
  have Hck := Lib.hid hck
  have Hdg := Lib.hid hdg
  have Hz := Lib.hid hz
  have HzD := Lib.hid hzD
  obtain ⟨d, hu, hd⟩ := Tryz.rowEntry
  have Hu := Lib.hid hu
  have Hd := Lib.hid hd
  obtain ⟨d2, hu2, hd2⟩ := Tryz.rowSig
  have Hu2 := Lib.hid hu2
  have Hd2 := Lib.hid hd2
  obtain ⟨i0, hi0, hz0, hz1, hz2⟩ := info_parts Tryz.infoStr
  have Hg3 := Lib.hid hg3
  have Hok := Lib.hid hok
  have Hsi := Lib.hid hsi
  obtain ⟨DK, hDK⟩ : ∃ D, Lib.byteCells e.digest = D := ⟨_, rfl⟩
  rw [hDK] at cD Hdg HzD
  unfold pKeys1
  obtain ⟨X, hX⟩ : ∃ X, sSha ++ hexS e.digest = X := ⟨_, rfl⟩
  rw [hX] at Hdg ⊢
  obtain ⟨l, hl⟩ : ∃ l, e.sigs = l := ⟨_, rfl⟩
  rw [hl] at c69 Hg3 Hsi hsl hc3 ⊢
  have Hok3 := Lib.hid (show ∀ s ∈ l, s.ok by rw [← hl]; exact hok.2.2)
  clear hck hdg hz hzD hsz hu hd hu2 hd2 hg3 hok hsi hC hg hb hDK hX hchk hty hid hpl hk hl Hok
  go_enter Tryz.func52, Tryz.ntmps52
  go_upto_region 1 with (fail)
  change Code.wp _ _ _ _ (w.alloc (.cells C.toArray 39))
  obtain ⟨W, hWe⟩ : ∃ W, w.alloc (.cells C.toArray 39) = W := ⟨_, rfl⟩
  rw [hWe] at hR hF hW c0 cD c69 ⊢
  obtain ⟨p, hp⟩ : ∃ p, w.heap.size = p := ⟨_, rfl⟩
  rw [hp] at hR hW c0 cD c69
  rw [hp]
  have HpB : Hid (w.heap.size ≤ p) := Lib.hid (by omega)
  clear hWe hp
  have HR := Lib.hid hR
  have HF := Lib.hid hF
  have HD := Lib.hid cD
  clear hR hF cD
  go_wp2_with ((with_reducible refine wpList_load_mid ?_ 39 _ rfl p 0 ?_ C d HR.out Hu.out ?_ Hz.out ?_); rfl; rfl; exact Hd.out)
  refine (Hck.out _ HF.out).mono ?_
  rintro r w1 ⟨rfl, hF1⟩
  unfold chkV
  have x0 := Fr.cell hF1 c0
  have x69 := Fr.cell hF1 c69
  have HD1 := Lib.hid (range_fr HD.out hF1 hW (fun _ h => h))
  have HF1 := Lib.hid (HF.out.trans' hF1)
  have hw1 : p < w1.heap.size := Nat.lt_of_lt_of_le hW hF1.size
  clear hF1 c0 c69 HR HD
  go_wp2_with fail
  have HO0 := Lib.hid (OS.nil w1.heap.size w1)
  have Hx0 := Lib.hid x0
  clear x0 x69
  obtain ⟨B1, hB1⟩ : ∃ B, w1.heap.size = B := ⟨_, rfl⟩
  rw [hB1] at HO0 hw1
  have HB1 := Lib.hid hB1
  clear hB1
  go_loopg [5, 20] (l.length + 1) (fun gf vo vi wr => ∃ i : Nat, vi = .int .i64 i ∧ i ≤ l.length ∧ i + gf = l.length + 1 ∧ Hid (OS B1 ((l.take i).map kSigner) vo wr) ∧ Hid (Fr (fun k _ => B1 ≤ k) w1 wr))
  case atStart => exact ⟨0, rfl, by omega, by omega, HO0, Lib.hid Fr.refl⟩
  case round =>
    obtain ⟨i, rfl, hi, hig, HO, HFr⟩ := hrel
    have hwB := HFr.out.size
    rw [HB1.out] at hwB
    by_cases hlt : i < l.length
    · rcases Hg3.out with ⟨rfl, -⟩ | ⟨b, o, rfl, hS', hbw, hr⟩
      · simp at hlt
      have hlti : decide ((i : Int) < l.length) = true := decide_eq_true (by omega)
      have hil : (i : Int) < l.length := by omega
      have hso := Hok3.out _ (List.getElem_mem hlt)
      have hsi := Hsi.out _ (List.getElem_mem hlt)
      have hbw1 : b < B1 := by have h := HF1.out.size; have h1 := HB1.out; omega
      have hR1 : w1.rangeAt b (o + i * 97) l[i].cells.toList := range_fr (hr i hlt) HF1.out hbw (fun _ h => h)
      have hR2 : wr.rangeAt b (o + i * 97) l[i].cells.toList := range_fr hR1 HFr.out (by rw [HB1.out]; exact hbw1) (fun _ h => by omega)
      have htk : (l.take (i + 1)).map kSigner = (l.take i).map kSigner ++ [kSigner l[i]] := by
        rw [List.take_add_one, List.getElem?_eq_getElem hlt, List.map_append]
        rfl
      have hlen : ((l.take i).map kSigner).length = i := by simp; omega
      obtain ⟨s, hs⟩ : ∃ s, l[i] = s := ⟨_, rfl⟩
      rw [hs] at hso hsi hR2 htk
      have hsz := Sg.size hso
      have hsg := fun V => kSigner_c s V hso hsi
      have HRs := Lib.hid hR2
      have Hz1 := Lib.hid (show (Tryz.prog.info? 54).map (·.size) = some s.cells.toList.length by rw [Tryz.sizeSig]; simp [hsz])
      have Hz3 := Lib.hid (show (Tryz.prog.info? 54).map (·.size) = some s.cells.size by rw [Tryz.sizeSig, hsz])
      have H1 := Lib.hid (Sg.one s)
      have HT := Lib.hid (show ∀ z : Array Value, z.size = 97 → (wr.alloc (.cells z 54)).there wr.heap.size 0 s.cells.size from fun z hz => there_block (heap_alloc_new wr _) (by rw [hsz, hz]; exact Nat.le_refl _))
      obtain ⟨Y, hY⟩ : ∃ Y, kSigner s = Y := ⟨_, rfl⟩
      obtain ⟨O, hO⟩ : ∃ O, (l.take i).map kSigner = O := ⟨_, rfl⟩
      rw [hY] at hsg htk
      rw [hO] at HO hlen htk
      obtain ⟨cs, hcs⟩ : ∃ cs, s.cells = cs := ⟨_, rfl⟩
      rw [hcs] at HRs Hz1 Hz3 H1 HT hsg
      have Hsg := Lib.hid hsg
      have Htk := Lib.hid htk
      have HOL := Lib.hid hlen
      obtain ⟨ao, co, hvo⟩ := HO.out.form
      subst hvo
      clear hR1 hR2 hs hso hsi hsz hsg htk hlen hY hO hcs hr
      go_wp2_with (first
        | ((with_reducible refine wpList_load_mid ?_ 54 _ rfl b (o + i * 97) ?_ cs.toList d2 HRs.out Hu2.out ?_ Hz1.out ?_); rfl; rfl; exact Hd2.out)
        | ((with_reducible refine wpList_store_mid ?_ 54 _ _ rfl wr.heap.size 0 cs ?_ ?_ (HT.out _ rfl) Hz3.out H1.out ?_); rfl; rfl; rfl)
        | ((with_reducible refine wpList_load_mid ?_ 54 _ rfl wr.heap.size 0 ?_ cs.toList d2 (World.rangeAt_setCells_same _ wr.heap.size 0 cs.toList (by simpa using HT.out _ rfl)) Hu2.out ?_ Hz1.out ?_); rfl; rfl; exact Hd2.out))
      refine (Hsg.out _).mono ?_
      rintro e' w2 ⟨rfl, hF2⟩
      have hF3 : Fr NoB wr w2 := (((Fr.refl (M := NoB)).alloc (.cells Tryz.zeroCells54 54)).trans (setCells_fr _ _ _ _) (fun k _ hm => .inr (by omega))).trans' hF2
      have HO2 := Lib.hid (HO.out.fr hF3 (fun _ _ _ _ h => h))
      have HF3 := Lib.hid hF3
      have hw2 := hF3.size
      clear hF2 hF3 HT HRs Hz1 Hz3 H1 Hsg
      go_wp2_with (at_builtin; refine wpList_append_own _ rfl _ _ 63 rfl B1 9 i0 (.string ⟨#[]⟩) 1 16 Tryz.underlying63 hi0 hz0 hz1 hz2 rfl (by decide) _ _ _ rfl (HO2.out.alloc _) ⟨_, 0, none⟩ 1 1 [.string ⟨Y.toArray⟩] rfl rfl ?c1 ?c2 ?c3 ?c4 ?c5 ?_)
      case c1 => exact cells_at _ _ _ _ rfl
      case c2 => simp [Value.oneCell']
      case c3 => have := HOL.out; unfold maxLen; omega
      case c4 => have := HOL.out; omega
      case c5 => simp; omega
      intro v' w3 hown' hgrow _
      obtain ⟨hO3, hF4⟩ := HO2.out.push (x := Y) (Fr.refl.alloc _) hown' hgrow
      have HO3 := Lib.hid hO3
      have HF4 := Lib.hid ((HFr.out.trans HF3.out (fun _ _ h => h.elim)).trans hF4 (fun _ _ h => .inl h))
      clear hown' hgrow hO3 hF4
      go_wp2_with fail
      go_roundg (gk - 1)
      case measure => omega
      case rel => exact ⟨i + 1, by simp, by omega, by omega, by rw [Htk.out]; exact HO3, HF4⟩
    · obtain rfl : i = l.length := by omega
      have hlti : decide ((l.length : Int) < l.length) = false := by simp
      have hx := Fr.cell HFr.out Hx0.out (fun _ h => by omega)
      have hDr : wr.rangeAt p 1 DK := range_fr HD1.out HFr.out (by rw [HB1.out]; exact hw1) (fun _ h => by omega)
      have HDr := Lib.hid hDr
      obtain ⟨O, hO⟩ : ∃ O, l.map kSigner = O := ⟨_, rfl⟩
      have hOl : O.length = l.length := by rw [← hO]; simp
      have HO2 : Hid (OS B1 O u5 wr) := Lib.hid (by
        have := HO.out
        rwa [List.take_of_length_le (Nat.le_refl _), hO] at this)
      have HOe := Lib.hid hO
      obtain ⟨ao, co, hvo⟩ := HO2.out.form
      subst hvo
      have HOl := Lib.hid hOl
      clear hDr hO hOl HO
      go_wp2_with ((with_reducible refine wpList_load_mid ?_ 23 _ rfl p 1 ?_ DK (.array 32 5) HDr.out Tryz.underSum ?_ HzD.out ?_); rfl; rfl; rfl)
      refine (Hdg.out _).mono ?_
      rintro e' w2 ⟨rfl, hF2⟩
      have HO3 := Lib.hid (HO2.out.fr hF2 (fun _ _ _ _ h => h))
      have HF2 := Lib.hid (HFr.out.trans hF2 (fun _ _ h => h.elim))
      have hw2 := hF2.size
      clear hF2 hx HO2
      go_wp2_with (at_builtin; refine wpList_append_own _ rfl _ _ 63 rfl B1 9 i0 (.string ⟨#[]⟩) 1 16 Tryz.underlying63 hi0 hz0 hz1 hz2 rfl (by decide) _ _ _ rfl (HO3.out.alloc _) ⟨_, 0, none⟩ 1 1 [.string ⟨X.toArray⟩] rfl rfl ?c6 ?c7 ?c8 ?c9 ?c10 ?_)
      case c6 => exact cells_at _ _ _ _ rfl
      case c7 => simp [Value.oneCell']
      case c8 => have := HOl.out; unfold maxLen; omega
      case c9 => have := HOl.out; omega
      case c10 => simp; omega
      intro v' w3 hown' hgrow _
      obtain ⟨hO4, hF4⟩ := HO3.out.push (x := X) (Fr.refl.alloc _) hown' hgrow
      have hsh := hO4.sh (by simp)
      have HF4 := Lib.hid (HF2.out.trans hF4 (fun _ _ h => .inl h))
      have hll : (O ++ [X]).length ≤ 1000000 := by have := HOl.out; simp; omega
      have hsrt := sort_sh hsh hll
      obtain ⟨g, cap, rfl, -⟩ := id hsh
      obtain ⟨M, hM⟩ : ∃ M, sortS (O ++ [X]) = M := ⟨_, rfl⟩
      have hMl : M.length ≤ 1000000 := by rw [← hM, sortS_len]; exact hll
      obtain ⟨nn, hnn⟩ : ∃ n, (O ++ [X]).length = n := ⟨_, rfl⟩
      rw [hM, hnn] at hsrt
      rw [hnn]
      have Hsrt := Lib.hid hsrt
      have HM := Lib.hid hM
      clear hown' hgrow hO4 hF4 hsh hsrt hM hnn hll HO3
      go_wp2_with fail
      refine Hsrt.out.mono ?_
      rintro e' w4 ⟨rfl, hsh4, hF5⟩
      have HF5 := Lib.hid (HF4.out.trans hF5 (fun _ _ h => .inl h))
      have Hcmp := Lib.hid (compact_sh hsh4 hMl)
      clear hsh4 hF5
      go_wp2_with fail
      refine Hcmp.out.mono ?_
      rintro e' w5 ⟨⟨v5, rfl, hss⟩, hF6⟩
      have HF6 := Lib.hid (HF5.out.trans hF6 (fun _ _ h => .inl h))
      have Hss := Lib.hid hss
      clear hss hF6
      go_wp2_with fail
      go_ret2
      have hsz : w.heap.size ≤ B1 := by rw [← HB1.out]; exact HF1.out.size
      refine ⟨⟨_, rfl, ?_⟩, HF1.out.trans HF6.out (fun _ _ hm => .inr (Nat.le_trans hsz hm))⟩
      rw [HOe.out, HM.out]
      obtain ⟨a, c, hv, hc, h | ⟨b, o, ha, hb, hrest⟩⟩ := Hss.out
      · exact ⟨a, c, hv, hc, .inl h⟩
      · exact ⟨a, c, hv, hc, .inr ⟨b, o, ha, Nat.le_trans hsz hb, hrest⟩⟩
end Go.Proofs.YtcddlemkimbkcaaGreatDoor
