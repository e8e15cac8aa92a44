/-
  The walk of entry.signed.
-/
import Derived.Test.YtcddlemkimbkcaaGreatDoorKEnAt
import Derived.Test.YtcddlemkimbkcaaGreatDoorKSpecCheck
import Derived.Deep.MidRow
import Derived.Deep.RegionHeld3
import Derived.Deep.LoopGhost
namespace Go.Proofs.YtcddlemkimbkcaaGreatDoor
set_option linter.unusedVariables false
set_option linter.unusedSimpArgs false
set_option linter.unusedSectionVars false
open Go.RowKit
variable [OldK]
theorem Tryz.anySig : ((Tryz.prog.underlying 54).any (·.isRow)) = true := by kernel_rfl
theorem Tryz.rowSig : ∃ d, Tryz.prog.underlying 54 = some d ∧ d.isRow = true := by
  have h := Tryz.anySig
  cases hq : Tryz.prog.underlying 54 with
  | none => rw [hq] at h; simp at h
  | some d => rw [hq] at h; exact ⟨d, rfl, by simpa using h⟩
theorem range_fr {M : Nat → Obj → Prop} {w w' : World} {b o : Nat} {cs : List Value} (h : w.rangeAt b o cs) (hF : Fr M w w') (hb : b < w.heap.size) (hM : ∀ ob, ¬ M b ob) : w'.rangeAt b o cs := by
  obtain ⟨ob, hob⟩ : ∃ ob, w.heap[b]? = some ob := ⟨_, Array.getElem?_eq_getElem hb⟩
  exact range_same h ((hF.block _ _ hob (hM _)).trans hob.symm)
theorem there_fr {M : Nat → Obj → Prop} {w w' : World} {b o n : Nat} (h : w.there b o n) (hF : Fr M w w') (hb : b < w.heap.size) (hM : ∀ ob, ¬ M b ob) : w'.there b o n := by
  obtain ⟨ob, hob⟩ : ∃ ob, w.heap[b]? = some ob := ⟨_, Array.getElem?_eq_getElem hb⟩
  exact there_same h ((hF.block _ _ hob (hM _)).trans hob.symm)
theorem Sg.one (s : Sg) : s.cells.all (·.oneCell') = true := by
  unfold Sg.cells
  rw [Array.all_append, Array.all_append]
  have h : ∀ l : Bs, ((Lib.byteCells l).toArray.all (·.oneCell')) = true := fun l => all_oneCell_toArray (fun v hv => by
    unfold Lib.byteCells at hv
    rw [List.mem_map] at hv
    obtain ⟨x, _, rfl⟩ := hv
    rfl)
  rw [h, h]
  simp [Value.oneCell']
theorem Sg.list (s : Sg) : s.cells.toList = [.string ⟨s.id.toArray⟩] ++ (Lib.byteCells s.key ++ Lib.byteCells s.sig) := by simp [Sg.cells]
set_option maxRecDepth 100000 in
set_option maxHeartbeats 2000000 in
theorem signed_c (l : List Sg) (b o cap : Nat) (w : World) (hl : l.length ≤ 1000) (hc : l.length ≤ cap) (hb : b < w.heap.size)
    (hr : ∀ i (hi : i < l.length), w.rangeAt b (o + i * 97) l[i].cells.toList) (hok : ∀ s ∈ l, s.ok ∧ s.id.length ≤ 1000000) :
    Calls Tryz.prog 107 #[.slice (some ⟨b, o, none⟩) l.length cap] w fun e w' => e = .returned (.bool (pSigned l)) ∧ Fr NoB w w' := by
  obtain ⟨P, hP⟩ : ∃ P, pSigned l = P := ⟨_, rfl⟩
  rw [hP]
  have Hr := Lib.hid hr
  have Hok := Lib.hid hok
  have HP := Lib.hid hP
  clear hr hok hP
  go_enter Tryz.func107, Tryz.ntmps107
  go_wp2_with fail
  go_loopg [3, 9] (l.length + 1) (fun gf v3 vi wx => ∃ i : Nat, vi = .int .i64 i ∧ i ≤ l.length ∧ i + gf = l.length + 1 ∧ ∃ last : Bs, v3 = .string ⟨last.toArray⟩ ∧ Fr NoB w wx ∧ Hid ((signedFrom last (l.drop i) && (decide (1 ≤ l.length) && decide (l.length ≤ 8))) = P))
  case atStart => exact ⟨0, rfl, by omega, by omega, [], rfl, Fr.refl, Lib.hid HP.out⟩
  case round =>
    obtain ⟨i, rfl, hi, hig, last, rfl, hF, HG⟩ := hrel
    have HF := Lib.hid hF
    clear hF
    by_cases hlt : i < l.length
    · have hlti : decide ((i : Int) < l.length) = true := decide_eq_true (by omega)
      have hso := Hok.out _ (List.getElem_mem hlt)
      have hR := Hr.out i hlt
      have hdr := List.drop_eq_getElem_cons hlt
      obtain ⟨s, hs⟩ : ∃ s, l[i] = s := ⟨_, rfl⟩
      rw [hs] at hso hR hdr
      have hG := HG.out
      rw [hdr, signedFrom] at hG
      have hsz := Sg.size hso.1
      have hB : wr.rangeAt b (o + i * 97) s.cells.toList := range_fr hR HF.out hb (fun _ h => h)
      have HB := Lib.hid hB
      obtain ⟨d, hu, hd⟩ := Tryz.rowSig
      have Hu := Lib.hid hu
      have Hd := Lib.hid hd
      have Hz := Lib.hid (show (Tryz.prog.info? 54).map (·.size) = some s.cells.toList.length by rw [Tryz.sizeSig]; simp [hsz])
      have Hz2 := Lib.hid (show (Tryz.prog.info? 54).map (·.size) = some s.cells.size by rw [Tryz.sizeSig, hsz])
      have H1 := Lib.hid (Sg.one s)
      have HT := Lib.hid (show ∀ z : Array Value, z.size = 97 → (wr.alloc (.cells z 54)).there wr.heap.size 0 s.cells.size from fun z hz => there_block (heap_alloc_new wr _) (by rw [hsz, hz]; exact Nat.le_refl _))
      have hsg := fun W => signer_c s W hso.1 hso.2
      have Hsg := Lib.hid hsg
      have Hso := Lib.hid hso
      have HG2 := Lib.hid hG
      have Hsz := Lib.hid hsz
      obtain ⟨cs, hcs⟩ : ∃ cs, s.cells = cs := ⟨_, rfl⟩
      rw [hcs] at HB Hz Hz2 H1 HT Hsg Hsz
      have Hs := Lib.hid hs
      have Hcs := Lib.hid hcs
      clear hB hu hd hR hs hcs hso hdr hG hsz hsg HG
      go_wp2_with (first | (refine wpList_load_mid rfl 54 _ rfl b (o + i * 97) rfl cs.toList d HB.out Hu.out Hd.out Hz.out ?_) | (refine wpList_store_mid rfl 54 _ _ rfl wr.heap.size 0 cs rfl rfl (HT.out _ rfl) Hz2.out H1.out ?_) | (refine wpList_load_mid rfl 54 _ rfl wr.heap.size 0 rfl cs.toList d (World.rangeAt_setCells_same _ wr.heap.size 0 cs.toList (by simpa using HT.out _ rfl)) Hu.out Hd.out Hz.out ?_))
      refine (Hsg.out _).mono ?_
      rintro e w2 ⟨rfl, hF2⟩
      have hR1 := World.rangeAt_setCells_same (wr.alloc (.cells Tryz.zeroCells54 54)) wr.heap.size 0 cs.toList (by simpa using HT.out _ rfl)
      have hS1 : wr.heap.size < ((wr.alloc (.cells Tryz.zeroCells54 54)).setCells wr.heap.size 0 cs.toList).heap.size := by have := (setCells_fr wr.heap.size cs.toList 0 (wr.alloc (.cells Tryz.zeroCells54 54))).size; simp at this; omega
      have hR2 := range_fr hR1 hF2 hS1 (fun _ h => h)
      have hF3 : Fr NoB w w2 := ((HF.out.alloc (.cells Tryz.zeroCells54 54)).trans (setCells_fr _ _ _ _) (fun k _ hm => .inr (by have := HF.out.size; omega))).trans' hF2
      have hS2 := hF2.size
      rw [← Hcs.out, Sg.list, range_append, range_append, range_one] at hR2
      obtain ⟨c0, cK, -⟩ := hR2
      obtain ⟨bn, hbn⟩ : ∃ bn, wr.heap.size = bn := ⟨_, rfl⟩
      have hbs : w.heap.size ≤ bn := by rw [← hbn]; exact HF.out.size
      have hS3 : bn < w2.heap.size := by omega
      rw [hbn] at c0 cK ⊢
      have hG := HG2.out
      unfold sgBad at hG
      obtain ⟨hkl, -⟩ := Hso.out.1
      have hil := Hso.out.2
      obtain ⟨B, hB⟩ : ∃ B, pSigner s = B := ⟨_, rfl⟩
      obtain ⟨x1, hx1⟩ : ∃ x, Op.bytesLess B last = x := ⟨_, rfl⟩
      obtain ⟨x2, hx2⟩ : ∃ x, (B == last) = x := ⟨_, rfl⟩
      obtain ⟨id, hid⟩ : ∃ x, s.id = x := ⟨_, rfl⟩
      obtain ⟨key, hkey⟩ : ∃ x, s.key = x := ⟨_, rfl⟩
      rw [hB, hx1, hx2, hid, hkey] at hG
      rw [hid] at c0 hil cK
      rw [hkey] at cK hkl
      rw [hB]
      have cK' : w2.rangeAt bn 1 (Lib.byteCells key) := cK
      have HG3 := Lib.hid hG
      have HF3 := Lib.hid hF3
      have HcK := Lib.hid cK'
      have Hkl := Lib.hid hkl
      have Hnm := Lib.hid (fun W => named_c id W (by omega))
      have Hx := Lib.hid hbs
      clear hF2 hR1 hS1 hF3 hS2 cK cK' hbn hB hid hkey hG hkl hbs HG2 HB Hz2 H1 HT Hsg HF Hs Hcs
      cases x1 with
      | true =>
        go_wp2_with fail
        go_ret
        exact ⟨ret_bool (by simpa using HG3.out), HF3.out⟩
      | false =>
        cases x2 with
        | true =>
          go_wp2_with fail
          go_ret
          exact ⟨ret_bool (by simpa using HG3.out), HF3.out⟩
        | false =>
          cases id with
          | nil =>
            have hP := HG3.out
            simp only [List.isEmpty_nil, Bool.not_true, Bool.false_and, Bool.or_false, Bool.false_eq_true, if_false] at hP
            have HP3 := Lib.hid hP
            clear hP
            go_wp2_with fail
            go_roundg (gk - 1)
            case measure => omega
            case rel => exact ⟨i + 1, by simp, by omega, by omega, _, rfl, HF3.out, HP3⟩
          | cons c r =>
            have hne : (c :: r : Bs).isEmpty = false := rfl
            obtain ⟨id, hid⟩ : ∃ l, (c :: r : Bs) = l := ⟨_, rfl⟩
            rw [hid] at hne c0 HG3 Hnm hil
            clear hid
            obtain ⟨bm, hbm⟩ : ∃ x, pNamed id = x := ⟨_, rfl⟩
            have hG := HG3.out
            have hnm := Hnm.out
            rw [hbm] at hnm hG
            rw [hne] at hG
            have Hnm2 := Lib.hid hnm
            have HG4 := Lib.hid hG
            clear hbm hG HG3 hnm Hnm
            cases bm with
            | false =>
              go_wp2_with fail
              refine (Hnm2.out _).mono ?_
              rintro e w3 ⟨rfl, hF4⟩
              have HF4 := Lib.hid (HF3.out.trans' hF4)
              clear hF4
              go_wp2_with fail
              go_ret
              exact ⟨ret_bool (by simpa using HG4.out), HF4.out⟩
            | true =>
              obtain ⟨bk, hbk⟩ : ∃ x, (key == zero32) = x := ⟨_, rfl⟩
              have hG := HG4.out
              rw [bne, hbk] at hG
              have hne2 := eqz_key key Hkl.out
              rw [hbk] at hne2
              have HG5 := Lib.hid hG
              clear hbk hG HG4
              go_wp2_with fail
              refine (Hnm2.out _).mono ?_
              rintro e w3 ⟨rfl, hF4⟩
              have HF4 := Lib.hid (HF3.out.trans' hF4)
              have HcK3 := range_fr HcK.out hF4 hS3 (fun _ h => h)
              have HsK := Lib.hid (show (Tryz.prog.info? 24).map (·.size) = some (Lib.byteCells key).length by rw [Tryz.sizeKey]; simp [Lib.byteCells, Hkl.out])
              have HcK4 := Lib.hid HcK3
              clear hF4 HcK3
              cases bk
              all_goals
                go_wp2_with (refine wpList_load_g 24 _ rfl bn 1 rfl (Lib.byteCells key) _ HcK4.out Tryz.underKey rfl HsK.out rfl ?_)
                first
                | (go_ret
                   exact ⟨ret_bool (by simpa using HG5.out), HF4.out⟩)
                | (go_roundg (gk - 1)
                   case measure => omega
                   case rel => exact ⟨i + 1, by simp, by omega, by omega, _, rfl, HF4.out, Lib.hid (by simpa using HG5.out)⟩)
    · obtain rfl : i = l.length := by omega
      have hG := HG.out
      rw [List.drop_of_length_le (Nat.le_refl _), signedFrom, Bool.true_and] at hG
      have HG2 := Lib.hid hG
      have hlti : decide ((l.length : Int) < l.length) = false := by simp
      obtain ⟨n, hn⟩ : ∃ n, l.length = n := ⟨_, rfl⟩
      rw [hn] at HG2 hlti ⊢
      clear hG HG hn
      obtain ⟨b1, hb1⟩ : ∃ b, decide ((1 : Int) ≤ (n : Int)) = b := ⟨_, rfl⟩
      obtain ⟨b2, hb2⟩ : ∃ b, decide ((n : Int) ≤ 8) = b := ⟨_, rfl⟩
      have e1 : decide (1 ≤ n) = b1 := by rw [← hb1]; exact decide_eq_decide.2 (by omega)
      have e2 : decide (n ≤ 8) = b2 := by rw [← hb2]; exact decide_eq_decide.2 (by omega)
      have hG := HG2.out
      rw [e1, e2] at hG
      have HG3 := Lib.hid hG
      clear e1 e2 hG HG2
      cases b1 <;> cases b2
      all_goals
        go_wp2_with fail
        go_ret
        exact ⟨ret_bool (by simpa using HG3.out), HF.out⟩
set_option maxRecDepth 100000 in
theorem signed_nil (a : Option Addr) (cap : Nat) (w : World) :
    Calls Tryz.prog 107 #[.slice a 0 cap] w fun e w' => e = .returned (.bool false) ∧ Fr NoB w w' := by
  go_enter Tryz.func107, Tryz.ntmps107
  go_wp2_with fail
  go_loopg [3, 9] 0 (fun gf v3 vi wx => vi = .int .i64 0 ∧ w = wx)
  case atStart => exact ⟨rfl, rfl⟩
  case round =>
    obtain ⟨rfl, rfl⟩ := hrel
    go_wp2_with fail
    go_ret
    exact ⟨rfl, Fr.refl⟩
theorem signed_gs {S : Nat → Prop} {l : List Sg} {v : Value} {w : World} (h : GS S l v w) (hl : l.length ≤ 1000) (hok : ∀ s ∈ l, s.ok ∧ s.id.length ≤ 1000000) :
    Calls Tryz.prog 107 #[v] w fun e w' => e = .returned (.bool (pSigned l)) ∧ Fr NoB w w' := by
  obtain ⟨a, cap, rfl, hc, rfl | ⟨b, o, rfl, hS, hb, hr⟩⟩ := h
  · exact signed_nil a cap w
  · exact signed_c l b o cap w hl hc hb hr hok
end Go.Proofs.YtcddlemkimbkcaaGreatDoor
