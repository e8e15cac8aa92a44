/-
 The walk of bind's Check.
-/
import Derived.Test.YtcddlemkimbkcaaGreatDoorKByB
import Derived.Test.YtcddlemkimbkcaaGreatDoorKCheckE
import Derived.Test.YtcddlemkimbkcaaGreatDoorKSubjects
namespace Go.Proofs.YtcddlemkimbkcaaGreatDoor
set_option linter.unusedVariables false
set_option linter.unusedSimpArgs false
set_option linter.unusedSectionVars false
open Go.RowKit Go.Shelf
variable [OldK]
/-- is a payload a statement's? -/
def psub (s : Bs) : Bool := (pSubjects s).isSome
theorem subC_of {S : Nat → Prop} {e : En} {pv : Value} {w : World} (hb : SB S e.payload pv w) (hg : Gl w) (hlen : e.payload.length ≤ 1000000) : SubC psub e pv w := fun _ W hF =>
 (subjects_c S _ pv W (hb.fr hF (fun _ _ _ _ h => h)) (hg.fr hF (fun _ _ _ h => h.elim)) (hg.fr hF (fun _ _ _ h => h.elim)).old hlen).mono (by
   rintro r w' ⟨h1, h2⟩
   refine ⟨?_, h2⟩
   unfold SubPost psub
   cases hs : pSubjects e.payload with
   | none =>
     rw [hs] at h1
     exact ⟨_, _, h1, rfl⟩
   | some l =>
     rw [hs] at h1
     obtain ⟨v, h1, -⟩ := h1
     exact ⟨_, _, h1, rfl⟩)
/-- an entry that may be asked for: its parts lie in w, and are not too long -/
structure Fine (S S' : Nat → Prop) (e : En) (pv sv : Value) (w : World) : Prop where
 ok : e.ok
 pay : SB S e.payload pv w
 sgs : GS S' e.sigs sv w
 gl : Gl w
 typ : e.typ.length ≤ 1000000
 idn : e.ident.length ≤ 1000000
 len : e.payload.length ≤ 1000000
 many : e.sigs.length ≤ 1000
 ids : ∀ s ∈ e.sigs, s.id.length ≤ 1000000
theorem Fine.fr {S S' : Nat → Prop} {e : En} {pv sv : Value} {w w' : World} (h : Fine S S' e pv sv w) (hF : Fr NoB w w') : Fine S S' e pv sv w' :=
 ⟨h.ok, h.pay.fr hF (fun _ _ _ _ h => h), h.sgs.fr hF (fun _ _ _ h => h), h.gl.fr hF (fun _ _ _ h => h.elim), h.typ, h.idn, h.len, h.many, h.ids⟩
theorem Fine.oks {S S' : Nat → Prop} {e : En} {pv sv : Value} {w : World} (h : Fine S S' e pv sv w) : oks e.sigs := fun x hx => ⟨h.ok.2.2 x hx, h.ids x hx⟩
theorem pMust_oks {e : En} (h : e.ok) (hi : e.ident.length ≤ 1000000) : oks (pMust e) := by
 intro x hx
 unfold pMust at hx
 have hs : (sgSelf e).ok2 := ⟨sgSelf_ok e, hi⟩
 have hk : (sgKey e).ok2 := ⟨sgKey_ok h, Nat.zero_le _⟩
 split at hx
 ·obtain rfl : x = sgKey e := by simpa using hx
  exact hk
 ·split at hx
  ·have : x = sgSelf e ∨ x = sgKey e := by simpa using hx
   rcases this with rfl | rfl
   ·exact hs
   ·exact hk
  ·obtain rfl : x = sgSelf e := by simpa using hx
   exact hs
theorem pMust_12 (e : En) : (∃ a, pMust e = [a]) ∨ ∃ a b, pMust e = [a, b] := by
 unfold pMust
 split
 ·exact .inl ⟨_, rfl⟩
 ·split
  ·exact .inr ⟨_, _, rfl⟩
  ·exact .inl ⟨_, rfl⟩
set_option maxRecDepth 100000 in
theorem field_has (c : Chg) (hc : c.ok) (W : World) : (Instr.field 117 (.agg c.cells.toArray) 1).run Tryz.prog W = .ok (.bool c.has) W := by
 obtain ⟨p, h, k⟩ := c
 obtain ⟨x0, x1, x2, x3, x4, x5, x6, x7, x8, x9, x10, x11, x12, x13, x14, x15, x16, x17, x18, x19, x20, x21, x22, x23, x24, x25, x26, x27, x28, x29, x30, x31, rfl⟩ := list32 k hc
 kernel_rfl
theorem TBL.lastok {base tb n bc bl : Nat} {t : Tb} {g lv : Bs → Option Value} {w : World} (h : TBL base tb n bc bl t g lv w) (x : Bs) : (t.last x).ok := by
 unfold Tb.last lastC
 cases hq : (t.hist x).getLast? with
 | none => rfl
 | some c => exact h.keys x c (List.mem_of_getLast? hq)
set_option maxRecDepth 100000 in
set_option maxHeartbeats 8000000 in
theorem bindCheck_c (S S' : Nat → Prop) {base tb n bc bl : Nat} {t : Tb} {g lv : Bs → Option Value} (e : En) (pv sv : Value) (w : World) (h : TBL base tb n bc bl t g lv w) (hf : Fine S S' e pv sv w) :
 Calls Tryz.prog 35 #[.pointer (some ⟨tb, 0, none⟩), .agg (e.cells pv sv).toArray] w fun r w' => r = .returned (errV (pBind psub t e)) ∧ Fr NoB w w' := by
 obtain ⟨a1, c1, ea⟩ := hf.pay.form
 obtain ⟨a3, c3, es, -⟩ := id hf.sgs
 have hp1 : pv.oneCell' = true := by rw [ea]; rfl
 have hs1 : sv.oneCell' = true := by rw [es]; rfl
 have hR : (w.alloc (.cells (e.cells pv sv).toArray 39)).rangeAt w.heap.size 0 (e.cells pv sv) := by simpa using range_block (heap_alloc_new w (.cells (e.cells pv sv).toArray 39))
 have hF : Fr NoB w (w.alloc (.cells (e.cells pv sv).toArray 39)) := Fr.refl.alloc _
 obtain ⟨c0, -, -, -, c35, c36, hK, -⟩ := En.parts hf.ok hR
 have hchk := fun V (hV : Fr NoB w V) => checkE_c psub S S' e pv sv V hf.ok (hf.fr hV).pay (hf.fr hV).sgs (subC_of (hf.fr hV).pay (hf.fr hV).gl hf.len) hf.typ hf.idn (by have := hf.len; omega) hf.many hf.ids
 have hlast := fun V (hV : Fr NoB w V) => last_c e.ident V (h.keep hV) (by have := hf.idn; unfold maxLen; omega)
 have hlife := fun V (hV : Fr NoB w V) => life_c e.key V (h.keep hV) hf.ok.2.1
 have hmust := fun V => bindMust_c e pv sv V hf.ok hp1 hs1
 have hby := fun gb V (hV : Fr NoB w V) hrow => by_c S' e pv sv (pMust e) gb (pMust e).length V hf.ok (hf.fr hV).sgs hf.oks hf.many rfl hrow (pMust_oks hf.ok hf.idn) (pMust_12 e)
 have hlok := h.lastok e.ident
 have hsz := En.size hf.ok pv sv
 obtain ⟨d, hu, hd⟩ := Tryz.rowEntry
 have hz : (Tryz.prog.info? 39).map (·.size) = some (e.cells pv sv).length := by rw [Tryz.sizeEntry, hsz]
 have hkz : (Tryz.prog.info? 24).map (·.size) = some (Lib.byteCells e.key).length := by rw [Tryz.sizeKey, byteCells_len, hf.ok.2.1]
 obtain ⟨R, hRv⟩ : ∃ R, pBind psub t e = R := ⟨_, rfl⟩
 rw [hRv]
 unfold pBind at hRv
 obtain ⟨lc, hlc⟩ : ∃ c, t.last e.ident = c := ⟨_, rfl⟩
 obtain ⟨L, hL⟩ : ∃ L, t.life e.key = L := ⟨_, rfl⟩
 obtain ⟨by1, hby1⟩ : ∃ b, pBy e (pMust e) = b := ⟨_, rfl⟩
 obtain ⟨en1, hen1⟩ : ∃ b, pEntry psub e = b := ⟨_, rfl⟩
 obtain ⟨k, hk⟩ : ∃ k, e.kind = k := ⟨_, rfl⟩
 obtain ⟨op, hop⟩ : ∃ k, e.op = k := ⟨_, rfl⟩
 rw [hlc, hL, hby1, hen1, hk, hop] at hRv
 simp only [hen1] at hchk
 simp only [hlc] at hlast
 simp only [hL] at hlife
 simp only [hby1] at hby
 rw [hlc] at hlok
 rw [hk] at c0
 rw [hop] at c35
 obtain ⟨x0, hx0⟩ : ∃ b, lc.has = b := ⟨_, rfl⟩
 have hfh := fun V => field_has lc hlok V
 simp only [hx0] at hfh
 rw [hx0] at hRv
 obtain ⟨CL, hCL⟩ : ∃ C, lc.cells.toArray = C := ⟨_, rfl⟩
 simp only [hCL] at hfh hlast
 obtain ⟨KC, hKC⟩ : ∃ C, Lib.byteCells e.key = C := ⟨_, rfl⟩
 rw [hKC] at hK hkz
 simp only [hKC] at hlife
 obtain ⟨C, hC⟩ : ∃ C, e.cells pv sv = C := ⟨_, rfl⟩
 obtain ⟨idn, hidn⟩ : ∃ s, e.ident = s := ⟨_, rfl⟩
 simp only [hidn] at hlast
 rw [hidn] at c36
 obtain ⟨nm, hnm⟩ : ∃ m, (pMust e).length = m := ⟨_, rfl⟩
 simp only [hnm, hC] at hmust hby
 simp only [hC] at hchk
 obtain ⟨PM, hPM⟩ : ∃ l, pMust e = l := ⟨_, rfl⟩
 simp only [hPM] at hmust hby
 rw [hC] at hR hF c0 c35 c36 hK hz ⊢
 have Hchk := Lib.hid hchk
 have Hlast := Lib.hid hlast
 have Hlife := Lib.hid hlife
 have Hmust := Lib.hid hmust
 have Hby := Lib.hid hby
 have Hfh := Lib.hid hfh
 have Hu := Lib.hid hu
 have Hd := Lib.hid hd
 have Hz := Lib.hid hz
 have Hkz := Lib.hid hkz
 have HRv := Lib.hid hRv
 clear hchk hlast hlife hmust hby hfh hu hd hz hkz hRv hlok hlc hL hby1 hen1 hk hop hx0 hCL hKC hC hidn hnm hPM hsz ea es hp1 hs1 hf h
 go_enter Tryz.func35, Tryz.ntmps35
 go_upto_region 1 with (fail)
 change Code.wp _ _ _ _ (w.alloc (.cells C.toArray 39))
 obtain ⟨W, hW⟩ : ∃ W, w.alloc (.cells C.toArray 39) = W := ⟨_, rfl⟩
 rw [hW] at hR hF c0 c35 c36 hK ⊢
 obtain ⟨p, hpp⟩ : ∃ p, w.heap.size = p := ⟨_, rfl⟩
 rw [hpp] at hR c0 c35 c36 hK ⊢
 have hpW : p < W.heap.size := World.block_lt_of_cell? _ _ c0
 clear hW hpp
 have HR := Lib.hid hR
 have HF := Lib.hid hF
 have HK := Lib.hid hK
 clear hR hF hK
 cases en1
 ·simp only [chkV, Bool.false_eq_true, if_false] at Hchk
  have hR11 : Hid (R = 11) := Lib.hid (by have := HRv.out; simpa using this.symm)
  clear HRv
  go_wp2_with ((with_reducible refine wpList_load_mid rfl 39 _ rfl p 0 rfl C d HR.out Hu.out Hd.out Hz.out ?_))
  refine (Hchk.out _ HF.out).mono ?_
  rintro r w2 ⟨rfl, hF2⟩
  have HF2 := Lib.hid (HF.out.trans' hF2)
  clear hF2
  go_wp2_with fail
  go_ret
  exact ⟨by rw [hR11.out]; rfl, HF2.out⟩
 ·simp only [chkV, if_true] at Hchk
  by_cases hk4 : k = 4
  ·subst hk4
   have e4 : ((4 : Int) != 4) = false := rfl
   have HRw : Hid ((if x0 ≠ decide (op ≠ 1) ∨ (op ≠ 3 ∧ L ≠ 0) ∨ by1 = false then 8 else 0) = R) := Lib.hid (by have := HRv.out; simpa using this)
   clear HRv
   go_wp2_with ((with_reducible refine wpList_load_mid rfl 39 _ rfl p 0 rfl C d HR.out Hu.out Hd.out Hz.out ?_))
   refine (Hchk.out _ HF.out).mono ?_
   rintro r w2 ⟨rfl, hF2⟩
   have k0 := Fr.cell hF2 c0
   have k36 := Fr.cell hF2 c36
   have HF2 := Lib.hid hF2
   clear hF2
   go_wp2_with fail
   refine (Hlast.out _ (HF.out.trans' HF2.out)).mono ?_
   rintro r w3 ⟨rfl, hF3⟩
   have hfh := Hfh.out w3
   have HG2 := Lib.hid (HF2.out.trans' hF3)
   clear hF3 k0 k36
   go_upto_region 4 with (fail)
   by_cases h1 : op = 1
   ·subst h1
    have e1 : ((1 : Int) != 1) = false := rfl
    have e3 : ((1 : Int) != 3) = true := rfl
    cases x0 with
    | true =>
      have hR8 : Hid (R = 8) := Lib.hid (by have := HRw.out; simpa using this.symm)
      refine wp_region_held_drew (S := fun V => Hid (Fr NoB W V)) (by kernel_rfl) (Lib.hid HG2.out.drew) (fun hHeld => ?_)
      simp only [qL, qL1, qL0, qR, qR1, qR0]
      iterate 6
       refine qt (v := ?_) rfl (Or.inl ⟨by rfl, ?_⟩) hHeld ?_
       rotate_left
       ·intro W hSw
        have h35 := Fr.cell hSw.out c35
        try simp only [qG, qG0, qG1]
        go_simp
        try rw [if_neg (by omega)]
        try with_reducible rfl
       try simp only [Act.put, qS, qS0, qS1, qG, qG0, qG1, qM0, qM1]
      iterate 18
       first
       | refine qt (v := undef) rfl (Or.inr ⟨by rfl, rfl⟩) hHeld ?_
         try simp only [Act.put, qS, qS0, qS1, qG, qG0, qG1, qM0, qM1]
       | refine qt (v := ?_) rfl (Or.inl ⟨by rfl, ?_⟩) hHeld ?_
         rotate_left
         ·intro W hSw
          have h35 := Fr.cell hSw.out c35
          try simp only [qG, qG0, qG1]
          go_simp
          try rw [if_neg (by omega)]
          try with_reducible rfl
         try simp only [Act.put, qS, qS0, qS1, qG, qG0, qG1, qM0, qM1]
      refine wpAnyH_done (by kernel_rfl) ?_ _
      have HG := Lib.hid hHeld.out
      clear hHeld
      go_wp2_with fail
      go_ret
      exact ⟨by rw [hR8.out]; rfl, HF.out.trans' HG.out⟩
    | false =>
      refine wp_region_held_drew (S := fun V => Hid (Fr NoB W V)) (by kernel_rfl) (Lib.hid HG2.out.drew) (fun hHeld => ?_)
      simp only [qL, qL1, qL0, qR, qR1, qR0]
      iterate 6
       refine qt (v := ?_) rfl (Or.inl ⟨by rfl, ?_⟩) hHeld ?_
       rotate_left
       ·intro W hSw
        have h35 := Fr.cell hSw.out c35
        try simp only [qG, qG0, qG1]
        go_simp
        try rw [if_neg (by omega)]
        try with_reducible rfl
       try simp only [Act.put, qS, qS0, qS1, qG, qG0, qG1, qM0, qM1]
      iterate 6
       refine qt (v := ?_) rfl (Or.inl ⟨by rfl, ?_⟩) hHeld ?_
       rotate_left
       ·intro W hSw
        have h35 := Fr.cell hSw.out c35
        try simp only [qG, qG0, qG1]
        go_simp
        try rw [if_neg (by omega)]
        try with_reducible rfl
       try simp only [Act.put, qS, qS0, qS1, qG, qG0, qG1, qM0, qM1]
      obtain ⟨xl, hxl⟩ : ∃ b, (L != 0) = b := ⟨_, rfl⟩
      cases xl with
      | true =>
        have hL : ¬ L = 0 := by simpa using hxl
        have hR8 : Hid (R = 8) := Lib.hid (by have := HRw.out; simpa [hL] using this.symm)
        clear hL
        refine qi (i := 12) rfl (yieldsIf_load_mid (by rfl) 24 _ rfl p 37 rfl KC (.array 32 5) (fun V h => range_fr HK.out h.out hpW (fun _ h => h)) Tryz.underKey rfl Hkz.out) hHeld ?_
        try simp only [Act.put, qS, qS0, qS1, qG, qG0, qG1, qM0, qM1]
        refine qr (i := 13) (by kernel_rfl) rfl (fun K hK => ?_)
        try simp only [qG, qG0, qG1]
        go_simp
        refine (Hlife.out _ (HF.out.trans' hHeld.out)).mono ?_; rintro r w4 ⟨rfl, hF4⟩
        refine hK.out _ _ (Lib.hid (hHeld.out.trans' hF4)) (fun hHeld => ?_)
        clear hK K
        try simp only [Act.put, qS, qS0, qS1, qG, qG0, qG1, qM0, qM1]
        clear hF4
        iterate 4
         refine qt (v := ?_) rfl (Or.inl ⟨by rfl, ?_⟩) hHeld ?_
         rotate_left
         ·intro W hSw
          have h35 := Fr.cell hSw.out c35
          try simp only [qG, qG0, qG1]
          go_simp
          try rw [if_neg (by omega)]
          try with_reducible rfl
         try simp only [Act.put, qS, qS0, qS1, qG, qG0, qG1, qM0, qM1]
        iterate 5
         refine qt (v := undef) rfl (Or.inr ⟨by rfl, rfl⟩) hHeld ?_
         try simp only [Act.put, qS, qS0, qS1, qG, qG0, qG1, qM0, qM1]
        refine qt (v := ?_) rfl (Or.inl ⟨by rfl, ?_⟩) hHeld ?_
        rotate_left
        ·intro W hSw
         have h35 := Fr.cell hSw.out c35
         try simp only [qG, qG0, qG1]
         go_simp
         try rw [if_neg (by omega)]
         try with_reducible rfl
        try simp only [Act.put, qS, qS0, qS1, qG, qG0, qG1, qM0, qM1]
        refine wpAnyH_done (by kernel_rfl) ?_ _
        have HG := Lib.hid hHeld.out
        clear hHeld
        go_wp2_with fail
        go_ret
        exact ⟨by rw [hR8.out]; rfl, HF.out.trans' HG.out⟩
      | false =>
        have hL : L = 0 := by simpa using hxl
        have HRb : Hid ((if by1 = false then 8 else 0) = R) := Lib.hid (by have := HRw.out; simpa [hL] using this)
        clear hL
        refine qi (i := 12) rfl (yieldsIf_load_mid (by rfl) 24 _ rfl p 37 rfl KC (.array 32 5) (fun V h => range_fr HK.out h.out hpW (fun _ h => h)) Tryz.underKey rfl Hkz.out) hHeld ?_
        try simp only [Act.put, qS, qS0, qS1, qG, qG0, qG1, qM0, qM1]
        refine qr (i := 13) (by kernel_rfl) rfl (fun K hK => ?_)
        try simp only [qG, qG0, qG1]
        go_simp
        refine (Hlife.out _ (HF.out.trans' hHeld.out)).mono ?_; rintro r w4 ⟨rfl, hF4⟩
        refine hK.out _ _ (Lib.hid (hHeld.out.trans' hF4)) (fun hHeld => ?_)
        clear hK K
        try simp only [Act.put, qS, qS0, qS1, qG, qG0, qG1, qM0, qM1]
        clear hF4
        iterate 4
         refine qt (v := ?_) rfl (Or.inl ⟨by rfl, ?_⟩) hHeld ?_
         rotate_left
         ·intro W hSw
          have h35 := Fr.cell hSw.out c35
          try simp only [qG, qG0, qG1]
          go_simp
          try rw [if_neg (by omega)]
          try with_reducible rfl
         try simp only [Act.put, qS, qS0, qS1, qG, qG0, qG1, qM0, qM1]
        refine qi (i := 18) rfl (yieldsIf_load_mid (by rfl) 39 _ rfl p 0 rfl C d (fun V h => range_fr HR.out h.out hpW (fun _ h => h)) Hu.out Hd.out Hz.out) hHeld ?_
        try simp only [Act.put, qS, qS0, qS1, qG, qG0, qG1, qM0, qM1]
        refine qi (i := 19) rfl (yieldsIf_load_mid (by rfl) 39 _ rfl p 0 rfl C d (fun V h => range_fr HR.out h.out hpW (fun _ h => h)) Hu.out Hd.out Hz.out) hHeld ?_
        try simp only [Act.put, qS, qS0, qS1, qG, qG0, qG1, qM0, qM1]
        refine qr (i := 20) (by kernel_rfl) rfl (fun K hK => ?_)
        try simp only [qG, qG0, qG1]
        go_simp
        refine (Hmust.out _).mono ?_; rintro r w5 ⟨⟨gb, rfl, hrow⟩, hF5⟩
        refine hK.out _ _ (Lib.hid (hHeld.out.trans' hF5)) (fun hHeld => ?_)
        clear hK K
        try simp only [Act.put, qS, qS0, qS1, qG, qG0, qG1, qM0, qM1]
        have Hrow := Lib.hid hrow
        clear hF5 hrow
        refine qr (i := 21) (by kernel_rfl) rfl (fun K hK => ?_)
        try simp only [qG, qG0, qG1]
        go_simp
        refine (Hby.out _ _ (HF.out.trans' hHeld.out) Hrow.out).mono ?_; rintro r w6 ⟨rfl, hF6⟩
        refine hK.out _ _ (Lib.hid (hHeld.out.trans' hF6)) (fun hHeld => ?_)
        clear hK K
        try simp only [Act.put, qS, qS0, qS1, qG, qG0, qG1, qM0, qM1]
        clear hF6
        cases by1
        ·have hR8 : Hid (R = 8) := Lib.hid (by have := HRb.out; simpa using this.symm)
         iterate 2
          refine qt (v := ?_) rfl (Or.inl ⟨by rfl, ?_⟩) hHeld ?_
          rotate_left
          ·intro W hSw
           have h35 := Fr.cell hSw.out c35
           try simp only [qG, qG0, qG1]
           go_simp
           try rw [if_neg (by omega)]
           try with_reducible rfl
          try simp only [Act.put, qS, qS0, qS1, qG, qG0, qG1, qM0, qM1]
         refine wpAnyH_done (by kernel_rfl) ?_ _
         have HG := Lib.hid hHeld.out
         clear hHeld
         go_wp2_with fail
         go_ret
         exact ⟨by rw [hR8.out]; rfl, HF.out.trans' HG.out⟩
        ·have hR8 : Hid (R = 0) := Lib.hid (by have := HRb.out; simpa using this.symm)
         iterate 2
          refine qt (v := ?_) rfl (Or.inl ⟨by rfl, ?_⟩) hHeld ?_
          rotate_left
          ·intro W hSw
           have h35 := Fr.cell hSw.out c35
           try simp only [qG, qG0, qG1]
           go_simp
           try rw [if_neg (by omega)]
           try with_reducible rfl
          try simp only [Act.put, qS, qS0, qS1, qG, qG0, qG1, qM0, qM1]
         refine wpAnyH_done (by kernel_rfl) ?_ _
         have HG := Lib.hid hHeld.out
         clear hHeld
         go_wp2_with fail
         go_ret
         exact ⟨by rw [hR8.out]; rfl, HF.out.trans' HG.out⟩
   ·have e1 : (op != 1) = true := by simpa using h1
    cases x0 with
    | false =>
      have hR8 : Hid (R = 8) := Lib.hid (by have := HRw.out; simpa [h1] using this.symm)
      clear h1
      refine wp_region_held_drew (S := fun V => Hid (Fr NoB W V)) (by kernel_rfl) (Lib.hid HG2.out.drew) (fun hHeld => ?_)
      simp only [qL, qL1, qL0, qR, qR1, qR0]
      iterate 6
       refine qt (v := ?_) rfl (Or.inl ⟨by rfl, ?_⟩) hHeld ?_
       rotate_left
       ·intro W hSw
        have h35 := Fr.cell hSw.out c35
        try simp only [qG, qG0, qG1]
        go_simp
        try rw [if_neg (by omega)]
        try with_reducible rfl
       try simp only [Act.put, qS, qS0, qS1, qG, qG0, qG1, qM0, qM1]
      iterate 18
       first
       | refine qt (v := undef) rfl (Or.inr ⟨by rfl, rfl⟩) hHeld ?_
         try simp only [Act.put, qS, qS0, qS1, qG, qG0, qG1, qM0, qM1]
       | refine qt (v := ?_) rfl (Or.inl ⟨by rfl, ?_⟩) hHeld ?_
         rotate_left
         ·intro W hSw
          have h35 := Fr.cell hSw.out c35
          try simp only [qG, qG0, qG1]
          go_simp
          try rw [if_neg (by omega)]
          try with_reducible rfl
         try simp only [Act.put, qS, qS0, qS1, qG, qG0, qG1, qM0, qM1]
      refine wpAnyH_done (by kernel_rfl) ?_ _
      have HG := Lib.hid hHeld.out
      clear hHeld
      go_wp2_with fail
      go_ret
      exact ⟨by rw [hR8.out]; rfl, HF.out.trans' HG.out⟩
    | true =>
      by_cases h3 : op = 3
      ·subst h3
       have e3 : ((3 : Int) != 3) = false := rfl
       have HRb : Hid ((if by1 = false then 8 else 0) = R) := Lib.hid (by have := HRw.out; simpa using this)
       clear h1
       refine wp_region_held_drew (S := fun V => Hid (Fr NoB W V)) (by kernel_rfl) (Lib.hid HG2.out.drew) (fun hHeld => ?_)
       simp only [qL, qL1, qL0, qR, qR1, qR0]
       iterate 6
        refine qt (v := ?_) rfl (Or.inl ⟨by rfl, ?_⟩) hHeld ?_
        rotate_left
        ·intro W hSw
         have h35 := Fr.cell hSw.out c35
         try simp only [qG, qG0, qG1]
         go_simp
         try rw [if_neg (by omega)]
         try with_reducible rfl
        try simp only [Act.put, qS, qS0, qS1, qG, qG0, qG1, qM0, qM1]
       iterate 12
        first
        | refine qt (v := undef) rfl (Or.inr ⟨by rfl, rfl⟩) hHeld ?_
          try simp only [Act.put, qS, qS0, qS1, qG, qG0, qG1, qM0, qM1]
        | refine qt (v := ?_) rfl (Or.inl ⟨by rfl, ?_⟩) hHeld ?_
          rotate_left
          ·intro W hSw
           have h35 := Fr.cell hSw.out c35
           try simp only [qG, qG0, qG1]
           go_simp
           try rw [if_neg (by omega)]
           try with_reducible rfl
          try simp only [Act.put, qS, qS0, qS1, qG, qG0, qG1, qM0, qM1]
       refine qi (i := 18) rfl (yieldsIf_load_mid (by rfl) 39 _ rfl p 0 rfl C d (fun V h => range_fr HR.out h.out hpW (fun _ h => h)) Hu.out Hd.out Hz.out) hHeld ?_
       try simp only [Act.put, qS, qS0, qS1, qG, qG0, qG1, qM0, qM1]
       refine qi (i := 19) rfl (yieldsIf_load_mid (by rfl) 39 _ rfl p 0 rfl C d (fun V h => range_fr HR.out h.out hpW (fun _ h => h)) Hu.out Hd.out Hz.out) hHeld ?_
       try simp only [Act.put, qS, qS0, qS1, qG, qG0, qG1, qM0, qM1]
       refine qr (i := 20) (by kernel_rfl) rfl (fun K hK => ?_)
       try simp only [qG, qG0, qG1]
       go_simp
       refine (Hmust.out _).mono ?_; rintro r w5 ⟨⟨gb, rfl, hrow⟩, hF5⟩
       refine hK.out _ _ (Lib.hid (hHeld.out.trans' hF5)) (fun hHeld => ?_)
       clear hK K
       try simp only [Act.put, qS, qS0, qS1, qG, qG0, qG1, qM0, qM1]
       have Hrow := Lib.hid hrow
       clear hF5 hrow
       refine qr (i := 21) (by kernel_rfl) rfl (fun K hK => ?_)
       try simp only [qG, qG0, qG1]
       go_simp
       refine (Hby.out _ _ (HF.out.trans' hHeld.out) Hrow.out).mono ?_; rintro r w6 ⟨rfl, hF6⟩
       refine hK.out _ _ (Lib.hid (hHeld.out.trans' hF6)) (fun hHeld => ?_)
       clear hK K
       try simp only [Act.put, qS, qS0, qS1, qG, qG0, qG1, qM0, qM1]
       clear hF6
       cases by1
       ·have hR8 : Hid (R = 8) := Lib.hid (by have := HRb.out; simpa using this.symm)
        iterate 2
         refine qt (v := ?_) rfl (Or.inl ⟨by rfl, ?_⟩) hHeld ?_
         rotate_left
         ·intro W hSw
          have h35 := Fr.cell hSw.out c35
          try simp only [qG, qG0, qG1]
          go_simp
          try rw [if_neg (by omega)]
          try with_reducible rfl
         try simp only [Act.put, qS, qS0, qS1, qG, qG0, qG1, qM0, qM1]
        refine wpAnyH_done (by kernel_rfl) ?_ _
        have HG := Lib.hid hHeld.out
        clear hHeld
        go_wp2_with fail
        go_ret
        exact ⟨by rw [hR8.out]; rfl, HF.out.trans' HG.out⟩
       ·have hR8 : Hid (R = 0) := Lib.hid (by have := HRb.out; simpa using this.symm)
        iterate 2
         refine qt (v := ?_) rfl (Or.inl ⟨by rfl, ?_⟩) hHeld ?_
         rotate_left
         ·intro W hSw
          have h35 := Fr.cell hSw.out c35
          try simp only [qG, qG0, qG1]
          go_simp
          try rw [if_neg (by omega)]
          try with_reducible rfl
         try simp only [Act.put, qS, qS0, qS1, qG, qG0, qG1, qM0, qM1]
        refine wpAnyH_done (by kernel_rfl) ?_ _
        have HG := Lib.hid hHeld.out
        clear hHeld
        go_wp2_with fail
        go_ret
        exact ⟨by rw [hR8.out]; rfl, HF.out.trans' HG.out⟩
      ·have e3 : (op != 3) = true := by simpa using h3
       obtain ⟨xl, hxl⟩ : ∃ b, (L != 0) = b := ⟨_, rfl⟩
       cases xl with
       | true =>
         have hL : ¬ L = 0 := by simpa using hxl
         have hR8 : Hid (R = 8) := Lib.hid (by have := HRw.out; simpa [hL, h3] using this.symm)
         clear hL h1 h3
         refine wp_region_held_drew (S := fun V => Hid (Fr NoB W V)) (by kernel_rfl) (Lib.hid HG2.out.drew) (fun hHeld => ?_)
         simp only [qL, qL1, qL0, qR, qR1, qR0]
         iterate 6
          refine qt (v := ?_) rfl (Or.inl ⟨by rfl, ?_⟩) hHeld ?_
          rotate_left
          ·intro W hSw
           have h35 := Fr.cell hSw.out c35
           try simp only [qG, qG0, qG1]
           go_simp
           try rw [if_neg (by omega)]
           try with_reducible rfl
          try simp only [Act.put, qS, qS0, qS1, qG, qG0, qG1, qM0, qM1]
         iterate 6
          refine qt (v := ?_) rfl (Or.inl ⟨by rfl, ?_⟩) hHeld ?_
          rotate_left
          ·intro W hSw
           have h35 := Fr.cell hSw.out c35
           try simp only [qG, qG0, qG1]
           go_simp
           try rw [if_neg (by omega)]
           try with_reducible rfl
          try simp only [Act.put, qS, qS0, qS1, qG, qG0, qG1, qM0, qM1]
         refine qi (i := 12) rfl (yieldsIf_load_mid (by rfl) 24 _ rfl p 37 rfl KC (.array 32 5) (fun V h => range_fr HK.out h.out hpW (fun _ h => h)) Tryz.underKey rfl Hkz.out) hHeld ?_
         try simp only [Act.put, qS, qS0, qS1, qG, qG0, qG1, qM0, qM1]
         refine qr (i := 13) (by kernel_rfl) rfl (fun K hK => ?_)
         try simp only [qG, qG0, qG1]
         go_simp
         refine (Hlife.out _ (HF.out.trans' hHeld.out)).mono ?_; rintro r w4 ⟨rfl, hF4⟩
         refine hK.out _ _ (Lib.hid (hHeld.out.trans' hF4)) (fun hHeld => ?_)
         clear hK K
         try simp only [Act.put, qS, qS0, qS1, qG, qG0, qG1, qM0, qM1]
         clear hF4
         iterate 4
          refine qt (v := ?_) rfl (Or.inl ⟨by rfl, ?_⟩) hHeld ?_
          rotate_left
          ·intro W hSw
           have h35 := Fr.cell hSw.out c35
           try simp only [qG, qG0, qG1]
           go_simp
           try rw [if_neg (by omega)]
           try with_reducible rfl
          try simp only [Act.put, qS, qS0, qS1, qG, qG0, qG1, qM0, qM1]
         iterate 5
          refine qt (v := undef) rfl (Or.inr ⟨by rfl, rfl⟩) hHeld ?_
          try simp only [Act.put, qS, qS0, qS1, qG, qG0, qG1, qM0, qM1]
         refine qt (v := ?_) rfl (Or.inl ⟨by rfl, ?_⟩) hHeld ?_
         rotate_left
         ·intro W hSw
          have h35 := Fr.cell hSw.out c35
          try simp only [qG, qG0, qG1]
          go_simp
          try rw [if_neg (by omega)]
          try with_reducible rfl
         try simp only [Act.put, qS, qS0, qS1, qG, qG0, qG1, qM0, qM1]
         refine wpAnyH_done (by kernel_rfl) ?_ _
         have HG := Lib.hid hHeld.out
         clear hHeld
         go_wp2_with fail
         go_ret
         exact ⟨by rw [hR8.out]; rfl, HF.out.trans' HG.out⟩
       | false =>
         have hL : L = 0 := by simpa using hxl
         have HRb : Hid ((if by1 = false then 8 else 0) = R) := Lib.hid (by have := HRw.out; simpa [hL, h1] using this)
         clear hL h1 h3
         refine wp_region_held_drew (S := fun V => Hid (Fr NoB W V)) (by kernel_rfl) (Lib.hid HG2.out.drew) (fun hHeld => ?_)
         simp only [qL, qL1, qL0, qR, qR1, qR0]
         iterate 6
          refine qt (v := ?_) rfl (Or.inl ⟨by rfl, ?_⟩) hHeld ?_
          rotate_left
          ·intro W hSw
           have h35 := Fr.cell hSw.out c35
           try simp only [qG, qG0, qG1]
           go_simp
           try rw [if_neg (by omega)]
           try with_reducible rfl
          try simp only [Act.put, qS, qS0, qS1, qG, qG0, qG1, qM0, qM1]
         iterate 6
          refine qt (v := ?_) rfl (Or.inl ⟨by rfl, ?_⟩) hHeld ?_
          rotate_left
          ·intro W hSw
           have h35 := Fr.cell hSw.out c35
           try simp only [qG, qG0, qG1]
           go_simp
           try rw [if_neg (by omega)]
           try with_reducible rfl
          try simp only [Act.put, qS, qS0, qS1, qG, qG0, qG1, qM0, qM1]
         refine qi (i := 12) rfl (yieldsIf_load_mid (by rfl) 24 _ rfl p 37 rfl KC (.array 32 5) (fun V h => range_fr HK.out h.out hpW (fun _ h => h)) Tryz.underKey rfl Hkz.out) hHeld ?_
         try simp only [Act.put, qS, qS0, qS1, qG, qG0, qG1, qM0, qM1]
         refine qr (i := 13) (by kernel_rfl) rfl (fun K hK => ?_)
         try simp only [qG, qG0, qG1]
         go_simp
         refine (Hlife.out _ (HF.out.trans' hHeld.out)).mono ?_; rintro r w4 ⟨rfl, hF4⟩
         refine hK.out _ _ (Lib.hid (hHeld.out.trans' hF4)) (fun hHeld => ?_)
         clear hK K
         try simp only [Act.put, qS, qS0, qS1, qG, qG0, qG1, qM0, qM1]
         clear hF4
         iterate 4
          refine qt (v := ?_) rfl (Or.inl ⟨by rfl, ?_⟩) hHeld ?_
          rotate_left
          ·intro W hSw
           have h35 := Fr.cell hSw.out c35
           try simp only [qG, qG0, qG1]
           go_simp
           try rw [if_neg (by omega)]
           try with_reducible rfl
          try simp only [Act.put, qS, qS0, qS1, qG, qG0, qG1, qM0, qM1]
         refine qi (i := 18) rfl (yieldsIf_load_mid (by rfl) 39 _ rfl p 0 rfl C d (fun V h => range_fr HR.out h.out hpW (fun _ h => h)) Hu.out Hd.out Hz.out) hHeld ?_
         try simp only [Act.put, qS, qS0, qS1, qG, qG0, qG1, qM0, qM1]
         refine qi (i := 19) rfl (yieldsIf_load_mid (by rfl) 39 _ rfl p 0 rfl C d (fun V h => range_fr HR.out h.out hpW (fun _ h => h)) Hu.out Hd.out Hz.out) hHeld ?_
         try simp only [Act.put, qS, qS0, qS1, qG, qG0, qG1, qM0, qM1]
         refine qr (i := 20) (by kernel_rfl) rfl (fun K hK => ?_)
         try simp only [qG, qG0, qG1]
         go_simp
         refine (Hmust.out _).mono ?_; rintro r w5 ⟨⟨gb, rfl, hrow⟩, hF5⟩
         refine hK.out _ _ (Lib.hid (hHeld.out.trans' hF5)) (fun hHeld => ?_)
         clear hK K
         try simp only [Act.put, qS, qS0, qS1, qG, qG0, qG1, qM0, qM1]
         have Hrow := Lib.hid hrow
         clear hF5 hrow
         refine qr (i := 21) (by kernel_rfl) rfl (fun K hK => ?_)
         try simp only [qG, qG0, qG1]
         go_simp
         refine (Hby.out _ _ (HF.out.trans' hHeld.out) Hrow.out).mono ?_; rintro r w6 ⟨rfl, hF6⟩
         refine hK.out _ _ (Lib.hid (hHeld.out.trans' hF6)) (fun hHeld => ?_)
         clear hK K
         try simp only [Act.put, qS, qS0, qS1, qG, qG0, qG1, qM0, qM1]
         clear hF6
         cases by1
         ·have hR8 : Hid (R = 8) := Lib.hid (by have := HRb.out; simpa using this.symm)
          iterate 2
           refine qt (v := ?_) rfl (Or.inl ⟨by rfl, ?_⟩) hHeld ?_
           rotate_left
           ·intro W hSw
            have h35 := Fr.cell hSw.out c35
            try simp only [qG, qG0, qG1]
            go_simp
            try rw [if_neg (by omega)]
            try with_reducible rfl
           try simp only [Act.put, qS, qS0, qS1, qG, qG0, qG1, qM0, qM1]
          refine wpAnyH_done (by kernel_rfl) ?_ _
          have HG := Lib.hid hHeld.out
          clear hHeld
          go_wp2_with fail
          go_ret
          exact ⟨by rw [hR8.out]; rfl, HF.out.trans' HG.out⟩
         ·have hR8 : Hid (R = 0) := Lib.hid (by have := HRb.out; simpa using this.symm)
          iterate 2
           refine qt (v := ?_) rfl (Or.inl ⟨by rfl, ?_⟩) hHeld ?_
           rotate_left
           ·intro W hSw
            have h35 := Fr.cell hSw.out c35
            try simp only [qG, qG0, qG1]
            go_simp
            try rw [if_neg (by omega)]
            try with_reducible rfl
           try simp only [Act.put, qS, qS0, qS1, qG, qG0, qG1, qM0, qM1]
          refine wpAnyH_done (by kernel_rfl) ?_ _
          have HG := Lib.hid hHeld.out
          clear hHeld
          go_wp2_with fail
          go_ret
          exact ⟨by rw [hR8.out]; rfl, HF.out.trans' HG.out⟩
  ·have e4 : (k != 4) = true := by simpa using hk4
   have hR11 : Hid (R = 11) := Lib.hid (by have := HRv.out; simpa [hk4] using this.symm)
   clear HRv hk4
   go_wp2_with ((with_reducible refine wpList_load_mid rfl 39 _ rfl p 0 rfl C d HR.out Hu.out Hd.out Hz.out ?_))
   refine (Hchk.out _ HF.out).mono ?_
   rintro r w2 ⟨rfl, hF2⟩
   have k0 := Fr.cell hF2 c0
   have HF2 := Lib.hid (HF.out.trans' hF2)
   clear hF2
   go_wp2_with fail
   go_ret
   exact ⟨by rw [hR11.out]; rfl, HF2.out⟩
end Go.Proofs.YtcddlemkimbkcaaGreatDoor
