/-
  The walk of entry.Check.
-/
import Derived.Test.YtcddlemkimbkcaaGreatDoorKEnEq
import Derived.Test.YtcddlemkimbkcaaGreatDoorKOwnE
import Derived.OrdersHeld
import Derived.Deep.RegionHeld3
namespace Go.Proofs.YtcddlemkimbkcaaGreatDoor
set_option linter.unusedVariables false
set_option linter.unusedSimpArgs false
set_option linter.unusedSectionVars false
open Go.RowKit
variable [OldK]
theorem enOnly_cells (k : Int) (l : List Sg) (a : Option Addr) (n c : Nat) : ((enOnly k l).cells (.slice none 0 0) (.slice a n c)).toArray =
    #[.int .i64 k, .int .u8 0, .int .u8 0, .int .u8 0, .int .u8 0, .int .u8 0, .int .u8 0, .int .u8 0, .int .u8 0, .int .u8 0, .int .u8 0, .int .u8 0, .int .u8 0, .int .u8 0, .int .u8 0, .int .u8 0, .int .u8 0, .int .u8 0, .int .u8 0, .int .u8 0, .int .u8 0, .int .u8 0, .int .u8 0, .int .u8 0, .int .u8 0, .int .u8 0, .int .u8 0, .int .u8 0, .int .u8 0, .int .u8 0, .int .u8 0, .int .u8 0, .int .u8 0, .string ⟨#[]⟩, .slice none 0 0, .int .i64 0, .string ⟨#[]⟩, .int .u8 0, .int .u8 0, .int .u8 0, .int .u8 0, .int .u8 0, .int .u8 0, .int .u8 0, .int .u8 0, .int .u8 0, .int .u8 0, .int .u8 0, .int .u8 0, .int .u8 0, .int .u8 0, .int .u8 0, .int .u8 0, .int .u8 0, .int .u8 0, .int .u8 0, .int .u8 0, .int .u8 0, .int .u8 0, .int .u8 0, .int .u8 0, .int .u8 0, .int .u8 0, .int .u8 0, .int .u8 0, .int .u8 0, .int .u8 0, .int .u8 0, .int .u8 0, .slice a n c] := rfl
theorem pBlank_sigs (e : En) : (pBlank e).sigs = e.sigs := by
  unfold pBlank
  repeat' split
  all_goals rfl
theorem pBlank_len (e : En) : (pBlank e).payload.length ≤ e.payload.length := by
  unfold pBlank
  repeat' split
  all_goals simp
theorem pBlank_pay {S : Nat → Prop} {e : En} {pv : Value} {w : World} (h : SB S e.payload pv w) : SB S (pBlank e).payload (bPay e pv) w := by
  unfold pBlank bPay
  by_cases h1 : e.kind = 1
  · rw [if_pos h1, if_neg (show ¬ (e.kind = 2 ∨ e.kind = 3) by omega)]; exact h
  by_cases h2 : e.kind = 2
  · rw [if_neg h1, if_pos h2, if_pos (.inl h2)]; exact SB.nil S w 0
  by_cases h3 : e.kind = 3
  · rw [if_neg h1, if_neg h2, if_pos h3, if_pos (.inr h3)]; exact SB.nil S w 0
  by_cases h4 : e.kind = 4
  · rw [if_neg h1, if_neg h2, if_neg h3, if_pos h4, if_neg (show ¬ (e.kind = 2 ∨ e.kind = 3) by omega)]; exact h
  · rw [if_neg h1, if_neg h2, if_neg h3, if_neg h4, if_neg (show ¬ (e.kind = 2 ∨ e.kind = 3) by omega)]; exact h
/-- what Check answers -/
def chkV (b : Bool) : Value := if b then .nilIface else .iface 56 (.int .i64 11)
set_option maxRecDepth 100000 in
set_option maxHeartbeats 4000000 in
theorem checkE_c (sub : Bs → Bool) (S S' : Nat → Prop) (e : En) (pv sv : Value) (w : World) (hok : e.ok) (hb : SB S e.payload pv w) (hg : GS S' e.sigs sv w) (hsub : SubC sub e pv w)
    (hty : e.typ.length ≤ 1000000) (hid : e.ident.length ≤ 1000000) (hpl : e.payload.length ≤ 1000000000) (hsl : e.sigs.length ≤ 1000) (hsi : ∀ s ∈ e.sigs, s.id.length ≤ 1000000) :
    Calls Tryz.prog 59 #[.agg (e.cells pv sv).toArray] w fun r w' => r = .returned (chkV (pCheck sub e)) ∧ Fr NoB w w' := by
  obtain ⟨a1, c1, ea⟩ := hb.form
  obtain ⟨a3, c3, rfl, -⟩ := id hg
  have hp1 : pv.oneCell' = true := by rw [ea]; rfl
  have hs1 : (Value.slice a3 e.sigs.length c3).oneCell' = true := rfl
  have hR : (w.alloc (.cells (e.cells pv (.slice a3 e.sigs.length c3)).toArray 39)).rangeAt w.heap.size 0 (e.cells pv (.slice a3 e.sigs.length c3)) := by simpa using range_block (heap_alloc_new w (.cells (e.cells pv (.slice a3 e.sigs.length c3)).toArray 39))
  have hF : Fr NoB w (w.alloc (.cells (e.cells pv (.slice a3 e.sigs.length c3)).toArray 39)) := Fr.refl.alloc _
  obtain ⟨c0, -, -, -, -, -, -, c69⟩ := En.parts hok hR
  have hown := fun V (h : Fr NoB w V) => own_c sub e a1 c1 (.slice a3 e.sigs.length c3) V hok (by rw [← ea]; exact hsub.fr h) hty hid hpl
  rw [← ea] at hown
  have hsig := fun V (h : Fr NoB w V) => signed_gs (hg.fr h (fun _ _ _ h => h)) hsl (fun s hs => ⟨hok.2.2 s hs, hsi s hs⟩)
  have hbl := fun V => blank_c e pv (.slice a3 e.sigs.length c3) V hok hp1 hs1
  have heq := fun V (h : Fr NoB w V) => enEq_c S S S' S' (pBlank e) (enOnly e.kind e.sigs) (bPay e pv) (.slice none 0 0) (.slice a3 e.sigs.length c3) (.slice a3 e.sigs.length c3) V (pBlank_ok hok) (enOnly_ok hok.2.2) (pBlank_pay (hb.fr h (fun _ _ _ _ h => h))) (SB.nil S V 0)
    (by rw [pBlank_sigs]; exact hg.fr h (fun _ _ _ h => h)) (hg.fr h (fun _ _ _ h => h)) (by have := pBlank_len e; omega) (by rw [pBlank_sigs]; exact hsl)
  have hsz := En.size hok pv (.slice a3 e.sigs.length c3)
  obtain ⟨d, hu, hd⟩ := Tryz.rowEntry
  have hz : (Tryz.prog.info? 39).map (·.size) = some (e.cells pv (.slice a3 e.sigs.length c3)).length := by rw [Tryz.sizeEntry, hsz]
  obtain ⟨R, hRv⟩ : ∃ R, pCheck sub e = R := ⟨_, rfl⟩
  obtain ⟨b1, hb1⟩ : ∃ x, pOwn sub e = x := ⟨_, rfl⟩
  obtain ⟨b2, hb2⟩ : ∃ x, pSigned e.sigs = x := ⟨_, rfl⟩
  obtain ⟨b3, hb3⟩ : ∃ x, enEq (pBlank e) (enOnly e.kind e.sigs) = x := ⟨_, rfl⟩
  have HP : Hid ((b1 && (b2 && b3)) = R) := Lib.hid (by rw [← hRv, ← hb1, ← hb2, ← hb3]; rfl)
  obtain ⟨k, hk⟩ : ∃ k, e.kind = k := ⟨_, rfl⟩
  rw [hk] at heq
  simp only [enOnly_cells] at heq
  rw [hb1] at hown
  rw [hb2] at hsig
  rw [hk] at hb3
  rw [hk] at c0
  rw [hRv]
  obtain ⟨CB, hCB⟩ : ∃ C, ((pBlank e).cells (bPay e pv) (.slice a3 e.sigs.length c3)).toArray = C := ⟨_, rfl⟩
  obtain ⟨C, hC⟩ : ∃ C, e.cells pv (.slice a3 e.sigs.length c3) = C := ⟨_, rfl⟩
  obtain ⟨n, hn⟩ : ∃ n, e.sigs.length = n := ⟨_, rfl⟩
  simp only [hb3] at heq
  rw [hCB] at hbl heq
  rw [hC] at hR hF c0 c69 hown hbl hz ⊢
  rw [hn] at c69 heq hsig
  have Hown := Lib.hid hown
  have Hsig := Lib.hid hsig
  have Hbl := Lib.hid hbl
  have Heq := Lib.hid heq
  have Hz := Lib.hid hz
  have Hu := Lib.hid hu
  have Hd := Lib.hid hd
  clear hown hsig hbl heq hz hu hd hsz hCB hC hb1 hb2 hb3 hRv hk ea hok hb hg hsub hty hid hpl hsl hsi hp1 hs1
  go_enter Tryz.func59, Tryz.ntmps59
  go_upto_region 1 with (fail)
  change Code.wp _ _ _ _ (w.alloc (.cells C.toArray 39))
  obtain ⟨W, hW⟩ : ∃ W, w.alloc (.cells C.toArray 39) = W := ⟨_, rfl⟩
  rw [hW] at hR hF c0 c69 ⊢
  obtain ⟨p, hpp⟩ : ∃ p, w.heap.size = p := ⟨_, rfl⟩
  rw [hpp] at hR c0 c69
  rw [hpp]
  have hpW : p < W.heap.size := World.block_lt_of_cell? _ _ c0
  clear hW hpp hn
  have HR := Lib.hid hR
  have HF := Lib.hid hF
  have hHeld0 : Hid (Fr NoB W W.drew) ∧ W.drew.cell? ⟨p, 0, none⟩ = some (.int .i64 k) ∧ W.drew.cell? ⟨p, 69, none⟩ = some (.slice a3 n c3) := ⟨Lib.hid Fr.refl.drew, by simpa using c0, by simpa using c69⟩
  have HH := Lib.hid hHeld0
  clear hHeld0 hR hF c0 c69
  cases b1
  · refine wp_region_held_drew (S := fun V => Hid (Fr NoB W V) ∧ V.cell? ⟨p, 0, none⟩ = some (.int .i64 k) ∧ V.cell? ⟨p, 69, none⟩ = some (.slice a3 n c3)) (by kernel_rfl) HH.out (fun hHeld => ?_)
    simp only [List.size_toArray, List.length_cons, List.length_nil]
    refine wpAnyH_take (i := 0) rfl (by kernel_rfl) (by kernel_rfl) (by kernel_rfl) (fun _ _ _ h => h) (yieldsIf_load_mid (by rfl) 39 _ rfl p 0 rfl C d (fun V h => range_fr HR.out h.1.out hpW (fun _ h => h)) Hu.out Hd.out Hz.out) hHeld ?_
    try simp only [Act.put, List.setIfInBounds_toArray, List.set_cons_zero, List.set_cons_succ, List.getElem_toArray, List.getElem_cons_zero, List.getElem_cons_succ]
    refine wpAnyH_ready (rs := [1]) (by kernel_rfl) (by simp) (AllReadyH.cons rfl (fun K hK => ?_) AllReadyH.nil)
    try simp only [List.getElem_toArray, List.getElem_cons_zero, List.getElem_cons_succ]
    go_simp
    refine (Hown.out _ (HF.out.trans' hHeld.1.out)).mono ?_; rintro r w1 ⟨rfl, hF1⟩
    refine hK.out _ _ ⟨Lib.hid (hHeld.1.out.trans' hF1), Fr.cell hF1 hHeld.2.1, Fr.cell hF1 hHeld.2.2⟩ (fun hHeld => ?_)
    clear hK K
    try simp only [Act.put, List.setIfInBounds_toArray, List.set_cons_zero, List.set_cons_succ, List.getElem_toArray, List.getElem_cons_zero, List.getElem_cons_succ]
    have HG1 := Lib.hid hHeld.1.out
    clear hF1
    refine wpAnyH_take (i := 2) (v := ?_) rfl (by kernel_rfl) (by kernel_rfl) (by kernel_rfl) (fun _ _ _ h => h) (Or.inl ⟨by rfl, ?_⟩) hHeld ?_
    rotate_left
    · intro W hSw
      obtain ⟨-, hs0, hs69⟩ := hSw
      try simp only [List.getElem_toArray, List.getElem_cons_zero, List.getElem_cons_succ]
      go_simp
      try rw [if_neg (by omega)]
      try with_reducible rfl
    try simp only [Act.put, List.setIfInBounds_toArray, List.set_cons_zero, List.set_cons_succ, List.getElem_toArray, List.getElem_cons_zero, List.getElem_cons_succ]
    refine wpAnyH_take (i := 3) (v := ?_) rfl (by kernel_rfl) (by kernel_rfl) (by kernel_rfl) (fun _ _ _ h => h) (Or.inl ⟨by rfl, ?_⟩) hHeld ?_
    rotate_left
    · intro W hSw
      obtain ⟨-, hs0, hs69⟩ := hSw
      try simp only [List.getElem_toArray, List.getElem_cons_zero, List.getElem_cons_succ]
      go_simp
      try rw [if_neg (by omega)]
      try with_reducible rfl
    try simp only [Act.put, List.setIfInBounds_toArray, List.set_cons_zero, List.set_cons_succ, List.getElem_toArray, List.getElem_cons_zero, List.getElem_cons_succ]
    refine wpAnyH_take (i := 4) (v := undef) rfl (by kernel_rfl) (by kernel_rfl) (by kernel_rfl) (fun _ _ _ h => h) (Or.inr ⟨by rfl, rfl⟩) hHeld ?_
    try simp only [Act.put, List.setIfInBounds_toArray, List.set_cons_zero, List.set_cons_succ, List.getElem_toArray, List.getElem_cons_zero, List.getElem_cons_succ]
    refine wpAnyH_take (i := 5) (v := undef) rfl (by kernel_rfl) (by kernel_rfl) (by kernel_rfl) (fun _ _ _ h => h) (Or.inr ⟨by rfl, rfl⟩) hHeld ?_
    try simp only [Act.put, List.setIfInBounds_toArray, List.set_cons_zero, List.set_cons_succ, List.getElem_toArray, List.getElem_cons_zero, List.getElem_cons_succ]
    refine wpAnyH_take (i := 6) (v := undef) rfl (by kernel_rfl) (by kernel_rfl) (by kernel_rfl) (fun _ _ _ h => h) (Or.inr ⟨by rfl, rfl⟩) hHeld ?_
    try simp only [Act.put, List.setIfInBounds_toArray, List.set_cons_zero, List.set_cons_succ, List.getElem_toArray, List.getElem_cons_zero, List.getElem_cons_succ]
    refine wpAnyH_take (i := 7) (v := undef) rfl (by kernel_rfl) (by kernel_rfl) (by kernel_rfl) (fun _ _ _ h => h) (Or.inr ⟨by rfl, rfl⟩) hHeld ?_
    try simp only [Act.put, List.setIfInBounds_toArray, List.set_cons_zero, List.set_cons_succ, List.getElem_toArray, List.getElem_cons_zero, List.getElem_cons_succ]
    refine wpAnyH_take (i := 8) (v := ?_) rfl (by kernel_rfl) (by kernel_rfl) (by kernel_rfl) (fun _ _ _ h => h) (Or.inl ⟨by rfl, ?_⟩) hHeld ?_
    rotate_left
    · intro W hSw
      obtain ⟨-, hs0, hs69⟩ := hSw
      try simp only [List.getElem_toArray, List.getElem_cons_zero, List.getElem_cons_succ]
      go_simp
      try rw [if_neg (by omega)]
      try with_reducible rfl
    try simp only [Act.put, List.setIfInBounds_toArray, List.set_cons_zero, List.set_cons_succ, List.getElem_toArray, List.getElem_cons_zero, List.getElem_cons_succ]
    refine wpAnyH_take (i := 9) (v := ?_) rfl (by kernel_rfl) (by kernel_rfl) (by kernel_rfl) (fun _ _ _ h => h) (Or.inl ⟨by rfl, ?_⟩) hHeld ?_
    rotate_left
    · intro W hSw
      obtain ⟨-, hs0, hs69⟩ := hSw
      try simp only [List.getElem_toArray, List.getElem_cons_zero, List.getElem_cons_succ]
      go_simp
      try rw [if_neg (by omega)]
      try with_reducible rfl
    try simp only [Act.put, List.setIfInBounds_toArray, List.set_cons_zero, List.set_cons_succ, List.getElem_toArray, List.getElem_cons_zero, List.getElem_cons_succ]
    refine wpAnyH_take (i := 10) (v := undef) rfl (by kernel_rfl) (by kernel_rfl) (by kernel_rfl) (fun _ _ _ h => h) (Or.inr ⟨by rfl, rfl⟩) hHeld ?_
    try simp only [Act.put, List.setIfInBounds_toArray, List.set_cons_zero, List.set_cons_succ, List.getElem_toArray, List.getElem_cons_zero, List.getElem_cons_succ]
    refine wpAnyH_take (i := 11) (v := undef) rfl (by kernel_rfl) (by kernel_rfl) (by kernel_rfl) (fun _ _ _ h => h) (Or.inr ⟨by rfl, rfl⟩) hHeld ?_
    try simp only [Act.put, List.setIfInBounds_toArray, List.set_cons_zero, List.set_cons_succ, List.getElem_toArray, List.getElem_cons_zero, List.getElem_cons_succ]
    refine wpAnyH_take (i := 12) (v := undef) rfl (by kernel_rfl) (by kernel_rfl) (by kernel_rfl) (fun _ _ _ h => h) (Or.inr ⟨by rfl, rfl⟩) hHeld ?_
    try simp only [Act.put, List.setIfInBounds_toArray, List.set_cons_zero, List.set_cons_succ, List.getElem_toArray, List.getElem_cons_zero, List.getElem_cons_succ]
    refine wpAnyH_take (i := 13) (v := undef) rfl (by kernel_rfl) (by kernel_rfl) (by kernel_rfl) (fun _ _ _ h => h) (Or.inr ⟨by rfl, rfl⟩) hHeld ?_
    try simp only [Act.put, List.setIfInBounds_toArray, List.set_cons_zero, List.set_cons_succ, List.getElem_toArray, List.getElem_cons_zero, List.getElem_cons_succ]
    refine wpAnyH_take (i := 14) (v := undef) rfl (by kernel_rfl) (by kernel_rfl) (by kernel_rfl) (fun _ _ _ h => h) (Or.inr ⟨by rfl, rfl⟩) hHeld ?_
    try simp only [Act.put, List.setIfInBounds_toArray, List.set_cons_zero, List.set_cons_succ, List.getElem_toArray, List.getElem_cons_zero, List.getElem_cons_succ]
    refine wpAnyH_take (i := 15) (v := undef) rfl (by kernel_rfl) (by kernel_rfl) (by kernel_rfl) (fun _ _ _ h => h) (Or.inr ⟨by rfl, rfl⟩) hHeld ?_
    try simp only [Act.put, List.setIfInBounds_toArray, List.set_cons_zero, List.set_cons_succ, List.getElem_toArray, List.getElem_cons_zero, List.getElem_cons_succ]
    refine wpAnyH_take (i := 16) (v := undef) rfl (by kernel_rfl) (by kernel_rfl) (by kernel_rfl) (fun _ _ _ h => h) (Or.inr ⟨by rfl, rfl⟩) hHeld ?_
    try simp only [Act.put, List.setIfInBounds_toArray, List.set_cons_zero, List.set_cons_succ, List.getElem_toArray, List.getElem_cons_zero, List.getElem_cons_succ]
    refine wpAnyH_take (i := 17) (v := undef) rfl (by kernel_rfl) (by kernel_rfl) (by kernel_rfl) (fun _ _ _ h => h) (Or.inr ⟨by rfl, rfl⟩) hHeld ?_
    try simp only [Act.put, List.setIfInBounds_toArray, List.set_cons_zero, List.set_cons_succ, List.getElem_toArray, List.getElem_cons_zero, List.getElem_cons_succ]
    refine wpAnyH_take (i := 18) (v := undef) rfl (by kernel_rfl) (by kernel_rfl) (by kernel_rfl) (fun _ _ _ h => h) (Or.inr ⟨by rfl, rfl⟩) hHeld ?_
    try simp only [Act.put, List.setIfInBounds_toArray, List.set_cons_zero, List.set_cons_succ, List.getElem_toArray, List.getElem_cons_zero, List.getElem_cons_succ]
    refine wpAnyH_take (i := 19) (v := ?_) rfl (by kernel_rfl) (by kernel_rfl) (by kernel_rfl) (fun _ _ _ h => h) (Or.inl ⟨by rfl, ?_⟩) hHeld ?_
    rotate_left
    · intro W hSw
      obtain ⟨-, hs0, hs69⟩ := hSw
      try simp only [List.getElem_toArray, List.getElem_cons_zero, List.getElem_cons_succ]
      go_simp
      try rw [if_neg (by omega)]
      try with_reducible rfl
    try simp only [Act.put, List.setIfInBounds_toArray, List.set_cons_zero, List.set_cons_succ, List.getElem_toArray, List.getElem_cons_zero, List.getElem_cons_succ]
    refine wpAnyH_done (by kernel_rfl) ?_ _
    clear hHeld
    go_wp2_with fail
    go_ret
    exact ⟨by rw [← HP.out]; rfl, HF.out.trans' HG1.out⟩
  cases b2
  · refine wp_region_held_drew (S := fun V => Hid (Fr NoB W V) ∧ V.cell? ⟨p, 0, none⟩ = some (.int .i64 k) ∧ V.cell? ⟨p, 69, none⟩ = some (.slice a3 n c3)) (by kernel_rfl) HH.out (fun hHeld => ?_)
    simp only [List.size_toArray, List.length_cons, List.length_nil]
    refine wpAnyH_take (i := 0) rfl (by kernel_rfl) (by kernel_rfl) (by kernel_rfl) (fun _ _ _ h => h) (yieldsIf_load_mid (by rfl) 39 _ rfl p 0 rfl C d (fun V h => range_fr HR.out h.1.out hpW (fun _ h => h)) Hu.out Hd.out Hz.out) hHeld ?_
    try simp only [Act.put, List.setIfInBounds_toArray, List.set_cons_zero, List.set_cons_succ, List.getElem_toArray, List.getElem_cons_zero, List.getElem_cons_succ]
    refine wpAnyH_ready (rs := [1]) (by kernel_rfl) (by simp) (AllReadyH.cons rfl (fun K hK => ?_) AllReadyH.nil)
    try simp only [List.getElem_toArray, List.getElem_cons_zero, List.getElem_cons_succ]
    go_simp
    refine (Hown.out _ (HF.out.trans' hHeld.1.out)).mono ?_; rintro r w1 ⟨rfl, hF1⟩
    refine hK.out _ _ ⟨Lib.hid (hHeld.1.out.trans' hF1), Fr.cell hF1 hHeld.2.1, Fr.cell hF1 hHeld.2.2⟩ (fun hHeld => ?_)
    clear hK K
    try simp only [Act.put, List.setIfInBounds_toArray, List.set_cons_zero, List.set_cons_succ, List.getElem_toArray, List.getElem_cons_zero, List.getElem_cons_succ]
    have HG1 := Lib.hid hHeld.1.out
    clear hF1
    refine wpAnyH_take (i := 2) (v := ?_) rfl (by kernel_rfl) (by kernel_rfl) (by kernel_rfl) (fun _ _ _ h => h) (Or.inl ⟨by rfl, ?_⟩) hHeld ?_
    rotate_left
    · intro W hSw
      obtain ⟨-, hs0, hs69⟩ := hSw
      try simp only [List.getElem_toArray, List.getElem_cons_zero, List.getElem_cons_succ]
      go_simp
      try rw [if_neg (by omega)]
      try with_reducible rfl
    try simp only [Act.put, List.setIfInBounds_toArray, List.set_cons_zero, List.set_cons_succ, List.getElem_toArray, List.getElem_cons_zero, List.getElem_cons_succ]
    refine wpAnyH_take (i := 3) (v := ?_) rfl (by kernel_rfl) (by kernel_rfl) (by kernel_rfl) (fun _ _ _ h => h) (Or.inl ⟨by rfl, ?_⟩) hHeld ?_
    rotate_left
    · intro W hSw
      obtain ⟨-, hs0, hs69⟩ := hSw
      try simp only [List.getElem_toArray, List.getElem_cons_zero, List.getElem_cons_succ]
      go_simp
      try rw [if_neg (by omega)]
      try with_reducible rfl
    try simp only [Act.put, List.setIfInBounds_toArray, List.set_cons_zero, List.set_cons_succ, List.getElem_toArray, List.getElem_cons_zero, List.getElem_cons_succ]
    refine wpAnyH_take (i := 4) (v := ?_) rfl (by kernel_rfl) (by kernel_rfl) (by kernel_rfl) (fun _ _ _ h => h) (Or.inl ⟨by rfl, ?_⟩) hHeld ?_
    rotate_left
    · intro W hSw
      obtain ⟨-, hs0, hs69⟩ := hSw
      try simp only [List.getElem_toArray, List.getElem_cons_zero, List.getElem_cons_succ]
      go_simp
      try rw [if_neg (by omega)]
      try with_reducible rfl
    try simp only [Act.put, List.setIfInBounds_toArray, List.set_cons_zero, List.set_cons_succ, List.getElem_toArray, List.getElem_cons_zero, List.getElem_cons_succ]
    refine wpAnyH_take (i := 5) (v := ?_) rfl (by kernel_rfl) (by kernel_rfl) (by kernel_rfl) (fun _ _ _ h => h) (Or.inl ⟨by rfl, ?_⟩) hHeld ?_
    rotate_left
    · intro W hSw
      obtain ⟨-, hs0, hs69⟩ := hSw
      try simp only [List.getElem_toArray, List.getElem_cons_zero, List.getElem_cons_succ]
      go_simp
      try rw [if_neg (by omega)]
      try with_reducible rfl
    try simp only [Act.put, List.setIfInBounds_toArray, List.set_cons_zero, List.set_cons_succ, List.getElem_toArray, List.getElem_cons_zero, List.getElem_cons_succ]
    refine wpAnyH_ready (rs := [6]) (by kernel_rfl) (by simp) (AllReadyH.cons rfl (fun K hK => ?_) AllReadyH.nil)
    try simp only [List.getElem_toArray, List.getElem_cons_zero, List.getElem_cons_succ]
    go_simp
    refine (Hsig.out _ (HF.out.trans' HG1.out)).mono ?_; rintro r w2 ⟨rfl, hF2⟩
    refine hK.out _ _ ⟨Lib.hid (hHeld.1.out.trans' hF2), Fr.cell hF2 hHeld.2.1, Fr.cell hF2 hHeld.2.2⟩ (fun hHeld => ?_)
    clear hK K
    try simp only [Act.put, List.setIfInBounds_toArray, List.set_cons_zero, List.set_cons_succ, List.getElem_toArray, List.getElem_cons_zero, List.getElem_cons_succ]
    have HG2 := Lib.hid hHeld.1.out
    clear hF2
    refine wpAnyH_take (i := 7) (v := ?_) rfl (by kernel_rfl) (by kernel_rfl) (by kernel_rfl) (fun _ _ _ h => h) (Or.inl ⟨by rfl, ?_⟩) hHeld ?_
    rotate_left
    · intro W hSw
      obtain ⟨-, hs0, hs69⟩ := hSw
      try simp only [List.getElem_toArray, List.getElem_cons_zero, List.getElem_cons_succ]
      go_simp
      try rw [if_neg (by omega)]
      try with_reducible rfl
    try simp only [Act.put, List.setIfInBounds_toArray, List.set_cons_zero, List.set_cons_succ, List.getElem_toArray, List.getElem_cons_zero, List.getElem_cons_succ]
    refine wpAnyH_take (i := 8) (v := ?_) rfl (by kernel_rfl) (by kernel_rfl) (by kernel_rfl) (fun _ _ _ h => h) (Or.inl ⟨by rfl, ?_⟩) hHeld ?_
    rotate_left
    · intro W hSw
      obtain ⟨-, hs0, hs69⟩ := hSw
      try simp only [List.getElem_toArray, List.getElem_cons_zero, List.getElem_cons_succ]
      go_simp
      try rw [if_neg (by omega)]
      try with_reducible rfl
    try simp only [Act.put, List.setIfInBounds_toArray, List.set_cons_zero, List.set_cons_succ, List.getElem_toArray, List.getElem_cons_zero, List.getElem_cons_succ]
    refine wpAnyH_take (i := 9) (v := ?_) rfl (by kernel_rfl) (by kernel_rfl) (by kernel_rfl) (fun _ _ _ h => h) (Or.inl ⟨by rfl, ?_⟩) hHeld ?_
    rotate_left
    · intro W hSw
      obtain ⟨-, hs0, hs69⟩ := hSw
      try simp only [List.getElem_toArray, List.getElem_cons_zero, List.getElem_cons_succ]
      go_simp
      try rw [if_neg (by omega)]
      try with_reducible rfl
    try simp only [Act.put, List.setIfInBounds_toArray, List.set_cons_zero, List.set_cons_succ, List.getElem_toArray, List.getElem_cons_zero, List.getElem_cons_succ]
    refine wpAnyH_take (i := 10) (v := undef) rfl (by kernel_rfl) (by kernel_rfl) (by kernel_rfl) (fun _ _ _ h => h) (Or.inr ⟨by rfl, rfl⟩) hHeld ?_
    try simp only [Act.put, List.setIfInBounds_toArray, List.set_cons_zero, List.set_cons_succ, List.getElem_toArray, List.getElem_cons_zero, List.getElem_cons_succ]
    refine wpAnyH_take (i := 11) (v := undef) rfl (by kernel_rfl) (by kernel_rfl) (by kernel_rfl) (fun _ _ _ h => h) (Or.inr ⟨by rfl, rfl⟩) hHeld ?_
    try simp only [Act.put, List.setIfInBounds_toArray, List.set_cons_zero, List.set_cons_succ, List.getElem_toArray, List.getElem_cons_zero, List.getElem_cons_succ]
    refine wpAnyH_take (i := 12) (v := undef) rfl (by kernel_rfl) (by kernel_rfl) (by kernel_rfl) (fun _ _ _ h => h) (Or.inr ⟨by rfl, rfl⟩) hHeld ?_
    try simp only [Act.put, List.setIfInBounds_toArray, List.set_cons_zero, List.set_cons_succ, List.getElem_toArray, List.getElem_cons_zero, List.getElem_cons_succ]
    refine wpAnyH_take (i := 13) (v := undef) rfl (by kernel_rfl) (by kernel_rfl) (by kernel_rfl) (fun _ _ _ h => h) (Or.inr ⟨by rfl, rfl⟩) hHeld ?_
    try simp only [Act.put, List.setIfInBounds_toArray, List.set_cons_zero, List.set_cons_succ, List.getElem_toArray, List.getElem_cons_zero, List.getElem_cons_succ]
    refine wpAnyH_take (i := 14) (v := undef) rfl (by kernel_rfl) (by kernel_rfl) (by kernel_rfl) (fun _ _ _ h => h) (Or.inr ⟨by rfl, rfl⟩) hHeld ?_
    try simp only [Act.put, List.setIfInBounds_toArray, List.set_cons_zero, List.set_cons_succ, List.getElem_toArray, List.getElem_cons_zero, List.getElem_cons_succ]
    refine wpAnyH_take (i := 15) (v := undef) rfl (by kernel_rfl) (by kernel_rfl) (by kernel_rfl) (fun _ _ _ h => h) (Or.inr ⟨by rfl, rfl⟩) hHeld ?_
    try simp only [Act.put, List.setIfInBounds_toArray, List.set_cons_zero, List.set_cons_succ, List.getElem_toArray, List.getElem_cons_zero, List.getElem_cons_succ]
    refine wpAnyH_take (i := 16) (v := undef) rfl (by kernel_rfl) (by kernel_rfl) (by kernel_rfl) (fun _ _ _ h => h) (Or.inr ⟨by rfl, rfl⟩) hHeld ?_
    try simp only [Act.put, List.setIfInBounds_toArray, List.set_cons_zero, List.set_cons_succ, List.getElem_toArray, List.getElem_cons_zero, List.getElem_cons_succ]
    refine wpAnyH_take (i := 17) (v := undef) rfl (by kernel_rfl) (by kernel_rfl) (by kernel_rfl) (fun _ _ _ h => h) (Or.inr ⟨by rfl, rfl⟩) hHeld ?_
    try simp only [Act.put, List.setIfInBounds_toArray, List.set_cons_zero, List.set_cons_succ, List.getElem_toArray, List.getElem_cons_zero, List.getElem_cons_succ]
    refine wpAnyH_take (i := 18) (v := undef) rfl (by kernel_rfl) (by kernel_rfl) (by kernel_rfl) (fun _ _ _ h => h) (Or.inr ⟨by rfl, rfl⟩) hHeld ?_
    try simp only [Act.put, List.setIfInBounds_toArray, List.set_cons_zero, List.set_cons_succ, List.getElem_toArray, List.getElem_cons_zero, List.getElem_cons_succ]
    refine wpAnyH_take (i := 19) (v := ?_) rfl (by kernel_rfl) (by kernel_rfl) (by kernel_rfl) (fun _ _ _ h => h) (Or.inl ⟨by rfl, ?_⟩) hHeld ?_
    rotate_left
    · intro W hSw
      obtain ⟨-, hs0, hs69⟩ := hSw
      try simp only [List.getElem_toArray, List.getElem_cons_zero, List.getElem_cons_succ]
      go_simp
      try rw [if_neg (by omega)]
      try with_reducible rfl
    try simp only [Act.put, List.setIfInBounds_toArray, List.set_cons_zero, List.set_cons_succ, List.getElem_toArray, List.getElem_cons_zero, List.getElem_cons_succ]
    refine wpAnyH_done (by kernel_rfl) ?_ _
    clear hHeld
    go_wp2_with fail
    go_ret
    exact ⟨by rw [← HP.out]; rfl, HF.out.trans' HG2.out⟩
  cases b3
  all_goals
    refine wp_region_held_drew (S := fun V => Hid (Fr NoB W V) ∧ V.cell? ⟨p, 0, none⟩ = some (.int .i64 k) ∧ V.cell? ⟨p, 69, none⟩ = some (.slice a3 n c3)) (by kernel_rfl) HH.out (fun hHeld => ?_)
    simp only [List.size_toArray, List.length_cons, List.length_nil]
    refine wpAnyH_take (i := 0) rfl (by kernel_rfl) (by kernel_rfl) (by kernel_rfl) (fun _ _ _ h => h) (yieldsIf_load_mid (by rfl) 39 _ rfl p 0 rfl C d (fun V h => range_fr HR.out h.1.out hpW (fun _ h => h)) Hu.out Hd.out Hz.out) hHeld ?_
    try simp only [Act.put, List.setIfInBounds_toArray, List.set_cons_zero, List.set_cons_succ, List.getElem_toArray, List.getElem_cons_zero, List.getElem_cons_succ]
    refine wpAnyH_ready (rs := [1]) (by kernel_rfl) (by simp) (AllReadyH.cons rfl (fun K hK => ?_) AllReadyH.nil)
    try simp only [List.getElem_toArray, List.getElem_cons_zero, List.getElem_cons_succ]
    go_simp
    refine (Hown.out _ (HF.out.trans' hHeld.1.out)).mono ?_; rintro r w1 ⟨rfl, hF1⟩
    refine hK.out _ _ ⟨Lib.hid (hHeld.1.out.trans' hF1), Fr.cell hF1 hHeld.2.1, Fr.cell hF1 hHeld.2.2⟩ (fun hHeld => ?_)
    clear hK K
    try simp only [Act.put, List.setIfInBounds_toArray, List.set_cons_zero, List.set_cons_succ, List.getElem_toArray, List.getElem_cons_zero, List.getElem_cons_succ]
    have HG1 := Lib.hid hHeld.1.out
    clear hF1
    refine wpAnyH_take (i := 2) (v := ?_) rfl (by kernel_rfl) (by kernel_rfl) (by kernel_rfl) (fun _ _ _ h => h) (Or.inl ⟨by rfl, ?_⟩) hHeld ?_
    rotate_left
    · intro W hSw
      obtain ⟨-, hs0, hs69⟩ := hSw
      try simp only [List.getElem_toArray, List.getElem_cons_zero, List.getElem_cons_succ]
      go_simp
      try rw [if_neg (by omega)]
      try with_reducible rfl
    try simp only [Act.put, List.setIfInBounds_toArray, List.set_cons_zero, List.set_cons_succ, List.getElem_toArray, List.getElem_cons_zero, List.getElem_cons_succ]
    refine wpAnyH_take (i := 3) (v := ?_) rfl (by kernel_rfl) (by kernel_rfl) (by kernel_rfl) (fun _ _ _ h => h) (Or.inl ⟨by rfl, ?_⟩) hHeld ?_
    rotate_left
    · intro W hSw
      obtain ⟨-, hs0, hs69⟩ := hSw
      try simp only [List.getElem_toArray, List.getElem_cons_zero, List.getElem_cons_succ]
      go_simp
      try rw [if_neg (by omega)]
      try with_reducible rfl
    try simp only [Act.put, List.setIfInBounds_toArray, List.set_cons_zero, List.set_cons_succ, List.getElem_toArray, List.getElem_cons_zero, List.getElem_cons_succ]
    refine wpAnyH_take (i := 4) (v := ?_) rfl (by kernel_rfl) (by kernel_rfl) (by kernel_rfl) (fun _ _ _ h => h) (Or.inl ⟨by rfl, ?_⟩) hHeld ?_
    rotate_left
    · intro W hSw
      obtain ⟨-, hs0, hs69⟩ := hSw
      try simp only [List.getElem_toArray, List.getElem_cons_zero, List.getElem_cons_succ]
      go_simp
      try rw [if_neg (by omega)]
      try with_reducible rfl
    try simp only [Act.put, List.setIfInBounds_toArray, List.set_cons_zero, List.set_cons_succ, List.getElem_toArray, List.getElem_cons_zero, List.getElem_cons_succ]
    refine wpAnyH_take (i := 5) (v := ?_) rfl (by kernel_rfl) (by kernel_rfl) (by kernel_rfl) (fun _ _ _ h => h) (Or.inl ⟨by rfl, ?_⟩) hHeld ?_
    rotate_left
    · intro W hSw
      obtain ⟨-, hs0, hs69⟩ := hSw
      try simp only [List.getElem_toArray, List.getElem_cons_zero, List.getElem_cons_succ]
      go_simp
      try rw [if_neg (by omega)]
      try with_reducible rfl
    try simp only [Act.put, List.setIfInBounds_toArray, List.set_cons_zero, List.set_cons_succ, List.getElem_toArray, List.getElem_cons_zero, List.getElem_cons_succ]
    refine wpAnyH_ready (rs := [6]) (by kernel_rfl) (by simp) (AllReadyH.cons rfl (fun K hK => ?_) AllReadyH.nil)
    try simp only [List.getElem_toArray, List.getElem_cons_zero, List.getElem_cons_succ]
    go_simp
    refine (Hsig.out _ (HF.out.trans' HG1.out)).mono ?_; rintro r w2 ⟨rfl, hF2⟩
    refine hK.out _ _ ⟨Lib.hid (hHeld.1.out.trans' hF2), Fr.cell hF2 hHeld.2.1, Fr.cell hF2 hHeld.2.2⟩ (fun hHeld => ?_)
    clear hK K
    try simp only [Act.put, List.setIfInBounds_toArray, List.set_cons_zero, List.set_cons_succ, List.getElem_toArray, List.getElem_cons_zero, List.getElem_cons_succ]
    have HG2 := Lib.hid hHeld.1.out
    clear hF2
    refine wpAnyH_take (i := 7) (v := ?_) rfl (by kernel_rfl) (by kernel_rfl) (by kernel_rfl) (fun _ _ _ h => h) (Or.inl ⟨by rfl, ?_⟩) hHeld ?_
    rotate_left
    · intro W hSw
      obtain ⟨-, hs0, hs69⟩ := hSw
      try simp only [List.getElem_toArray, List.getElem_cons_zero, List.getElem_cons_succ]
      go_simp
      try rw [if_neg (by omega)]
      try with_reducible rfl
    try simp only [Act.put, List.setIfInBounds_toArray, List.set_cons_zero, List.set_cons_succ, List.getElem_toArray, List.getElem_cons_zero, List.getElem_cons_succ]
    refine wpAnyH_take (i := 8) (v := ?_) rfl (by kernel_rfl) (by kernel_rfl) (by kernel_rfl) (fun _ _ _ h => h) (Or.inl ⟨by rfl, ?_⟩) hHeld ?_
    rotate_left
    · intro W hSw
      obtain ⟨-, hs0, hs69⟩ := hSw
      try simp only [List.getElem_toArray, List.getElem_cons_zero, List.getElem_cons_succ]
      go_simp
      try rw [if_neg (by omega)]
      try with_reducible rfl
    try simp only [Act.put, List.setIfInBounds_toArray, List.set_cons_zero, List.set_cons_succ, List.getElem_toArray, List.getElem_cons_zero, List.getElem_cons_succ]
    refine wpAnyH_take (i := 9) (v := ?_) rfl (by kernel_rfl) (by kernel_rfl) (by kernel_rfl) (fun _ _ _ h => h) (Or.inl ⟨by rfl, ?_⟩) hHeld ?_
    rotate_left
    · intro W hSw
      obtain ⟨-, hs0, hs69⟩ := hSw
      try simp only [List.getElem_toArray, List.getElem_cons_zero, List.getElem_cons_succ]
      go_simp
      try rw [if_neg (by omega)]
      try with_reducible rfl
    try simp only [Act.put, List.setIfInBounds_toArray, List.set_cons_zero, List.set_cons_succ, List.getElem_toArray, List.getElem_cons_zero, List.getElem_cons_succ]
    refine wpAnyH_take (i := 10) rfl (by kernel_rfl) (by kernel_rfl) (by kernel_rfl) (fun _ _ _ h => h) (yieldsIf_load_mid (by rfl) 39 _ rfl p 0 rfl C d (fun V h => range_fr HR.out h.1.out hpW (fun _ h => h)) Hu.out Hd.out Hz.out) hHeld ?_
    try simp only [Act.put, List.setIfInBounds_toArray, List.set_cons_zero, List.set_cons_succ, List.getElem_toArray, List.getElem_cons_zero, List.getElem_cons_succ]
    refine wpAnyH_take (i := 12) (v := ?_) rfl (by kernel_rfl) (by kernel_rfl) (by kernel_rfl) (fun _ _ _ h => h) (Or.inl ⟨by rfl, ?_⟩) hHeld ?_
    rotate_left
    · intro W hSw
      obtain ⟨-, hs0, hs69⟩ := hSw
      try simp only [List.getElem_toArray, List.getElem_cons_zero, List.getElem_cons_succ]
      go_simp
      try rw [if_neg (by omega)]
      try with_reducible rfl
    try simp only [Act.put, List.setIfInBounds_toArray, List.set_cons_zero, List.set_cons_succ, List.getElem_toArray, List.getElem_cons_zero, List.getElem_cons_succ]
    refine wpAnyH_take (i := 13) (v := ?_) rfl (by kernel_rfl) (by kernel_rfl) (by kernel_rfl) (fun _ _ _ h => h) (Or.inl ⟨by rfl, ?_⟩) hHeld ?_
    rotate_left
    · intro W hSw
      obtain ⟨-, hs0, hs69⟩ := hSw
      try simp only [List.getElem_toArray, List.getElem_cons_zero, List.getElem_cons_succ]
      go_simp
      try rw [if_neg (by omega)]
      try with_reducible rfl
    try simp only [Act.put, List.setIfInBounds_toArray, List.set_cons_zero, List.set_cons_succ, List.getElem_toArray, List.getElem_cons_zero, List.getElem_cons_succ]
    refine wpAnyH_take (i := 14) (v := ?_) rfl (by kernel_rfl) (by kernel_rfl) (by kernel_rfl) (fun _ _ _ h => h) (Or.inl ⟨by rfl, ?_⟩) hHeld ?_
    rotate_left
    · intro W hSw
      obtain ⟨-, hs0, hs69⟩ := hSw
      try simp only [List.getElem_toArray, List.getElem_cons_zero, List.getElem_cons_succ]
      go_simp
      try rw [if_neg (by omega)]
      try with_reducible rfl
    try simp only [Act.put, List.setIfInBounds_toArray, List.set_cons_zero, List.set_cons_succ, List.getElem_toArray, List.getElem_cons_zero, List.getElem_cons_succ]
    refine wpAnyH_take (i := 15) (v := ?_) rfl (by kernel_rfl) (by kernel_rfl) (by kernel_rfl) (fun _ _ _ h => h) (Or.inl ⟨by rfl, ?_⟩) hHeld ?_
    rotate_left
    · intro W hSw
      obtain ⟨-, hs0, hs69⟩ := hSw
      try simp only [List.getElem_toArray, List.getElem_cons_zero, List.getElem_cons_succ]
      go_simp
      try rw [if_neg (by omega)]
      try with_reducible rfl
    try simp only [Act.put, List.setIfInBounds_toArray, List.set_cons_zero, List.set_cons_succ, List.getElem_toArray, List.getElem_cons_zero, List.getElem_cons_succ]
    refine wpAnyH_take (i := 16) (v := ?_) rfl (by kernel_rfl) (by kernel_rfl) (by kernel_rfl) (fun _ _ _ h => h) (Or.inl ⟨by rfl, ?_⟩) hHeld ?_
    rotate_left
    · intro W hSw
      obtain ⟨-, hs0, hs69⟩ := hSw
      try simp only [List.getElem_toArray, List.getElem_cons_zero, List.getElem_cons_succ]
      go_simp
      try rw [if_neg (by omega)]
      try with_reducible rfl
    try simp only [Act.put, List.setIfInBounds_toArray, List.set_cons_zero, List.set_cons_succ, List.getElem_toArray, List.getElem_cons_zero, List.getElem_cons_succ]
    refine wpAnyH_ready (rs := [11]) (by kernel_rfl) (by simp) (AllReadyH.cons rfl (fun K hK => ?_) AllReadyH.nil)
    try simp only [List.getElem_toArray, List.getElem_cons_zero, List.getElem_cons_succ]
    go_simp
    refine (Hbl.out _).mono ?_; rintro r w3 ⟨rfl, hF3⟩
    refine hK.out _ _ ⟨Lib.hid (hHeld.1.out.trans' hF3), Fr.cell hF3 hHeld.2.1, Fr.cell hF3 hHeld.2.2⟩ (fun hHeld => ?_)
    clear hK K
    try simp only [Act.put, List.setIfInBounds_toArray, List.set_cons_zero, List.set_cons_succ, List.getElem_toArray, List.getElem_cons_zero, List.getElem_cons_succ]
    have HG3 := Lib.hid hHeld.1.out
    clear hF3
    refine wpAnyH_ready (rs := [17]) (by kernel_rfl) (by simp) (AllReadyH.cons rfl (fun K hK => ?_) AllReadyH.nil)
    try simp only [List.getElem_toArray, List.getElem_cons_zero, List.getElem_cons_succ]
    go_simp
    refine (Heq.out _ (HF.out.trans' HG3.out)).mono ?_; rintro r w4 ⟨rfl, hF4⟩
    refine hK.out _ _ ⟨Lib.hid (hHeld.1.out.trans' hF4), Fr.cell hF4 hHeld.2.1, Fr.cell hF4 hHeld.2.2⟩ (fun hHeld => ?_)
    clear hK K
    try simp only [Act.put, List.setIfInBounds_toArray, List.set_cons_zero, List.set_cons_succ, List.getElem_toArray, List.getElem_cons_zero, List.getElem_cons_succ]
    have HG4 := Lib.hid hHeld.1.out
    clear hF4
    refine wpAnyH_take (i := 18) (v := ?_) rfl (by kernel_rfl) (by kernel_rfl) (by kernel_rfl) (fun _ _ _ h => h) (Or.inl ⟨by rfl, ?_⟩) hHeld ?_
    rotate_left
    · intro W hSw
      obtain ⟨-, hs0, hs69⟩ := hSw
      try simp only [List.getElem_toArray, List.getElem_cons_zero, List.getElem_cons_succ]
      go_simp
      try rw [if_neg (by omega)]
      try with_reducible rfl
    try simp only [Act.put, List.setIfInBounds_toArray, List.set_cons_zero, List.set_cons_succ, List.getElem_toArray, List.getElem_cons_zero, List.getElem_cons_succ]
    refine wpAnyH_take (i := 19) (v := ?_) rfl (by kernel_rfl) (by kernel_rfl) (by kernel_rfl) (fun _ _ _ h => h) (Or.inl ⟨by rfl, ?_⟩) hHeld ?_
    rotate_left
    · intro W hSw
      obtain ⟨-, hs0, hs69⟩ := hSw
      try simp only [List.getElem_toArray, List.getElem_cons_zero, List.getElem_cons_succ]
      go_simp
      try rw [if_neg (by omega)]
      try with_reducible rfl
    try simp only [Act.put, List.setIfInBounds_toArray, List.set_cons_zero, List.set_cons_succ, List.getElem_toArray, List.getElem_cons_zero, List.getElem_cons_succ]
    refine wpAnyH_done (by kernel_rfl) ?_ _
    clear hHeld
    go_wp2_with fail
    go_ret
    exact ⟨by rw [← HP.out]; rfl, HF.out.trans' HG4.out⟩
end Go.Proofs.YtcddlemkimbkcaaGreatDoor
