/-
  The reference's Is.
-/
import Derived.Test.YtbfmpbhikipipaaGreatDoorKTxt15
import Derived.Test.YtbfmpbhikipipaaGreatDoorKRefText
import Derived.Test.YtbfmpbhikipipaaGreatDoorKParsed
import Derived.Deep.RegionHeld3
namespace Go.Proofs.YtbfmpbhikipipaaGreatDoor
set_option linter.unusedVariables false
set_option linter.unusedSimpArgs false
set_option linter.unusedSectionVars false
open Go.RowKit
variable [OldK]
attribute [local irreducible] wpStill
/-- which texts are canonical, by the reference -/
def rIs (l : Bs) : Bool := if (pParse l).2 = 0 then pText (pParse l).1 == l else false
theorem parse_zero {l : Bs} (h : (pParse l).2 = 0) : l.length ≤ 4096 ∧ sParse l = some (pParse l).1 := by
  unfold pParse at h ⊢
  split at h
  · simp at h
  · rename_i hl
    rw [if_neg hl]
    cases hs : sParse l with
    | none => rw [hs] at h; simp at h
    | some j => simp only; exact ⟨by omega, trivial⟩
theorem rIs_eq (l : Bs) : rIs l = pIs l := by
  unfold rIs pIs
  by_cases h : (pParse l).2 = 0
  · rw [if_pos h, if_pos h]
    obtain ⟨hl, hs⟩ := parse_zero h
    have hp := (parsed hs hl).1
    unfold pPut
    rw [if_pos hp]
    by_cases h4 : 4096 < (pText (pParse l).1).length
    · rw [if_pos h4, if_neg (by simp)]
      rw [beq_eq_false_iff_ne]
      intro e
      rw [e] at h4
      omega
    · rw [if_neg h4, if_pos rfl]
      rw [Bool.eq_iff_iff, beq_iff_eq, beq_iff_eq]
      exact ⟨fun h => h.symm, fun h => h.symm⟩
  · rw [if_neg h, if_neg h]
set_option maxRecDepth 100000 in
set_option maxHeartbeats 4000000 in
theorem refIs_c (S : Nat → Prop) (l : Bs) (v : Value) (w : World) (hv : SB S l v w) (hg : Gl w) (hlen : l.length ≤ maxLen) :
    Calls Tryz.prog 15 #[v] w fun e w' => e = .returned (.bool (rIs l)) ∧ Fr NoB w w' := by
  obtain ⟨q, cap, rfl⟩ := hv.form
  have hpa := refParse_c S l _ w hv hg hlen
  unfold rIs
  have hpz := parse_zero (l := l)
  obtain ⟨⟨j, bad⟩, hP⟩ : ∃ P, pParse l = P := ⟨_, rfl⟩
  rw [hP] at hpa hpz ⊢
  simp only at hpa hpz ⊢
  have Hpa := Lib.hid hpa
  have Hv := Lib.hid hv
  by_cases hb : bad = 0
  · subst hb
    rw [if_pos rfl]
    obtain ⟨hl, hs⟩ := hpz rfl
    obtain ⟨hsn, -, hfit, hwl⟩ := parsed hs hl
    have htx := fun x W hx => refText_c 8 0 (fun k => w.heap.size ≤ k) j x W hx hfit hsn (by omega) (by omega) (by have := hwl 8; omega)
    have ept : pWrite (pSorts 8 j) = pText j := rfl
    simp only [ept] at htx
    generalize pText j = T at *
    have Htx := Lib.hid htx
    clear hpa hv hP hpz hs hsn hfit hwl htx ept
    go_enter Tryz.func15, Tryz.ntmps15
    go_wp2_with fail
    refine Hpa.out.mono ?_
    rintro e w1 ⟨x, rfl, hx, hF1⟩
    obtain ⟨jk, jn, jt, jl, jp⟩ := j
    obtain ⟨y1, n1, y2, n2, rfl, _, _⟩ := hx.open
    have hF2 := hF1.alloc (.cells #[.int .i64 jk, .int .i64 jn, .string ⟨jt.toArray⟩, .slice y1 jl.length n1, .slice y2 jp.length n2] 25)
    have hb2 := heap_alloc_new w1 (.cells #[.int .i64 jk, .int .i64 jn, .string ⟨jt.toArray⟩, .slice y1 jl.length n1, .slice y2 jp.length n2] 25)
    have Hx := Lib.hid (RJ.kp (Kp.ofFr (((Fr.refl (M := NoB)).alloc (w := w1) (.cells #[.int .i64 jk, .int .i64 jn, .string ⟨jt.toArray⟩, .slice y1 jl.length n1, .slice y2 jp.length n2] 25)).drew)) _ _ hx)
    have hcv := (Hv.out.fr hF2 (fun _ _ _ _ h => h)).text
    have hcv2 := (Hv.out.fr hF2.drew (fun _ _ _ _ h => h)).text
    have HF2 := Lib.hid hF2
    have Hb2 := Lib.hid hb2
    obtain ⟨a0, a1, a2, a3, a4, az, alt⟩ := VB.at hb2
    clear hx hF1 hF2 hb2
    go_upto_region 2 with (fail)
    have hcv3 := fun W (hF : Fr NoB (w1.alloc (.cells #[.int .i64 jk, .int .i64 jn, .string ⟨jt.toArray⟩, .slice y1 jl.length n1, .slice y2 jp.length n2] 25)).drew W) => (Hv.out.fr (HF2.out.drew.trans' hF) (fun _ _ _ _ h => h)).text
    have Hcv3 := Lib.hid hcv3
    clear hcv3
    go_region_held3 (fun W => W.cell? ⟨w1.heap.size, 0, none⟩ = some (.int .i64 jk) ∧ W.cell? ⟨w1.heap.size, 1, none⟩ = some (.int .i64 jn) ∧ W.cell? ⟨w1.heap.size, 2, none⟩ = some (.string ⟨jt.toArray⟩) ∧ W.cell? ⟨w1.heap.size, 3, none⟩ = some (.slice y1 jl.length n1) ∧ W.cell? ⟨w1.heap.size, 4, none⟩ = some (.slice y2 jp.length n2) ∧ (convert 28 9 (.slice q l.length cap)).run Tryz.prog W = .ok (.string ⟨l.toArray⟩) W) (first | go_keep | (refine ⟨?_, ?_, ?_, ?_, ?_, ?_⟩ <;> first | assumption | (simp; assumption))) ((go_at_call 27; refine (Htx.out _ _ Hx.out).mono ?_; rintro e w5 ⟨rfl, hF5⟩; obtain ⟨d0, d1, d2, d3, d4, dz, dlt⟩ := VB.at (hF5.block _ _ Hb2.out (fun h => h)); have hcv5 := Hcv3.out _ hF5))
    go_wp2_with fail
    go_ret
    exact ⟨ret_bool (by simp), HF2.out.drew.trans' hF5⟩
  · have hq : ((bad : Int) == 0) = false := by simpa using hb
    rw [if_neg hb]
    clear hpa hv hP hpz
    go_enter Tryz.func15, Tryz.ntmps15
    go_wp2_with fail
    refine Hpa.out.mono ?_
    rintro e w1 ⟨x, rfl, hx, hF1⟩
    obtain ⟨jk, jn, jt, jl, jp⟩ := j
    obtain ⟨y1, n1, y2, n2, rfl, _, _⟩ := hx.open
    have HF2 := Lib.hid (hF1.alloc (.cells #[.int .i64 jk, .int .i64 jn, .string ⟨jt.toArray⟩, .slice y1 jl.length n1, .slice y2 jp.length n2] 25))
    clear hx hF1 hb
    go_upto_region 2 with (fail)
    refine wp_region_held_drew (S := fun _ => True) (by kernel_rfl) trivial (fun hHeld => ?_)
    simp only [List.size_toArray, List.length_cons, List.length_nil]
    refine wpAnyH_take (i := 0) (v := ?_) rfl (by kernel_rfl) (by kernel_rfl) (by kernel_rfl) (fun _ _ _ h => h) (Or.inl ⟨by rfl, ?_⟩) hHeld ?_
    rotate_left
    · intro W hSw
      try simp only [List.getElem_toArray, List.getElem_cons_zero, List.getElem_cons_succ]
      go_simp
      try rw [if_neg (by omega)]
      try with_reducible rfl
    try simp only [Act.put, List.setIfInBounds_toArray, List.set_cons_zero, List.set_cons_succ, List.getElem_toArray, List.getElem_cons_zero, List.getElem_cons_succ]
    refine wpAnyH_take (i := 1) (v := ?_) rfl (by kernel_rfl) (by kernel_rfl) (by kernel_rfl) (fun _ _ _ h => h) (Or.inl ⟨by rfl, ?_⟩) hHeld ?_
    rotate_left
    · intro W hSw
      try simp only [List.getElem_toArray, List.getElem_cons_zero, List.getElem_cons_succ]
      go_simp
      try rw [if_neg (by omega)]
      try with_reducible rfl
    try simp only [Act.put, List.setIfInBounds_toArray, List.set_cons_zero, List.set_cons_succ, List.getElem_toArray, List.getElem_cons_zero, List.getElem_cons_succ]
    refine wpAnyH_take (i := 2) (v := ?_) rfl (by kernel_rfl) (by kernel_rfl) (by kernel_rfl) (fun _ _ _ h => h) (Or.inl ⟨by rfl, ?_⟩) hHeld ?_
    rotate_left
    · intro W hSw
      try simp only [List.getElem_toArray, List.getElem_cons_zero, List.getElem_cons_succ]
      go_simp
      try rw [if_neg (by omega)]
      try with_reducible rfl
    try simp only [Act.put, List.setIfInBounds_toArray, List.set_cons_zero, List.set_cons_succ, List.getElem_toArray, List.getElem_cons_zero, List.getElem_cons_succ]
    refine wpAnyH_take (i := 3) (v := undef) rfl (by kernel_rfl) (by kernel_rfl) (by kernel_rfl) (fun _ _ _ h => h) (Or.inr ⟨by rfl, rfl⟩) hHeld ?_
    try simp only [Act.put, List.setIfInBounds_toArray, List.set_cons_zero, List.set_cons_succ, List.getElem_toArray, List.getElem_cons_zero, List.getElem_cons_succ]
    refine wpAnyH_take (i := 4) (v := undef) rfl (by kernel_rfl) (by kernel_rfl) (by kernel_rfl) (fun _ _ _ h => h) (Or.inr ⟨by rfl, rfl⟩) hHeld ?_
    try simp only [Act.put, List.setIfInBounds_toArray, List.set_cons_zero, List.set_cons_succ, List.getElem_toArray, List.getElem_cons_zero, List.getElem_cons_succ]
    refine wpAnyH_take (i := 5) (v := undef) rfl (by kernel_rfl) (by kernel_rfl) (by kernel_rfl) (fun _ _ _ h => h) (Or.inr ⟨by rfl, rfl⟩) hHeld ?_
    try simp only [Act.put, List.setIfInBounds_toArray, List.set_cons_zero, List.set_cons_succ, List.getElem_toArray, List.getElem_cons_zero, List.getElem_cons_succ]
    refine wpAnyH_take (i := 6) (v := undef) rfl (by kernel_rfl) (by kernel_rfl) (by kernel_rfl) (fun _ _ _ h => h) (Or.inr ⟨by rfl, rfl⟩) hHeld ?_
    try simp only [Act.put, List.setIfInBounds_toArray, List.set_cons_zero, List.set_cons_succ, List.getElem_toArray, List.getElem_cons_zero, List.getElem_cons_succ]
    refine wpAnyH_take (i := 7) (v := undef) rfl (by kernel_rfl) (by kernel_rfl) (by kernel_rfl) (fun _ _ _ h => h) (Or.inr ⟨by rfl, rfl⟩) hHeld ?_
    try simp only [Act.put, List.setIfInBounds_toArray, List.set_cons_zero, List.set_cons_succ, List.getElem_toArray, List.getElem_cons_zero, List.getElem_cons_succ]
    refine wpAnyH_take (i := 8) (v := ?_) rfl (by kernel_rfl) (by kernel_rfl) (by kernel_rfl) (fun _ _ _ h => h) (Or.inl ⟨by rfl, ?_⟩) hHeld ?_
    rotate_left
    · intro W hSw
      try simp only [List.getElem_toArray, List.getElem_cons_zero, List.getElem_cons_succ]
      go_simp
      try rw [if_neg (by omega)]
      try with_reducible rfl
    try simp only [Act.put, List.setIfInBounds_toArray, List.set_cons_zero, List.set_cons_succ, List.getElem_toArray, List.getElem_cons_zero, List.getElem_cons_succ]
    refine wpAnyH_take (i := 9) (v := ?_) rfl (by kernel_rfl) (by kernel_rfl) (by kernel_rfl) (fun _ _ _ h => h) (Or.inl ⟨by rfl, ?_⟩) hHeld ?_
    rotate_left
    · intro W hSw
      try simp only [List.getElem_toArray, List.getElem_cons_zero, List.getElem_cons_succ]
      go_simp
      try rw [if_neg (by omega)]
      try with_reducible rfl
    try simp only [Act.put, List.setIfInBounds_toArray, List.set_cons_zero, List.set_cons_succ, List.getElem_toArray, List.getElem_cons_zero, List.getElem_cons_succ]
    refine wpAnyH_done (by kernel_rfl) ?_ _
    go_wp2_with fail
    go_ret
    exact ⟨rfl, HF2.out.drew⟩
end Go.Proofs.YtbfmpbhikipipaaGreatDoor
