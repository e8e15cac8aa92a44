/-
  Copies with marks (cachetnum): Copy, Kept.
-/
import Derived.Test.YtbfmpbhikipipaaGreatDoorKQuoteRef
import Derived.Test.YtbfmpbhikipipaaGreatDoorKUtfRef
import Derived.Laws.MakeOwn
import Derived.Laws.AppendOwnNone
import Derived.Test.YtbfmpbhikipipaaGreatDoorKRefIs
import Derived.Test.YtbfmpbhikipipaaGreatDoorKStableAll
namespace Go.Proofs.YtbfmpbhikipipaaGreatDoor
set_option linter.unusedVariables false
set_option linter.unusedSimpArgs false
set_option linter.unusedSectionVars false
open Go.RowKit
variable [OldK]
/-- a copy of l, its marks behind it, in block g -/
def CP (l : Bs) (g : Nat) (w : World) : Prop := ∃ cs, w.heap[g]? = some (.cells cs 5 (0, 0)) ∧ (∀ j (hj : j < l.length), cs[j]? = some (.int .u8 (l[j].toNat : Int))) ∧ cs[l.length]? = some (.int .u8 165) ∧ cs[l.length + 1]? = some (.int .u8 90)
theorem CP.fr {l : Bs} {g : Nat} {w w' : World} (h : CP l g w) (hF : Fr NoB w w') : CP l g w' := by
  obtain ⟨cs, h1, h2⟩ := h
  exact ⟨cs, hF.block _ _ h1 (fun h => h), h2⟩
theorem CP.sb {l : Bs} {g cap : Nat} {w : World} (h : CP l g w) (hc : l.length ≤ cap) : SB (fun k => k = g) l (.slice (some ⟨g, 0, none⟩) l.length cap) w := by
  obtain ⟨cs, h1, h2, -⟩ := h
  exact ⟨_, cap, rfl, hc, .inr ⟨g, 0, cs, _, _, rfl, rfl, ⟨h1, .inl rfl⟩, fun j hj => by rw [Nat.zero_add]; exact h2 j hj⟩⟩
theorem CP.of {l : Bs} {B n : Nat} {v : Value} {w : World} (h : w.ownsRow B 5 1 v n (Lib.byteCells l ++ [.int .u8 165, .int .u8 90])) (hn : n = l.length + 2) :
    ∃ g cap, v = .slice (some ⟨g, 0, none⟩) (l.length + 2) cap ∧ l.length + 2 ≤ cap ∧ B ≤ g ∧ CP l g w := by
  subst hn
  rcases h.2 with ⟨rfl, h0⟩ | ⟨g, cap, cur, rfl, hb, hg, hnc, hcm, hcs, htake⟩
  · omega
  · refine ⟨g, cap, rfl, hnc, hb, cur, hg, ?_⟩
    have hx : ∀ j, j < l.length + 2 → cur[j]? = (Lib.byteCells l ++ [.int .u8 165, .int .u8 90])[j]? := by
      intro j hj
      rw [← htake, List.getElem?_take, if_pos (by omega), Array.getElem?_toList]
    have hbl : (Lib.byteCells l).length = l.length := by simp [Lib.byteCells]
    refine ⟨fun j hj => ?_, ?_, ?_⟩
    · rw [hx j (by omega), List.getElem?_append_left (by omega)]
      simp [Lib.byteCells, hj]
    · rw [hx _ (by omega), List.getElem?_append_right (by omega), hbl]
      simp
    · rw [hx _ (by omega), List.getElem?_append_right (by omega), hbl]
      simp
set_option maxRecDepth 100000 in
set_option maxHeartbeats 4000000 in
theorem copy_c (S : Nat → Prop) (l : Bs) (v : Value) (w : World) (hv : SB S l v w) (hz : v = .slice none 0 0 ∨ ∃ ad n c, v = .slice (some ad) n c) (hlen : l.length + 2 ≤ 140737488355328) :
    Calls Tryz.prog 13 #[v] w fun e w' => ∃ g cap, e = .returned (.slice (some ⟨g, 0, none⟩) l.length cap) ∧ l.length + 2 ≤ cap ∧ w.heap.size ≤ g ∧ CP l g w' ∧ Fr NoB w w' := by
  obtain ⟨i0, hi0, hz0, hz1, hz2⟩ := info_parts Tryz.infoByte
  obtain ⟨w1, hmk, hown1, hgr1⟩ := run_make_own (P := Tryz.prog) w w.heap.size 28 5 i0 (.int .u8 0) 1 Tryz.underlying28 hi0 hz0 hz1 .i64 .i64 (l.length + 2) (by rw [hz2]; omega) (by unfold maxLen; omega) (Nat.le_refl _)
  rw [show (((l.length + 2 : Nat)) : Int) = (l.length : Int) + 2 by push_cast; rfl] at hmk
  have hF1 : Fr NoB w w1 := (Fr.ofGrown hgr1).mono (fun k _ h => by simp at h)
  have Hv := Lib.hid hv
  have Hown1 := Lib.hid hown1
  have HF1 := Lib.hid hF1
  have hwr : IntKind.i64.wrap ((l.length : Int) + 2) = (l.length : Int) + 2 := by rw [IntKind.wrap_i64]; omega
  clear hgr1 hF1 hown1
  rcases hz with rfl | ⟨ad, n, c, rfl⟩
  · obtain ⟨a, cap, he, hcp, h⟩ := hv
    have hl0 : l = [] := by
      simp only [Value.slice.injEq] at he
      exact List.length_eq_zero_iff.1 he.2.1.symm
    subst hl0
    clear he h hcp Hv
    simp only [List.length_nil] at *
    have hmk : (Instr.makeSlice 28 (.int .i64 0) (.int .i64 2)).run Tryz.prog w = .ok (.slice (some ⟨w.heap.size, 0, none⟩) 0 2) w1 := hmk
    clear hwr
    obtain ⟨l', hl'⟩ : ∃ l' : Bs, l' = [] := ⟨[], rfl⟩
    have h0 : l'.length = 0 := by rw [hl']; rfl
    have hb0 : Lib.byteCells l' = [] := by rw [hl']; rfl
    have Hl' := Lib.hid hl'
    have Hown1 : Hid (w1.ownsRow w.heap.size 5 1 (.slice (some ⟨w.heap.size, 0, none⟩) 0 2) 0 (Lib.byteCells l')) := by rw [hb0]; exact Hown1
    have Hh0 := Lib.hid h0
    clear hl' hb0 h0
    go_enter Tryz.func13, Tryz.ntmps13
    go_wp2_with (at_builtin; refine wpList_append_own _ rfl _ _ 28 rfl w.heap.size 5 i0 (.int .u8 0) 1 1 Tryz.underlying28 hi0 hz0 hz1 hz2 rfl (by decide) (.slice (some ⟨w.heap.size, 0, none⟩) 0 2) 0 (Lib.byteCells l') (by rfl) (Hown1.out.alloc _) ⟨(w1).heap.size, 0, none⟩ 2 2 [.int .u8 165, .int .u8 90] (by rfl) (by rfl) ?c1 ?c2 ?c3 ?c4 ?c5 ?_)
    case c1 => exact cells_at w1 _ _ _ rfl
    case c2 => simp [Value.oneCell']
    case c3 => first | (unfold maxLen; omega) | (simp [maxLen])
    case c4 => first | omega | simp
    case c5 => have := HF1.out.size; simp; omega
    intro v3 w3 hown3 hgr3 _
    obtain ⟨g, cp, rfl, hcp3, hg3, hC3⟩ := CP.of (l := l') (n := 0 + 2) hown3 (by first | rfl | (have := Hh0.out; omega))
    have HC3 := Lib.hid hC3
    have hF3 : Fr NoB w w3 := (HF1.out.alloc _).trans (Fr.ofGrown hgr3) (fun k _ hm => .inr (by have := (own_ty Hown1.out k hm.symm).1; omega))
    have HF3 := Lib.hid hF3
    clear hown3 hgr3 hC3 hF3
    have hl0 := Hl'.out
    subst hl0
    simp only [List.length_nil] at hcp3 ⊢
    go_wp2_with fail
    go_ret
    exact ⟨g, cp, rfl, hcp3, hg3, HC3.out, HF3.out⟩
  · obtain ⟨a, cap, he, hcp, h⟩ := hv
    obtain ⟨rfl, rfl, rfl⟩ : some ad = a ∧ n = l.length ∧ c = cap := by simpa using he
    clear he
    have hc := (Hv.out.fr HF1.out (fun _ _ _ _ h => h))
    have Hc := Lib.hid hc
    clear hc h
    obtain ⟨l', hl'⟩ : ∃ l' : Bs, l' = l := ⟨l, rfl⟩
    subst hl'
    go_enter Tryz.func13, Tryz.ntmps13
    go_wp2_with (at_builtin; refine wpList_append_own _ rfl _ _ 28 rfl w.heap.size 5 i0 (.int .u8 0) 1 1 Tryz.underlying28 hi0 hz0 hz1 hz2 rfl (by decide) (.slice (some ⟨w.heap.size, 0, none⟩) 0 (l'.length + 2)) 0 [] (by rfl) Hown1.out ad l'.length c (Lib.byteCells l') (by rfl) ?c1 ?c2 ?c3 ?c4 ?c5 ?c6 ?_)
    case c1 => simp [Lib.byteCells]
    case c2 =>
      intro j u hu
      obtain ⟨x, hx, rfl⟩ : ∃ x, l'[j]? = some x ∧ u = .int .u8 x.toNat := by
        unfold Lib.byteCells at hu
        rw [List.getElem?_map] at hu
        cases hx : l'[j]? with
        | none => rw [hx] at hu; simp at hu
        | some x => rw [hx] at hu; exact ⟨x, rfl, by simpa using hu.symm⟩
      obtain ⟨g, o, cap', e1, -, -, -, hcell⟩ := Hc.out.cellsAt (by rintro rfl; simp at hx)
      simp only [Value.slice.injEq, Option.some.injEq] at e1
      obtain ⟨rfl, -, -⟩ := e1
      rw [Addr.add_lit]
      exact hcell j x hx
    case c3 =>
      intro u hu
      unfold Lib.byteCells at hu
      rw [List.mem_map] at hu
      obtain ⟨x, _, rfl⟩ := hu
      rfl
    case c4 => unfold maxLen; omega
    case c5 => omega
    case c6 => exact HF1.out.size
    intro v2 w2 hown2 hgr2 _
    have hown2 : w2.ownsRow w.heap.size 5 1 v2 l'.length (Lib.byteCells l') := by simpa using hown2
    obtain ⟨oa, oc, rfl⟩ := own_form hown2
    have HF2 := Lib.hid (HF1.out.trans (Fr.ofGrown hgr2) (fun k _ hm => .inr (by have := (own_ty Hown1.out k hm.symm).1; omega)))
    have Hown2 := Lib.hid hown2
    clear hown2 hgr2
    go_wp2_with (at_builtin; refine wpList_append_own _ rfl _ _ 28 rfl w.heap.size 5 i0 (.int .u8 0) 1 1 Tryz.underlying28 hi0 hz0 hz1 hz2 rfl (by decide) (.slice oa l'.length oc) l'.length (Lib.byteCells l') (by rfl) (Hown2.out.alloc _) ⟨(w2).heap.size, 0, none⟩ 2 2 [.int .u8 165, .int .u8 90] (by rfl) (by rfl) ?c1 ?c2 ?c3 ?c4 ?c5 ?_)
    case c1 => exact cells_at w2 _ _ _ rfl
    case c2 => simp [Value.oneCell']
    case c3 => first | (unfold maxLen; omega) | (simp [maxLen])
    case c4 => first | omega | simp
    case c5 => have := HF2.out.size; simp; omega
    intro v3 w3 hown3 hgr3 _
    obtain ⟨g, cp, rfl, hcp3, hg3, hC3⟩ := CP.of (l := l') (n := l'.length + 2) hown3 (by first | rfl | (have := Hh0.out; omega))
    have HC3 := Lib.hid hC3
    have hF3 : Fr NoB w w3 := (HF2.out.alloc _).trans (Fr.ofGrown hgr3) (fun k _ hm => .inr (by have := (own_ty Hown2.out k hm.symm).1; omega))
    have HF3 := Lib.hid hF3
    clear hown3 hgr3 hC3 hF3
    have hc3 : l'.length ≤ cp := by omega
    go_wp2_with fail
    go_ret
    exact ⟨g, cp, rfl, hcp3, hg3, HC3.out, HF3.out⟩
set_option maxRecDepth 100000 in
set_option maxHeartbeats 4000000 in
theorem kept_c (S : Nat → Prop) (l : Bs) (v : Value) (w : World) (g cap : Nat) (hv : SB S l v w) (hc : CP l g w) (hcap : l.length + 2 ≤ cap) (hlen : l.length + 2 ≤ 140737488355328) :
    Calls Tryz.prog 16 #[.slice (some ⟨g, 0, none⟩) l.length cap, v] w fun e w' => e = .returned (.bool true) ∧ w = w' := by
  have h1 := (hc.sb (cap := cap) (by omega)).text
  have h2 := hv.text
  obtain ⟨a, c, rfl⟩ := hv.form
  obtain ⟨cs, hb, -, h3, h4⟩ := hc
  have k1 : w.cell? ⟨g, l.length, none⟩ = some (.int .u8 165) := by simp [World.cell?, hb, h3]
  have k2 : w.cell? ⟨g, l.length + 1, none⟩ = some (.int .u8 90) := by simp [World.cell?, hb, h4]
  have hwr : IntKind.i64.wrap ((l.length : Int) + 2) = (l.length : Int) + 2 := by rw [IntKind.wrap_i64]; omega
  have hwr1 : IntKind.i64.wrap ((l.length : Int) + 1) = (l.length : Int) + 1 := by rw [IntKind.wrap_i64]; omega
  have q1 : decide ((cap : Int) < (l.length : Int) + 2) = false := by rw [decide_eq_false_iff_not]; omega
  have q2 : (l.length : Int) + 2 ≤ cap := by omega
  have q3 : (l.length : Int) < (l.length : Int) + 2 := by omega
  have q4 : (l.length : Int) + 1 < (l.length : Int) + 2 := by omega
  clear hv hb h3 h4 hcap
  go_enter Tryz.func16, Tryz.ntmps16
  go_wp2_with fail
  go_ret
  exact ⟨rfl, rfl⟩
end Go.Proofs.YtbfmpbhikipipaaGreatDoor
namespace Go.Proofs.YtbfmpbhikipipaaGreatDoor
set_option linter.unusedVariables false
set_option linter.unusedSimpArgs false
set_option linter.unusedSectionVars false
open Go.RowKit
variable [OldK]
set_option maxRecDepth 100000 in
set_option maxHeartbeats 4000000 in
theorem lawis_c (S : Nat → Prop) (l : Bs) (v : Value) (w : World) (hv : SB S l v w) (hz : v = .slice none 0 0 ∨ ∃ ad n c, v = .slice (some ad) n c) (hg : Gl w) (hlen : l.length + 2 ≤ 140737488355328) :
    Calls Tryz.prog 4 #[v] w fun e w' => e = .returned (.bool true) ∧ Fr NoB w w' := by
  have hm : l.length ≤ maxLen := by unfold maxLen; omega
  have hal := alive_c 67108864 (by decide) sort_all w hg
  have hcp := fun W hW => copy_c S l v W hW hz hlen
  have his := fun g cap W (hC : CP l g W) (hc : l.length + 2 ≤ cap) hG => is_c 67108864 sort_all (fun k => k = g) l (.slice (some ⟨g, 0, none⟩) l.length cap) W (hC.sb (by omega)) hG hm (fun h0 => by
    obtain ⟨h1, h2⟩ := parse_zero h0
    obtain ⟨-, -, h3, h4⟩ := parsed h2 h1
    exact ⟨h3, few_of_fits _ h3, by have := h4 8; show (pWrite (pSorts 8 (pParse l).1)).length + 16 ≤ _; omega⟩)
  have hri := fun W hW hG => refIs_c S l v W hW hG hm
  rw [rIs_eq] at hri
  have hkp := fun g cap W hW hC hc => kept_c S l v W g cap hW hC hc hlen
  obtain ⟨B, hB⟩ : ∃ B, pIs l = B := ⟨_, rfl⟩
  rw [hB] at his hri
  obtain ⟨a, c, rfl⟩ := hv.form
  have Hal := Lib.hid hal
  have Hcp := Lib.hid hcp
  have His := Lib.hid his
  have Hri := Lib.hid hri
  have Hkp := Lib.hid hkp
  have Hv := Lib.hid hv
  have Hg := Lib.hid hg
  clear hal hcp his hri hkp hv hg hz hB hm
  go_enter Tryz.func4, Tryz.ntmps4
  go_wp2_with fail
  refine Hal.out.mono ?_
  rintro e w1 ⟨rfl, hF1⟩
  have Hv1 := Lib.hid (Hv.out.fr hF1 (fun _ _ _ _ h => h))
  have Hg1 := Lib.hid (Hg.out.fr hF1 (fun _ _ _ h => h.elim))
  have HF1 := Lib.hid hF1
  clear hF1
  go_wp2_with fail
  refine (Hcp.out _ Hv1.out).mono ?_
  rintro e w2 ⟨g, cap, rfl, hcap, hgw, hC, hF2⟩
  have Hv2 := Lib.hid (Hv1.out.fr hF2 (fun _ _ _ _ h => h))
  have Hg2 := Lib.hid (Hg1.out.fr hF2 (fun _ _ _ h => h.elim))
  have HF2 := Lib.hid (HF1.out.trans' hF2)
  have HC2 := Lib.hid hC
  clear hF2 hC
  go_wp2_with fail
  refine (His.out _ _ _ HC2.out hcap Hg2.out).mono ?_
  rintro e w3 ⟨rfl, hF3⟩
  have Hv3 := Lib.hid (Hv2.out.fr hF3 (fun _ _ _ _ h => h))
  have Hg3 := Lib.hid (Hg2.out.fr hF3 (fun _ _ _ h => h.elim))
  have HF3 := Lib.hid (HF2.out.trans' hF3)
  have HC3 := Lib.hid (HC2.out.fr hF3)
  clear hF3
  go_wp2_with fail
  refine (Hri.out _ Hv3.out Hg3.out).mono ?_
  rintro e w4 ⟨rfl, hF4⟩
  have Hv4 := Lib.hid (Hv3.out.fr hF4 (fun _ _ _ _ h => h))
  have HF4 := Lib.hid (HF3.out.trans' hF4)
  have HC4 := Lib.hid (HC3.out.fr hF4)
  clear hF4
  have hq : (B == B) = true := by simp
  go_wp2_with fail
  refine (Hkp.out _ _ _ Hv4.out HC4.out hcap).mono ?_
  rintro e w5 ⟨rfl, rfl⟩
  go_wp2_with fail
  go_ret
  exact ⟨rfl, HF4.out⟩
end Go.Proofs.YtbfmpbhikipipaaGreatDoor
