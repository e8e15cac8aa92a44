/-
  A text is parsed.
-/
import Derived.Test.YtcddlemkimbkcaaGreatDoorKReader10
import Derived.Test.YtcddlemkimbkcaaGreatDoorKOwn
namespace Go.Proofs.YtcddlemkimbkcaaGreatDoor
set_option linter.unusedVariables false
set_option linter.unusedSimpArgs false
set_option linter.unusedSectionVars false
open Go.RowKit
variable [OldK]

/-- an error, by its number -/
def errV (n : Nat) : Value := if n = 0 then .nilIface else .iface 56 (.int .i64 n)
/-- the value of a text, and an error's number -/
def pParse (s : Bs) : J × Nat := if 4096 < s.length then (J.zero, 10) else match sParse s with | none => (J.zero, 1) | some j => (j, 0)

theorem fresh_rd {r : Nat} {w w' : World} (h : Fr (MR r) w w') (hr : w.heap.size ≤ r) : Fr NoB w w' :=
  (Fr.refl (M := NoB)).trans h (fun k _ hm => .inr (by rw [hm.1]; exact hr))
theorem VB.at {b : Nat} {w : World} {q0 q1 q2 q3 q4 : Value} (h : w.heap[b]? = some (.cells #[q0, q1, q2, q3, q4] 220 (0, 0))) :
    w.cell? ⟨b, 0, none⟩ = some q0 ∧ w.cell? ⟨b, 1, none⟩ = some q1 ∧ w.cell? ⟨b, 2, none⟩ = some q2 ∧ w.cell? ⟨b, 3, none⟩ = some q3 ∧ w.cell? ⟨b, 4, none⟩ = some q4 ∧ (∀ o, w.frozen? ⟨b, o, none⟩ = false) ∧ b < w.heap.size :=
  ⟨by simp [World.cell?, h], by simp [World.cell?, h], by simp [World.cell?, h], by simp [World.cell?, h], by simp [World.cell?, h], by simp [World.frozen?, h], get_lt h⟩
set_option maxRecDepth 100000 in
set_option maxHeartbeats 1000000 in
theorem parse_c (S : Nat → Prop) (l : Bs) (v : Value) (w : World) (hv : SB S l v w) (hg : Gl w) (hlen : l.length ≤ maxLen) :
    Calls Tryz.prog 140 #[v] w fun e w' => ∃ x, e = .returned (.tuple #[x, errV (pParse l).2]) ∧ RJ (fun k => w.heap.size ≤ k) w' (pParse l).1 x ∧ Fr NoB w w' := by
  unfold pParse
  have hgs := hg.size
  obtain ⟨a, cap, hform⟩ := hv.form
  by_cases hl : 4096 < l.length
  · simp only [if_pos hl]
    subst hform
    unfold maxLen at hlen
    go_enter Tryz.func140, Tryz.ntmps140
    go_wp2_with fail
    obtain ⟨a0, a1, a2, a3, a4, fz, hlt1⟩ := VB.at (heap_alloc_new w (.cells #[.int .i64 0, .int .i64 0, .string ⟨#[]⟩, .slice none 0 0, .slice none 0 0] 220))
    refine bodyPost_ret (v := .tuple #[.agg #[.int .i64 0, .int .i64 0, .string ⟨#[]⟩, .slice none 0 0, .slice none 0 0], .iface 56 (.int .i64 10)]) (by simp [results, Tryz.results140, go_sem, a0, a1, a2, a3, a4]) rfl ?_
    exact ⟨_, rfl, RJ.zero _ _, Fr.refl.alloc _⟩
  · simp only [if_neg hl]
    have hval := fun r W hR hgW => value_c 10 0 r l false W hR hgW (by omega) (by omega) (by omega) (by omega)
    have htext : ∀ W, Fr NoB w W → (convert 36 9 v).run Tryz.prog W = .ok (.string ⟨l.toArray⟩) W := fun W hF => (hv.fr hF (fun _ _ _ _ h => h)).text
    have ht := htext _ (Fr.refl.alloc (.cells #[.int .i64 0, .int .i64 0, .string ⟨#[]⟩, .slice none 0 0, .slice none 0 0] 220))
    have hl2 : decide ((4096 : Int) < (l.length : Int)) = false := by rw [decide_eq_false_iff_not]; omega
    unfold sParse
    generalize sValue 10 0 ⟨l, false⟩ = G at *
    obtain ⟨j, s1, b1⟩ := G
    have Hval := Lib.hid hval
    clear hval htext
    simp only
    obtain ⟨bl, hbl⟩ : ∃ bl, sBlanks s1 = bl := ⟨_, rfl⟩
    rw [hbl]
    have Hbl := Lib.hid hbl
    clear hbl
    have hcase : (∃ G, G = (match if b1 = true ∨ bl ≠ [] then none else some j with | none => (J.zero, 1) | some j => (j, 0)) ∧ ((b1 = true ∧ G = (J.zero, 1)) ∨ (b1 = false ∧ ∃ y m, bl = y :: m ∧ G = (J.zero, 1)) ∨ (b1 = false ∧ bl = [] ∧ G = (j, 0)))) := by
      refine ⟨_, rfl, ?_⟩
      cases b1 with
      | true => left; simp
      | false =>
        right
        cases bl with
        | nil => right; simp
        | cons y m => left; exact ⟨rfl, y, m, rfl, by simp⟩
    obtain ⟨G, hG, hc⟩ := hcase
    rw [← hG]
    clear hG
    rcases hc with ⟨rfl, rfl⟩ | ⟨rfl, y, m, rfl, rfl⟩ | ⟨rfl, rfl, rfl⟩
    all_goals
      subst hform
      clear hl
      go_enter Tryz.func140, Tryz.ntmps140
      go_wp2_with fail
      have hs1 : (w.alloc (.cells #[.int .i64 0, .int .i64 0, .string ⟨#[]⟩, .slice none 0 0, .slice none 0 0] 220)).heap.size = w.heap.size + 1 := World.size_alloc _ _
      have hbox := heap_alloc_new (w.alloc (.cells #[.int .i64 0, .int .i64 0, .string ⟨#[]⟩, .slice none 0 0, .slice none 0 0] 220)) (.cells #[.string ⟨l.toArray⟩, .bool false, .int .i64 0] 282)
      rw [hs1] at hbox
      have hV0 := (VB.new w (.int .i64 0) (.int .i64 0) (.string ⟨#[]⟩) (.slice none 0 0) (.slice none 0 0)).fr (Fr.refl.alloc (M := NoB) (.cells #[.string ⟨l.toArray⟩, .bool false, .int .i64 0] 282)) (fun _ _ h => h)
      refine (Hval.out (w.heap.size + 1) _ ⟨by omega, hbox⟩ ((hg.alloc _).alloc _).zero).mono ?_
      rintro e w1 ⟨x, rfl, hj, hR1, hF1⟩
      have hV1 := hV0.rd hF1
      obtain ⟨jk, jn, jt, jl, jp⟩ := j
      have hjv := hj
      unfold RJ at hjv
      obtain ⟨x1, n1, x2, n2, rfl, _, _⟩ := hjv
      have Hj := Lib.hid hj
      clear hj
      go_wp2_with fail
      refine (blanks_c _ _ _ _ _ (hR1.alloc _)).mono ?_
      rintro e w2 ⟨rfl, hR2, hF2⟩
      rw [Hbl.out] at hR2
      have hV2 := (hV1.fr (Fr.refl.alloc (M := NoB) _) (fun _ _ h => h)).rd hF2
      have hv5 := hF2.block _ _ (heap_alloc_new w1 _) (fun ⟨_, _, _, hm⟩ => by simp at hm)
      obtain ⟨q0, q1, q2, q3, q4, a0, a1, a2, a3, a4, fz, hlt1⟩ := hV2.cells
      obtain ⟨b0, b1, b2, b3, b4, bz, blt⟩ := VB.at hv5
      obtain ⟨c0, c1, c2, f1, hr1⟩ := hR2.cells
      go_wp2_with fail
      have hFw : Fr (MR (w.heap.size + 1)) w w2 := ((((Fr.refl.alloc _).alloc _).trans' hF1).alloc _).trans' hF2
      have hs11 := hF1.size
      have hs12 := hF2.size
      simp only [World.size_alloc] at hs11 hs12
    · refine bodyPost_ret (v := .tuple #[.agg #[.int .i64 0, .int .i64 0, .string ⟨#[]⟩, .slice none 0 0, .slice none 0 0], .iface 56 (.int .i64 1)]) (by simp [results, Tryz.results140, go_sem, a0, a1, a2, a3, a4]) rfl ?_
      exact ⟨_, rfl, RJ.zero _ _, fresh_rd (hFw.setV (Nat.le_refl _) _ _ _ _ _) (by omega)⟩
    · refine bodyPost_ret (v := .tuple #[.agg #[.int .i64 0, .int .i64 0, .string ⟨#[]⟩, .slice none 0 0, .slice none 0 0], .iface 56 (.int .i64 1)]) (by simp [results, Tryz.results140, go_sem, a0, a1, a2, a3, a4]) rfl ?_
      exact ⟨_, rfl, RJ.zero _ _, fresh_rd (hFw.setV (Nat.le_refl _) _ _ _ _ _) (by omega)⟩
    · refine bodyPost_ret (v := .tuple #[.agg #[.int .i64 jk, .int .i64 jn, .string ⟨jt.toArray⟩, .slice x1 jl.length n1, .slice x2 jp.length n2], .nilIface]) (by simp [results, Tryz.results140, go_sem, a0, a1, a2, a3, a4]) rfl ?_
      refine ⟨_, rfl, RJ.kp (fun b o hb ho _ => ?_) _ _ (RJ.old _ _ Hj.out), fresh_rd (hFw.setV (Nat.le_refl _) _ _ _ _ _) (by omega)⟩
      simp only [World.size_alloc] at hb
      rename_i hty
      have h1 := (Fr.refl (M := NoB)).alloc (.cells #[.int .i64 jk, .int .i64 jn, .string ⟨jt.toArray⟩, .slice x1 jl.length n1, .slice x2 jp.length n2] 220) |>.block b o ho (fun h => h)
      have h2 := hF2.block b o h1 (fun ⟨hm, _⟩ => by omega)
      exact ⟨by omega, (setV_fr _ _ _ _ _ _ _).block b o h2 (by omega)⟩
end Go.Proofs.YtcddlemkimbkcaaGreatDoor
