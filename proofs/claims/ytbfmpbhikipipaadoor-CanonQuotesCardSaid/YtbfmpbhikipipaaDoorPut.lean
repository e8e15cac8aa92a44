/-
  The walks of canon's Sorted, Put.
-/
import Derived.Test.YtbfmpbhikipipaaDoorSorted2
import Derived.Test.YtbfmpbhikipipaaDoorWrite3
import Derived.Test.YtbfmpbhikipipaaDoorFits
import Derived.Test.YtbfmpbhikipipaaDoorParse
namespace Go.Proofs.YtbfmpbhikipipaaDoor
set_option linter.unusedVariables false
set_option linter.unusedSimpArgs false
open Go.RowKit

theorem RJ.form {S : Nat → Prop} {w : World} {j : J} {v : Value} (h : RJ S w j v) : ∃ k n t a l c b p e, v = .agg #[.int .i64 k, .int .i64 n, .string t, .slice a l c, .slice b p e] := by
  obtain ⟨k, n, t, l, p⟩ := j
  obtain ⟨y1, n1, y2, n2, hval, _, _⟩ := h.open
  exact ⟨_, _, _, _, _, _, _, _, _, hval⟩

set_option maxRecDepth 100000 in
set_option maxHeartbeats 1000000 in
theorem Sorted_c (N : Nat) (hN : SortOk N) (S : Nat → Prop) (j : J) (v : Value) (w : World) (h : RJ S w j v) (hfit : fits 67108864 j = true) (hfew : few N j = true) :
    Calls Tryd.prog 8 #[v] w fun e w' => ∃ x, e = .returned x ∧ RJ (fun k => S k ∨ w.heap.size ≤ k) w' (pSorts 8 j) x ∧ Fr NoB w w' := by
  obtain ⟨k, n, t, a, l, c, b, p, e, rfl⟩ := h.form
  have hs := fun W hW => sorted_c N hN 8 0 (fun k => S k ∧ k < w.heap.size) j (.agg #[.int .i64 k, .int .i64 n, .string t, .slice a l c, .slice b p e]) W hW hfit hfew (by omega) (by omega)
  have Hs := Lib.hid hs
  have H := Lib.hid h.lt
  clear hs h
  have hFz := ((Fr.refl (M := NoB)).alloc (w := w) (.cells #[.int .i64 k, .int .i64 n, .string t, .slice a l c, .slice b p e] 25)).alloc (.cells #[.int .i64 0, .int .i64 0, .string ⟨#[]⟩, .slice none 0 0, .slice none 0 0] 25)
  have hr := heap_alloc_new (w.alloc (.cells #[.int .i64 k, .int .i64 n, .string t, .slice a l c, .slice b p e] 25)) (.cells #[.int .i64 0, .int .i64 0, .string ⟨#[]⟩, .slice none 0 0, .slice none 0 0] 25)
  rw [World.size_alloc] at hr
  have HFz := Lib.hid hFz
  have Hr := Lib.hid hr
  clear hFz hr
  go_enter Tryd.func8, Tryd.ntmps8
  go_wp2_with fail
  refine (Hs.out _ (RJ.kp (Kp.ofFr HFz.out) _ _ H.out)).mono ?_
  rintro e w1 ⟨y, rfl, hy, hF1⟩
  obtain ⟨k, n, t, a, l, c, b, p, e, rfl⟩ := hy.form
  obtain ⟨a0, a1, a2, a3, a4, fz, hlt1⟩ := VB.at (hF1.block _ _ Hr.out (fun h => h))
  have Hy := Lib.hid hy
  have HF1 := Lib.hid hF1
  clear hy hF1
  go_wp2_with fail
  refine bodyPost_ret (v := .agg #[.int .i64 k, .int .i64 n, .string t, .slice a l c, .slice b p e]) (by simp [results, Tryd.results8, go_sem, a0, a1, a2, a3, a4]) rfl ?_
  have hd := Hy.out
  simp only [World.size_alloc] at hd
  refine ⟨_, rfl, RJ.kp (fun b' o' hs' hb' _ => ⟨?_, (setV_fr _ _ _ _ _ _ _).block b' o' hb' ?_⟩) _ _ hd, (HFz.out.trans' HF1.out).setV (by omega) _ _ _ _ _⟩
  · rcases hs' with h | h
    · exact .inl h.1
    · right; omega
  · rcases hs' with h | h <;> omega

set_option maxRecDepth 100000 in
set_option maxHeartbeats 1000000 in
theorem put_c (N : Nat) (hN : SortOk N) (S : Nat → Prop) (j : J) (v : Value) (w : World) (h : RJ S w j v) (hfit : fits 67108864 j = true) (hfew : few N j = true) (hg : Gl w) (hlen : (pText j).length + 16 ≤ 140737488355328) :
    Calls Tryd.prog 13 #[v] w fun e w' => ∃ x, e = .returned (.tuple #[x, errV (pPut j).2]) ∧ SB (fun k => w.heap.size ≤ k) (pPut j).1 x w' ∧ Fr NoB w w' := by
  obtain ⟨k, n, t, a, l, c, b, p, e, rfl⟩ := h.form
  have hck := fun W hW hgW => check_c S j (.agg #[.int .i64 k, .int .i64 n, .string t, .slice a l c, .slice b p e]) W hW hfit hgW
  have hso := fun W hW => Sorted_c N hN S j (.agg #[.int .i64 k, .int .i64 n, .string t, .slice a l c, .slice b p e]) W hW hfit hfew
  have hwr := fun B b' v' W S' hbW hW hBW hgW => write_c _ (pSorts 8 j) (Nat.lt_succ_self _) S' B b' [] v' W hbW hW hBW hgW (fits_sorts 8 j hfit) (by simpa [pText] using hlen)
  have hgs := hg.size
  unfold pPut
  unfold pCheck at hck
  change (pText j).length + 16 ≤ _ at hlen
  have ept : pWrite (pSorts 8 j) = pText j := rfl
  simp only [ept] at hwr
  generalize pText j = T at *
  have hF0 := (Fr.refl (M := NoB)).alloc (w := w) (.cells #[.int .i64 k, .int .i64 n, .string t, .slice a l c, .slice b p e] 25)
  have hb0 := heap_alloc_new w (.cells #[.int .i64 k, .int .i64 n, .string t, .slice a l c, .slice b p e] 25)
  obtain ⟨c0, c1, c2, c3, c4, cz, clt⟩ := VB.at hb0
  have H := Lib.hid h.lt
  have Hck := Lib.hid hck
  have Hso := Lib.hid hso
  have Hwr := Lib.hid hwr
  have HF0 := Lib.hid hF0
  have Hb0 := Lib.hid hb0
  have Hg0 := Lib.hid (hg.alloc (.cells #[.int .i64 k, .int .i64 n, .string t, .slice a l c, .slice b p e] 25))
  clear h hck hso hwr hF0 hb0 hfit hfew hg
  generalize pSorts 8 j = J' at *
  cases hps : pSound 0 j with
  | false =>
    simp only [Bool.false_eq_true, if_false]
    go_enter Tryd.func13, Tryd.ntmps13
    go_wp2_with fail
    refine (Hck.out _ (RJ.kp (Kp.ofFr HF0.out) _ _ H.out |> RJ.kp (S' := S) (Kp.fr (Fr.refl (M := NoB)) (fun _ h _ => h.1) (fun _ _ _ _ _ h => h)) _ _) Hg0.out).mono ?_
    rintro e w1 ⟨rfl, hF1⟩
    have HF1 := Lib.hid hF1
    rw [hps, show errV (if false = true then 0 else 1) = .iface 54 (.int .i64 1) from rfl]
    clear hF1
    go_wp2_with fail
    go_ret2
    exact ⟨_, rfl, SB.nil _ _ _, HF0.out.trans' HF1.out⟩
  | true =>
    simp only [if_true]
    have hT : ∀ W, ∃ (v : Value) (w' : World), (convert 9 40 (.string ⟨T.toArray⟩)).run Tryd.prog W = .ok v w' ∧ SB (fun k => k = W.heap.size) T v w' ∧ Fr NoB W w' := fun W => SB.made T W
    have HT := Lib.hid hT
    clear hT
    cases hlt : decide (4096 < T.length) with
    | true =>
      have hlt2 : (4096 : Int) < T.length := by have := of_decide_eq_true hlt; omega
      rw [if_pos (of_decide_eq_true hlt)]
      clear hlt
      go_enter Tryd.func13, Tryd.ntmps13
      go_wp2_with fail
      refine (Hck.out _ (RJ.kp (Kp.ofFr HF0.out) _ _ H.out |> RJ.kp (S' := S) (Kp.fr (Fr.refl (M := NoB)) (fun _ h _ => h.1) (fun _ _ _ _ _ h => h)) _ _) Hg0.out).mono ?_
      rintro e w1 ⟨rfl, hF1⟩
      rw [hps, show errV (if true = true then 0 else 1) = .nilIface from rfl]
      have hbld := Bld.fresh w1
      have hF2 := hF1.alloc (.cells #[.pointer none, .slice none 0 0] 48)
      have hg2 := Hg0.out.fr hF2 (fun _ _ _ h => h.elim)
      have hsz1 := hF1.size
      rw [World.size_alloc] at hsz1
      obtain ⟨c0', c1', c2', c3', c4', cz', clt'⟩ := VB.at (hF2.block _ _ Hb0.out (fun h => h))
      have HF2 := Lib.hid hF2
      have Hg2 := Lib.hid hg2
      have Hbld := Lib.hid hbld
      clear hF1 hbld hF2 hg2
      go_wp2_with fail
      refine (Hso.out _ (RJ.kp (Kp.ofFr (HF0.out.trans' HF2.out)) _ _ H.out |> RJ.kp (S' := S) (Kp.fr (Fr.refl (M := NoB)) (fun _ h _ => h.1) (fun _ _ _ _ _ h => h)) _ _)).mono ?_
      rintro e w2 ⟨y, rfl, hy, hF3⟩
      have HF3 := Lib.hid hF3
      have Hy := Lib.hid hy
      have Hb3 := Lib.hid (Hbld.out.keep hF3)
      have Hg3 := Lib.hid (Hg2.out.fr hF3 (fun _ _ _ h => h.elim))
      clear hF3 hy
      go_wp2_with fail
      refine (Hwr.out _ _ _ _ _ Hb3.out Hy.out (by omega) Hg3.out).mono ?_
      rintro e w3 ⟨rfl, hb4, hF4⟩
      have Hb4 := Lib.hid hb4
      have HF4 := Lib.hid hF4
      clear hb4 hF4
      go_wp2_with fail
      refine (len_c _ _ _ _ Hb4.out).mono ?_
      rintro e w4 ⟨rfl, rfl⟩
      simp only [List.nil_append]
      go_wp2_with fail
      go_ret2
      exact ⟨_, rfl, SB.nil _ _ _, ((HF0.out.trans' HF2.out).trans' HF3.out).trans HF4.out (fun k o hm => .inr (by have := hm.1; omega))⟩
    | false =>
      have hlt2 : ¬ (4096 : Int) < T.length := by have := of_decide_eq_false hlt; omega
      rw [if_neg (of_decide_eq_false hlt)]
      clear hlt
      go_enter Tryd.func13, Tryd.ntmps13
      go_wp2_with fail
      refine (Hck.out _ (RJ.kp (Kp.ofFr HF0.out) _ _ H.out |> RJ.kp (S' := S) (Kp.fr (Fr.refl (M := NoB)) (fun _ h _ => h.1) (fun _ _ _ _ _ h => h)) _ _) Hg0.out).mono ?_
      rintro e w1 ⟨rfl, hF1⟩
      rw [hps, show errV (if true = true then 0 else 1) = .nilIface from rfl]
      have hbld := Bld.fresh w1
      have hF2 := hF1.alloc (.cells #[.pointer none, .slice none 0 0] 48)
      have hg2 := Hg0.out.fr hF2 (fun _ _ _ h => h.elim)
      have hsz1 := hF1.size
      rw [World.size_alloc] at hsz1
      obtain ⟨c0', c1', c2', c3', c4', cz', clt'⟩ := VB.at (hF2.block _ _ Hb0.out (fun h => h))
      have HF2 := Lib.hid hF2
      have Hg2 := Lib.hid hg2
      have Hbld := Lib.hid hbld
      clear hF1 hbld hF2 hg2
      go_wp2_with fail
      refine (Hso.out _ (RJ.kp (Kp.ofFr (HF0.out.trans' HF2.out)) _ _ H.out |> RJ.kp (S' := S) (Kp.fr (Fr.refl (M := NoB)) (fun _ h _ => h.1) (fun _ _ _ _ _ h => h)) _ _)).mono ?_
      rintro e w2 ⟨y, rfl, hy, hF3⟩
      have HF3 := Lib.hid hF3
      have Hy := Lib.hid hy
      have Hb3 := Lib.hid (Hbld.out.keep hF3)
      have Hg3 := Lib.hid (Hg2.out.fr hF3 (fun _ _ _ h => h.elim))
      clear hF3 hy
      go_wp2_with fail
      refine (Hwr.out _ _ _ _ _ Hb3.out Hy.out (by omega) Hg3.out).mono ?_
      rintro e w3 ⟨rfl, hb4, hF4⟩
      have Hb4 := Lib.hid hb4
      have HF4 := Lib.hid hF4
      clear hb4 hF4
      go_wp2_with fail
      refine (len_c _ _ _ _ Hb4.out).mono ?_
      rintro e w4 ⟨rfl, rfl⟩
      simp only [List.nil_append]
      go_wp2_with fail
      refine (string_c _ _ _ _ Hb4.out).mono ?_
      rintro e w5 ⟨rfl, hF5⟩
      simp only [List.nil_append]
      obtain ⟨bv, w6, hrun, hsb, hF6⟩ := HT.out w5
      have HF5 := Lib.hid hF5
      have HF6 := Lib.hid hF6
      have Hsb := Lib.hid hsb
      clear hF5 hsb hF6
      go_wp2_with fail
      go_ret2
      have hsz3 := HF3.out.size
      have hsz4 := HF4.out.size
      have hsz5 := HF5.out.size
      rw [World.size_alloc] at hsz3
      exact ⟨_, rfl, Hsb.out.kp (fun b' o' hs' ho' _ => ⟨by omega, ho'⟩), ((((HF0.out.trans' HF2.out).trans' HF3.out).trans HF4.out (fun k o hm => .inr (by have := hm.1; omega))).trans HF5.out (fun k o hm => .inr (by have := hm.1; omega))).trans' HF6.out⟩
end Go.Proofs.YtbfmpbhikipipaaDoor
