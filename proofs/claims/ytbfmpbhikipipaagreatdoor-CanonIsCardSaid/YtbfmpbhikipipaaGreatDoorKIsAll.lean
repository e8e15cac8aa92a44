/-
  In one: Put, Is, Alive.
-/
import Derived.Test.YtbfmpbhikipipaaGreatDoorKSorted2
import Derived.Test.YtbfmpbhikipipaaGreatDoorKWriteAll
import Derived.Test.YtbfmpbhikipipaaGreatDoorKFits
import Derived.Test.YtbfmpbhikipipaaGreatDoorKParse
import Derived.Deep.LoopGhost
import Derived.BigQuiet
import Derived.KernelRfl
import Derived.Lib.SlBytesConst
namespace Go.Proofs.YtbfmpbhikipipaaGreatDoor
set_option linter.unusedVariables false
set_option linter.unusedSimpArgs false
set_option linter.unusedSectionVars false
open Go.RowKit
variable [OldK]

theorem RJ.form {S : Nat → Prop} {w : World} {j : J} {v : Value} (h : RJ S w j v) : ∃ k n t a l c b p e, v = .agg #[.int .i64 k, .int .i64 n, .string t, .slice a l c, .slice b p e] := by
  obtain ⟨k, n, t, l, p⟩ := j
  obtain ⟨y1, n1, y2, n2, hval, _, _⟩ := h.open
  exact ⟨_, _, _, _, _, _, _, _, _, hval⟩

theorem TopN.mono {B B' : Nat} {w : World} {x : Value} (h : TopN B w x) (hB : B' ≤ B) : TopN B' w x := by
  obtain ⟨k, n, t, a1, n1, c1, a2, n2, c2, e, h1, h2⟩ := h
  refine ⟨k, n, t, a1, n1, c1, a2, n2, c2, e, ?_, ?_⟩
  · rcases h1 with h | ⟨g, cs, ha, hb, hg⟩
    · exact .inl h
    · exact .inr ⟨g, cs, ha, by omega, hg⟩
  · rcases h2 with h | ⟨g, cs, ha, hb, hg⟩
    · exact .inl h
    · exact .inr ⟨g, cs, ha, by omega, hg⟩
theorem TopN.setV {B b : Nat} {w : World} {x : Value} (h : TopN B w x) (hB : b < B) (v0 v1 v2 v3 v4 : Value) : TopN B (setV b v0 v1 v2 v3 v4 w) x := by
  obtain ⟨k, n, t, a1, n1, c1, a2, n2, c2, e, h1, h2⟩ := h
  refine ⟨k, n, t, a1, n1, c1, a2, n2, c2, e, ?_, ?_⟩
  · rcases h1 with h | ⟨g, cs, ha, hb, hg⟩
    · exact .inl h
    · exact .inr ⟨g, cs, ha, hb, (setV_fr _ _ _ _ _ _ _).block _ _ hg (by omega)⟩
  · rcases h2 with h | ⟨g, cs, ha, hb, hg⟩
    · exact .inl h
    · exact .inr ⟨g, cs, ha, hb, (setV_fr _ _ _ _ _ _ _).block _ _ hg (by omega)⟩
set_option maxRecDepth 100000 in
set_option maxHeartbeats 1000000 in
theorem Sorted_c (N : Nat) (hN : SortOk N) (S : Nat → Prop) (j : J) (v : Value) (w : World) (h : RJ S w j v) (hfit : fits 67108864 j = true) (hfew : few N j = true) :
    Calls Tryz.prog 23 #[v] w fun e w' => ∃ x, e = .returned x ∧ RJ (fun k => S k ∨ w.heap.size ≤ k) w' (pSorts 8 j) x ∧ Fr NoB w w' ∧ TopN w.heap.size w' x := by
  obtain ⟨k, n, t, a, l, c, b, p, e, rfl⟩ := h.form
  have hs := fun W hW => sorted_c N hN 8 0 (fun k => S k ∧ k < w.heap.size) j (.agg #[.int .i64 k, .int .i64 n, .string t, .slice a l c, .slice b p e]) W hW hfit hfew (by omega) (by omega)
  have Hs := Lib.hid hs
  have H := Lib.hid h.lt
  clear hs h
  have hFz := ((Fr.refl (M := NoB)).alloc (w := w) (.cells #[.int .i64 k, .int .i64 n, .string t, .slice a l c, .slice b p e] 25)).alloc (.cells #[.int .i64 0, .int .i64 0, .string ⟨#[]⟩, .slice none 0 0, .slice none 0 0] 25)
  have hr := heap_alloc_new (w.alloc (.cells #[.int .i64 k, .int .i64 n, .string t, .slice a l c, .slice b p e] 25)) (.cells #[.int .i64 0, .int .i64 0, .string ⟨#[]⟩, .slice none 0 0, .slice none 0 0] 25)
  rw [World.size_alloc] at hr
  have HFz := Lib.hid hFz
  have Hr := Lib.hid hr
  clear hFz hr
  go_enter Tryz.func23, Tryz.ntmps23
  go_wp2_with fail
  refine (Hs.out _ (RJ.kp (Kp.ofFr HFz.out) _ _ H.out)).mono ?_
  rintro e w1 ⟨y, rfl, hy, hF1, hTop⟩
  obtain ⟨k, n, t, a, l, c, b, p, e, rfl⟩ := hy.form
  have HTop := Lib.hid (hTop.resolve_left (by decide))
  clear hTop
  obtain ⟨a0, a1, a2, a3, a4, fz, hlt1⟩ := VB.at (hF1.block _ _ Hr.out (fun h => h))
  have Hy := Lib.hid hy
  have HF1 := Lib.hid hF1
  clear hy hF1
  go_wp2_with fail
  refine bodyPost_ret (v := .agg #[.int .i64 k, .int .i64 n, .string t, .slice a l c, .slice b p e]) (by simp [results, Tryz.results23, go_sem, a0, a1, a2, a3, a4]) rfl ?_
  have hd := Hy.out
  simp only [World.size_alloc] at hd
  refine ⟨_, rfl, RJ.kp (fun b' o' hs' hb' _ => ⟨?_, (setV_fr _ _ _ _ _ _ _).block b' o' hb' ?_⟩) _ _ hd, (HFz.out.trans' HF1.out).setV (by omega) _ _ _ _ _, (HTop.out.setV (by simp only [World.size_alloc]; omega) _ _ _ _ _).mono (by simp only [World.size_alloc]; omega)⟩
  · rcases hs' with h | h
    · exact .inl h.1
    · right; omega
  · rcases hs' with h | h <;> omega

set_option maxRecDepth 100000 in
set_option maxHeartbeats 1000000 in
theorem put_c (N : Nat) (hN : SortOk N) (S : Nat → Prop) (j : J) (v : Value) (w : World) (h : RJ S w j v) (hfit : fits 67108864 j = true) (hfew : few N j = true) (hg : Gl w) (hlen : (pText j).length + 16 ≤ 140737488355328) :
    Calls Tryz.prog 9 #[v] w fun e w' => ∃ x, e = .returned (.tuple #[x, errV (pPut j).2]) ∧ SB (fun k => w.heap.size ≤ k) (pPut j).1 x w' ∧ Fr NoB w w' := by
  obtain ⟨k, n, t, a, l, c, b, p, e, rfl⟩ := h.form
  have hck := fun W hW hgW => check_c S j (.agg #[.int .i64 k, .int .i64 n, .string t, .slice a l c, .slice b p e]) W hW hfit hgW
  have hso := fun W hW => Sorted_c N hN S j (.agg #[.int .i64 k, .int .i64 n, .string t, .slice a l c, .slice b p e]) W hW hfit hfew
  have hwr := fun B b' v' W S' hbW hW hBW hgW => write_c _ (pSorts 8 j) (Nat.lt_succ_self _) S' B b' [] v' W hbW hW hBW hgW (fits_sorts 8 j hfit) (by simpa [pText] using hlen)
  have hgs := hg.size
  unfold pPut
  unfold pCheck at hck
  change (pText j).length + 16 ≤ _ at hlen
  have ept : pWrite (pSorts 8 j) = pText j := rfl
  simp only [ept] at hwr
  generalize pText j = T at *
  have hF0 := (Fr.refl (M := NoB)).alloc (w := w) (.cells #[.int .i64 k, .int .i64 n, .string t, .slice a l c, .slice b p e] 25)
  have hb0 := heap_alloc_new w (.cells #[.int .i64 k, .int .i64 n, .string t, .slice a l c, .slice b p e] 25)
  obtain ⟨c0, c1, c2, c3, c4, cz, clt⟩ := VB.at hb0
  have H := Lib.hid h.lt
  have Hck := Lib.hid hck
  have Hso := Lib.hid hso
  have Hwr := Lib.hid hwr
  have HF0 := Lib.hid hF0
  have Hb0 := Lib.hid hb0
  have Hg0 := Lib.hid (hg.alloc (.cells #[.int .i64 k, .int .i64 n, .string t, .slice a l c, .slice b p e] 25))
  clear h hck hso hwr hF0 hb0 hfit hfew hg
  generalize pSorts 8 j = J' at *
  cases hps : pSound 0 j with
  | false =>
    simp only [Bool.false_eq_true, if_false]
    go_enter Tryz.func9, Tryz.ntmps9
    go_wp2_with fail
    refine (Hck.out _ (RJ.kp (Kp.ofFr HF0.out) _ _ H.out |> RJ.kp (S' := S) (Kp.fr (Fr.refl (M := NoB)) (fun _ h _ => h.1) (fun _ _ _ _ _ h => h)) _ _) Hg0.out).mono ?_
    rintro e w1 ⟨rfl, hF1⟩
    have HF1 := Lib.hid hF1
    rw [hps, show errV (if false = true then 0 else 1) = .iface 50 (.int .i64 1) from rfl]
    clear hF1
    go_wp2_with fail
    go_ret2
    exact ⟨_, rfl, SB.nil _ _ _, HF0.out.trans' HF1.out⟩
  | true =>
    simp only [if_true]
    have hT : ∀ W, ∃ (v : Value) (w' : World), (convert 9 28 (.string ⟨T.toArray⟩)).run Tryz.prog W = .ok v w' ∧ SB (fun k => k = W.heap.size) T v w' ∧ Fr NoB W w' := fun W => SB.made T W
    have HT := Lib.hid hT
    clear hT
    cases hlt : decide (4096 < T.length) with
    | true =>
      have hlt2 : (4096 : Int) < T.length := by have := of_decide_eq_true hlt; omega
      rw [if_pos (of_decide_eq_true hlt)]
      clear hlt
      go_enter Tryz.func9, Tryz.ntmps9
      go_wp2_with fail
      refine (Hck.out _ (RJ.kp (Kp.ofFr HF0.out) _ _ H.out |> RJ.kp (S' := S) (Kp.fr (Fr.refl (M := NoB)) (fun _ h _ => h.1) (fun _ _ _ _ _ h => h)) _ _) Hg0.out).mono ?_
      rintro e w1 ⟨rfl, hF1⟩
      rw [hps, show errV (if true = true then 0 else 1) = .nilIface from rfl]
      have hbld := Bld.fresh w1
      have hF2 := hF1.alloc (.cells #[.pointer none, .slice none 0 0] 46)
      have hg2 := Hg0.out.fr hF2 (fun _ _ _ h => h.elim)
      have hold1 : OldK.k ≤ w1.heap.size := Nat.le_trans Hg0.out.old hF1.size
      have hsz1 := hF1.size
      rw [World.size_alloc] at hsz1
      obtain ⟨c0', c1', c2', c3', c4', cz', clt'⟩ := VB.at (hF2.block _ _ Hb0.out (fun h => h))
      have HF2 := Lib.hid hF2
      have Hg2 := Lib.hid hg2
      have Hbld := Lib.hid hbld
      clear hF1 hbld hF2 hg2
      go_wp2_with fail
      refine (Hso.out _ (RJ.kp (Kp.ofFr (HF0.out.trans' HF2.out)) _ _ H.out |> RJ.kp (S' := S) (Kp.fr (Fr.refl (M := NoB)) (fun _ h _ => h.1) (fun _ _ _ _ _ h => h)) _ _)).mono ?_
      rintro e w2 ⟨y, rfl, hy, hF3, _⟩
      have HF3 := Lib.hid hF3
      have Hy := Lib.hid hy
      have Hb3 := Lib.hid (Hbld.out.keep hF3)
      have Hg3 := Lib.hid (Hg2.out.fr hF3 (fun _ _ _ h => h.elim))
      clear hF3 hy
      go_wp2_with fail
      refine (Hwr.out _ _ _ _ _ Hb3.out Hy.out ⟨by omega, hold1⟩ Hg3.out).mono ?_
      rintro e w3 ⟨rfl, hb4, hF4⟩
      have Hb4 := Lib.hid hb4
      have HF4 := Lib.hid hF4
      clear hb4 hF4
      go_wp2_with fail
      refine (len_c _ _ _ _ Hb4.out).mono ?_
      rintro e w4 ⟨rfl, rfl⟩
      simp only [List.nil_append]
      go_wp2_with fail
      go_ret2
      exact ⟨_, rfl, SB.nil _ _ _, ((HF0.out.trans' HF2.out).trans' HF3.out).trans HF4.out (fun k o hm => .inr (by have := hm.1; omega))⟩
    | false =>
      have hlt2 : ¬ (4096 : Int) < T.length := by have := of_decide_eq_false hlt; omega
      rw [if_neg (of_decide_eq_false hlt)]
      clear hlt
      go_enter Tryz.func9, Tryz.ntmps9
      go_wp2_with fail
      refine (Hck.out _ (RJ.kp (Kp.ofFr HF0.out) _ _ H.out |> RJ.kp (S' := S) (Kp.fr (Fr.refl (M := NoB)) (fun _ h _ => h.1) (fun _ _ _ _ _ h => h)) _ _) Hg0.out).mono ?_
      rintro e w1 ⟨rfl, hF1⟩
      rw [hps, show errV (if true = true then 0 else 1) = .nilIface from rfl]
      have hbld := Bld.fresh w1
      have hF2 := hF1.alloc (.cells #[.pointer none, .slice none 0 0] 46)
      have hg2 := Hg0.out.fr hF2 (fun _ _ _ h => h.elim)
      have hold1 : OldK.k ≤ w1.heap.size := Nat.le_trans Hg0.out.old hF1.size
      have hsz1 := hF1.size
      rw [World.size_alloc] at hsz1
      obtain ⟨c0', c1', c2', c3', c4', cz', clt'⟩ := VB.at (hF2.block _ _ Hb0.out (fun h => h))
      have HF2 := Lib.hid hF2
      have Hg2 := Lib.hid hg2
      have Hbld := Lib.hid hbld
      clear hF1 hbld hF2 hg2
      go_wp2_with fail
      refine (Hso.out _ (RJ.kp (Kp.ofFr (HF0.out.trans' HF2.out)) _ _ H.out |> RJ.kp (S' := S) (Kp.fr (Fr.refl (M := NoB)) (fun _ h _ => h.1) (fun _ _ _ _ _ h => h)) _ _)).mono ?_
      rintro e w2 ⟨y, rfl, hy, hF3, _⟩
      have HF3 := Lib.hid hF3
      have Hy := Lib.hid hy
      have Hb3 := Lib.hid (Hbld.out.keep hF3)
      have Hg3 := Lib.hid (Hg2.out.fr hF3 (fun _ _ _ h => h.elim))
      clear hF3 hy
      go_wp2_with fail
      refine (Hwr.out _ _ _ _ _ Hb3.out Hy.out ⟨by omega, hold1⟩ Hg3.out).mono ?_
      rintro e w3 ⟨rfl, hb4, hF4⟩
      have Hb4 := Lib.hid hb4
      have HF4 := Lib.hid hF4
      clear hb4 hF4
      go_wp2_with fail
      refine (len_c _ _ _ _ Hb4.out).mono ?_
      rintro e w4 ⟨rfl, rfl⟩
      simp only [List.nil_append]
      go_wp2_with fail
      refine (string_c _ _ _ _ Hb4.out).mono ?_
      rintro e w5 ⟨rfl, hF5⟩
      simp only [List.nil_append]
      obtain ⟨bv, w6, hrun, hsb, hF6⟩ := HT.out w5
      have HF5 := Lib.hid hF5
      have HF6 := Lib.hid hF6
      have Hsb := Lib.hid hsb
      clear hF5 hsb hF6
      go_wp2_with fail
      go_ret2
      have hsz3 := HF3.out.size
      have hsz4 := HF4.out.size
      have hsz5 := HF5.out.size
      rw [World.size_alloc] at hsz3
      exact ⟨_, rfl, Hsb.out.kp (fun b' o' hs' ho' _ => ⟨by omega, ho'⟩), ((((HF0.out.trans' HF2.out).trans' HF3.out).trans HF4.out (fun k o hm => .inr (by have := hm.1; omega))).trans HF5.out (fun k o hm => .inr (by have := hm.1; omega))).trans' HF6.out⟩
end Go.Proofs.YtbfmpbhikipipaaGreatDoor
namespace Go.Proofs.YtbfmpbhikipipaaGreatDoor
set_option linter.unusedVariables false
set_option linter.unusedSimpArgs false
set_option linter.unusedSectionVars false
open Go.RowKit
variable [OldK]

theorem SB.at {S : Nat → Prop} {l : Bs} {v : Value} {w : World} (h : SB S l v w) {i : Nat} {x : UInt8} (hi : l[i]? = some x) :
    ∃ b o cap, v = .slice (some ⟨b, o, none⟩) l.length cap ∧ w.cell? ⟨b, o + i, none⟩ = some (.int .u8 x.toNat) := by
  obtain ⟨a, cap, rfl, _, ⟨rfl, rfl⟩ | ⟨b, o, cs, T, f, rfl, h2, ⟨h3, _⟩, h4⟩⟩ := h
  · simp at hi
  · obtain ⟨hl, rfl⟩ := List.getElem?_eq_some_iff.1 hi
    refine ⟨b, o, cap, rfl, ?_⟩
    simp [World.cell?, h3, h4 i hl]
theorem SB.drewN {S : Nat → Prop} {l : Bs} {v : Value} {w : World} (h : SB S l v w) (q : Nat) : SB S l v (w.drewN q) := h.fr (drewN_fr w q) (fun _ _ _ _ h => h)

set_option maxRecDepth 100000 in
set_option maxHeartbeats 1000000 in
theorem equal_c (S S' : Nat → Prop) (l m : Bs) (v u : Value) (w : World) (hv : SB S l v w) (hu : SB S' m u w) (hl : l.length ≤ 9007199254740992) :
    Calls Tryz.prog 28 #[v, u] w fun e w' => e = .returned (.bool (l == m)) ∧ ∃ q, w' = w.drewN q := by
  obtain ⟨a1, c1, hv1⟩ := hv.form
  obtain ⟨a2, c2, hu1⟩ := hu.form
  by_cases hlm : l.length = m.length
  · generalize hR : (l == m) = R
    have HR := Lib.hid hR
    subst hv1 hu1
    have Hv := Lib.hid hv
    have Hu := Lib.hid hu
    have Hlm := Lib.hid hlm
    rw [← hlm]
    clear hR hv hu hlm
    go_enter Tryz.func28, Tryz.ntmps28
    go_wp2_with fail
    go_loopg [13] (l.length + 1) (fun g vi wr => ∃ (i q : Nat), vi = .int .i64 i ∧ i ≤ l.length ∧ i + g = l.length + 1 ∧ Hid (wr = w.drewN q) ∧ Hid ((l.drop i == m.drop i) = R))
    case atStart => exact ⟨0, 0, rfl, by omega, by omega, (World.drewN_zero _).symm, HR⟩
    case round =>
      obtain ⟨i, q, rfl, hi, hgk, Hw, HS⟩ := hrel
      rcases Nat.lt_or_ge i l.length with hlt | hge
      · obtain ⟨x, hx⟩ : ∃ x, l[i]? = some x := ⟨_, List.getElem?_eq_getElem hlt⟩
        obtain ⟨y, hy⟩ : ∃ y, m[i]? = some y := ⟨_, List.getElem?_eq_getElem (by have := Hlm.out; omega)⟩
        have hvw := Hv.out.drewN q
        have huw := Hu.out.drewN q
        rw [← Hw.out] at hvw huw
        obtain ⟨b1, o1, cap1, hv1, k1⟩ := hvw.at hx
        obtain ⟨b2, o2, cap2, hu1, k2⟩ := huw.at hy
        obtain ⟨rfl, rfl⟩ : a1 = some ⟨b1, o1, none⟩ ∧ c1 = cap1 := by simpa using hv1
        obtain ⟨rfl, rfl⟩ : a2 = some ⟨b2, o2, none⟩ ∧ c2 = cap2 := by simpa using hu1
        have hS := HS.out
        rw [drop_at hx, drop_at hy, List.cons_beq_cons] at hS
        have hxy : ((x.toNat : Int) != (y.toNat : Int)) = !(x == y) := by
          rw [Bool.eq_iff_iff]
          simp only [bne_iff_ne, ne_eq, Bool.not_eq_true', beq_eq_false_iff_ne]
          constructor
          · intro h e; exact h (by rw [e])
          · intro h e; exact h (UInt8.toNat_inj.1 (by omega))
        cases hbe : (x == y) with
        | true =>
          rw [hbe] at hS hxy
          simp only [Bool.true_and] at hS
          have HS2 := Lib.hid hS
          clear hS HS hbe hvw huw hx hy hv1 hu1
          go_wp2_with fail
          go_quiet (fail)
          go_wp2_with fail
          go_roundg (gk - 1)
          case measure => omega
          case rel => exact ⟨i + 1, q + nq, by simp, by omega, by omega, Lib.hid (by rw [Hw.out, World.drewN_drewN]), HS2⟩
        | false =>
          rw [hbe] at hS hxy
          simp only [Bool.false_and] at hS
          have HS2 := Lib.hid hS
          clear hS HS hbe hvw huw hx hy hv1 hu1
          go_wp2_with fail
          go_quiet (fail)
          go_wp2_with fail
          go_ret
          rw [← HS2.out, Hw.out, World.drewN_drewN]
          exact ⟨rfl, _, rfl⟩
      · obtain rfl : i = l.length := by omega
        have hS := HS.out
        rw [List.drop_length, Hlm.out, List.drop_length] at hS
        have HS2 := Lib.hid hS
        clear hS HS
        go_wp2_with fail
        go_ret
        rw [← HS2.out, Hw.out]
        exact ⟨rfl, q, rfl⟩
  · have hne : (l == m) = false := by
      rw [beq_eq_false_iff_ne]
      rintro rfl
      exact hlm rfl
    have hln : ((l.length : Int) != (m.length : Int)) = true := by
      rw [bne_iff_ne]
      omega
    rw [hne]
    subst hv1 hu1
    clear hv hu hne
    go_enter Tryz.func28, Tryz.ntmps28
    go_wp2_with fail
    go_ret
    exact ⟨rfl, 0, (World.drewN_zero _).symm⟩
/-- is a text canonical? -/
def pIs (b : Bs) : Bool := if (pParse b).2 = 0 then (if (pPut (pParse b).1).2 = 0 then b == (pPut (pParse b).1).1 else false) else false
theorem errV_no {n : Nat} (h : ¬ n = 0) : errV n = .iface 50 (.int .i64 n) := by unfold errV; rw [if_neg h]

set_option maxRecDepth 100000 in
set_option maxHeartbeats 1000000 in
theorem is_c (N : Nat) (hN : SortOk N) (S : Nat → Prop) (b : Bs) (v : Value) (w : World) (hv : SB S b v w) (hg : Gl w) (hlen : b.length ≤ maxLen)
    (hok : (pParse b).2 = 0 → fits 67108864 (pParse b).1 = true ∧ few N (pParse b).1 = true ∧ (pText (pParse b).1).length + 16 ≤ 140737488355328) :
    Calls Tryz.prog 14 #[v] w fun e w' => e = .returned (.bool (pIs b)) ∧ Fr NoB w w' := by
  have hpa := fun W hW hgW => parse_c S b v W hW hgW hlen
  have h4 : (pParse b).2 = 0 → b.length ≤ 4096 := by
    unfold pParse
    split
    · simp
    · intro _; omega
  unfold pIs
  obtain ⟨a1, c1, hform⟩ := hv.form
  generalize pParse b = P at *
  obtain ⟨j, n⟩ := P
  simp only at hok hpa h4 ⊢
  have Hpa := Lib.hid hpa
  have Hv := Lib.hid hv
  have Hg := Lib.hid hg
  have Hok := Lib.hid hok
  subst hform
  clear hpa hv hg hok
  by_cases hn : n = 0
  · subst hn
    rw [if_pos rfl]
    have hb4 := h4 rfl
    clear h4
    have hpu := fun W x hx hgW => put_c N hN (fun k => w.heap.size ≤ k) j x W hx (Hok.out rfl).1 (Hok.out rfl).2.1 hgW (Hok.out rfl).2.2
    generalize pPut j = U at *
    obtain ⟨T, m⟩ := U
    simp only at hpu ⊢
    have Hpu := Lib.hid hpu
    clear hpu
    by_cases hm : m = 0
    · subst hm
      rw [if_pos rfl]
      go_enter Tryz.func14, Tryz.ntmps14
      go_wp2_with fail
      refine (Hpa.out w Hv.out Hg.out).mono ?_
      rintro e w1 ⟨x, rfl, hx, hF1⟩
      obtain ⟨k', n', t', a', l', c', b', p', e', rfl⟩ := hx.form
      have Hx := Lib.hid hx
      have HF1 := Lib.hid hF1
      rw [show errV 0 = .nilIface from rfl]
      clear hx hF1
      have hb1 := heap_alloc_new w1 (.cells #[.int .i64 k', .int .i64 n', .string t', .slice a' l' c', .slice b' p' e'] 25)
      obtain ⟨d0, d1, d2, d3, d4, dz, dlt⟩ := VB.at hb1
      have hF2 := HF1.out.alloc (.cells #[.int .i64 k', .int .i64 n', .string t', .slice a' l' c', .slice b' p' e'] 25)
      have HF2 := Lib.hid hF2
      have Hg2 := Lib.hid (Hg.out.fr hF2 (fun _ _ _ h => h.elim))
      have Hx2 := Lib.hid (RJ.kp (Kp.ofFr ((Fr.refl (M := NoB)).alloc (w := w1) (.cells #[.int .i64 k', .int .i64 n', .string t', .slice a' l' c', .slice b' p' e'] 25))) _ _ Hx.out)
      clear hF2 hb1
      go_wp2_with fail
      refine (Hpu.out _ _ Hx2.out Hg2.out).mono ?_
      rintro e w2 ⟨y, rfl, hy, hF3⟩
      obtain ⟨ay, cy, rfl⟩ := hy.form
      have Heq := Lib.hid (equal_c S _ b T _ _ w2 (Hv.out.fr (HF2.out.trans' hF3) (fun _ _ _ _ h => h)) hy (by omega))
      have HF3 := Lib.hid (HF2.out.trans' hF3)
      clear hy hF3
      rw [show errV 0 = .nilIface from rfl]
      go_wp2_with fail
      refine (Heq.out).mono ?_
      rintro e w3 ⟨rfl, q, rfl⟩
      go_wp2_with fail
      go_ret
      exact ⟨rfl, HF3.out.trans' (drewN_fr _ _)⟩
    · rw [if_neg hm]
      go_enter Tryz.func14, Tryz.ntmps14
      go_wp2_with fail
      refine (Hpa.out w Hv.out Hg.out).mono ?_
      rintro e w1 ⟨x, rfl, hx, hF1⟩
      obtain ⟨k', n', t', a', l', c', b', p', e', rfl⟩ := hx.form
      have Hx := Lib.hid hx
      have HF1 := Lib.hid hF1
      rw [show errV 0 = .nilIface from rfl]
      clear hx hF1
      have hb1 := heap_alloc_new w1 (.cells #[.int .i64 k', .int .i64 n', .string t', .slice a' l' c', .slice b' p' e'] 25)
      obtain ⟨d0, d1, d2, d3, d4, dz, dlt⟩ := VB.at hb1
      have hF2 := HF1.out.alloc (.cells #[.int .i64 k', .int .i64 n', .string t', .slice a' l' c', .slice b' p' e'] 25)
      have HF2 := Lib.hid hF2
      have Hg2 := Lib.hid (Hg.out.fr hF2 (fun _ _ _ h => h.elim))
      have Hx2 := Lib.hid (RJ.kp (Kp.ofFr ((Fr.refl (M := NoB)).alloc (w := w1) (.cells #[.int .i64 k', .int .i64 n', .string t', .slice a' l' c', .slice b' p' e'] 25))) _ _ Hx.out)
      clear hF2 hb1
      go_wp2_with fail
      refine (Hpu.out _ _ Hx2.out Hg2.out).mono ?_
      rintro e w2 ⟨y, rfl, hy, hF3⟩
      rw [errV_no hm]
      have HF3 := Lib.hid (HF2.out.trans' hF3)
      clear hy hF3
      go_wp2_with fail
      go_ret
      exact ⟨rfl, HF3.out⟩
  · rw [if_neg hn]
    go_enter Tryz.func14, Tryz.ntmps14
    go_wp2_with fail
    refine (Hpa.out w Hv.out Hg.out).mono ?_
    rintro e w1 ⟨x, rfl, hx, hF1⟩
    obtain ⟨k', n', t', a', l', c', b', p', e', rfl⟩ := hx.form
    rw [errV_no hn]
    have HF1 := Lib.hid hF1
    clear hx hF1
    go_wp2_with fail
    go_ret
    exact ⟨rfl, HF1.out.alloc _⟩
end Go.Proofs.YtbfmpbhikipipaaGreatDoor
namespace Go.Proofs.YtbfmpbhikipipaaGreatDoor
set_option linter.unusedVariables false
set_option linter.unusedSimpArgs false
set_option linter.unusedSectionVars false
open Go.RowKit
variable [OldK]
def t1 : Bs := [123, 32, 34, 98, 34, 32, 58, 32, 49, 44, 32, 34, 97, 34, 32, 58, 32, 34, 92, 117, 48, 48, 52, 49, 34, 32, 125]
def t2 : Bs := [123, 34, 97, 34, 58, 34, 65, 34, 44, 34, 98, 34, 58, 49, 125]
def t3 : Bs := [91, 32, 93]
def j1 : J := .mk 5 0 [] [] [([98], .mk 2 1 [] [] []), ([97], .mk 3 0 [65] [] [])]
def j2 : J := .mk 5 0 [] [] [([97], .mk 3 0 [65] [] []), ([98], .mk 2 1 [] [] [])]
def j3 : J := .mk 4 0 [] [] []
theorem alive_p1 : pParse t1 = (j1, 0) := by kernel_rfl
theorem alive_p2 : pParse t2 = (j2, 0) := by kernel_rfl
theorem alive_p3 : pParse t3 = (j3, 0) := by kernel_rfl
theorem alive_u1 : pPut j1 = (t2, 0) := by kernel_rfl
theorem alive_i2 : pIs t2 = true := by kernel_rfl
theorem alive_i3 : pIs t3 = false := by kernel_rfl
theorem alive_ok {b : Bs} {j : J} (N : Nat) (hN : 2 ≤ N) (hp : pParse b = (j, 0)) (h : (fits 67108864 j && (few 2 j && decide ((pText j).length + 16 ≤ 140737488355328))) = true) (hfN : few 2 j = true → few N j = true) :
    (pParse b).2 = 0 → fits 67108864 (pParse b).1 = true ∧ few N (pParse b).1 = true ∧ (pText (pParse b).1).length + 16 ≤ 140737488355328 := by
  intro _
  rw [hp]
  simp only [Bool.and_eq_true, decide_eq_true_eq] at h
  exact ⟨h.1, hfN h.2.1, h.2.2⟩
mutual
theorem few_mono {N M : Nat} (hNM : N ≤ M) : ∀ (j : J), few N j = true → few M j = true
  | .mk k n t l p, h => by
    obtain ⟨h1, h2, h3⟩ := few.open h
    unfold few
    rw [fewl_mono hNM l h2, fewp_mono hNM p h3]
    simp; omega
theorem fewl_mono {N M : Nat} (hNM : N ≤ M) : ∀ (l : List J), fewl N l = true → fewl M l = true
  | [], _ => by unfold fewl; rfl
  | j :: js, h => by
    unfold fewl at h
    rw [Bool.and_eq_true] at h
    unfold fewl
    rw [few_mono hNM j h.1, fewl_mono hNM js h.2]
    rfl
theorem fewp_mono {N M : Nat} (hNM : N ≤ M) : ∀ (l : List (Bs × J)), fewp N l = true → fewp M l = true
  | [], _ => by unfold fewp; rfl
  | (_, j) :: js, h => by
    unfold fewp at h
    rw [Bool.and_eq_true] at h
    unfold fewp
    rw [few_mono hNM j h.1, fewp_mono hNM js h.2]
    rfl
end

/-- the bytes of a constant -/
theorem SB.const (l : Bs) (w : World) (cap : Nat) (fr : Nat × Nat) (cs : Array Value) (hcs : cs.toList = l.map fun c => Value.int .u8 (c.toNat : Int)) (hcp : l.length ≤ cap := by decide) : SB (fun k => k = w.heap.size) l (.slice (some ⟨w.heap.size, 0, none⟩) l.length cap) (w.alloc (.cells cs 5 fr)) := by
  refine ⟨_, cap, rfl, hcp, .inr ⟨w.heap.size, 0, cs, _, fr, rfl, rfl, ⟨heap_alloc_new w _, .inl rfl⟩, fun j hj => ?_⟩⟩
  rw [Nat.zero_add, ← Array.getElem?_toList, hcs]
  simp [hj]
set_option maxRecDepth 100000 in
set_option maxHeartbeats 1000000 in
theorem alive_c (N : Nat) (hN2 : 2 ≤ N) (hN : SortOk N) (w : World) (hg : Gl w) :
    Calls Tryz.prog 7 #[] w fun e w' => e = .returned (.bool true) ∧ Fr NoB w w' := by
  have kc := fun (w : World) (C : Array Value) (n c : Nat) => Lib.run_convert_bytes_const (P := Tryz.prog) w 28 5 C n c Tryz.underlying28 Tryz.underlying5
  have hF0 := (Fr.refl (M := NoB)).alloc (w := w) (.cells #[.int .u8 123, .int .u8 32, .int .u8 34, .int .u8 98, .int .u8 34, .int .u8 32, .int .u8 58, .int .u8 32, .int .u8 49, .int .u8 44, .int .u8 32, .int .u8 34, .int .u8 97, .int .u8 34, .int .u8 32, .int .u8 58, .int .u8 32, .int .u8 34, .int .u8 92, .int .u8 117, .int .u8 48, .int .u8 48, .int .u8 52, .int .u8 49, .int .u8 34, .int .u8 32, .int .u8 125] 5 (27, 28))
  have hpa := parse_c _ t1 _ _ (SB.const t1 w 27 (27, 28) #[.int .u8 123, .int .u8 32, .int .u8 34, .int .u8 98, .int .u8 34, .int .u8 32, .int .u8 58, .int .u8 32, .int .u8 49, .int .u8 44, .int .u8 32, .int .u8 34, .int .u8 97, .int .u8 34, .int .u8 32, .int .u8 58, .int .u8 32, .int .u8 34, .int .u8 92, .int .u8 117, .int .u8 48, .int .u8 48, .int .u8 52, .int .u8 49, .int .u8 34, .int .u8 32, .int .u8 125] rfl) (hg.fr hF0 (fun _ _ _ h => h.elim)) (by decide)
  rw [alive_p1] at hpa
  have Hpa := Lib.hid hpa
  have HF0 := Lib.hid hF0
  have Hg := Lib.hid hg
  clear hpa hF0 hg
  go_enter Tryz.func7, Tryz.ntmps7
  go_wp2_with fail
  refine (Hpa.out).mono ?_
  rintro e w1 ⟨x, rfl, hx, hF1⟩
  obtain ⟨k', n', t', a', l', c', b', p', e', rfl⟩ := hx.form
  rw [show errV 0 = .nilIface from rfl]
  have hb1 := heap_alloc_new w1 (.cells #[.int .i64 k', .int .i64 n', .string t', .slice a' l' c', .slice b' p' e'] 25)
  obtain ⟨d0, d1, d2, d3, d4, dz, dlt⟩ := VB.at hb1
  have hF2 := (HF0.out.trans' hF1).alloc (.cells #[.int .i64 k', .int .i64 n', .string t', .slice a' l' c', .slice b' p' e'] 25)
  have HF2 := Lib.hid hF2
  have Hg2 := Lib.hid (Hg.out.fr hF2 (fun _ _ _ h => h.elim))
  have Hx2 := Lib.hid (RJ.kp (Kp.ofFr ((Fr.refl (M := NoB)).alloc (w := w1) (.cells #[.int .i64 k', .int .i64 n', .string t', .slice a' l' c', .slice b' p' e'] 25))) _ _ hx)
  clear hF2 hb1 hx hF1
  go_wp2_with fail
  have hpu := put_c N hN _ j1 _ _ Hx2.out (by kernel_rfl) (few_mono hN2 _ (by kernel_rfl)) Hg2.out (by decide +kernel)
  rw [alive_u1] at hpu
  refine (hpu).mono ?_
  rintro e w2 ⟨y, rfl, hy, hF3⟩
  rw [show errV 0 = .nilIface from rfl]
  have htx := hy.text
  have HF3 := Lib.hid (HF2.out.trans' hF3)
  have his := is_c N hN _ t2 y w2 hy (Hg.out.fr HF3.out (fun _ _ _ h => h.elim)) (by decide) (alive_ok N hN2 alive_p2 (by kernel_rfl) (few_mono hN2 _))
  rw [alive_i2] at his
  have His := Lib.hid his
  clear hpu hy hF3 his
  unfold t2 at htx
  go_wp2_with fail
  refine (His.out).mono ?_
  rintro e w3 ⟨rfl, hF4⟩
  have HF4 := Lib.hid (HF3.out.trans' hF4)
  have hF5 := HF4.out.alloc (.cells #[.int .u8 91, .int .u8 32, .int .u8 93] 5 (3, 4))
  have his3 := is_c N hN _ t3 _ _ (SB.const t3 w3 3 (3, 4) #[.int .u8 91, .int .u8 32, .int .u8 93] rfl) (Hg.out.fr hF5 (fun _ _ _ h => h.elim)) (by decide) (alive_ok N hN2 alive_p3 (by kernel_rfl) (few_mono hN2 _))
  rw [alive_i3] at his3
  have His3 := Lib.hid his3
  have HF5 := Lib.hid hF5
  clear hF5 his3 hF4
  go_wp2_with fail
  refine (His3.out).mono ?_
  rintro e w4 ⟨rfl, hF6⟩
  have HF6 := Lib.hid (HF5.out.trans' hF6)
  clear hF6
  go_wp2_with fail
  go_ret
  exact ⟨rfl, HF6.out⟩
end Go.Proofs.YtbfmpbhikipipaaGreatDoor
