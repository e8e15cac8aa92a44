/-
 The walk of cachetlaw17's large.
-/
import Derived.Test.YtcddlemkimbkcaaGreatDoorKNum
namespace Go.Proofs.YtcddlemkimbkcaaGreatDoor
set_option linter.unusedVariables false
set_option linter.unusedSimpArgs false
set_option linter.unusedSectionVars false
open Go.RowKit Go.Shelf
variable [OldK]
/-- more than is looked at? -/
def pLarge (e : En) : Bool := decide (3000 < e.payload.length) || decide (20 < e.sigs.length) || decide (500 < e.typ.length) || decide (500 < e.ident.length) || e.sigs.any (fun s => decide (500 < s.id.length))
theorem pLarge_fine {e : En} (h : pLarge e = false) : e.payload.length ≤ 3000 ∧ e.sigs.length ≤ 20 ∧ e.typ.length ≤ 500 ∧ e.ident.length ≤ 500 ∧ ∀ s ∈ e.sigs, s.id.length ≤ 500 := by
 unfold pLarge at h
 simp only [Bool.or_eq_false_iff, decide_eq_false_iff_not, List.any_eq_false, decide_eq_true_eq, Nat.not_lt] at h
 obtain ⟨⟨⟨⟨h1, h2⟩, h3⟩, h4⟩, h5⟩ := h
 exact ⟨h1, h2, h3, h4, h5⟩
set_option maxRecDepth 100000 in
set_option maxHeartbeats 4000000 in
theorem large_c (S S' : Nat → Prop) (e : En) (pv sv : Value) (w : World) (hok : e.ok) (hp : SB S e.payload pv w) (hs : GS S' e.sigs sv w) :
 Calls Tryz.prog 26 #[.agg (e.cells pv sv).toArray] w fun r w' => r = .returned (.bool (pLarge e)) ∧ Fr NoB w w' := by
 have hR : (w.alloc (.cells (e.cells pv sv).toArray 39)).rangeAt w.heap.size 0 (e.cells pv sv) := by simpa using range_block (heap_alloc_new w (.cells (e.cells pv sv).toArray 39))
 have hF : Fr NoB w (w.alloc (.cells (e.cells pv sv).toArray 39)) := Fr.refl.alloc _
 obtain ⟨-, -, c33, c34, -, c36, -, c69⟩ := En.parts hok hR
 obtain ⟨a1, cp1, rfl⟩ := hp.form
 obtain ⟨a3, cp3, rfl, hcp3, hel⟩ := id hs
 obtain ⟨P, hP⟩ : ∃ b, pLarge e = b := ⟨_, rfl⟩
 rw [hP]
 unfold pLarge at hP
 obtain ⟨n1, hn1⟩ : ∃ n, e.payload.length = n := ⟨_, rfl⟩
 obtain ⟨l, hl⟩ : ∃ n, e.sigs = n := ⟨_, rfl⟩
 obtain ⟨ty, hty⟩ : ∃ n, e.typ = n := ⟨_, rfl⟩
 obtain ⟨idn, hidn⟩ : ∃ n, e.ident = n := ⟨_, rfl⟩
 have hlok := hok.2.2
 rw [hl] at hlok
 rw [hn1, hl] at c34 c69 hF hP
 rw [hl] at hel
 rw [hty] at c33 hP
 rw [hidn] at c36 hP
 rw [hn1, hl] at c33 c36 ⊢
 obtain ⟨C, hC⟩ : ∃ C, e.cells (.slice a1 n1 cp1) (.slice a3 l.length cp3) = C := ⟨_, rfl⟩
 rw [hC] at c33 c34 c36 c69 hF ⊢
 clear hC hn1 hl hty hidn hok hR hp hs hcp3
 obtain ⟨b1, hb1⟩ : ∃ b, decide ((3000 : Int) < (n1 : Int)) = b := ⟨_, rfl⟩
 obtain ⟨b2, hb2⟩ : ∃ b, decide ((20 : Int) < (l.length : Int)) = b := ⟨_, rfl⟩
 obtain ⟨b3, hb3⟩ : ∃ b, decide ((500 : Int) < (List.length ty : Int)) = b := ⟨_, rfl⟩
 obtain ⟨b4, hb4⟩ : ∃ b, decide ((500 : Int) < (List.length idn : Int)) = b := ⟨_, rfl⟩
 have e1 : decide (3000 < n1) = b1 := by rw [← hb1]; congr 1; exact propext ⟨fun h => by omega, fun h => by omega⟩
 have e2 : decide (20 < l.length) = b2 := by rw [← hb2]; congr 1; exact propext ⟨fun h => by omega, fun h => by omega⟩
 have e3 : decide (500 < List.length ty) = b3 := by rw [← hb3]; congr 1; exact propext ⟨fun h => by omega, fun h => by omega⟩
 have e4 : decide (500 < List.length idn) = b4 := by rw [← hb4]; congr 1; exact propext ⟨fun h => by omega, fun h => by omega⟩
 rw [e1, e2, e3, e4] at hP
 clear e1 e2 e3 e4
 have hrow : ∀ i (hi : i < l.length), ∃ b o, a3 = some ⟨b, o, none⟩ ∧ b < w.heap.size ∧ w.rangeAt b (o + i * 97) l[i].cells.toList := fun i hi => by
  rcases hel with h | ⟨b, o, h1, -, h2, h3⟩
  ·subst h; cases hi
  ·exact ⟨b, o, h1, h2, h3 i hi⟩
 clear hel
 go_enter Tryz.func26, Tryz.ntmps26
 go_upto_region 1 with (fail)
 change Code.wp _ _ _ _ (w.alloc (.cells C.toArray 39))
 obtain ⟨W, hW⟩ : ∃ W, w.alloc (.cells C.toArray 39) = W := ⟨_, rfl⟩
 rw [hW] at c33 c34 c36 c69 hF ⊢
 clear hW
 obtain ⟨p, hpp⟩ : ∃ p, w.heap.size = p := ⟨_, rfl⟩
 rw [hpp] at c33 c34 c36 c69 ⊢
 clear hpp
 have HF := Lib.hid hF
 have HP := Lib.hid hP
 have Hrow := Lib.hid hrow
 have Hlok := Lib.hid hlok
 clear hF hP hrow hlok
 cases b1
 ·cases b2
  ·cases b3
   ·cases b4
    ·have HP2 : Hid (l.any (fun s => decide (500 < s.id.length)) = P) := Lib.hid (by have := HP.out; simpa using this)
     clear HP
     go_wp2_with fail
     go_loopg [30] (l.length + 1) (fun gf vi wr => ∃ i : Nat, vi = .int .i64 i ∧ i ≤ l.length ∧ i + gf = l.length + 1 ∧ Fr NoB w wr ∧ Hid ((l.drop i).any (fun s => decide (500 < s.id.length)) = P))
     case atStart => exact ⟨0, rfl, by omega, by omega, HF.out, Lib.hid (by rw [List.drop_zero]; exact HP2.out)⟩
     case round =>
      obtain ⟨i, rfl, hi, hig, hF, HG⟩ := hrel
      have HF := Lib.hid hF
      clear hF
      by_cases hlt : i < l.length
      ·have hlti : decide ((i : Int) < l.length) = true := decide_eq_true (by omega)
       have h20 : l.length ≤ 20 := by have := of_decide_eq_false hb2; omega
       have hwr : wrap64 ((i : Int) + 1) = (i : Int) + 1 := by unfold wrap64; omega
       obtain ⟨b, o, rfl, hb, hR⟩ := Hrow.out i hlt
       have hso := Hlok.out _ (List.getElem_mem hlt)
       have hdr := List.drop_eq_getElem_cons hlt
       obtain ⟨s, hs⟩ : ∃ s, l[i] = s := ⟨_, rfl⟩
       rw [hs] at hso hR hdr
       have hG := HG.out
       rw [hdr, List.any_cons] at hG
       have hsz := Sg.size hso
       have hB : wr.rangeAt b (o + i * 97) s.cells.toList := range_fr hR HF.out hb (fun _ h => h)
       have HB := Lib.hid hB
       obtain ⟨d, hu, hd⟩ := Tryz.rowSig
       have Hu := Lib.hid hu
       have Hd := Lib.hid hd
       have Hz := Lib.hid (show (Tryz.prog.info? 54).map (·.size) = some s.cells.toList.length by rw [Tryz.sizeSig]; simp [hsz])
       have Hz2 := Lib.hid (show (Tryz.prog.info? 54).map (·.size) = some s.cells.size by rw [Tryz.sizeSig, hsz])
       have H1 := Lib.hid (Sg.one s)
       have HZ : Hid (sgZ.size = s.cells.size) := Lib.hid (by rw [hsz]; rfl)
       have hc0 : (wr.alloc (.cells s.cells 54)).cell? ⟨wr.heap.size, 0, none⟩ = some (.string ⟨s.id.toArray⟩) := (Sg.in_block hso (range_block (heap_alloc_new wr (.cells s.cells 54)))).1
       obtain ⟨b5, hb5⟩ : ∃ b, decide ((500 : Int) < (List.length s.id : Int)) = b := ⟨_, rfl⟩
       have e5 : decide (500 < List.length s.id) = b5 := by rw [← hb5]; congr 1; exact propext ⟨fun h => by omega, fun h => by omega⟩
       rw [e5] at hG
       have HG2 := Lib.hid hG
       obtain ⟨cs, hcs⟩ : ∃ cs, s.cells = cs := ⟨_, rfl⟩
       rw [hcs] at HB Hz Hz2 H1 HZ hc0
       obtain ⟨sid, hsid⟩ : ∃ x, s.id = x := ⟨_, rfl⟩
       rw [hsid] at hc0 hb5
       clear hB hu hd hR hs hcs hso hdr hG hsz HG e5 hsid
       cases b5
       ·go_wp2_with (first
         | (with_reducible refine wpList_load_mid rfl 54 _ rfl b (o + i * 97) rfl cs.toList d HB.out Hu.out Hd.out Hz.out ?_)
         | (refine wpList_store_new (w := wr) rfl 54 _ _ rfl sgZ cs wr.heap.size rfl rfl rfl Hz2.out HZ.out H1.out ?_))
        go_roundg (gk - 1)
        case measure => omega
        case rel => exact ⟨i + 1, by simp, by omega, by omega, HF.out.alloc _, Lib.hid (by have := HG2.out; simpa using this)⟩
       ·go_wp2_with (first
         | (with_reducible refine wpList_load_mid rfl 54 _ rfl b (o + i * 97) rfl cs.toList d HB.out Hu.out Hd.out Hz.out ?_)
         | (refine wpList_store_new (w := wr) rfl 54 _ _ rfl sgZ cs wr.heap.size rfl rfl rfl Hz2.out HZ.out H1.out ?_))
        go_ret
        exact ⟨ret_bool (by have := HG2.out; simpa using this.symm), HF.out.alloc _⟩
      ·have hlti : decide ((i : Int) < l.length) = false := decide_eq_false (by omega)
       obtain rfl : i = l.length := by omega
       have HG3 : Hid (P = false) := Lib.hid (by have := HG.out; simpa using this.symm)
       clear HG
       go_wp2_with fail
       go_ret
       exact ⟨ret_bool HG3.out.symm, HF.out⟩
    ·have HP2 : Hid (P = true) := Lib.hid (by have := HP.out; simpa using this.symm)
     clear HP
     go_wp2_with fail
     go_ret
     exact ⟨ret_bool HP2.out.symm, HF.out⟩
   ·have HP2 : Hid (P = true) := Lib.hid (by have := HP.out; simpa using this.symm)
    clear HP
    go_wp2_with fail
    go_ret
    exact ⟨ret_bool HP2.out.symm, HF.out⟩
  ·have HP2 : Hid (P = true) := Lib.hid (by have := HP.out; simpa using this.symm)
   clear HP
   go_wp2_with fail
   go_ret
   exact ⟨ret_bool HP2.out.symm, HF.out⟩
 ·have HP2 : Hid (P = true) := Lib.hid (by have := HP.out; simpa using this.symm)
  clear HP
  go_wp2_with fail
  go_ret
  exact ⟨ret_bool HP2.out.symm, HF.out⟩
end Go.Proofs.YtcddlemkimbkcaaGreatDoor
namespace Go.Proofs.YtcddlemkimbkcaaGreatDoor
set_option linter.unusedVariables false
set_option linter.unusedSimpArgs false
set_option linter.unusedSectionVars false
open Go.RowKit Go.Shelf
variable [OldK]
def alice17 : Bs := [97, 108, 105, 99, 101]
def k17 (c : UInt8) : Bs := c :: List.replicate 31 0
def sgA17 : Sg := ⟨alice17, zero32, zero64⟩
def sgK17 (c : UInt8) : Sg := ⟨[], k17 c, zero64⟩
def eFirst : En := ⟨4, zero32, [], [], 1, alice17, k17 1, [sgK17 1]⟩
def eSecond : En := ⟨4, zero32, [], [], 2, alice17, k17 2, [sgA17, sgK17 2]⟩
def tFirst : Tb := Tb.new.came eFirst 3
def tSecond : Tb := tFirst.came eSecond 5
theorem pb1 : pBind psub Tb.new eFirst = 0 := by kernel_rfl
theorem pb2 : pBind psub tFirst eSecond = 0 := by kernel_rfl
theorem lv1 : (tSecond.life (k17 1) == 2) = true := by kernel_rfl
theorem lv2 : (tSecond.life (k17 2) == 2) = false := by kernel_rfl
theorem la1 : tSecond.last alice17 = ⟨5, true, k17 2⟩ := by kernel_rfl
theorem la2 : (tSecond.hist alice17).length = 2 := by kernel_rfl
theorem eFirst_ok : eFirst.ok := ⟨rfl, rfl, fun s hs => by
 simp only [eFirst, List.mem_singleton] at hs
 subst hs
 exact ⟨rfl, rfl⟩⟩
theorem eSecond_ok : eSecond.ok := ⟨rfl, rfl, fun s hs => by
 have : s = sgA17 ∨ s = sgK17 2 := by simpa [eSecond] using hs
 rcases this with rfl | rfl <;> exact ⟨rfl, rfl⟩⟩
set_option maxRecDepth 100000 in
set_option maxHeartbeats 2000000 in
theorem first17_c (w : World) : Calls Tryz.prog 64 #[] w fun e w' => (∃ g, e = .returned (.agg (eFirst.cells (.slice none 0 0) (.slice (some ⟨g, 0, none⟩) 1 1)).toArray) ∧ GS (fun k => w.heap.size ≤ k) [(sgK17 1)] (.slice (some ⟨g, 0, none⟩) 1 1) w') ∧ Fr NoB w w' := by
 obtain ⟨d, hu, hd⟩ := Tryz.rowEntry
 have Hu := Lib.hid hu
 have Hd := Lib.hid hd
 clear hu hd
 have hA : (w.alloc (.cells Tryz.zeroCells39 39)).heap.size = w.heap.size + 1 := by rw [World.size_alloc]
 have hz1 := heap_alloc_new w (.cells Tryz.zeroCells39 39)
 have hz2 := heap_alloc_new (w.alloc (.cells Tryz.zeroCells39 39)) (.cells (sgK17 1).cells 54)
 rw [hA] at hz2
 have hz3 : ((w.alloc (.cells Tryz.zeroCells39 39)).alloc (.cells (sgK17 1).cells 54)).heap[w.heap.size]? = some (.cells Tryz.zeroCells39 39) := by
  rw [Below.heap_alloc _ _ _ (by omega)]; exact hz1
 have HTq := Lib.hid (show ((w.alloc (.cells Tryz.zeroCells39 39)).alloc (.cells (sgK17 1).cells 54)).there w.heap.size 0 (eFirst.cells (.slice none 0 0) (.slice (some ⟨w.heap.size + 1, 0, none⟩) 1 1)).toArray.size from there_block hz3 (by rw [List.size_toArray, En.size eFirst_ok]; exact Nat.le_refl _))
 have Hz := Lib.hid (show (Tryz.prog.info? 39).map (·.size) = some (eFirst.cells (.slice none 0 0) (.slice (some ⟨w.heap.size + 1, 0, none⟩) 1 1)).length by rw [Tryz.sizeEntry, En.size eFirst_ok])
 have Hz2 := Lib.hid (show (Tryz.prog.info? 39).map (·.size) = some (eFirst.cells (.slice none 0 0) (.slice (some ⟨w.heap.size + 1, 0, none⟩) 1 1)).toArray.size by rw [Tryz.sizeEntry, List.size_toArray, En.size eFirst_ok])
 have HO := Lib.hid (En.one (e := eFirst) (pv := .slice none 0 0) (sv := .slice (some ⟨w.heap.size + 1, 0, none⟩) 1 1) rfl rfl)
 have HA := Lib.hid hA
 have Hz3 := Lib.hid hz2
 clear hA hz1 hz2 hz3
 go_enter Tryz.func64, Tryz.ntmps64
 go_wp2_with (first
  | ((with_reducible refine wpList_buildTo ?_ 24 _ rfl _ rfl (Lib.byteCells (k17 1)).toArray ?_ ?_); rfl; kernel_rfl)
  | ((with_reducible refine wpList_buildTo ?_ 54 _ rfl _ rfl (sgK17 1).cells ?_ ?_); rfl; kernel_rfl)
  | ((with_reducible refine Great.wpList_buildSliceTo ?_ 37 54 1 _ rfl (w.heap.size + 1) HA.out _ rfl Tryz.underlying37 (sgK17 1).cells ?_ ?_); rfl; kernel_rfl)
  | ((with_reducible refine wpList_buildTo ?_ 39 _ rfl _ rfl (eFirst.cells (.slice none 0 0) (.slice (some ⟨w.heap.size + 1, 0, none⟩) 1 1)).toArray ?_ ?_); rfl; kernel_rfl)
  | ((with_reducible refine wpList_store_mid ?_ 39 _ _ rfl w.heap.size 0 (eFirst.cells (.slice none 0 0) (.slice (some ⟨w.heap.size + 1, 0, none⟩) 1 1)).toArray ?_ ?_ HTq.out Hz2.out HO.out ?_); rfl; rfl; rfl))
 obtain ⟨C, hC⟩ : ∃ C, eFirst.cells (.slice none 0 0) (.slice (some ⟨w.heap.size + 1, 0, none⟩) 1 1) = C := ⟨_, rfl⟩
 have HC := Lib.hid hC
 rw [hC] at HTq Hz ⊢
 have hld := run_loadVar_mid (P := Tryz.prog) _ w.heap.size 0 39 C d (World.rangeAt_setCells_same _ w.heap.size 0 C (by simpa using HTq.out)) Hu.out Hd.out Hz.out
 have hF : Fr NoB w ((((w.alloc (.cells Tryz.zeroCells39 39)).alloc (.cells (sgK17 1).cells 54)).setCells w.heap.size 0 C)) := ((Fr.refl.alloc _).alloc _).trans (setCells_fr _ _ _ _) (fun k _ hm => .inr (by omega))
 refine bodyPost_ret (v := .agg C.toArray) ?_ rfl ⟨⟨w.heap.size + 1, by rw [HC.out], ?_⟩, hF⟩
 ·rw [results_cell1 rfl]
  simp [asAddr, Result.andThen, hld, Act.put]
 ·have h0 : GS (fun k => w.heap.size + 1 ≤ k) [(sgK17 1)] (.slice (some ⟨w.heap.size + 1, 0, none⟩) 1 1) ((w.alloc (.cells Tryz.zeroCells39 39)).alloc (.cells (sgK17 1).cells 54)) := by
   refine ⟨_, _, rfl, Nat.le_refl _, .inr ⟨w.heap.size + 1, 0, rfl, Nat.le_refl _, get_lt Hz3.out, fun i hi => ?_⟩⟩
   obtain rfl : i = 0 := by simpa using hi
   exact range_block Hz3.out
  obtain ⟨a, c, e1, e2, h | ⟨b, o, e3, hb, hrest⟩⟩ := h0.fr (setCells_fr w.heap.size C 0 _) (fun k _ hk hm => by omega)
  ·exact absurd h (by simp)
  ·exact ⟨a, c, e1, e2, .inr ⟨b, o, e3, by omega, hrest⟩⟩
theorem fine17 {S S' : Nat → Prop} {e : En} {pv sv : Value} {w : World} (hok : e.ok) (hp : SB S e.payload pv w) (hs : GS S' e.sigs sv w) (hg : Gl w) (hl : pLarge e = false) : Fine S S' e pv sv w := by
 obtain ⟨h1, h2, h3, h4, h5⟩ := pLarge_fine hl
 exact ⟨hok, hp, hs, hg, by omega, by omega, by omega, by omega, fun s hs => by have := h5 s hs; omega⟩
theorem Gl.took {base tb n bc bl : Nat} {t : Tb} {g lv : Bs → Option Value} {w w' : World} (hg : Gl w) (h : TBL base tb n bc bl t g lv w) (hb : 3 ≤ base) (hF : Fr (TM base bc bl) w w') : Gl w' :=
 hg.fr hF (fun k o _ hm => by
  have hl := h.low
  rcases hm with rfl | rfl | ⟨hm, -⟩ <;> omega)
theorem Fr.took {base tb n bc bl : Nat} {t : Tb} {g lv : Bs → Option Value} {w0 w w' : World} (hF0 : Fr NoB w0 w) (h : TBL base tb n bc bl t g lv w) (hb : w0.heap.size ≤ base) (hF : Fr (TM base bc bl) w w') : Fr NoB w0 w' :=
 hF0.trans hF (fun k o hm => .inr (by
  have hl := h.low
  rcases hm with rfl | rfl | ⟨hm, -⟩ <;> omega))
theorem lg1 : pLarge eFirst = false := by decide
theorem lg2 : pLarge eSecond = false := by decide
theorem GS.lit (E : World) (l : List Sg) (cs : Array Value) (hl : l ≠ []) (hc : cs = (l.flatMap fun s => s.cells.toList).toArray) (hok : ∀ s ∈ l, s.ok) : GS (fun k => E.heap.size ≤ k) l (.slice (some ⟨E.heap.size, 0, none⟩) l.length l.length) (E.alloc (.cells cs 54)) := by
 have hb := range_block (heap_alloc_new E (.cells cs 54))
 rw [hc, List.toList_toArray] at hb
 refine ⟨_, _, rfl, Nat.le_refl _, .inr ⟨_, _, rfl, Nat.le_refl _, by rw [World.size_alloc]; omega, fun i hi => ?_⟩⟩
 rw [hc]
 intro j v hv
 have h1 : ∀ (l : List Sg) (i : Nat) (hi : i < l.length), (∀ s ∈ l, s.ok) → ∀ j v, l[i].cells.toList[j]? = some v → (l.flatMap fun s => s.cells.toList)[i * 97 + j]? = some v := by
  intro l
  induction l with
  | nil => intro i hi; cases hi
  | cons x l ih =>
    intro i hi hok j v hv
    have hx : x.cells.toList.length = 97 := by rw [Array.length_toList, Sg.size (hok x (by simp))]
    rw [List.flatMap_cons]
    cases i with
    | zero =>
      rw [Nat.zero_mul, Nat.zero_add, List.getElem?_append_left (by have := (List.getElem?_eq_some_iff.1 hv).1; exact this)]
      exact hv
    | succ i =>
      rw [List.getElem?_append_right (by rw [hx]; omega), hx, show (i + 1) * 97 + j - 97 = i * 97 + j by omega]
      exact ih i (by simpa using hi) (fun s hs => hok s (by simp [hs])) j v (by simpa using hv)
 have := hb (i * 97 + j) v (h1 l i hi hok j v hv)
 rw [Nat.zero_add] at this
 rw [Nat.zero_add]
 exact this
set_option maxRecDepth 100000 in
set_option maxHeartbeats 4000000 in
theorem alive17_c (w : World) (hg : Gl w) : Calls Tryz.prog 24 #[] w fun e w' => e = .returned (.bool true) ∧ Fr NoB w w' := by
 have Hnew := Lib.hid (new_c w hg.old)
 have Hfirst := Lib.hid (fun W => first17_c W)
 have Hg := Lib.hid hg
 clear hg
 have Hbk2 : Hid (∀ W, (Instr.build 24 #[(0, .int .u8 2)]).run Tryz.prog W = .ok (.agg (Lib.byteCells (k17 2)).toArray) W) := Lib.hid (fun W => run_build W 24 _ _ (by kernel_rfl))
 have Hbk1 : Hid (∀ W, (Instr.build 24 #[(0, .int .u8 1)]).run Tryz.prog W = .ok (.agg (Lib.byteCells (k17 1)).toArray) W) := Lib.hid (fun W => run_build W 24 _ _ (by kernel_rfl))
 go_enter Tryz.func24, Tryz.ntmps24
 go_wp2_with fail
 refine Hnew.out.mono ?_
 rintro r w1 ⟨rfl, hT, hF1⟩
 have HT := Lib.hid hT
 have HF1 := Lib.hid hF1
 clear hT hF1
 obtain ⟨B, hB⟩ : ∃ B, w.heap.size = B := ⟨_, rfl⟩
 rw [hB] at HT ⊢
 have HB := Lib.hid hB
 clear hB
 obtain ⟨tb, htb⟩ : ∃ B', B + 2 = B' := ⟨_, rfl⟩
 obtain ⟨bl, hbl⟩ : ∃ B', B + 1 = B' := ⟨_, rfl⟩
 rw [htb, hbl] at HT
 rw [htb]
 clear htb hbl
 go_wp2_with fail
 refine (Hfirst.out _).mono ?_
 rintro r w2 ⟨⟨gb, rfl, hgs⟩, hF2⟩
 have HF2 := Lib.hid (HF1.out.trans' hF2)
 have hT2 := HT.out.keep hF2
 have hg2 := Hg.out.fr HF2.out (fun _ _ _ h => h.elim)
 have htake := take_c _ _ eFirst (.slice none 0 0) (.slice (some ⟨gb, 0, none⟩) 1 1) 3 w2 hT2 (fine17 eFirst_ok (SB.nil (fun _ => True) w2 0) hgs hg2 lg1) (Nat.zero_le _)
 rw [pb1, show Tb.new.take psub eFirst 3 = tFirst by unfold Tb.take; rw [if_pos pb1]; rfl] at htake
 have Htake := Lib.hid htake
 have HT2 := Lib.hid hT2
 have Hg2 := Lib.hid hg2
 clear htake hT2 hgs hF2 hg2
 have hng := Hg.out.size
 rw [HB.out] at hng
 simp only [show errV 0 = .nilIface from rfl] at Htake
 go_wp2_with fail
 refine Htake.out.mono ?_
 rintro r w3 ⟨rfl, ⟨g', lv', hT3⟩, hF3⟩
 have HF3 := Lib.hid (HF2.out.took HT2.out (by rw [HB.out]; exact Nat.le_refl _) hF3)
 have HT3 := Lib.hid hT3
 have Hg3 := Lib.hid (Hg2.out.took HT2.out hng hF3)
 clear hF3 hT3
 go_upto_region 4 with (fail)
 obtain ⟨SC, hSC⟩ : ∃ x, sgA17.cells ++ (sgK17 2).cells = x := ⟨_, rfl⟩
 have hbt := built_two sgA17 (sgK17 2) ⟨rfl, rfl⟩ ⟨rfl, rfl⟩
 rw [hSC] at hbt
 have hgs4 : GS (fun k => w3.heap.size ≤ k) eSecond.sigs (.slice (some ⟨w3.heap.size, 0, none⟩) 2 2) (w3.alloc (.cells SC 54)) := GS.lit w3 [sgA17, sgK17 2] SC (by simp) (by rw [← hSC]; apply Array.ext'; simp) (fun s hs => by
  have : s = sgA17 ∨ s = sgK17 2 := by simpa using hs
  rcases this with rfl | rfl <;> exact ⟨rfl, rfl⟩)
 obtain ⟨E2, hE2⟩ : ∃ x, eSecond.cells (.slice none 0 0) (.slice (some ⟨w3.heap.size, 0, none⟩) 2 2) = x := ⟨_, rfl⟩
 have hE2l : E2.length = 70 := by rw [← hE2]; exact En.size eSecond_ok _ _
 have Hbe : Hid (Tryz.prog.built 39 [(0, .int .i64 4), (4, .int .i64 2), (5, .string ⟨#[97, 108, 105, 99, 101]⟩), (6, .agg (Lib.byteCells (k17 2)).toArray), (7, .slice (some ⟨w3.heap.size, 0, none⟩) 2 2)] = some E2.toArray) := Lib.hid (by rw [← hE2]; kernel_rfl)
 have Hbs1 : Hid (Tryz.prog.built 54 [(0, .string ⟨#[97, 108, 105, 99, 101]⟩)] = some sgA17.cells) := Lib.hid (by kernel_rfl)
 have Hbs2 : Hid (Tryz.prog.built 54 [(1, .agg (Lib.byteCells (k17 2)).toArray)] = some (sgK17 2).cells) := Lib.hid (by kernel_rfl)
 have Hbk : Hid (Tryz.prog.built 24 [(0, .int .u8 2)] = some (Lib.byteCells (k17 2)).toArray) := Lib.hid (by kernel_rfl)
 obtain ⟨K2, hK2⟩ : ∃ x, (Lib.byteCells (k17 2)).toArray = x := ⟨_, rfl⟩
 obtain ⟨A1, hA1⟩ : ∃ x, sgA17.cells = x := ⟨_, rfl⟩
 obtain ⟨A2, hA2⟩ : ∃ x, (sgK17 2).cells = x := ⟨_, rfl⟩
 rw [hK2] at Hbe Hbs2 Hbk
 rw [hA1] at Hbs1 hbt
 rw [hA2] at Hbs2 hbt
 have Hbt := Lib.hid hbt
 have HE1 : Hid ((Tryz.prog.info? 39).map (·.size) = some E2.toArray.size) := Lib.hid (by rw [Tryz.sizeEntry, List.size_toArray, hE2l])
 have HE1' : Hid ((Tryz.prog.info? 39).map (·.size) = some E2.length) := Lib.hid (by rw [Tryz.sizeEntry, hE2l])
 have HE2 : Hid (Tryz.zeroCells39.size = E2.toArray.size) := Lib.hid (by rw [show E2.toArray.size = 70 by rw [List.size_toArray, hE2l]]; rfl)
 have HE3 : Hid (E2.toArray.all (·.oneCell') = true) := Lib.hid (by rw [← hE2]; exact En.one rfl rfl)
 have HE := Lib.hid hE2
 have HK2 := Lib.hid hK2
 clear hE2 hE2l hbt hSC hK2 hA1 hA2
 go_upto_region 5 with (first
  | ((with_reducible refine wpList_buildTo ?_ 24 _ rfl _ rfl K2 ?_ ?_); rfl; (refine Eq.trans (congrArg (Tryz.prog.built 24) ?_) Hbk.out; kernel_rfl))
  | ((with_reducible refine wpList_buildTo ?_ 54 _ rfl (some 11) ?_ A1 ?_ ?_); rfl; rfl; (refine Eq.trans (congrArg (Tryz.prog.built 54) ?_) Hbs1.out; kernel_rfl))
  | ((with_reducible refine wpList_buildTo ?_ 54 _ rfl (some 13) ?_ A2 ?_ ?_); rfl; rfl; (refine Eq.trans (congrArg (Tryz.prog.built 54) ?_) Hbs2.out; kernel_rfl))
  | ((with_reducible refine Great.wpList_buildSliceTo ?_ 37 54 2 _ rfl w3.heap.size rfl _ rfl Tryz.underlying37 SC ?_ ?_); rfl; (refine Eq.trans (congrArg (Tryz.prog.builtSlice 54 2) ?_) Hbt.out; kernel_rfl))
  | ((with_reducible refine wpList_buildTo ?_ 39 _ rfl _ rfl E2.toArray ?_ ?_); rfl; (refine Eq.trans (congrArg (Tryz.prog.built 39) ?_) Hbe.out; kernel_rfl))
  | ((with_reducible refine wpList_store_new (w := w3.alloc (.cells SC 54)) rfl 39 _ _ rfl Tryz.zeroCells39 E2.toArray (w3.heap.size + 1) (World.size_alloc _ _) ?_ ?_ HE1.out HE2.out HE3.out ?_); rfl; rfl))
 change Code.wp _ _ _ _ ((w3.alloc (.cells SC 54)).alloc (.cells E2.toArray 39))
 have hF34 : Fr NoB w3 ((w3.alloc (.cells SC 54)).alloc (.cells E2.toArray 39)) := (Fr.refl.alloc _).alloc _
 have hgs5 := hgs4.fr (Fr.refl.alloc (.cells E2.toArray 39)) (fun _ _ _ h => h)
 have hr5 := range_block (heap_alloc_new (w3.alloc (.cells SC 54)) (.cells E2.toArray 39))
 rw [World.size_alloc, List.toList_toArray] at hr5
 obtain ⟨W5, hW5⟩ : ∃ V, (w3.alloc (.cells SC 54)).alloc (.cells E2.toArray 39) = V := ⟨_, rfl⟩
 rw [hW5] at hF34 hgs5 hr5 ⊢
 have hT5 := HT3.out.keep hF34
 have hg5 := Hg3.out.fr hF34 (fun _ _ _ h => h.elim)
 have htake5 := take_c _ _ eSecond (.slice none 0 0) (.slice (some ⟨w3.heap.size, 0, none⟩) 2 2) 5 W5 hT5 (fine17 eSecond_ok (SB.nil (fun _ => True) W5 0) hgs5 hg5 lg2) (by omega)
 rw [pb2, show tFirst.take psub eSecond 5 = tSecond by unfold Tb.take; rw [if_pos pb2]; rfl, HE.out] at htake5
 simp only [show errV 0 = .nilIface from rfl] at htake5
 have Htake5 := Lib.hid htake5
 have HT5 := Lib.hid hT5
 have HF5 := Lib.hid (HF3.out.trans' hF34)
 have HR5 := Lib.hid hr5
 obtain ⟨d, hu, hd⟩ := Tryz.rowEntry
 have Hu := Lib.hid hu
 have Hd := Lib.hid hd
 obtain ⟨p5, hp5⟩ : ∃ x, w3.heap.size + 1 = x := ⟨_, rfl⟩
 rw [hp5] at HR5 ⊢
 clear hF34 hgs5 hr5 hT5 hg5 htake5 hW5 hgs4 hu hd hp5 HE Hbe
 go_wp2_with (with_reducible refine wpList_load_mid rfl 39 _ rfl p5 0 rfl E2 d HR5.out Hu.out Hd.out HE1'.out ?_)
 refine Htake5.out.mono ?_
 rintro r w6 ⟨rfl, ⟨g6, lv6, hT6⟩, hF6⟩
 have HF6 := Lib.hid (HF5.out.took HT5.out (by rw [HB.out]; exact Nat.le_refl _) hF6)
 have hbound := fun V (hV : Fr NoB w6 V) => bound_c alice17 V (hT6.keep hV) (by decide)
 rw [la1] at hbound
 have hspent1 : ∀ V, Fr NoB w6 V → Calls Tryz.prog 29 #[.pointer (some ⟨tb, 0, none⟩), .agg #[Value.int .u8 1, Value.int .u8 0, Value.int .u8 0, Value.int .u8 0, Value.int .u8 0, Value.int .u8 0, Value.int .u8 0, Value.int .u8 0, Value.int .u8 0, Value.int .u8 0, Value.int .u8 0, Value.int .u8 0, Value.int .u8 0, Value.int .u8 0, Value.int .u8 0, Value.int .u8 0, Value.int .u8 0, Value.int .u8 0, Value.int .u8 0, Value.int .u8 0, Value.int .u8 0, Value.int .u8 0, Value.int .u8 0, Value.int .u8 0, Value.int .u8 0, Value.int .u8 0, Value.int .u8 0, Value.int .u8 0, Value.int .u8 0, Value.int .u8 0, Value.int .u8 0, Value.int .u8 0]] V fun e w' => e = .returned (.bool true) ∧ Fr NoB V w' := fun V hV => by
  have h1 := spent_c (k17 1) V (hT6.keep hV) rfl
  rw [lv1] at h1
  exact h1
 have hspent2 : ∀ V, Fr NoB w6 V → Calls Tryz.prog 29 #[.pointer (some ⟨tb, 0, none⟩), .agg #[Value.int .u8 2, Value.int .u8 0, Value.int .u8 0, Value.int .u8 0, Value.int .u8 0, Value.int .u8 0, Value.int .u8 0, Value.int .u8 0, Value.int .u8 0, Value.int .u8 0, Value.int .u8 0, Value.int .u8 0, Value.int .u8 0, Value.int .u8 0, Value.int .u8 0, Value.int .u8 0, Value.int .u8 0, Value.int .u8 0, Value.int .u8 0, Value.int .u8 0, Value.int .u8 0, Value.int .u8 0, Value.int .u8 0, Value.int .u8 0, Value.int .u8 0, Value.int .u8 0, Value.int .u8 0, Value.int .u8 0, Value.int .u8 0, Value.int .u8 0, Value.int .u8 0, Value.int .u8 0]] V fun e w' => e = .returned (.bool false) ∧ Fr NoB V w' := fun V hV => by
  have h1 := spent_c (k17 2) V (hT6.keep hV) rfl
  rw [lv2] at h1
  exact h1
 have hhist := fun V (hV : Fr NoB w6 V) => history_c alice17 V (hT6.keep hV) (by decide) (by omega)
 simp only [la2] at hhist
 have heq : ∀ V, (Op.equalIn 10000 24 (.agg (Lib.byteCells (k17 2)).toArray) (.agg #[Value.int .u8 2, Value.int .u8 0, Value.int .u8 0, Value.int .u8 0, Value.int .u8 0, Value.int .u8 0, Value.int .u8 0, Value.int .u8 0, Value.int .u8 0, Value.int .u8 0, Value.int .u8 0, Value.int .u8 0, Value.int .u8 0, Value.int .u8 0, Value.int .u8 0, Value.int .u8 0, Value.int .u8 0, Value.int .u8 0, Value.int .u8 0, Value.int .u8 0, Value.int .u8 0, Value.int .u8 0, Value.int .u8 0, Value.int .u8 0, Value.int .u8 0, Value.int .u8 0, Value.int .u8 0, Value.int .u8 0, Value.int .u8 0, Value.int .u8 0, Value.int .u8 0, Value.int .u8 0])).run Tryz.prog V = .ok true V := fun V => eqIn_key (k17 2) (k17 2) rfl rfl V
 have hk2l : (Lib.byteCells (k17 2)).length = 32 := rfl
 have hk2o := all_oneCell_toArray (cells_one (k17 2))
 have hz32 : (#[.int .u8 0, .int .u8 0, .int .u8 0, .int .u8 0, .int .u8 0, .int .u8 0, .int .u8 0, .int .u8 0, .int .u8 0, .int .u8 0, .int .u8 0, .int .u8 0, .int .u8 0, .int .u8 0, .int .u8 0, .int .u8 0, .int .u8 0, .int .u8 0, .int .u8 0, .int .u8 0, .int .u8 0, .int .u8 0, .int .u8 0, .int .u8 0, .int .u8 0, .int .u8 0, .int .u8 0, .int .u8 0, .int .u8 0, .int .u8 0, .int .u8 0, .int .u8 0] : Array Value).size = (Lib.byteCells (k17 2)).toArray.size := rfl
 simp only at hbound
 obtain ⟨KL2, hKL2⟩ : ∃ x, Lib.byteCells (k17 2) = x := ⟨_, rfl⟩
 simp only [hKL2] at hbound heq hk2l hk2o hz32
 have Hbound := Lib.hid hbound
 have Hspent1 := Lib.hid hspent1
 have Hspent2 := Lib.hid hspent2
 have Hhist := Lib.hid hhist
 have Hkz : Hid ((Tryz.prog.info? 24).map (·.size) = some KL2.length) := Lib.hid (by rw [Tryz.sizeKey, hk2l])
 have Hkz2 : Hid ((Tryz.prog.info? 24).map (·.size) = some KL2.toArray.size) := Lib.hid (by rw [Tryz.sizeKey, List.size_toArray, hk2l])
 have Hk2o := Lib.hid hk2o
 have Hz32 := Lib.hid hz32
 clear hbound hspent1 hspent2 hhist hKL2 hk2l hk2o hz32 hF6 hT6
 go_wp2_with fail
 refine (Hbound.out _ Fr.refl).mono ?_
 rintro r w7 ⟨rfl, hF7⟩
 have HF7 := Lib.hid hF7
 clear hF7
 go_upto_region 8 with ((with_reducible refine wpList_store_new (w := w7) rfl 24 _ _ rfl _ KL2.toArray w7.heap.size rfl ?_ ?_ Hkz2.out Hz32.out Hk2o.out ?_); rfl; rfl)
 change Code.wp _ _ _ _ (w7.alloc (.cells KL2.toArray 24))
 have hq8 := range_block (heap_alloc_new w7 (.cells KL2.toArray 24))
 rw [List.toList_toArray] at hq8
 have hG8 := HF7.out.alloc (.cells KL2.toArray 24)
 obtain ⟨W8, hW8⟩ : ∃ V, w7.alloc (.cells KL2.toArray 24) = V := ⟨_, rfl⟩
 rw [hW8] at hq8 hG8 ⊢
 obtain ⟨q, hqq⟩ : ∃ q, w7.heap.size = q := ⟨_, rfl⟩
 rw [hqq] at hq8 ⊢
 have HQ := Lib.hid hq8
 have HG8 := Lib.hid hG8
 clear hq8 hG8 hW8 hqq
 go_wp2_with (first
  | (with_reducible refine wpList_load_g 24 _ rfl q 0 rfl KL2 (.array 32 5) HQ.out Tryz.underKey rfl Hkz.out rfl ?_))
 refine (Hspent1.out _ HG8.out).mono ?_
 rintro r w9 ⟨rfl, hF9⟩
 have HG9 := Lib.hid (HG8.out.trans' hF9)
 clear hF9
 go_wp2_with fail
 refine (Hspent2.out _ HG9.out).mono ?_
 rintro r w10 ⟨rfl, hF10⟩
 have HG10 := Lib.hid (HG9.out.trans' hF10)
 clear hF10
 go_wp2_with fail
 refine (Hhist.out _ HG10.out).mono ?_
 rintro r w11 ⟨v', rfl, hown, hF11⟩
 have HG11 := Lib.hid (HF6.out.trans' (HG10.out.trans' hF11))
 obtain ⟨a, c, rfl⟩ : ∃ a c, v' = .slice a 2 c := by
  rcases hown.2 with ⟨-, h0⟩ | ⟨g, cap, cur, h1, -⟩
  ·cases h0
  ·exact ⟨_, _, h1⟩
 clear hF11 hown
 go_wp2_with fail
 go_ret
 exact ⟨rfl, HG11.out⟩
end Go.Proofs.YtcddlemkimbkcaaGreatDoor
