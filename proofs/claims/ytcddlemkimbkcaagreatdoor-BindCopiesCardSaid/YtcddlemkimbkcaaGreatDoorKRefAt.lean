/-
 The walk of cachetref17's History.
-/
import Derived.Test.YtcddlemkimbkcaaGreatDoorKRefSpent
import Derived.Test.YtcddlemkimbkcaaGreatDoorKNum
import Derived.Test.YtcddlemkimbkcaaGreatDoorKSeq
import Derived.Test.YtcddlemkimbkcaaGreatDoorKCpS
namespace Go.Proofs.YtcddlemkimbkcaaGreatDoor
set_option linter.unusedVariables false
set_option linter.unusedSimpArgs false
set_option linter.unusedSectionVars false
open Go.RowKit Go.Shelf
variable [OldK]
/-- an identity's bindings -/
def hv (m : List CameV) (n : Bs) : List CameV := m.filter (fun c => decide (c.e.ident = n))
theorem hv_cm (m : List CameV) (n : Bs) : (hv m n).map CameV.cm = rHist (m.map CameV.cm) n := by
 unfold hv rHist
 rw [List.filter_map]
 rfl
theorem hv_take (m : List CameV) (n : Bs) (i : Nat) (hi : i < m.length) : hv (m.take (i + 1)) n = hv (m.take i) n ++ (if m[i].e.ident = n then [m[i]] else []) := by
 unfold hv
 rw [List.take_add_one, List.getElem?_eq_getElem hi, List.filter_append]
 congr 1
 by_cases h : m[i].e.ident = n <;> simp [h]
theorem hv_mem {m : List CameV} {n : Bs} {c : CameV} (h : c ∈ hv m n) : c ∈ m := (List.mem_filter.1 h).1
theorem hv_len (m : List CameV) (n : Bs) : (hv m n).length ≤ m.length := List.length_filter_le _ _
def cRow (l : List CameV) : List Value := l.flatMap CameV.cells
theorem Tryz.infoCame : (Tryz.prog.info? 67).map (fun i => (i.zero, i.size, i.bytes)) = some (some (.agg Tryz.zeroCells67), 71, 168) := by kernel_rfl
theorem Tryz.sizeCame17 : (Tryz.prog.info? 67).map (·.size) = some 71 := by kernel_rfl
theorem Tryz.rowCame17 : ∃ d, Tryz.prog.underlying 67 = some d ∧ d.isRow = true := ⟨_, Tryz.underlying67, rfl⟩
theorem nth_came (l : List CameV) (hk : ∀ c ∈ l, c.e.ok) : ∀ i c, l[i]? = some c → ∀ j v, c.cells[j]? = some v → (cRow l)[i * 71 + j]? = some v := by
 induction l with
 | nil => intro i c hi; cases hi
 | cons x l ih =>
   intro i c hi j v hv
   have hx := CameV.size (hk x (by simp))
   unfold cRow
   rw [List.flatMap_cons]
   cases i with
   | zero =>
     obtain rfl : x = c := by simpa using hi
     rw [Nat.zero_mul, Nat.zero_add, List.getElem?_append_left (by
      have := (List.getElem?_eq_some_iff.1 hv).1
      exact this)]
     exact hv
   | succ i =>
     rw [List.getElem?_append_right (by rw [hx]; omega), hx, show (i + 1) * 71 + j - 71 = i * 71 + j by omega]
     exact ih (fun c hc => hk c (by simp [hc])) i c (by simpa using hi) j v hv
/-- an own row of bindings is one -/
theorem CRow.ofRow {m : List CameV} {v : Value} {w : World} {base : Nat} (h : w.ownsRow base 67 71 v m.length (cRow m)) (h1 : m.length ≤ 1000) (h2 : ∀ c ∈ m, c.e.ok) (h3 : ∀ c ∈ m, c.pv.oneCell' = true ∧ c.sv.oneCell' = true) : CRow m v w := by
 refine ⟨h1, h2, h3, ?_⟩
 rcases h.2 with ⟨rfl, h0⟩ | ⟨g, cap, cur, rfl, e1, e2, e3, e4, e5⟩
 ·have : m = [] := List.length_eq_zero_iff.1 h0
  subst this
  exact ⟨_, _, rfl, .inl rfl⟩
 ·refine ⟨_, _, rfl, .inr ⟨g, rfl, get_lt e2, fun i hi j v hv => ?_⟩⟩
  have := h.cells (g := g) rfl (i * 71 + j) v (nth_came m h2 i _ (List.getElem?_eq_getElem hi) j v hv)
  rw [Addr.add_lit] at this
  rw [Nat.zero_add] at this
  exact this
set_option maxRecDepth 100000 in
set_option maxHeartbeats 2000000 in
theorem refHist_c (m : List CameV) (v : Value) (n : Bs) (w : World) (h : CRow m v w) :
 Calls Tryz.prog 75 #[v, .string ⟨n.toArray⟩] w fun e w' => ∃ v', e = .returned v' ∧ w'.ownsRow w.heap.size 67 71 v' (hv m n).length (cRow (hv m n)) ∧ Fr NoB w w' := by
 obtain ⟨a, cap, hv'⟩ := h.form
 have hlen := h.len
 have Hh := Lib.hid h
 obtain ⟨ic, hic, hcz0, hcz1, hcz2⟩ := info_parts Tryz.infoCame
 obtain ⟨d, hu, hd⟩ := Tryz.rowCame17
 have Hu := Lib.hid hu
 have Hd := Lib.hid hd
 subst hv'
 clear h hu hd
 go_enter Tryz.func75, Tryz.ntmps75
 go_wp2_with fail
 go_loopg [5, 6] (m.length + 1) (fun gf vo vi wr => ∃ i : Nat, vi = .int .i64 i ∧ i ≤ m.length ∧ i + gf = m.length + 1 ∧ Hid (wr.ownsRow w.heap.size 67 71 vo (hv (m.take i) n).length (cRow (hv (m.take i) n))) ∧ Hid (Fr NoB w wr))
 case atStart => exact ⟨0, rfl, by omega, by omega, Lib.hid ⟨rfl, .inl ⟨rfl, rfl⟩⟩, Lib.hid Fr.refl⟩
 case round =>
  obtain ⟨i, rfl, hi, hig, HO, HFr⟩ := hrel
  by_cases hlt : i < m.length
  ·have hlti : decide ((i : Int) < m.length) = true := decide_eq_true (by omega)
   have hwr : wrap64 ((i : Int) + 1) = (i : Int) + 1 := by unfold wrap64; omega
   have hCr := Hh.out.keep HFr.out
   obtain ⟨b, cap', hv', hb, hr⟩ := hCr.get hlt
   injection hv' with e1 e2 e3
   subst e1 e3
   have hok := hCr.ok _ (List.getElem_mem hlt)
   have hon := hCr.one _ (List.getElem_mem hlt)
   obtain ⟨-, k1, -, -⟩ := came_at hok hr
   have hst := hv_take m n i hlt
   have hhl := Nat.le_trans (hv_len (m.take i) n) (List.length_take_le i m)
   obtain ⟨c, hc⟩ : ∃ c, m[i] = c := ⟨_, rfl⟩
   rw [hc] at k1 hok hon hr hst
   have hsz := CameV.size hok
   have hc1 := CameV.one hon.1 hon.2
   obtain ⟨L, hL⟩ : ∃ L, hv (m.take i) n = L := ⟨_, rfl⟩
   rw [hL] at HO hst hhl
   obtain ⟨CC, hCC⟩ : ∃ x, c.cells = x := ⟨_, rfl⟩
   rw [hCC] at hr hsz hc1
   have HR := Lib.hid hr
   have Hst := Lib.hid hst
   have Hhl := Lib.hid hhl
   have Hsz := Lib.hid hsz
   have Hc1 := Lib.hid hc1
   have HCC := Lib.hid hCC
   clear hCr hr hok hon hst hhl hc hsz hc1 hL hb hCC
   cases hx : (c.e.ident == n) with
   | true =>
     have Hx := Lib.hid hx
     have hcz : Hid ((Tryz.prog.info? 67).map (·.size) = some CC.length) := Lib.hid (by rw [Tryz.sizeCame17, Hsz.out])
     have hb1 := built_list (P := Tryz.prog) hic hcz0 hcz1 (by rfl) (by decide) (by decide : 0 < 1) (by decide) [.agg CC.toArray] (fun v hv => by
      obtain rfl : v = .agg CC.toArray := by simpa using hv
      show CC.toArray.size = 71
      rw [List.size_toArray, Hsz.out]) rfl
     have Hbk1 : Hid (Tryz.prog.builtSlice 67 1 [(0, .agg CC.toArray)] = some CC.toArray) := Lib.hid (by
      have e : ([Value.agg CC.toArray].flatMap fun v => v.cells.toList).toArray = CC.toArray := by simp [Value.cells]
      rw [e] at hb1
      exact hb1)
     clear hb1
     go_wp2_with (first
      | (with_reducible refine wpList_load_mid rfl 67 _ rfl b (i * 71) rfl CC d HR.out Hu.out Hd.out hcz.out ?_)
      | ((with_reducible refine Great.wpList_buildSliceTo ?_ 62 67 1 _ rfl wr.heap.size rfl _ rfl Tryz.underlying62 CC.toArray ?_ ?_); rfl; (refine Eq.trans (congrArg (Tryz.prog.builtSlice 67 1) ?_) Hbk1.out; kernel_rfl))
      | (at_builtin; refine stop_here ?_))
     refine Lib.hid ?_
     refine wpList_append_own _ rfl _ _ 62 rfl w.heap.size 67 ic (.agg Tryz.zeroCells67) 71 168 Tryz.underlying62 hic hcz0 hcz1 hcz2 rfl (by decide) _ L.length (cRow L) rfl (HO.out.alloc _) ⟨wr.heap.size, 0, none⟩ 1 1 CC rfl (by rw [Hsz.out]) (lit_cells wr CC 67) (by have h := Hc1.out; rw [List.all_toArray, List.all_eq_true] at h; exact h) (by have := Hhl.out; unfold maxLen; omega) (by have := Hhl.out; omega) (by rw [World.size_alloc]; have := HFr.out.size; omega) ?_
     intro vo' w9 hown9 hgr9 _
     have HF9 := Lib.hid (row_frame (HO.out.alloc _) (Nat.le_refl _) (HFr.out.alloc _) hgr9)
     have HO9 := Lib.hid hown9
     clear hown9 hgr9
     go_wp2_with fail
     go_roundg (gk - 1)
     case measure => omega
     case rel =>
      have h2 : c.e.ident = n := by simpa using Hx.out
      have hs := Hst.out
      rw [if_pos h2] at hs
      refine ⟨i + 1, by simp [hwr], by omega, by omega, Lib.hid ?_, HF9⟩
      rw [hs, List.length_append]
      have : cRow (L ++ [c]) = cRow L ++ CC := by rw [← HCC.out]; simp [cRow]
      rw [this]
      exact HO9.out
   | false =>
     have Hx := Lib.hid hx
     go_wp2_with fail
     go_roundg (gk - 1)
     case measure => omega
     case rel =>
      have h2 : ¬ c.e.ident = n := by simpa using Hx.out
      have hs := Hst.out
      rw [if_neg h2, List.append_nil] at hs
      refine ⟨i + 1, by simp [hwr], by omega, by omega, Lib.hid ?_, HFr⟩
      rw [hs]
      exact HO.out
  ·have hlti : decide ((i : Int) < m.length) = false := decide_eq_false (by omega)
   have he : m.take i = m := List.take_of_length_le (by omega)
   rw [he] at HO
   clear he
   go_wp2_with fail
   go_ret
   exact ⟨_, rfl, HO.out, HFr.out⟩
end Go.Proofs.YtcddlemkimbkcaaGreatDoor
namespace Go.Proofs.YtcddlemkimbkcaaGreatDoor
set_option linter.unusedVariables false
set_option linter.unusedSimpArgs false
set_option linter.unusedSectionVars false
open Go.RowKit Go.Shelf
variable [OldK]
/-- what was found, as an answer -/
def atOf : Option Cm → Bs × Bool
 | some c => (c.1.key, decide (c.1.op ≠ 3))
 | none => (zero32, false)
theorem rAt_of (m : List Cm) (n : Bs) (p : Int) : rAt m n p = atOf ((rHist m n).reverse.find? (fun c => decide (c.2 ≤ p))) := by
 unfold rAt
 cases (rHist m n).reverse.find? (fun c => decide (c.2 ≤ p)) <;> rfl
theorem take_find {cs : List Cm} {p : Int} {q : Nat} (hq : q < cs.length) : (cs.take (q + 1)).reverse.find? (fun c => decide (c.2 ≤ p)) = if (cs[q]).2 ≤ p then some cs[q] else (cs.take q).reverse.find? (fun c => decide (c.2 ≤ p)) := by
 rw [List.take_add_one, List.getElem?_eq_getElem hq, List.reverse_append]
 show ([cs[q]] ++ _).find? _ = _
 rw [List.singleton_append, List.find?_cons]
 by_cases h : (cs[q]).2 ≤ p
 ·rw [if_pos h, decide_eq_true h]
 ·rw [if_neg h, decide_eq_false h]
set_option maxRecDepth 100000 in
set_option maxHeartbeats 2000000 in
theorem refAt_c (m : List CameV) (v : Value) (n : Bs) (place : Int) (w : World) (h : CRow m v w) :
 Calls Tryz.prog 74 #[v, .string ⟨n.toArray⟩, .int .i64 place] w fun e w' => e = .returned (.tuple #[.agg (Lib.byteCells (rAt (m.map CameV.cm) n place).1).toArray, .bool (rAt (m.map CameV.cm) n place).2]) ∧ Fr NoB w w' := by
 have hF : Fr NoB w (w.alloc (.cells #[.int .u8 0, .int .u8 0, .int .u8 0, .int .u8 0, .int .u8 0, .int .u8 0, .int .u8 0, .int .u8 0, .int .u8 0, .int .u8 0, .int .u8 0, .int .u8 0, .int .u8 0, .int .u8 0, .int .u8 0, .int .u8 0, .int .u8 0, .int .u8 0, .int .u8 0, .int .u8 0, .int .u8 0, .int .u8 0, .int .u8 0, .int .u8 0, .int .u8 0, .int .u8 0, .int .u8 0, .int .u8 0, .int .u8 0, .int .u8 0, .int .u8 0, .int .u8 0] 24)) := Fr.refl.alloc _
 have hW := h.keep hF
 have hhist := refHist_c m v n _ hW
 have hb0 := heap_alloc_new w (.cells #[.int .u8 0, .int .u8 0, .int .u8 0, .int .u8 0, .int .u8 0, .int .u8 0, .int .u8 0, .int .u8 0, .int .u8 0, .int .u8 0, .int .u8 0, .int .u8 0, .int .u8 0, .int .u8 0, .int .u8 0, .int .u8 0, .int .u8 0, .int .u8 0, .int .u8 0, .int .u8 0, .int .u8 0, .int .u8 0, .int .u8 0, .int .u8 0, .int .u8 0, .int .u8 0, .int .u8 0, .int .u8 0, .int .u8 0, .int .u8 0, .int .u8 0, .int .u8 0] 24)
 have hpW : w.heap.size < (w.alloc (.cells #[.int .u8 0, .int .u8 0, .int .u8 0, .int .u8 0, .int .u8 0, .int .u8 0, .int .u8 0, .int .u8 0, .int .u8 0, .int .u8 0, .int .u8 0, .int .u8 0, .int .u8 0, .int .u8 0, .int .u8 0, .int .u8 0, .int .u8 0, .int .u8 0, .int .u8 0, .int .u8 0, .int .u8 0, .int .u8 0, .int .u8 0, .int .u8 0, .int .u8 0, .int .u8 0, .int .u8 0, .int .u8 0, .int .u8 0, .int .u8 0, .int .u8 0, .int .u8 0] 24)).heap.size := by rw [World.size_alloc]; omega
 obtain ⟨R, hR⟩ : ∃ R, rAt (m.map CameV.cm) n place = R := ⟨_, rfl⟩
 rw [hR]
 rw [rAt_of, ← hv_cm] at hR
 have hlL := Nat.le_trans (hv_len m n) h.len
 have hokL : ∀ c ∈ hv m n, c.e.ok := fun c hc => h.ok c (hv_mem hc)
 have honL : ∀ c ∈ hv m n, c.pv.oneCell' = true ∧ c.sv.oneCell' = true := fun c hc => h.one c (hv_mem hc)
 obtain ⟨L, hL⟩ : ∃ L, hv m n = L := ⟨_, rfl⟩
 rw [hL] at hR hhist hlL hokL honL
 have HR := Lib.hid hR
 have HF := Lib.hid hF
 have Hhist := Lib.hid hhist
 have Hb0 := Lib.hid hb0
 have HpW := Lib.hid hpW
 have HokL := Lib.hid hokL
 have HonL := Lib.hid honL
 clear hR hF hhist hb0 hpW hokL honL h hW hL
 go_enter Tryz.func74, Tryz.ntmps74
 go_upto_region 1 with (fail)
 change Code.wp _ _ _ _ (w.alloc (.cells #[.int .u8 0, .int .u8 0, .int .u8 0, .int .u8 0, .int .u8 0, .int .u8 0, .int .u8 0, .int .u8 0, .int .u8 0, .int .u8 0, .int .u8 0, .int .u8 0, .int .u8 0, .int .u8 0, .int .u8 0, .int .u8 0, .int .u8 0, .int .u8 0, .int .u8 0, .int .u8 0, .int .u8 0, .int .u8 0, .int .u8 0, .int .u8 0, .int .u8 0, .int .u8 0, .int .u8 0, .int .u8 0, .int .u8 0, .int .u8 0, .int .u8 0, .int .u8 0] 24))
 obtain ⟨W, hW⟩ : ∃ W, w.alloc (.cells #[.int .u8 0, .int .u8 0, .int .u8 0, .int .u8 0, .int .u8 0, .int .u8 0, .int .u8 0, .int .u8 0, .int .u8 0, .int .u8 0, .int .u8 0, .int .u8 0, .int .u8 0, .int .u8 0, .int .u8 0, .int .u8 0, .int .u8 0, .int .u8 0, .int .u8 0, .int .u8 0, .int .u8 0, .int .u8 0, .int .u8 0, .int .u8 0, .int .u8 0, .int .u8 0, .int .u8 0, .int .u8 0, .int .u8 0, .int .u8 0, .int .u8 0, .int .u8 0] 24) = W := ⟨_, rfl⟩
 rw [hW] at HF Hhist Hb0 HpW ⊢
 obtain ⟨p, hp⟩ : ∃ p, w.heap.size = p := ⟨_, rfl⟩
 rw [hp] at Hb0 HpW ⊢
 have Hp := Lib.hid hp
 clear hW hp
 go_wp2_with fail
 refine Hhist.out.mono ?_
 rintro e w1 ⟨v', rfl, h1, h2⟩
 have hCL := CRow.ofRow h1 hlL HokL.out HonL.out
 have hb1 := h2.block _ _ Hb0.out (fun h => h)
 obtain ⟨a, cap, hv'⟩ := hCL.form
 subst hv'
 have hw0 : wrap64 ((L.length : Int) - 1) = (L.length : Int) - 1 := by unfold wrap64; omega
 have Hpb : Hid (∀ b', a = some ⟨b', 0, none⟩ → p < b') := Lib.hid (fun b' e => by subst e; have := (row_block h1 (k := b') rfl).1; have := HpW.out; omega)
 have HCL := Lib.hid hCL
 have Hb1 := Lib.hid hb1
 have HF1 := Lib.hid (HF.out.trans' h2)
 have Hpw1 := Lib.hid (Nat.lt_of_lt_of_le HpW.out h2.size)
 clear h1 h2 hCL hb1 Hhist Hb0 HF HpW
 go_wp2_with fail
 go_loopg [9] (L.length + 1) (fun gf vi wr => ∃ q : Nat, vi = .int .i64 ((q : Int) - 1) ∧ q + 1 = gf ∧ q ≤ L.length ∧ Hid (atOf (((L.map CameV.cm).take q).reverse.find? (fun c => decide (c.2 ≤ place))) = R) ∧ wr = w1)
 case atStart => exact ⟨L.length, by simp [hw0], rfl, Nat.le_refl _, Lib.hid (by rw [List.take_of_length_le (by simp)]; exact HR.out), rfl⟩
 case round =>
  obtain ⟨q, rfl, hqg, hq, HRq, rfl⟩ := hrel
  have hT : wr.there p 0 32 := there_block Hb1.out (Nat.le_refl _)
  cases q with
  | zero =>
    have h0 : R = (zero32, false) := HRq.out.symm
    subst h0
    have HT : Hid (wr.there p 0 (#[.int .u8 0, .int .u8 0, .int .u8 0, .int .u8 0, .int .u8 0, .int .u8 0, .int .u8 0, .int .u8 0, .int .u8 0, .int .u8 0, .int .u8 0, .int .u8 0, .int .u8 0, .int .u8 0, .int .u8 0, .int .u8 0, .int .u8 0, .int .u8 0, .int .u8 0, .int .u8 0, .int .u8 0, .int .u8 0, .int .u8 0, .int .u8 0, .int .u8 0, .int .u8 0, .int .u8 0, .int .u8 0, .int .u8 0, .int .u8 0, .int .u8 0, .int .u8 0] : Array Value).size) := Lib.hid hT
    have hld := run_loadVar_mid (P := Tryz.prog) _ p 0 24 _ (.array 32 5) (World.rangeAt_setCells_same wr p 0 (#[.int .u8 0, .int .u8 0, .int .u8 0, .int .u8 0, .int .u8 0, .int .u8 0, .int .u8 0, .int .u8 0, .int .u8 0, .int .u8 0, .int .u8 0, .int .u8 0, .int .u8 0, .int .u8 0, .int .u8 0, .int .u8 0, .int .u8 0, .int .u8 0, .int .u8 0, .int .u8 0, .int .u8 0, .int .u8 0, .int .u8 0, .int .u8 0, .int .u8 0, .int .u8 0, .int .u8 0, .int .u8 0, .int .u8 0, .int .u8 0, .int .u8 0, .int .u8 0] : Array Value).toList HT.out) Tryz.underKey rfl z32s
    have HE : Hid (Fr NoB w (wr.setCells p 0 (#[.int .u8 0, .int .u8 0, .int .u8 0, .int .u8 0, .int .u8 0, .int .u8 0, .int .u8 0, .int .u8 0, .int .u8 0, .int .u8 0, .int .u8 0, .int .u8 0, .int .u8 0, .int .u8 0, .int .u8 0, .int .u8 0, .int .u8 0, .int .u8 0, .int .u8 0, .int .u8 0, .int .u8 0, .int .u8 0, .int .u8 0, .int .u8 0, .int .u8 0, .int .u8 0, .int .u8 0, .int .u8 0, .int .u8 0, .int .u8 0, .int .u8 0, .int .u8 0] : Array Value).toList)) := Lib.hid (HF1.out.trans (setCells_fr p _ 0 _) (fun k _ hm => .inr (by have h2 : k = p := hm; have := Hp.out; omega)))
    have Hld := Lib.hid hld
    clear hT hld
    go_wp2_with ((with_reducible refine wpList_store_mid rfl 24 _ _ rfl p 0 #[.int .u8 0, .int .u8 0, .int .u8 0, .int .u8 0, .int .u8 0, .int .u8 0, .int .u8 0, .int .u8 0, .int .u8 0, .int .u8 0, .int .u8 0, .int .u8 0, .int .u8 0, .int .u8 0, .int .u8 0, .int .u8 0, .int .u8 0, .int .u8 0, .int .u8 0, .int .u8 0, .int .u8 0, .int .u8 0, .int .u8 0, .int .u8 0, .int .u8 0, .int .u8 0, .int .u8 0, .int .u8 0, .int .u8 0, .int .u8 0, .int .u8 0, .int .u8 0] ?_ ?_ HT.out z32s z32a ?_); rfl; rfl)
    refine bodyPost_ret (v := .tuple #[.agg #[.int .u8 0, .int .u8 0, .int .u8 0, .int .u8 0, .int .u8 0, .int .u8 0, .int .u8 0, .int .u8 0, .int .u8 0, .int .u8 0, .int .u8 0, .int .u8 0, .int .u8 0, .int .u8 0, .int .u8 0, .int .u8 0, .int .u8 0, .int .u8 0, .int .u8 0, .int .u8 0, .int .u8 0, .int .u8 0, .int .u8 0, .int .u8 0, .int .u8 0, .int .u8 0, .int .u8 0, .int .u8 0, .int .u8 0, .int .u8 0, .int .u8 0, .int .u8 0], .bool false]) ?_ rfl ⟨rfl, HE.out⟩
    have hld := Hld.out
    rw [results_cell_tmp rfl]
    try simp only [Array.toArray_toList] at hld
    simp [asAddr, Result.andThen, hld]
  | succ q =>
    obtain ⟨b, cap', hv', hb, hr⟩ := HCL.out.get (i := q) (by omega)
    injection hv' with e1 e2 e3
    subst e1 e3
    have hok := HokL.out _ (List.getElem_mem (show q < L.length by omega))
    obtain ⟨k0, -, k2, k3⟩ := came_at hok hr
    have hstep := take_find (p := place) (cs := L.map CameV.cm) (q := q) (by simp; omega)
    have hcs : (L.map CameV.cm)[q]'(by simp; omega) = L[q].cm := by simp
    rw [hcs] at hstep
    have hRq := HRq.out
    rw [hstep] at hRq
    have hq1 : ((q + 1 : Nat) : Int) - 1 = (q : Int) := by omega
    have hw1 : wrap64 ((q : Int) - 1) = (q : Int) - 1 := by unfold wrap64; omega
    rw [hq1]
    have hql : q < L.length := by omega
    obtain ⟨c, hc⟩ : ∃ c, L[q] = c := ⟨_, rfl⟩
    rw [hc] at k0 k2 k3 hok hRq
    have hkl : (Lib.byteCells c.e.key).length = 32 := by rw [byteCells_len]; exact hok.2.1
    have hk1 := all_oneCell_toArray (cells_one c.e.key)
    have HRq1 := Lib.hid hRq
    clear hr hstep hcs hc hRq HRq hok
    by_cases hle : c.pos ≤ place
    ·have hle' : decide (c.pos ≤ place) = true := decide_eq_true hle
     have hR := HRq1.out
     rw [if_pos (show (CameV.cm c).2 ≤ place from hle)] at hR
     have hR2 : R = (c.e.key, decide (c.e.op ≠ 3)) := hR.symm
     obtain ⟨KC, hK⟩ : ∃ KC, Lib.byteCells c.e.key = KC := ⟨_, rfl⟩
     rw [hK] at k2 hkl hk1
     have HKK := Lib.hid hK
     have HK2 := Lib.hid k2
     have Hbw := Lib.hid hb
     have hpb : b ≠ p := by have := Hpb.out b rfl; omega
     have HPB := Lib.hid hpb
     have Hkz : Hid ((Tryz.prog.info? 24).map (·.size) = some KC.length) := Lib.hid (by rw [Tryz.sizeKey, hkl])
     have Hkz2 : Hid ((Tryz.prog.info? 24).map (·.size) = some KC.toArray.size) := Lib.hid (by rw [Tryz.sizeKey, List.size_toArray, hkl])
     have Hk1 := Lib.hid hk1
     have HT : Hid (wr.there p 0 KC.toArray.size) := Lib.hid (by rw [show KC.toArray.size = 32 by rw [List.size_toArray, hkl]]; exact hT)
     have HR2 := Lib.hid hR2
     clear k2 hkl hk1 hK hb hpb hT hR hR2 HRq1 hle
     go_wp2_with fail
     refine wp_region_held_drew (S := fun V => Hid (Fr (fun k _ => k = p) wr V)) (by kernel_rfl) (Lib.hid Fr.refl.drew) (fun hHeld => ?_)
     simp only [qL, qL1, qL0, qR, qR1, qR0]
     iterate 5
      refine qt (v := ?_) rfl (Or.inl ⟨by rfl, ?_⟩) hHeld ?_
      rotate_left
      ·intro W hSw
       have h1 := Fr.cell hSw.out k0 (fun _ h => HPB.out h)
       try simp only [qG, qG0, qG1]
       go_simp
       try rw [if_neg (by omega)]
       try with_reducible rfl
      try simp only [Act.put, qS, qS0, qS1, qG, qG0, qG1, qM0, qM1]
     refine qi (i := 5) rfl (yieldsIf_load_mid (by rfl) 24 _ rfl b (q * 71 + 37) rfl KC (.array 32 5) (fun V h => range_fr HK2.out h.out Hbw.out (fun _ h => HPB.out h)) Tryz.underKey rfl Hkz.out) hHeld ?_
     try simp only [Act.put, qS, qS0, qS1, qG, qG0, qG1, qM0, qM1]
     iterate 7
      refine qt (v := ?_) rfl (Or.inl ⟨by rfl, ?_⟩) hHeld ?_
      rotate_left
      ·intro W hSw
       have h1 := Fr.cell hSw.out k0 (fun _ h => HPB.out h)
       try simp only [qG, qG0, qG1]
       go_simp
       try rw [if_neg (by omega)]
       try with_reducible rfl
      try simp only [Act.put, qS, qS0, qS1, qG, qG0, qG1, qM0, qM1]
     refine qr (i := 13) (by kernel_rfl) rfl (fun K hK => ?_)
     try simp only [qG, qG0, qG1]
     rw [if_pos (by rfl)]; refine wp_store_mid 24 (.tmp 6) (.tmp 32) (by rfl) p 0 KC.toArray (by rfl) (by rfl) HT.out Hkz2.out Hk1.out ?_
     refine hK.out _ _ (Lib.hid (hHeld.out.trans' ((setCells_fr p _ _ _).mono (fun _ _ h => h)))) (fun hHeld => ?_)
     clear hK K
     try simp only [Act.put, qS, qS0, qS1, qG, qG0, qG1, qM0, qM1]
     refine qt (v := ?_) rfl (Or.inl ⟨by rfl, ?_⟩) hHeld ?_
     rotate_left
     ·intro W hSw
      have h1 := Fr.cell hSw.out k0 (fun _ h => HPB.out h)
      try simp only [qG, qG0, qG1]
      go_simp
      try rw [if_neg (by omega)]
      try with_reducible rfl
     try simp only [Act.put, qS, qS0, qS1, qG, qG0, qG1, qM0, qM1]
     refine wpAnyH_done (by kernel_rfl) ?_ _
     have HE := Lib.hid (HF1.out.trans hHeld.out (fun k _ hm => .inr (by have h2 : k = p := hm; have := Hp.out; omega)))
     have hld := run_loadVar_mid (P := Tryz.prog) _ p 0 24 KC (.array 32 5) (World.rangeAt_setCells_same wr.drew p 0 KC (by simpa using HT.out)) Tryz.underKey rfl Hkz.out
     clear hHeld
     go_wp2_with fail
     have h3 : (c.e.op != 3) = decide (c.e.op ≠ 3) := by by_cases e : c.e.op = 3 <;> simp [e]
     refine bodyPost_ret (v := .tuple #[.agg KC.toArray, .bool (c.e.op != 3)]) ?_ rfl ⟨by rw [HR2.out, h3]; simp only [HKK.out], HE.out⟩
     rw [results_cell_tmp rfl]
     simp [asAddr, Result.andThen, hld]
    ·have hle' : decide (c.pos ≤ place) = false := decide_eq_false hle
     have hR := HRq1.out
     rw [if_neg (show ¬ (CameV.cm c).2 ≤ place from hle)] at hR
     have HR' := Lib.hid hR
     clear hR HRq1 k2 hkl hk1 k0 hle
     go_wp2_with fail
     go_roundg (q + 1)
     case measure => omega
     case rel => exact ⟨q, by simp [hw1], by omega, by omega, HR', rfl⟩
end Go.Proofs.YtcddlemkimbkcaaGreatDoor
