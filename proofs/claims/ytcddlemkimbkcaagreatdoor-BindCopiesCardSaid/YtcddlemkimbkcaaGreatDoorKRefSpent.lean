/-
 How the document's answer keeps a table (cachetref17: a row of bindings that came): the walks of last and Bound.
-/
import Derived.Test.YtcddlemkimbkcaaGreatDoorKReadCame
import Derived.Test.YtcddlemkimbkcaaGreatDoorKTieBind
import Derived.Test.YtcddlemkimbkcaaGreatDoorKTable2
import Derived.Test.YtcddlemkimbkcaaGreatDoorKNum
namespace Go.Proofs.YtcddlemkimbkcaaGreatDoor
set_option linter.unusedVariables false
set_option linter.unusedSimpArgs false
set_option linter.unusedSectionVars false
open Go.RowKit Go.Shelf
variable [OldK]
/-- a binding and its place, as plain data -/
def CameV.cm (c : CameV) : Cm := (c.e, c.pos)
/-- v is the bindings m, in a row -/
structure CRow (m : List CameV) (v : Value) (w : World) : Prop where
 len : m.length ≤ 1000
 ok : ∀ c ∈ m, c.e.ok
 one : ∀ c ∈ m, c.pv.oneCell' = true ∧ c.sv.oneCell' = true
 at' : ∃ a cap, v = .slice a m.length cap ∧ (m = [] ∨ ∃ b, a = some ⟨b, 0, none⟩ ∧ b < w.heap.size ∧ ∀ i (hi : i < m.length), w.rangeAt b (i * 71) m[i].cells)
theorem CRow.fr {M : Nat → Obj → Prop} {m : List CameV} {v : Value} {w w' : World} (h : CRow m v w) (hF : Fr M w w') (hM : ∀ b o, w.heap[b]? = some o → v.ownBlock = some b → ¬ M b o) : CRow m v w' := by
 obtain ⟨h1, h2, h2', a, cap, rfl, h3⟩ := h
 refine ⟨h1, h2, h2', a, cap, rfl, h3.imp id ?_⟩
 rintro ⟨b, rfl, hb, hr⟩
 obtain ⟨o, ho⟩ := get_some hb
 exact ⟨b, rfl, Nat.lt_of_lt_of_le hb hF.size, fun i hi => range_same (hr i hi) ((hF.block _ _ ho (hM b o ho (by simp [Value.ownBlock]))).trans ho.symm)⟩
theorem CRow.keep {m : List CameV} {v : Value} {w w' : World} (h : CRow m v w) (hF : Fr NoB w w') : CRow m v w' := h.fr hF (fun _ _ _ _ h => h)
theorem CRow.get {m : List CameV} {v : Value} {w : World} (h : CRow m v w) {i : Nat} (hi : i < m.length) : ∃ b cap, v = .slice (some ⟨b, 0, none⟩) m.length cap ∧ b < w.heap.size ∧ w.rangeAt b (i * 71) m[i].cells := by
 obtain ⟨h1, h2, h2', a, cap, rfl, h3⟩ := h
 rcases h3 with rfl | ⟨b, rfl, hb, hr⟩
 ·cases hi
 ·exact ⟨b, cap, rfl, hb, hr i hi⟩
theorem CRow.form {m : List CameV} {v : Value} {w : World} (h : CRow m v w) : ∃ a cap, v = .slice a m.length cap := by
 obtain ⟨h1, h2, h2', a, cap, rfl, h3⟩ := h
 exact ⟨a, cap, rfl⟩
/-- a row's cells, one by one -/
theorem came_at {w : World} {b o : Nat} {c : CameV} (hok : c.e.ok) (h : w.rangeAt b o c.cells) : w.cell? ⟨b, o + 35, none⟩ = some (.int .i64 c.e.op) ∧ w.cell? ⟨b, o + 36, none⟩ = some (.string ⟨c.e.ident.toArray⟩) ∧ w.rangeAt b (o + 37) (Lib.byteCells c.e.key) ∧ w.cell? ⟨b, o + 70, none⟩ = some (.int .i64 c.pos) := by
 obtain ⟨k1, k2, -⟩ := hok
 unfold CameV.cells En.cells at h
 rw [range_append, range_append, range_append, range_append, range_append] at h
 obtain ⟨⟨h0, h1, h2, h3, h4⟩, h5⟩ := h
 simp only [List.length_append, List.length_cons, List.length_nil, byteCells_len, k1, k2, Nat.zero_add, Nat.reduceAdd] at h2 h3 h5
 have e2 := h2 2 (.int .i64 c.e.op) rfl
 have e3 := h2 3 (.string ⟨c.e.ident.toArray⟩) rfl
 have e5 := h5 0 (.int .i64 c.pos) rfl
 refine ⟨?_, ?_, ?_, ?_⟩
 ·rw [← e2]
 ·rw [← e3]
 ·have : o + 1 + 32 + 4 = o + 37 := by omega
  rw [this] at h3
  exact h3
 ·rw [← e5]
theorem rLast_take (cs : List Cm) (n : Bs) (q : Nat) (hq : q < cs.length) : rLast (cs.take (q + 1)) n = if (cs[q]).1.ident = n then some cs[q] else rLast (cs.take q) n := by
 rw [List.take_add_one, List.getElem?_eq_getElem hq]
 exact rLast_append _ _ _
set_option maxRecDepth 100000 in
set_option maxHeartbeats 2000000 in
theorem refLast_c (m : List CameV) (v : Value) (n : Bs) (w : World) (h : CRow m v w) :
 Calls Tryz.prog 116 #[v, .string ⟨n.toArray⟩] w fun e w' => (∃ r : Int, e = .returned (.int .i64 r) ∧ ((r = -1 ∧ rLast (m.map CameV.cm) n = none) ∨ ∃ i : Nat, r = i ∧ ∃ hi : i < m.length, rLast (m.map CameV.cm) n = some m[i].cm)) ∧ w' = w := by
 obtain ⟨a, cap, hv⟩ := h.form
 have hlen := h.len
 obtain ⟨R, hR⟩ : ∃ R, rLast (m.map CameV.cm) n = R := ⟨_, rfl⟩
 rw [hR]
 have hw0 : wrap64 ((m.length : Int) - 1) = (m.length : Int) - 1 := by unfold wrap64; omega
 have Hh := Lib.hid h
 have HR := Lib.hid hR
 subst hv
 clear h hR
 go_enter Tryz.func116, Tryz.ntmps116
 go_wp2_with fail
 go_loopg [5] (m.length + 1) (fun gf vi wr => ∃ p : Nat, vi = .int .i64 ((p : Int) - 1) ∧ p + 1 = gf ∧ p ≤ m.length ∧ Hid (rLast ((m.map CameV.cm).take p) n = R) ∧ wr = w)
 case atStart => exact ⟨m.length, by simp [hw0], rfl, Nat.le_refl _, Lib.hid (by rw [List.take_of_length_le (by simp)]; exact HR.out), rfl⟩
 case round =>
  obtain ⟨p, rfl, hpg, hp, HRp, rfl⟩ := hrel
  cases p with
  | zero =>
    have h0 : rLast ((m.map CameV.cm).take 0) n = none := rfl
    have hn := h0.symm.trans HRp.out
    have Hn := Lib.hid hn
    clear hn h0
    go_wp2_with fail
    go_ret
    exact ⟨⟨-1, rfl, .inl ⟨rfl, Hn.out.symm⟩⟩, rfl⟩
  | succ q =>
    obtain ⟨b, cap', hv', hb, hr⟩ := Hh.out.get (i := q) (by omega)
    injection hv' with e1 e2 e3
    subst e1 e3
    obtain ⟨-, k1, -, -⟩ := came_at (Hh.out.ok _ (List.getElem_mem (by omega))) hr
    have hcs : (m.map CameV.cm)[q]'(by simp; omega) = m[q].cm := by simp
    have hstep := rLast_take (m.map CameV.cm) n q (by simp; omega)
    rw [hcs, HRp.out] at hstep
    have Hstep := Lib.hid hstep
    have hq1 : ((q + 1 : Nat) : Int) - 1 = (q : Int) := by omega
    have hw1 : wrap64 ((q : Int) - 1) = (q : Int) - 1 := by unfold wrap64; omega
    rw [hq1]
    have hql : q < m.length := by omega
    obtain ⟨c, hc⟩ : ∃ c, m[q] = c := ⟨_, rfl⟩
    have Hc := Lib.hid hc
    rw [hc] at k1
    clear hr hstep hcs hc
    cases hx : (c.e.ident == n) with
    | true =>
      have Hx := Lib.hid hx
      go_wp2_with fail
      go_ret
      refine ⟨⟨q, rfl, .inr ⟨q, rfl, hql, ?_⟩⟩, rfl⟩
      have h1 := Hstep.out
      have h2 : c.e.ident = n := by simpa using Hx.out
      rw [Hc.out, if_pos (show (CameV.cm c).1.ident = n from h2)] at h1
      rw [Hc.out]
      exact h1
    | false =>
      have Hx := Lib.hid hx
      go_wp2_with fail
      go_roundg (q + 1)
      case measure => omega
      case rel =>
       refine ⟨q, by simp [hw1], by omega, by omega, Lib.hid ?_, rfl⟩
       have h1 := Hstep.out
       have h2 : ¬ c.e.ident = n := by simpa using Hx.out
       rw [Hc.out, if_neg (show ¬ (CameV.cm c).1.ident = n from h2)] at h1
       exact h1.symm
end Go.Proofs.YtcddlemkimbkcaaGreatDoor
namespace Go.Proofs.YtcddlemkimbkcaaGreatDoor
set_option linter.unusedVariables false
set_option linter.unusedSimpArgs false
set_option linter.unusedSectionVars false
open Go.RowKit Go.Shelf
variable [OldK]
theorem z32s : (Tryz.prog.info? 24).map (·.size) = some (#[.int .u8 0, .int .u8 0, .int .u8 0, .int .u8 0, .int .u8 0, .int .u8 0, .int .u8 0, .int .u8 0, .int .u8 0, .int .u8 0, .int .u8 0, .int .u8 0, .int .u8 0, .int .u8 0, .int .u8 0, .int .u8 0, .int .u8 0, .int .u8 0, .int .u8 0, .int .u8 0, .int .u8 0, .int .u8 0, .int .u8 0, .int .u8 0, .int .u8 0, .int .u8 0, .int .u8 0, .int .u8 0, .int .u8 0, .int .u8 0, .int .u8 0, .int .u8 0] : Array Value).size := by kernel_rfl
theorem z32a : (#[.int .u8 0, .int .u8 0, .int .u8 0, .int .u8 0, .int .u8 0, .int .u8 0, .int .u8 0, .int .u8 0, .int .u8 0, .int .u8 0, .int .u8 0, .int .u8 0, .int .u8 0, .int .u8 0, .int .u8 0, .int .u8 0, .int .u8 0, .int .u8 0, .int .u8 0, .int .u8 0, .int .u8 0, .int .u8 0, .int .u8 0, .int .u8 0, .int .u8 0, .int .u8 0, .int .u8 0, .int .u8 0, .int .u8 0, .int .u8 0, .int .u8 0, .int .u8 0] : Array Value).all (·.oneCell') = true := by kernel_rfl
theorem built_zero (w : World) : (Instr.build 24 #[]).run Tryz.prog w = .ok (.agg #[.int .u8 0, .int .u8 0, .int .u8 0, .int .u8 0, .int .u8 0, .int .u8 0, .int .u8 0, .int .u8 0, .int .u8 0, .int .u8 0, .int .u8 0, .int .u8 0, .int .u8 0, .int .u8 0, .int .u8 0, .int .u8 0, .int .u8 0, .int .u8 0, .int .u8 0, .int .u8 0, .int .u8 0, .int .u8 0, .int .u8 0, .int .u8 0, .int .u8 0, .int .u8 0, .int .u8 0, .int .u8 0, .int .u8 0, .int .u8 0, .int .u8 0, .int .u8 0]) w := run_build w 24 _ _ (by kernel_rfl)
theorem hld_new (w : World) (C : List Value) (h : C.length = 32) : (loadVar 24 ⟨w.heap.size, 0, none⟩).run Tryz.prog (w.alloc (.cells C.toArray 24)) = .ok (.agg C.toArray) (w.alloc (.cells C.toArray 24)) := by
 have hR := range_block (heap_alloc_new w (.cells C.toArray 24))
 rw [List.toList_toArray] at hR
 exact run_loadVar_mid _ _ 0 24 C (.array 32 5) hR Tryz.underKey rfl (by rw [Tryz.sizeKey, h])
set_option maxRecDepth 100000 in
set_option maxHeartbeats 2000000 in
theorem refBound_c (m : List CameV) (v : Value) (n : Bs) (w : World) (h : CRow m v w) :
 Calls Tryz.prog 69 #[v, .string ⟨n.toArray⟩] w fun e w' => e = .returned (.tuple #[.agg (Lib.byteCells (rBound (m.map CameV.cm) n).1).toArray, .bool (rBound (m.map CameV.cm) n).2]) ∧ Fr NoB w w' := by
 have hF : Fr NoB w (w.alloc (.cells #[.int .u8 0, .int .u8 0, .int .u8 0, .int .u8 0, .int .u8 0, .int .u8 0, .int .u8 0, .int .u8 0, .int .u8 0, .int .u8 0, .int .u8 0, .int .u8 0, .int .u8 0, .int .u8 0, .int .u8 0, .int .u8 0, .int .u8 0, .int .u8 0, .int .u8 0, .int .u8 0, .int .u8 0, .int .u8 0, .int .u8 0, .int .u8 0, .int .u8 0, .int .u8 0, .int .u8 0, .int .u8 0, .int .u8 0, .int .u8 0, .int .u8 0, .int .u8 0] 24)) := Fr.refl.alloc _
 have hW := h.keep hF
 have hlast := refLast_c m v n _ hW
 obtain ⟨R, hR⟩ : ∃ R, rBound (m.map CameV.cm) n = R := ⟨_, rfl⟩
 rw [hR]
 unfold rBound at hR
 have HR := Lib.hid hR
 have HF := Lib.hid hF
 have HW := Lib.hid hW
 have Hlast := Lib.hid hlast
 have Hz := Lib.hid (hld_new w (Lib.byteCells zero32) rfl)
 rw [z32_cells] at Hz
 clear hR hF hW hlast h
 go_enter Tryz.func69, Tryz.ntmps69
 go_wp2_with fail
 refine Hlast.out.mono ?_
 rintro e w1 ⟨⟨r, rfl, hr⟩, rfl⟩
 rcases hr with ⟨rfl, hn⟩ | ⟨i, rfl, hi, hn⟩
 ·have h2 : R = (zero32, false) := by rw [← HR.out, hn]
  subst h2
  clear hn
  go_wp2_with ((with_reducible refine wpList_store_new (w := w) rfl 24 _ _ rfl #[.int .u8 0, .int .u8 0, .int .u8 0, .int .u8 0, .int .u8 0, .int .u8 0, .int .u8 0, .int .u8 0, .int .u8 0, .int .u8 0, .int .u8 0, .int .u8 0, .int .u8 0, .int .u8 0, .int .u8 0, .int .u8 0, .int .u8 0, .int .u8 0, .int .u8 0, .int .u8 0, .int .u8 0, .int .u8 0, .int .u8 0, .int .u8 0, .int .u8 0, .int .u8 0, .int .u8 0, .int .u8 0, .int .u8 0, .int .u8 0, .int .u8 0, .int .u8 0] #[.int .u8 0, .int .u8 0, .int .u8 0, .int .u8 0, .int .u8 0, .int .u8 0, .int .u8 0, .int .u8 0, .int .u8 0, .int .u8 0, .int .u8 0, .int .u8 0, .int .u8 0, .int .u8 0, .int .u8 0, .int .u8 0, .int .u8 0, .int .u8 0, .int .u8 0, .int .u8 0, .int .u8 0, .int .u8 0, .int .u8 0, .int .u8 0, .int .u8 0, .int .u8 0, .int .u8 0, .int .u8 0, .int .u8 0, .int .u8 0, .int .u8 0, .int .u8 0] w.heap.size rfl ?_ ?_ z32s rfl z32a ?_); rfl; rfl)
  refine bodyPost_ret (v := .tuple #[.agg #[.int .u8 0, .int .u8 0, .int .u8 0, .int .u8 0, .int .u8 0, .int .u8 0, .int .u8 0, .int .u8 0, .int .u8 0, .int .u8 0, .int .u8 0, .int .u8 0, .int .u8 0, .int .u8 0, .int .u8 0, .int .u8 0, .int .u8 0, .int .u8 0, .int .u8 0, .int .u8 0, .int .u8 0, .int .u8 0, .int .u8 0, .int .u8 0, .int .u8 0, .int .u8 0, .int .u8 0, .int .u8 0, .int .u8 0, .int .u8 0, .int .u8 0, .int .u8 0], .bool false]) ?_ rfl ⟨rfl, HF.out⟩
  rw [results_cell_tmp rfl]
  simp [asAddr, Result.andThen, Hz.out]
 ·obtain ⟨b, cap, rfl, hb, hrg⟩ := HW.out.get hi
  have hok := HW.out.ok _ (List.getElem_mem hi)
  obtain ⟨k0, -, k2, -⟩ := came_at hok hrg
  have hcm : rLast (m.map CameV.cm) n = some (m[i].e, m[i].pos) := hn
  have h2 := HR.out
  rw [hcm] at h2
  simp only at h2
  obtain ⟨c, hc⟩ : ∃ c, m[i] = c := ⟨_, rfl⟩
  rw [hc] at k0 k2 h2 hok
  have hkl : (Lib.byteCells c.e.key).length = 32 := by rw [byteCells_len]; exact hok.2.1
  have hk1 := all_oneCell_toArray (cells_one c.e.key)
  clear hn hcm hrg hc hok
  by_cases h3 : c.e.op = 3
  ·rw [if_pos h3] at h2
   subst h2
   rw [h3] at k0
   clear hkl hk1 k2
   go_wp2_with ((with_reducible refine wpList_store_new (w := w) rfl 24 _ _ rfl #[.int .u8 0, .int .u8 0, .int .u8 0, .int .u8 0, .int .u8 0, .int .u8 0, .int .u8 0, .int .u8 0, .int .u8 0, .int .u8 0, .int .u8 0, .int .u8 0, .int .u8 0, .int .u8 0, .int .u8 0, .int .u8 0, .int .u8 0, .int .u8 0, .int .u8 0, .int .u8 0, .int .u8 0, .int .u8 0, .int .u8 0, .int .u8 0, .int .u8 0, .int .u8 0, .int .u8 0, .int .u8 0, .int .u8 0, .int .u8 0, .int .u8 0, .int .u8 0] #[.int .u8 0, .int .u8 0, .int .u8 0, .int .u8 0, .int .u8 0, .int .u8 0, .int .u8 0, .int .u8 0, .int .u8 0, .int .u8 0, .int .u8 0, .int .u8 0, .int .u8 0, .int .u8 0, .int .u8 0, .int .u8 0, .int .u8 0, .int .u8 0, .int .u8 0, .int .u8 0, .int .u8 0, .int .u8 0, .int .u8 0, .int .u8 0, .int .u8 0, .int .u8 0, .int .u8 0, .int .u8 0, .int .u8 0, .int .u8 0, .int .u8 0, .int .u8 0] w.heap.size rfl ?_ ?_ z32s rfl z32a ?_); rfl; rfl)
   refine bodyPost_ret (v := .tuple #[.agg #[.int .u8 0, .int .u8 0, .int .u8 0, .int .u8 0, .int .u8 0, .int .u8 0, .int .u8 0, .int .u8 0, .int .u8 0, .int .u8 0, .int .u8 0, .int .u8 0, .int .u8 0, .int .u8 0, .int .u8 0, .int .u8 0, .int .u8 0, .int .u8 0, .int .u8 0, .int .u8 0, .int .u8 0, .int .u8 0, .int .u8 0, .int .u8 0, .int .u8 0, .int .u8 0, .int .u8 0, .int .u8 0, .int .u8 0, .int .u8 0, .int .u8 0, .int .u8 0], .bool false]) ?_ rfl ⟨rfl, HF.out⟩
   rw [results_cell_tmp rfl]
   simp [asAddr, Result.andThen, Hz.out]
  ·rw [if_neg h3] at h2
   have h3' : (c.e.op == 3) = false := by simpa using h3
   subst h2
   obtain ⟨K, hK⟩ : ∃ K, Lib.byteCells c.e.key = K := ⟨_, rfl⟩
   simp only [hK] at k2 hkl hk1
   have HKK := Lib.hid hK
   have HK2 := Lib.hid k2
   have Hkz : Hid ((Tryz.prog.info? 24).map (·.size) = some K.length) := Lib.hid (by rw [Tryz.sizeKey, hkl])
   have Hkz2 : Hid ((Tryz.prog.info? 24).map (·.size) = some K.toArray.size) := Lib.hid (by rw [Tryz.sizeKey, List.size_toArray, hkl])
   have Hkz3 : Hid ((#[.int .u8 0, .int .u8 0, .int .u8 0, .int .u8 0, .int .u8 0, .int .u8 0, .int .u8 0, .int .u8 0, .int .u8 0, .int .u8 0, .int .u8 0, .int .u8 0, .int .u8 0, .int .u8 0, .int .u8 0, .int .u8 0, .int .u8 0, .int .u8 0, .int .u8 0, .int .u8 0, .int .u8 0, .int .u8 0, .int .u8 0, .int .u8 0, .int .u8 0, .int .u8 0, .int .u8 0, .int .u8 0, .int .u8 0, .int .u8 0, .int .u8 0, .int .u8 0] : Array Value).size = K.toArray.size) := Lib.hid (by rw [show K.toArray.size = 32 by rw [List.size_toArray, hkl]]; rfl)
   have Hk1 := Lib.hid hk1
   have HzK := Lib.hid (hld_new w K hkl)
   have HFK : Hid (Fr NoB w (w.alloc (.cells K.toArray 24))) := Lib.hid (Fr.refl.alloc _)
   clear hk1 k2 hkl hK h3 Hz
   go_wp2_with (first
    | (with_reducible refine wpList_load_mid rfl 24 _ rfl b (i * 71 + 37) rfl K (.array 32 5) HK2.out Tryz.underKey rfl Hkz.out ?_)
    | ((with_reducible refine wpList_store_new (w := w) rfl 24 _ _ rfl #[.int .u8 0, .int .u8 0, .int .u8 0, .int .u8 0, .int .u8 0, .int .u8 0, .int .u8 0, .int .u8 0, .int .u8 0, .int .u8 0, .int .u8 0, .int .u8 0, .int .u8 0, .int .u8 0, .int .u8 0, .int .u8 0, .int .u8 0, .int .u8 0, .int .u8 0, .int .u8 0, .int .u8 0, .int .u8 0, .int .u8 0, .int .u8 0, .int .u8 0, .int .u8 0, .int .u8 0, .int .u8 0, .int .u8 0, .int .u8 0, .int .u8 0, .int .u8 0] K.toArray w.heap.size rfl ?_ ?_ Hkz2.out Hkz3.out Hk1.out ?_); rfl; rfl))
   refine bodyPost_ret (v := .tuple #[.agg K.toArray, .bool true]) ?_ rfl ⟨by simp only [HKK.out], HFK.out⟩
   rw [results_cell_tmp rfl]
   simp [asAddr, Result.andThen, HzK.out]
end Go.Proofs.YtcddlemkimbkcaaGreatDoor
namespace Go.Proofs.YtcddlemkimbkcaaGreatDoor
set_option linter.unusedVariables false
set_option linter.unusedSimpArgs false
set_option linter.unusedSectionVars false
open Go.RowKit Go.Shelf
variable [OldK]
theorem drop_find {cs : List Cm} {k : Bs} {i : Nat} (hi : i < cs.length) : (cs.drop i).find? (hits k) = if hits k cs[i] then some cs[i] else (cs.drop (i + 1)).find? (hits k) := by
 rw [List.drop_eq_getElem_cons hi, List.find?_cons]
 cases hits k cs[i] <;> rfl
theorem rBound_len {m : List CameV} (h : ∀ c ∈ m, c.e.ok) (n : Bs) : (rBound (m.map CameV.cm) n).1.length = 32 := by
 unfold rBound
 cases hl : rLast (m.map CameV.cm) n with
 | none => rfl
 | some c =>
   simp only
   split
   ·rfl
   ·obtain ⟨c', hc, rfl⟩ := List.mem_map.1 (rLast_mem hl).1
    exact (h c' hc).2.1
def spentOf (m : List Cm) (k : Bs) : Option Cm → Bool
 | some c => !(rBound m c.1.ident).2 || decide ((rBound m c.1.ident).1 ≠ k)
 | none => false
theorem rSpent_of (m : List Cm) (k : Bs) : rSpent m k = spentOf m k (m.find? (hits k)) := by
 unfold rSpent
 cases m.find? (hits k) <;> rfl
set_option maxRecDepth 100000 in
set_option maxHeartbeats 2000000 in
theorem refSpent_c (m : List CameV) (v : Value) (k : Bs) (w : World) (h : CRow m v w) (hk : k.length = 32) :
 Calls Tryz.prog 77 #[v, .agg (Lib.byteCells k).toArray] w fun e w' => e = .returned (.bool (rSpent (m.map CameV.cm) k)) ∧ Fr NoB w w' := by
 have hF : Fr NoB w (w.alloc (.cells (Lib.byteCells k).toArray 24)) := Fr.refl.alloc _
 have hR := range_block (heap_alloc_new w (.cells (Lib.byteCells k).toArray 24))
 rw [List.toList_toArray] at hR
 have hZ : (Tryz.prog.info? 24).map (·.size) = some (Lib.byteCells k).length := by rw [Tryz.sizeKey, byteCells_len, hk]
 have hC := h.keep hF
 obtain ⟨a, cap, hv⟩ := h.form
 have hlen := h.len
 have hpW : w.heap.size < (w.alloc (.cells (Lib.byteCells k).toArray 24)).heap.size := by rw [World.size_alloc]; omega
 obtain ⟨F, hFd⟩ : ∃ F, (m.map CameV.cm).find? (hits k) = F := ⟨_, rfl⟩
 have hRS := rSpent_of (m.map CameV.cm) k
 rw [hFd] at hRS
 obtain ⟨RS, hRSe⟩ : ∃ x, rSpent (m.map CameV.cm) k = x := ⟨_, rfl⟩
 rw [hRSe] at hRS ⊢
 obtain ⟨C, hCe⟩ : ∃ C, Lib.byteCells k = C := ⟨_, rfl⟩
 rw [hCe] at hF hR hZ hC hpW ⊢
 have HCe := Lib.hid hCe
 have HRS := Lib.hid hRS
 have HFd := Lib.hid hFd
 clear h hRS hFd hRSe hCe
 subst hv
 go_enter Tryz.func77, Tryz.ntmps77
 go_upto_region 1 with (fail)
 change Code.wp _ _ _ _ (w.alloc (.cells C.toArray 24))
 obtain ⟨W, hW⟩ : ∃ W, w.alloc (.cells C.toArray 24) = W := ⟨_, rfl⟩
 rw [hW] at hF hR hC hpW ⊢
 obtain ⟨p, hp⟩ : ∃ p, w.heap.size = p := ⟨_, rfl⟩
 rw [hp] at hR hpW ⊢
 clear hW hp
 have HR := Lib.hid hR
 have HF := Lib.hid hF
 have HZ := Lib.hid hZ
 have HC := Lib.hid hC
 have HpW := Lib.hid hpW
 clear hR hF hZ hC hpW
 go_wp2_with fail
 go_loopg [5] (m.length + 1) (fun gf vi wr => ∃ i : Nat, vi = .int .i64 i ∧ i ≤ m.length ∧ i + gf = m.length + 1 ∧ Hid (((m.map CameV.cm).drop i).find? (hits k) = F) ∧ Hid (Fr NoB W wr))
 case atStart => exact ⟨0, rfl, by omega, by omega, HFd, Lib.hid Fr.refl⟩
 case round =>
  obtain ⟨i, rfl, hi, hig, HD, HFr⟩ := hrel
  by_cases hlt : i < m.length
  ·have hlti : decide ((i : Int) < m.length) = true := decide_eq_true (by omega)
   have hwr : wrap64 ((i : Int) + 1) = (i : Int) + 1 := by unfold wrap64; omega
   have hCr := HC.out.keep HFr.out
   obtain ⟨b, cap', hv', hb, hr⟩ := hCr.get hlt
   injection hv' with e1 e2 e3
   subst e1 e3
   have hok := hCr.ok _ (List.getElem_mem hlt)
   obtain ⟨k0, k1, k2, -⟩ := came_at hok hr
   have hdf := drop_find (k := k) (cs := m.map CameV.cm) (i := i) (by simpa using hlt)
   rw [List.getElem_map, HD.out] at hdf
   obtain ⟨c, hc⟩ : ∃ c, m[i] = c := ⟨_, rfl⟩
   rw [hc] at k0 k1 k2 hok hdf
   have hkl : (Lib.byteCells c.e.key).length = 32 := by rw [byteCells_len]; exact hok.2.1
   have heq := fun V => eql_key c.e.key k hok.2.1 hk V
   simp only [HCe.out] at heq
   obtain ⟨K, hK⟩ : ∃ K, Lib.byteCells c.e.key = K := ⟨_, rfl⟩
   rw [hK] at k2 hkl
   simp only [hK] at heq
   have HK2 := Lib.hid k2
   have Hbw := Lib.hid hb
   have Hkz : Hid ((Tryz.prog.info? 24).map (·.size) = some K.length) := Lib.hid (by rw [Tryz.sizeKey, hkl])
   have Heq := Lib.hid heq
   have Hdf := Lib.hid hdf
   have HCr := Lib.hid hCr
   clear hr hok k2 hkl heq hdf hK hc hb hCr
   by_cases h3 : c.e.op = 3
   ·have hh : hits k c.cm = false := by simp [hits, CameV.cm, h3]
    have hdf := Hdf.out
    rw [hh] at hdf
    have HD1 := Lib.hid hdf.symm
    rw [h3] at k0
    clear hdf Hdf hh h3
    go_wp2_with fail
    refine wp_region_held_drew (S := fun V => Hid (Fr NoB wr V)) (by kernel_rfl) (Lib.hid Fr.refl.drew) (fun hHeld => ?_)
    simp only [qL, qL1, qL0, qR, qR1, qR0]
    iterate 17
     first
     | refine qt (v := undef) rfl (Or.inr ⟨by rfl, rfl⟩) hHeld ?_
       try simp only [Act.put, qS, qS0, qS1, qG, qG0, qG1, qM0, qM1]
     | refine qt (v := ?_) rfl (Or.inl ⟨by rfl, ?_⟩) hHeld ?_
       rotate_left
       ·intro W hSw
        have h1 := Fr.cell hSw.out k0 (fun _ h => h)
        try simp only [qG, qG0, qG1]
        go_simp
        try rw [if_neg (by omega)]
        try with_reducible rfl
       try simp only [Act.put, qS, qS0, qS1, qG, qG0, qG1, qM0, qM1]
    refine wpAnyH_done (by kernel_rfl) ?_ _
    have HE := Lib.hid (HFr.out.trans' hHeld.out)
    clear hHeld
    go_wp2_with fail
    go_roundg (gk - 1)
    case measure => omega
    case rel => exact ⟨i + 1, by simp [hwr], by omega, by omega, Lib.hid (by simpa using HD1.out), HE⟩
   ·have h3' : (c.e.op != 3) = true := by simpa using h3
    by_cases hke : c.e.key = k
    ·have hh : hits k c.cm = true := by simp [hits, CameV.cm, h3, hke]
     have hdf := Hdf.out
     rw [hh] at hdf
     have hRSo := HRS.out
     rw [hdf] at hRSo
     simp only [if_true, spentOf] at hRSo
     rw [show (c.cm).1.ident = c.e.ident from rfl] at hRSo
     have heq2 : (c.e.key == k) = true := by simpa using hke
     rw [heq2] at Heq
     obtain ⟨⟨bk, bh⟩, hbk⟩ : ∃ x, rBound (m.map CameV.cm) c.e.ident = x := ⟨_, rfl⟩
     rw [hbk] at hRSo
     have HRSo := Lib.hid hRSo
     have Hbk := Lib.hid hbk
     have Hcr := HCr
     clear hdf Hdf hh hRSo hbk HRS
     go_wp2_with fail
     refine wp_region_held_drew (S := fun V => Hid (Fr NoB wr V)) (by kernel_rfl) (Lib.hid Fr.refl.drew) (fun hHeld => ?_)
     simp only [qL, qL1, qL0, qR, qR1, qR0]
     iterate 13
      refine qt (v := ?_) rfl (Or.inl ⟨by rfl, ?_⟩) hHeld ?_
      rotate_left
      ·intro W hSw
       have h1 := Fr.cell hSw.out k0 (fun _ h => h); have heq := Heq.out
       try simp only [qG, qG0, qG1]
       go_simp
       try rw [if_neg (by omega)]
       try with_reducible rfl
      try simp only [Act.put, qS, qS0, qS1, qG, qG0, qG1, qM0, qM1]
     refine qi (i := 13) rfl (yieldsIf_load_mid (by rfl) 24 _ rfl b (i * 71 + 37) rfl K (.array 32 5) (fun V h => range_fr HK2.out h.out Hbw.out (fun _ h => h)) Tryz.underKey rfl Hkz.out) hHeld ?_
     try simp only [Act.put, qS, qS0, qS1, qG, qG0, qG1, qM0, qM1]
     refine qi (i := 14) rfl (yieldsIf_load_mid (by rfl) 24 _ rfl p 0 rfl C (.array 32 5) (fun V h => range_fr HR.out (HFr.out.trans' h.out) HpW.out (fun _ h => h)) Tryz.underKey rfl HZ.out) hHeld ?_
     try simp only [Act.put, qS, qS0, qS1, qG, qG0, qG1, qM0, qM1]
     iterate 2
      refine qt (v := ?_) rfl (Or.inl ⟨by rfl, ?_⟩) hHeld ?_
      rotate_left
      ·intro W hSw
       have h1 := Fr.cell hSw.out k0 (fun _ h => h); have heq := Heq.out
       try simp only [qG, qG0, qG1]
       go_simp
       try rw [if_neg (by omega)]
       try with_reducible rfl
      try simp only [Act.put, qS, qS0, qS1, qG, qG0, qG1, qM0, qM1]
     refine wpAnyH_done (by kernel_rfl) ?_ _
     have hFx := HFr.out.trans' hHeld.out
     have hbnd := refBound_c m _ c.e.ident wr.drew (HC.out.keep hFx)
     have hbl := rBound_len HC.out.ok c.e.ident
     rw [Hbk.out] at hbnd hbl
     have k1d := Fr.cell hHeld.out k1 (fun _ h => h)
     have hneq := fun V => neq_key bk k hbl hk V
     have heqi := fun V => eqIn_key bk k hbl hk V
     have hkl := byteCells_len bk
     rw [hbl] at hkl
     have ho1 := all_oneCell_toArray (cells_one bk)
     obtain ⟨KB, hKB⟩ : ∃ x, Lib.byteCells bk = x := ⟨_, rfl⟩
     simp only [hKB] at hbnd hkl ho1 hneq heqi
     simp only [HCe.out] at hneq heqi
     have Hbnd := Lib.hid hbnd
     have Hkz1 : Hid ((Tryz.prog.info? 24).map (·.size) = some KB.length) := Lib.hid (by rw [Tryz.sizeKey, hkl])
     have Hkz2 : Hid ((Tryz.prog.info? 24).map (·.size) = some KB.toArray.size) := Lib.hid (by rw [Tryz.sizeKey, List.size_toArray, hkl])
     have Hkz3 : Hid ((#[.int .u8 0, .int .u8 0, .int .u8 0, .int .u8 0, .int .u8 0, .int .u8 0, .int .u8 0, .int .u8 0, .int .u8 0, .int .u8 0, .int .u8 0, .int .u8 0, .int .u8 0, .int .u8 0, .int .u8 0, .int .u8 0, .int .u8 0, .int .u8 0, .int .u8 0, .int .u8 0, .int .u8 0, .int .u8 0, .int .u8 0, .int .u8 0, .int .u8 0, .int .u8 0, .int .u8 0, .int .u8 0, .int .u8 0, .int .u8 0, .int .u8 0, .int .u8 0] : Array Value).size = KB.toArray.size) := Lib.hid (by rw [show KB.toArray.size = 32 by rw [List.size_toArray, hkl]]; rfl)
     have Ho1 := Lib.hid ho1
     have HFx := Lib.hid hFx
     have Hneq := Lib.hid hneq
     have Heqi := Lib.hid heqi
     clear hHeld k0 k1 hFx hbnd hbl hkl ho1 hKB hneq heqi
     go_wp2_with fail
     refine Hbnd.out.mono ?_
     rintro r w7 ⟨rfl, hF7⟩
     have hF78 := hF7.alloc (.cells KB.toArray 24)
     have hq8 := range_block (heap_alloc_new w7 (.cells KB.toArray 24))
     rw [List.toList_toArray] at hq8
     clear Hbnd
     go_upto_region 6 with ((with_reducible refine wpList_store_new (w := w7) rfl 24 _ _ rfl _ KB.toArray w7.heap.size rfl ?_ ?_ Hkz2.out Hkz3.out Ho1.out ?_); rfl; rfl)
     change Code.wp _ _ _ _ (w7.alloc (.cells KB.toArray 24))
     obtain ⟨w8, hw8⟩ : ∃ V, w7.alloc (.cells KB.toArray 24) = V := ⟨_, rfl⟩
     rw [hw8] at hF78 hq8 ⊢
     obtain ⟨q8, hq8e⟩ : ∃ x, w7.heap.size = x := ⟨_, rfl⟩
     rw [hq8e] at hq8 ⊢
     have HQ8 := Lib.hid hq8
     have hFW := HFx.out.trans' hF78
     have HRp := Lib.hid (range_fr HR.out hFW HpW.out (fun _ h => h))
     have HE := Lib.hid (HF.out.trans' hFW)
     clear hF7 hF78 hq8 hw8 hq8e hFW
     cases bh with
     | false =>
       have h2 := HRSo.out
       simp only [Bool.not_false, Bool.true_or] at h2
       subst h2
       go_wp2_with fail
       go_ret
       exact ⟨rfl, HE.out⟩
     | true =>
       have h2 := HRSo.out
       have h4 : (bk != k) = decide (bk ≠ k) := by by_cases e : bk = k <;> simp [e]
       simp only [Bool.not_true, Bool.false_or] at h2
       subst h2
       have hneq := Hneq.out w8
       have heqi := Heqi.out w8
       rw [h4] at hneq
       clear h4
       go_wp2_with (first
        | (with_reducible refine wpList_load_g 24 _ rfl q8 0 rfl KB (.array 32 5) HQ8.out Tryz.underKey rfl Hkz1.out rfl ?_)
        | (with_reducible refine wpList_load_g 24 _ rfl p 0 rfl C (.array 32 5) HRp.out Tryz.underKey rfl HZ.out rfl ?_))
       go_ret
       refine ⟨?_, HE.out⟩
       by_cases e : bk = k <;> simp [e]
    ·have hh : hits k c.cm = false := by simp [hits, CameV.cm, hke]
     have hdf := Hdf.out
     rw [hh] at hdf
     have HD1 := Lib.hid hdf.symm
     have heq2 : (c.e.key == k) = false := by simpa using hke
     rw [heq2] at Heq
     clear hdf Hdf hh h3
     go_wp2_with fail
     refine wp_region_held_drew (S := fun V => Hid (Fr NoB wr V)) (by kernel_rfl) (Lib.hid Fr.refl.drew) (fun hHeld => ?_)
     simp only [qL, qL1, qL0, qR, qR1, qR0]
     iterate 13
      refine qt (v := ?_) rfl (Or.inl ⟨by rfl, ?_⟩) hHeld ?_
      rotate_left
      ·intro W hSw
       have h1 := Fr.cell hSw.out k0 (fun _ h => h); have heq := Heq.out
       try simp only [qG, qG0, qG1]
       go_simp
       try rw [if_neg (by omega)]
       try with_reducible rfl
      try simp only [Act.put, qS, qS0, qS1, qG, qG0, qG1, qM0, qM1]
     refine qi (i := 13) rfl (yieldsIf_load_mid (by rfl) 24 _ rfl b (i * 71 + 37) rfl K (.array 32 5) (fun V h => range_fr HK2.out h.out Hbw.out (fun _ h => h)) Tryz.underKey rfl Hkz.out) hHeld ?_
     try simp only [Act.put, qS, qS0, qS1, qG, qG0, qG1, qM0, qM1]
     refine qi (i := 14) rfl (yieldsIf_load_mid (by rfl) 24 _ rfl p 0 rfl C (.array 32 5) (fun V h => range_fr HR.out (HFr.out.trans' h.out) HpW.out (fun _ h => h)) Tryz.underKey rfl HZ.out) hHeld ?_
     try simp only [Act.put, qS, qS0, qS1, qG, qG0, qG1, qM0, qM1]
     iterate 2
      refine qt (v := ?_) rfl (Or.inl ⟨by rfl, ?_⟩) hHeld ?_
      rotate_left
      ·intro W hSw
       have h1 := Fr.cell hSw.out k0 (fun _ h => h); have heq := Heq.out
       try simp only [qG, qG0, qG1]
       go_simp
       try rw [if_neg (by omega)]
       try with_reducible rfl
      try simp only [Act.put, qS, qS0, qS1, qG, qG0, qG1, qM0, qM1]
     refine wpAnyH_done (by kernel_rfl) ?_ _
     have HE := Lib.hid (HFr.out.trans' hHeld.out)
     clear hHeld
     go_wp2_with fail
     go_roundg (gk - 1)
     case measure => omega
     case rel => exact ⟨i + 1, by simp [hwr], by omega, by omega, Lib.hid (by simpa using HD1.out), HE⟩
  ·have hlti : decide ((i : Int) < m.length) = false := decide_eq_false (by omega)
   have h0 : ((m.map CameV.cm).drop i).find? (hits k) = none := by rw [List.drop_eq_nil_of_le (by simp; omega)]; rfl
   have h1 := HD.out
   rw [h0] at h1
   have h2 := HRS.out
   rw [← h1] at h2
   simp only [spentOf] at h2
   subst h2
   have HE := Lib.hid (HF.out.trans' HFr.out)
   clear h0 h1
   go_wp2_with fail
   go_ret
   exact ⟨rfl, HE.out⟩
end Go.Proofs.YtcddlemkimbkcaaGreatDoor
