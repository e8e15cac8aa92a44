/-
  How an entry lies in a block of its own: its cells read and written.
-/
import Derived.Test.YtcddlemkimbkcaaGreatDoorKArr
import Derived.Test.YtcddlemkimbkcaaGreatDoorKSpecCheck
namespace Go.Proofs.YtcddlemkimbkcaaGreatDoor
set_option linter.unusedVariables false
set_option linter.unusedSimpArgs false
set_option linter.unusedSectionVars false
open Go.RowKit
variable [OldK]
theorem range_put {w : World} {b : Nat} (xs ys zs vs : List Value) (h : w.rangeAt b 0 (xs ++ (ys ++ zs))) (hl : vs.length = ys.length) : (w.setCells b xs.length vs).rangeAt b 0 (xs ++ (vs ++ zs)) := by
  rw [range_append, range_append] at h ⊢
  obtain ⟨h1, h2, h3⟩ := h
  rw [Nat.zero_add] at h2 h3 ⊢
  have h2' := h2
  refine ⟨World.rangeAt_setCells_apart h1 _ _ _ (.inr (.inl (by omega))), fun j v hv => ?_, ?_⟩
  · have hj : j < vs.length := (List.getElem?_eq_some_iff.1 hv).1
    rw [World.cell?_setCells_in b vs _ w (fun i hi => h2.isSome i (by omega)) j hj, ← hv, List.getElem?_eq_getElem hj]
  · rw [hl]
    exact World.rangeAt_setCells_apart h3 _ _ _ (.inr (.inr (by omega)))
theorem there_setCell {w : World} {b o n : Nat} (h : w.there b o n) (b' o' : Nat) (v : Value) : (w.setCell ⟨b', o', none⟩ v).there b o n := World.there_setCells h b' o' [v]
section
variable {e : En} {pv sv : Value} {w : World} {b : Nat}
theorem byteCells_len (l : Bs) : (Lib.byteCells l).length = l.length := by simp [Lib.byteCells]
theorem En.parts (h : e.ok) (hw : w.rangeAt b 0 (e.cells pv sv)) : w.cell? ⟨b, 0, none⟩ = some (.int .i64 e.kind) ∧ w.rangeAt b 1 (Lib.byteCells e.digest) ∧ w.cell? ⟨b, 33, none⟩ = some (.string ⟨e.typ.toArray⟩) ∧ w.cell? ⟨b, 34, none⟩ = some pv ∧
    w.cell? ⟨b, 35, none⟩ = some (.int .i64 e.op) ∧ w.cell? ⟨b, 36, none⟩ = some (.string ⟨e.ident.toArray⟩) ∧ w.rangeAt b 37 (Lib.byteCells e.key) ∧ w.cell? ⟨b, 69, none⟩ = some sv := by
  obtain ⟨h1, h2, -⟩ := h
  unfold En.cells at hw
  rw [range_append, range_append, range_append, range_append, range_one, range_one] at hw
  simp only [byteCells_len, h1, h2, List.length_cons, List.length_nil, Nat.zero_add, Nat.reduceAdd] at hw
  obtain ⟨a, b1, c, d, e1⟩ := hw
  exact ⟨a, b1, c 0 _ rfl, c 1 _ rfl, c 2 _ rfl, c 3 _ rfl, d, e1⟩
theorem En.setDigest (h : e.ok) (hw : w.rangeAt b 0 (e.cells pv sv)) (d : Bs) (hd : d.length = 32) : (w.setCells b 1 (Lib.byteCells d)).rangeAt b 0 (En.cells { e with digest := d } pv sv) := by
  have := range_put [.int .i64 e.kind] (Lib.byteCells e.digest) _ (Lib.byteCells d) hw (by rw [byteCells_len, byteCells_len, h.1, hd])
  exact this
theorem En.setTyp (h : e.ok) (hw : w.rangeAt b 0 (e.cells pv sv)) (t : Bs) : (w.setCell ⟨b, 33, none⟩ (.string ⟨t.toArray⟩)).rangeAt b 0 (En.cells { e with typ := t } pv sv) := by
  have := range_put (w := w) (b := b) (.int .i64 e.kind :: Lib.byteCells e.digest) [.string ⟨e.typ.toArray⟩] ([pv, .int .i64 e.op, .string ⟨e.ident.toArray⟩] ++ (Lib.byteCells e.key ++ [sv])) [.string ⟨t.toArray⟩] (by simpa [En.cells] using hw) rfl
  simp only [List.length_cons, byteCells_len, h.1, Nat.reduceAdd] at this
  simpa [En.cells, World.setCells] using this
theorem En.setPay (h : e.ok) (hw : w.rangeAt b 0 (e.cells pv sv)) (v : Value) (p : Bs) : (w.setCell ⟨b, 34, none⟩ v).rangeAt b 0 (En.cells { e with payload := p } v sv) := by
  have := range_put (w := w) (b := b) (.int .i64 e.kind :: (Lib.byteCells e.digest ++ [.string ⟨e.typ.toArray⟩])) [pv] ([.int .i64 e.op, .string ⟨e.ident.toArray⟩] ++ (Lib.byteCells e.key ++ [sv])) [v] (by simpa [En.cells] using hw) rfl
  simp only [List.length_cons, List.length_append, List.length_nil, byteCells_len, h.1, Nat.reduceAdd] at this
  simpa [En.cells, World.setCells] using this
theorem En.setOp (h : e.ok) (hw : w.rangeAt b 0 (e.cells pv sv)) (k : Int) : (w.setCell ⟨b, 35, none⟩ (.int .i64 k)).rangeAt b 0 (En.cells { e with op := k } pv sv) := by
  have := range_put (w := w) (b := b) (.int .i64 e.kind :: (Lib.byteCells e.digest ++ [.string ⟨e.typ.toArray⟩, pv])) [.int .i64 e.op] ([.string ⟨e.ident.toArray⟩] ++ (Lib.byteCells e.key ++ [sv])) [.int .i64 k] (by simpa [En.cells] using hw) rfl
  simp only [List.length_cons, List.length_append, List.length_nil, byteCells_len, h.1, Nat.reduceAdd] at this
  simpa [En.cells, World.setCells] using this
theorem En.setIdent (h : e.ok) (hw : w.rangeAt b 0 (e.cells pv sv)) (t : Bs) : (w.setCell ⟨b, 36, none⟩ (.string ⟨t.toArray⟩)).rangeAt b 0 (En.cells { e with ident := t } pv sv) := by
  have := range_put (w := w) (b := b) (.int .i64 e.kind :: (Lib.byteCells e.digest ++ [.string ⟨e.typ.toArray⟩, pv, .int .i64 e.op])) [.string ⟨e.ident.toArray⟩] (Lib.byteCells e.key ++ [sv]) [.string ⟨t.toArray⟩] (by simpa [En.cells] using hw) rfl
  simp only [List.length_cons, List.length_append, List.length_nil, byteCells_len, h.1, Nat.reduceAdd] at this
  simpa [En.cells, World.setCells] using this
theorem En.setKey (h : e.ok) (hw : w.rangeAt b 0 (e.cells pv sv)) (d : Bs) (hd : d.length = 32) : (w.setCells b 37 (Lib.byteCells d)).rangeAt b 0 (En.cells { e with key := d } pv sv) := by
  have := range_put (w := w) (b := b) (.int .i64 e.kind :: (Lib.byteCells e.digest ++ [.string ⟨e.typ.toArray⟩, pv, .int .i64 e.op, .string ⟨e.ident.toArray⟩])) (Lib.byteCells e.key) [sv] (Lib.byteCells d) (by simpa [En.cells] using hw) (by rw [byteCells_len, byteCells_len, h.2.1, hd])
  simp only [List.length_cons, List.length_append, List.length_nil, byteCells_len, h.1, Nat.reduceAdd] at this
  simpa [En.cells, World.setCells] using this
theorem En.setSigs (h : e.ok) (hw : w.rangeAt b 0 (e.cells pv sv)) (v : Value) (l : List Sg) : (w.setCell ⟨b, 69, none⟩ v).rangeAt b 0 (En.cells { e with sigs := l } pv v) := by
  have := range_put (w := w) (b := b) (.int .i64 e.kind :: (Lib.byteCells e.digest ++ ([.string ⟨e.typ.toArray⟩, pv, .int .i64 e.op, .string ⟨e.ident.toArray⟩] ++ Lib.byteCells e.key))) [sv] [] [v] (by simpa [En.cells] using hw) rfl
  simp only [List.length_cons, List.length_append, List.length_nil, byteCells_len, h.1, h.2.1, Nat.reduceAdd] at this
  simpa [En.cells, World.setCells] using this
end
theorem cells_one (l : Bs) : ∀ v ∈ Lib.byteCells l, v.oneCell' = true := by
  intro v hv
  unfold Lib.byteCells at hv
  rw [List.mem_map] at hv
  obtain ⟨x, _, rfl⟩ := hv
  rfl
theorem En.one {e : En} {pv sv : Value} (hp : pv.oneCell' = true) (hs : sv.oneCell' = true) : (e.cells pv sv).toArray.all (·.oneCell') = true := by
  refine all_oneCell_toArray (fun v hv => ?_)
  unfold En.cells at hv
  simp only [List.mem_append, List.mem_cons, List.not_mem_nil, or_false] at hv
  rcases hv with rfl | hv | (rfl | rfl | rfl | rfl) | hv | rfl
  all_goals first | rfl | exact cells_one _ _ hv | assumption
end Go.Proofs.YtcddlemkimbkcaaGreatDoor
