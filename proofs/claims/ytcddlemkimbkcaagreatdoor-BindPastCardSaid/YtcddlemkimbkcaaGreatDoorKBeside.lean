/-
  Small facts for the walks of chapter 17's laws.
-/
import Derived.Test.YtcddlemkimbkcaaGreatDoorKAlive17
import Derived.Test.YtcddlemkimbkcaaGreatDoorKReadCame
namespace Go.Proofs.YtcddlemkimbkcaaGreatDoor
set_option linter.unusedVariables false
set_option linter.unusedSimpArgs false
set_option linter.unusedSectionVars false
open Go.RowKit Go.Shelf
variable [OldK]
theorem Tryz.rowCame : ∃ d, Tryz.prog.underlying 41 = some d ∧ d.isRow = true := ⟨_, Tryz.underlying41, rfl⟩
theorem Tryz.sizeCame : (Tryz.prog.info? 41).map (·.size) = some 71 := by kernel_rfl
theorem CameV.size {c : CameV} (h : c.e.ok) : c.cells.length = 71 := by simp [CameV.cells, En.size h]
theorem CameV.one {c : CameV} (hp : c.pv.oneCell' = true) (hs : c.sv.oneCell' = true) : c.cells.toArray.all (·.oneCell') = true := by
  refine all_oneCell_toArray (fun v hv => ?_)
  unfold CameV.cells at hv
  rcases List.mem_append.1 hv with h | h
  · have := En.one (e := c.e) hp hs
    rw [List.all_toArray, List.all_eq_true] at this
    exact this v h
  · obtain rfl : v = .int .i64 c.pos := by simpa using h
    rfl
theorem z32_all : (#[.int .u8 0, .int .u8 0, .int .u8 0, .int .u8 0, .int .u8 0, .int .u8 0, .int .u8 0, .int .u8 0, .int .u8 0, .int .u8 0, .int .u8 0, .int .u8 0, .int .u8 0, .int .u8 0, .int .u8 0, .int .u8 0, .int .u8 0, .int .u8 0, .int .u8 0, .int .u8 0, .int .u8 0, .int .u8 0, .int .u8 0, .int .u8 0, .int .u8 0, .int .u8 0, .int .u8 0, .int .u8 0, .int .u8 0, .int .u8 0, .int .u8 0, .int .u8 0] : Array Value).all (·.oneCell') = true := by kernel_rfl
theorem z32_size : (Tryz.prog.info? 24).map (·.size) = some (#[.int .u8 0, .int .u8 0, .int .u8 0, .int .u8 0, .int .u8 0, .int .u8 0, .int .u8 0, .int .u8 0, .int .u8 0, .int .u8 0, .int .u8 0, .int .u8 0, .int .u8 0, .int .u8 0, .int .u8 0, .int .u8 0, .int .u8 0, .int .u8 0, .int .u8 0, .int .u8 0, .int .u8 0, .int .u8 0, .int .u8 0, .int .u8 0, .int .u8 0, .int .u8 0, .int .u8 0, .int .u8 0, .int .u8 0, .int .u8 0, .int .u8 0, .int .u8 0] : Array Value).size := by kernel_rfl
theorem z32_eq : (#[.int .u8 0, .int .u8 0, .int .u8 0, .int .u8 0, .int .u8 0, .int .u8 0, .int .u8 0, .int .u8 0, .int .u8 0, .int .u8 0, .int .u8 0, .int .u8 0, .int .u8 0, .int .u8 0, .int .u8 0, .int .u8 0, .int .u8 0, .int .u8 0, .int .u8 0, .int .u8 0, .int .u8 0, .int .u8 0, .int .u8 0, .int .u8 0, .int .u8 0, .int .u8 0, .int .u8 0, .int .u8 0, .int .u8 0, .int .u8 0, .int .u8 0, .int .u8 0] : Array Value).size = (#[.int .u8 0, .int .u8 0, .int .u8 0, .int .u8 0, .int .u8 0, .int .u8 0, .int .u8 0, .int .u8 0, .int .u8 0, .int .u8 0, .int .u8 0, .int .u8 0, .int .u8 0, .int .u8 0, .int .u8 0, .int .u8 0, .int .u8 0, .int .u8 0, .int .u8 0, .int .u8 0, .int .u8 0, .int .u8 0, .int .u8 0, .int .u8 0, .int .u8 0, .int .u8 0, .int .u8 0, .int .u8 0, .int .u8 0, .int .u8 0, .int .u8 0, .int .u8 0] : Array Value).size := rfl
end Go.Proofs.YtcddlemkimbkcaaGreatDoor
namespace Go.Proofs.YtcddlemkimbkcaaGreatDoor
set_option linter.unusedVariables false
set_option linter.unusedSimpArgs false
set_option linter.unusedSectionVars false
open Go.RowKit Go.Shelf
variable [OldK]
theorem row_block {w : World} {base s n k : Nat} {e : TypeId} {v : Value} {xs : List Value} (h : w.ownsRow base e s v n xs) (hk : some k = v.ownBlock) : base ≤ k ∧ ∃ o, w.heap[k]? = some o ∧ OfTy e o := by
  rcases h.2 with ⟨rfl, -⟩ | ⟨g, cap, cur, rfl, h1, h2, -⟩
  · cases hk
  · obtain rfl : k = g := by simpa [Value.ownBlock] using hk
    exact ⟨h1, _, h2, _, _, rfl⟩
theorem row_form' {w : World} {base e s n : Nat} {v : Value} {xs : List Value} (h : w.ownsRow base e s v n xs) : (v = .slice none 0 0 ∧ n = 0) ∨ ∃ g cap, v = .slice (some ⟨g, 0, none⟩) n cap ∧ base ≤ g ∧ g < w.heap.size ∧ n ≤ cap ∧ cap ≤ maxLen := by
  rcases h.2 with h | ⟨g, cap, cur, h1, h2, h3, h4, h5, -⟩
  · exact .inl h
  · exact .inr ⟨g, cap, h1, h2, get_lt h3, h4, h5⟩
theorem OfTy.one {e e' : TypeId} {o : Obj} (h : OfTy e o) (h' : OfTy e' o) : e = e' := by
  obtain ⟨c, f, rfl⟩ := h
  obtain ⟨c', f', h'⟩ := h'
  injection h' with _ h' _
theorem map_not_ty {k : TypeId} {K : KeyB Tryz.prog k} {w : World} {b m : Nat} {M : Bs → Option Value} (h : MapB K w b m M) {e : TypeId} {o : Obj} (hk : w.heap[b]? = some o) : ¬ OfTy e o := fun ho => by
  obtain ⟨D, ⟨es, clock, h0, -⟩, -⟩ := h
  obtain ⟨c, f, rfl⟩ := ho
  rw [h0] at hk
  cases hk
/-- a table beside a row of another type that grows -/
theorem TBL.beside {base base' tb n bc bl s m : Nat} {t : Tb} {g lv : Bs → Option Value} {w w' : World} {e : TypeId} {v : Value} {xs : List Value} (h : TBL base tb n bc bl t g lv w) (ho : w.ownsRow base' e s v m xs) (h1 : e ≠ 117) (h2 : e ≠ 115) (hg : w.grownBy w' v.ownBlock) : TBL base tb n bc bl t g lv w' := by
  have hF : Fr (fun k o => some k = v.ownBlock ∧ w.heap[k]? = some o) w w' := (Fr.ofGrown hg).mono2 (fun k o hk hm => ⟨hm, hk⟩)
  refine h.fr hF (fun k o hk hm => ?_)
  obtain ⟨-, o', e1, e2⟩ := row_block ho hm.1
  rw [hm.2] at e1
  cases e1
  rcases hk with rfl | rfl | rfl | ⟨-, hk⟩
  · have := hm.2
    rw [h.cells] at this
    cases this
    exact h2 (e2.one ⟨_, _, rfl⟩)
  · exact map_not_ty h.ch hm.2 e2
  · exact map_not_ty h.li hm.2 e2
  · exact h1 (e2.one hk)
/-- a row of another type beside a table that grows -/
theorem row_took {base base' tb n bc bl s m : Nat} {t : Tb} {g lv : Bs → Option Value} {w w' : World} {e : TypeId} {v : Value} {xs : List Value} (h : TBL base tb n bc bl t g lv w) (ho : w.ownsRow base' e s v m xs) (h1 : e ≠ 117) (hF : Fr (TM base bc bl) w w') : w'.ownsRow base' e s v m xs := by
  have hF' : Fr (fun k o => TM base bc bl k o ∧ w.heap[k]? = some o) w w' := hF.mono2 (fun k o hk hm => ⟨hm, hk⟩)
  refine ownsRow_fr ho hF' (fun k o hk ht hm => ?_)
  obtain ⟨hm, hw⟩ := hm
  rcases hm with rfl | rfl | ⟨-, hm⟩
  · exact map_not_ty h.ch hw ht
  · exact map_not_ty h.li hw ht
  · exact h1 (ht.one hm)
/-- two rows of unlike types -/
theorem row_beside {base base' s s' m m' : Nat} {w w' : World} {e e' : TypeId} {v v' : Value} {xs xs' : List Value} (h : w.ownsRow base e s v m xs) (ho : w.ownsRow base' e' s' v' m' xs') (h1 : e ≠ e') (hg : w.grownBy w' v'.ownBlock) : w'.ownsRow base e s v m xs := by
  have hF : Fr (fun k o => some k = v'.ownBlock ∧ w.heap[k]? = some o) w w' := (Fr.ofGrown hg).mono2 (fun k o hk hm => ⟨hm, hk⟩)
  refine ownsRow_fr h hF (fun k o hk ht hm => ?_)
  obtain ⟨-, o', e1, e2⟩ := row_block ho hm.1
  rw [hm.2] at e1
  cases e1
  exact h1 (ht.one e2)
theorem row_keep {base s m : Nat} {w w' : World} {e : TypeId} {v : Value} {xs : List Value} (h : w.ownsRow base e s v m xs) (hF : Fr NoB w w') : w'.ownsRow base e s v m xs := ownsRow_fr h hF (fun _ _ _ _ h => h)
/-- a row that lies from base on grows: what lies below stands -/
theorem row_frame {base s m : Nat} {w0 w w' : World} {e : TypeId} {v : Value} {xs : List Value} (h : w.ownsRow base e s v m xs) (hb : w0.heap.size ≤ base) (hF : Fr NoB w0 w) (hg : w.grownBy w' v.ownBlock) : Fr NoB w0 w' :=
  hF.trans (Fr.ofGrown hg) (fun k _ hm => .inr (by have := (row_block h (k := k) hm).1; omega))
theorem row_gl {base s m : Nat} {w w' : World} {e : TypeId} {v : Value} {xs : List Value} (h : w.ownsRow base e s v m xs) (hb : 3 ≤ base) (hg : Gl w) (hgr : w.grownBy w' v.ownBlock) : Gl w' :=
  hg.fr (Fr.ofGrown hgr) (fun k _ hk hm => by have := (row_block h (k := k) hm).1; omega)
end Go.Proofs.YtcddlemkimbkcaaGreatDoor
