/-
 Small facts for the walks of chapter 17's laws.
-/
import Derived.Test.YtcddlemkimbkcaaGreatDoorKAlive17
import Derived.Test.YtcddlemkimbkcaaGreatDoorKReadCame
import Derived.Test.YtcddlemkimbkcaaGreatDoorKRefSpent
namespace Go.Proofs.YtcddlemkimbkcaaGreatDoor
set_option linter.unusedVariables false
set_option linter.unusedSimpArgs false
set_option linter.unusedSectionVars false
open Go.RowKit Go.Shelf
variable [OldK]
theorem Tryz.rowCame : ∃ d, Tryz.prog.underlying 41 = some d ∧ d.isRow = true := ⟨_, Tryz.underlying41, rfl⟩
theorem Tryz.sizeCame : (Tryz.prog.info? 41).map (·.size) = some 71 := by kernel_rfl
theorem CameV.size {c : CameV} (h : c.e.ok) : c.cells.length = 71 := by simp [CameV.cells, En.size h]
theorem CameV.one {c : CameV} (hp : c.pv.oneCell' = true) (hs : c.sv.oneCell' = true) : c.cells.toArray.all (·.oneCell') = true := by
 refine all_oneCell_toArray (fun v hv => ?_)
 unfold CameV.cells at hv
 rcases List.mem_append.1 hv with h | h
 ·have := En.one (e := c.e) hp hs
  rw [List.all_toArray, List.all_eq_true] at this
  exact this v h
 ·obtain rfl : v = .int .i64 c.pos := by simpa using h
  rfl
theorem z32_all : (#[.int .u8 0, .int .u8 0, .int .u8 0, .int .u8 0, .int .u8 0, .int .u8 0, .int .u8 0, .int .u8 0, .int .u8 0, .int .u8 0, .int .u8 0, .int .u8 0, .int .u8 0, .int .u8 0, .int .u8 0, .int .u8 0, .int .u8 0, .int .u8 0, .int .u8 0, .int .u8 0, .int .u8 0, .int .u8 0, .int .u8 0, .int .u8 0, .int .u8 0, .int .u8 0, .int .u8 0, .int .u8 0, .int .u8 0, .int .u8 0, .int .u8 0, .int .u8 0] : Array Value).all (·.oneCell') = true := by kernel_rfl
theorem z32_size : (Tryz.prog.info? 24).map (·.size) = some (#[.int .u8 0, .int .u8 0, .int .u8 0, .int .u8 0, .int .u8 0, .int .u8 0, .int .u8 0, .int .u8 0, .int .u8 0, .int .u8 0, .int .u8 0, .int .u8 0, .int .u8 0, .int .u8 0, .int .u8 0, .int .u8 0, .int .u8 0, .int .u8 0, .int .u8 0, .int .u8 0, .int .u8 0, .int .u8 0, .int .u8 0, .int .u8 0, .int .u8 0, .int .u8 0, .int .u8 0, .int .u8 0, .int .u8 0, .int .u8 0, .int .u8 0, .int .u8 0] : Array Value).size := by kernel_rfl
theorem z32_eq : (#[.int .u8 0, .int .u8 0, .int .u8 0, .int .u8 0, .int .u8 0, .int .u8 0, .int .u8 0, .int .u8 0, .int .u8 0, .int .u8 0, .int .u8 0, .int .u8 0, .int .u8 0, .int .u8 0, .int .u8 0, .int .u8 0, .int .u8 0, .int .u8 0, .int .u8 0, .int .u8 0, .int .u8 0, .int .u8 0, .int .u8 0, .int .u8 0, .int .u8 0, .int .u8 0, .int .u8 0, .int .u8 0, .int .u8 0, .int .u8 0, .int .u8 0, .int .u8 0] : Array Value).size = (#[.int .u8 0, .int .u8 0, .int .u8 0, .int .u8 0, .int .u8 0, .int .u8 0, .int .u8 0, .int .u8 0, .int .u8 0, .int .u8 0, .int .u8 0, .int .u8 0, .int .u8 0, .int .u8 0, .int .u8 0, .int .u8 0, .int .u8 0, .int .u8 0, .int .u8 0, .int .u8 0, .int .u8 0, .int .u8 0, .int .u8 0, .int .u8 0, .int .u8 0, .int .u8 0, .int .u8 0, .int .u8 0, .int .u8 0, .int .u8 0, .int .u8 0, .int .u8 0] : Array Value).size := rfl
end Go.Proofs.YtcddlemkimbkcaaGreatDoor
namespace Go.Proofs.YtcddlemkimbkcaaGreatDoor
set_option linter.unusedVariables false
set_option linter.unusedSimpArgs false
set_option linter.unusedSectionVars false
open Go.RowKit Go.Shelf
variable [OldK]
theorem row_block {w : World} {base s n k : Nat} {e : TypeId} {v : Value} {xs : List Value} (h : w.ownsRow base e s v n xs) (hk : some k = v.ownBlock) : base ≤ k ∧ ∃ o, w.heap[k]? = some o ∧ OfTy e o := by
 rcases h.2 with ⟨rfl, -⟩ | ⟨g, cap, cur, rfl, h1, h2, -⟩
 ·cases hk
 ·obtain rfl : k = g := by simpa [Value.ownBlock] using hk
  exact ⟨h1, _, h2, _, _, rfl⟩
theorem row_form' {w : World} {base e s n : Nat} {v : Value} {xs : List Value} (h : w.ownsRow base e s v n xs) : (v = .slice none 0 0 ∧ n = 0) ∨ ∃ g cap, v = .slice (some ⟨g, 0, none⟩) n cap ∧ base ≤ g ∧ g < w.heap.size ∧ n ≤ cap ∧ cap ≤ maxLen := by
 rcases h.2 with h | ⟨g, cap, cur, h1, h2, h3, h4, h5, -⟩
 ·exact .inl h
 ·exact .inr ⟨g, cap, h1, h2, get_lt h3, h4, h5⟩
theorem OfTy.one {e e' : TypeId} {o : Obj} (h : OfTy e o) (h' : OfTy e' o) : e = e' := by
 obtain ⟨c, f, rfl⟩ := h
 obtain ⟨c', f', h'⟩ := h'
 injection h' with _ h' _
theorem map_not_ty {k : TypeId} {K : KeyB Tryz.prog k} {w : World} {b m : Nat} {M : Bs → Option Value} (h : MapB K w b m M) {e : TypeId} {o : Obj} (hk : w.heap[b]? = some o) : ¬ OfTy e o := fun ho => by
 obtain ⟨D, ⟨es, clock, h0, -⟩, -⟩ := h
 obtain ⟨c, f, rfl⟩ := ho
 rw [h0] at hk
 cases hk
/-- a table beside a row of another type that grows -/
theorem TBL.beside {base base' tb n bc bl s m : Nat} {t : Tb} {g lv : Bs → Option Value} {w w' : World} {e : TypeId} {v : Value} {xs : List Value} (h : TBL base tb n bc bl t g lv w) (ho : w.ownsRow base' e s v m xs) (h1 : e ≠ 117) (h2 : e ≠ 115) (hg : w.grownBy w' v.ownBlock) : TBL base tb n bc bl t g lv w' := by
 have hF : Fr (fun k o => some k = v.ownBlock ∧ w.heap[k]? = some o) w w' := (Fr.ofGrown hg).mono2 (fun k o hk hm => ⟨hm, hk⟩)
 refine h.fr hF (fun k o hk hm => ?_)
 obtain ⟨-, o', e1, e2⟩ := row_block ho hm.1
 rw [hm.2] at e1
 cases e1
 rcases hk with rfl | rfl | rfl | ⟨-, hk⟩
 ·have := hm.2
  rw [h.cells] at this
  cases this
  exact h2 (e2.one ⟨_, _, rfl⟩)
 ·exact map_not_ty h.ch hm.2 e2
 ·exact map_not_ty h.li hm.2 e2
 ·exact h1 (e2.one hk)
/-- a row of another type beside a table that grows -/
theorem row_took {base base' tb n bc bl s m : Nat} {t : Tb} {g lv : Bs → Option Value} {w w' : World} {e : TypeId} {v : Value} {xs : List Value} (h : TBL base tb n bc bl t g lv w) (ho : w.ownsRow base' e s v m xs) (h1 : e ≠ 117) (hF : Fr (TM base bc bl) w w') : w'.ownsRow base' e s v m xs := by
 have hF' : Fr (fun k o => TM base bc bl k o ∧ w.heap[k]? = some o) w w' := hF.mono2 (fun k o hk hm => ⟨hm, hk⟩)
 refine ownsRow_fr ho hF' (fun k o hk ht hm => ?_)
 obtain ⟨hm, hw⟩ := hm
 rcases hm with rfl | rfl | ⟨-, hm⟩
 ·exact map_not_ty h.ch hw ht
 ·exact map_not_ty h.li hw ht
 ·exact h1 (ht.one hm)
/-- two rows of unlike types -/
theorem row_beside {base base' s s' m m' : Nat} {w w' : World} {e e' : TypeId} {v v' : Value} {xs xs' : List Value} (h : w.ownsRow base e s v m xs) (ho : w.ownsRow base' e' s' v' m' xs') (h1 : e ≠ e') (hg : w.grownBy w' v'.ownBlock) : w'.ownsRow base e s v m xs := by
 have hF : Fr (fun k o => some k = v'.ownBlock ∧ w.heap[k]? = some o) w w' := (Fr.ofGrown hg).mono2 (fun k o hk hm => ⟨hm, hk⟩)
 refine ownsRow_fr h hF (fun k o hk ht hm => ?_)
 obtain ⟨-, o', e1, e2⟩ := row_block ho hm.1
 rw [hm.2] at e1
 cases e1
 exact h1 (ht.one e2)
theorem row_keep {base s m : Nat} {w w' : World} {e : TypeId} {v : Value} {xs : List Value} (h : w.ownsRow base e s v m xs) (hF : Fr NoB w w') : w'.ownsRow base e s v m xs := ownsRow_fr h hF (fun _ _ _ _ h => h)
/-- a row that lies from base on grows: what lies below stands -/
theorem row_frame {base s m : Nat} {w0 w w' : World} {e : TypeId} {v : Value} {xs : List Value} (h : w.ownsRow base e s v m xs) (hb : w0.heap.size ≤ base) (hF : Fr NoB w0 w) (hg : w.grownBy w' v.ownBlock) : Fr NoB w0 w' :=
 hF.trans (Fr.ofGrown hg) (fun k _ hm => .inr (by have := (row_block h (k := k) hm).1; omega))
theorem row_gl {base s m : Nat} {w w' : World} {e : TypeId} {v : Value} {xs : List Value} (h : w.ownsRow base e s v m xs) (hb : 3 ≤ base) (hg : Gl w) (hgr : w.grownBy w' v.ownBlock) : Gl w' :=
 hg.fr (Fr.ofGrown hgr) (fun k _ hk hm => by have := (row_block h (k := k) hm).1; omega)
end Go.Proofs.YtcddlemkimbkcaaGreatDoor
namespace Go.Proofs.YtcddlemkimbkcaaGreatDoor
set_option linter.unusedVariables false
set_option linter.unusedSimpArgs false
set_option linter.unusedSectionVars false
open Go.RowKit Go.Shelf
variable [OldK]
theorem Tryz.infoKey : (Tryz.prog.info? 24).map (fun i => (i.zero, i.size, i.bytes)) = some (some (.agg #[.int .u8 0, .int .u8 0, .int .u8 0, .int .u8 0, .int .u8 0, .int .u8 0, .int .u8 0, .int .u8 0, .int .u8 0, .int .u8 0, .int .u8 0, .int .u8 0, .int .u8 0, .int .u8 0, .int .u8 0, .int .u8 0, .int .u8 0, .int .u8 0, .int .u8 0, .int .u8 0, .int .u8 0, .int .u8 0, .int .u8 0, .int .u8 0, .int .u8 0, .int .u8 0, .int .u8 0, .int .u8 0, .int .u8 0, .int .u8 0, .int .u8 0, .int .u8 0]), 32, 32) := by kernel_rfl
theorem Tryz.infoBool : (Tryz.prog.info? 4).map (fun i => (i.zero, i.size, i.bytes)) = some (some (.bool false), 1, 1) := by kernel_rfl
def kRow (ks : List (Bs × Bool)) : List Value := ks.flatMap (fun x => Lib.byteCells x.1)
def hRow (ks : List (Bs × Bool)) : List Value := ks.map (fun x => .bool x.2)
theorem nth_key (ks : List (Bs × Bool)) (hk : ∀ x ∈ ks, x.1.length = 32) : ∀ i x, ks[i]? = some x → ∀ j v, (Lib.byteCells x.1)[j]? = some v → (kRow ks)[i * 32 + j]? = some v := by
 induction ks with
 | nil => intro i x hi; cases hi
 | cons y l ih =>
   intro i x hi j v hv
   have hy : (Lib.byteCells y.1).length = 32 := by rw [byteCells_len]; exact hk y (by simp)
   unfold kRow
   rw [List.flatMap_cons]
   cases i with
   | zero =>
     obtain rfl : y = x := by simpa using hi
     rw [Nat.zero_mul, Nat.zero_add, List.getElem?_append_left (by
      have := (List.getElem?_eq_some_iff.1 hv).1
      exact this)]
     exact hv
   | succ i =>
     rw [List.getElem?_append_right (by rw [hy]; omega), hy, show (i + 1) * 32 + j - 32 = i * 32 + j by omega]
     exact ih (fun c hc => hk c (by simp [hc])) i x (by simpa using hi) j v hv
theorem row_key {w : World} {base g n cap m : Nat} {ks : List (Bs × Bool)} (h : w.ownsRow base 24 32 (.slice (some ⟨g, 0, none⟩) n cap) m (kRow ks)) (hk : ∀ x ∈ ks, x.1.length = 32) (i : Nat) (x : Bs × Bool) (hi : ks[i]? = some x) : w.rangeAt g (i * 32) (Lib.byteCells x.1) := by
 intro j v hv
 have := h.cells (g := g) rfl (i * 32 + j) v (nth_key ks hk i x hi j v hv)
 rw [Addr.add_lit] at this
 rw [Nat.zero_add] at this
 exact this
theorem row_had {w : World} {base g n cap m : Nat} {ks : List (Bs × Bool)} (h : w.ownsRow base 4 1 (.slice (some ⟨g, 0, none⟩) n cap) m (hRow ks)) (i : Nat) (x : Bs × Bool) (hi : ks[i]? = some x) : w.cell? ⟨g, i, none⟩ = some (.bool x.2) := by
 have := h.cells (g := g) rfl i (.bool x.2) (by unfold hRow; rw [List.getElem?_map, hi]; rfl)
 rw [Addr.add_lit] at this
 rw [Nat.zero_add] at this
 exact this
end Go.Proofs.YtcddlemkimbkcaaGreatDoor
namespace Go.Proofs.YtcddlemkimbkcaaGreatDoor
set_option linter.unusedVariables false
set_option linter.unusedSimpArgs false
set_option linter.unusedSectionVars false
open Go.RowKit Go.Shelf
variable [OldK]

theorem Tryz.infoStr : (Tryz.prog.info? 9).map (fun i => (i.zero, i.size, i.bytes)) = some (some (.string ⟨#[]⟩), 1, 16) := by kernel_rfl
def strVs (ns : List Bs) : List Value := ns.map (fun s => .string ⟨s.toArray⟩)
/-- what a block of names or of keys holds -/
def MNK (k : Nat) (o : Obj) : Prop := OfTy 9 o ∨ OfTy 24 o
structure CpS (bT bN tb bc bl bnd : Nat) (t : Tb) (ms : List CameV) (ns ks : List Bs) (vm vn vk : Value) (g lv : Bs → Option Value) (w wc V : World) : Prop where
 t : TBL bT tb bnd bc bl t g lv V
 m : V.ownsRow bT 67 71 vm ms.length (ms.flatMap CameV.cells)
 n : V.ownsRow bN 9 1 vn ns.length (strVs ns)
 k : V.ownsRow bN 24 32 vk ks.length (ks.flatMap Lib.byteCells)
 fr : Fr NoB w V
 fc : Fr MNK wc V
 gl : Gl V
 low : 3 ≤ bT ∧ 3 ≤ bN ∧ w.heap.size ≤ bT ∧ w.heap.size ≤ bN ∧ wc.heap.size ≤ bT ∧ bN ≤ bT
section
variable {bT bN tb bc bl bnd : Nat} {t t' : Tb} {ms : List CameV} {ns ks : List Bs} {vm vn vk v' : Value} {g lv g' lv' : Bs → Option Value} {w wc V W : World}
theorem CpS.keep (h : CpS bT bN tb bc bl bnd t ms ns ks vm vn vk g lv w wc V) (hF : Fr NoB V W) : CpS bT bN tb bc bl bnd t ms ns ks vm vn vk g lv w wc W :=
 ⟨h.t.keep hF, row_keep h.m hF, row_keep h.n hF, row_keep h.k hF, h.fr.trans' hF, h.fc.trans hF (fun _ _ h => h.elim), h.gl.fr hF (fun _ _ _ h => h.elim), h.low⟩
theorem CpS.took (h : CpS bT bN tb bc bl bnd t ms ns ks vm vn vk g lv w wc V) (hF : Fr (TM bT bc bl) V W) {bnd' : Nat} (ht : TBL bT tb bnd' bc bl t' g' lv' W) : CpS bT bN tb bc bl bnd' t' ms ns ks vm vn vk g' lv' w wc W :=
 ⟨ht, row_took h.t h.m (by decide) hF, row_took h.t h.n (by decide) hF, row_took h.t h.k (by decide) hF, h.fr.took h.t h.low.2.2.1 hF, h.fc.trans hF (fun k o hm => .inr (by
  have hl := h.t.low
  have hb := h.low.2.2.2.2.1
  rcases hm with rfl | rfl | ⟨hm, -⟩ <;> omega)), h.gl.took h.t h.low.1 hF, h.low⟩
theorem CpS.bT_le (h : CpS bT bN tb bc bl bnd t ms ns ks vm vn vk g lv w wc V) : bT ≤ V.heap.size := Nat.le_of_lt (Nat.lt_of_le_of_lt h.t.low.1 (get_lt h.t.cells))
theorem CpS.bN_le (h : CpS bT bN tb bc bl bnd t ms ns ks vm vn vk g lv w wc V) : bN ≤ V.heap.size := Nat.le_trans h.low.2.2.2.2.2 h.bT_le
/-- a row of names or keys grew -/
theorem CpS.grown {b e s m : Nat} {v : Value} {xs : List Value} (h : CpS bT bN tb bc bl bnd t ms ns ks vm vn vk g lv w wc V) (ho : V.ownsRow b e s v m xs) (hb : w.heap.size ≤ b ∧ 3 ≤ b) (h1 : e ≠ 117) (h2 : e ≠ 115) (hm : (∀ o, OfTy e o → ∀ k, MNK k o) ∨ wc.heap.size ≤ b) (hg : V.grownBy W v.ownBlock) :
 TBL bT tb bnd bc bl t g lv W ∧ Fr NoB w W ∧ Fr MNK wc W ∧ Gl W := by
 have hF : Fr (fun k o => some k = v.ownBlock ∧ V.heap[k]? = some o) V W := (Fr.ofGrown hg).mono2 (fun k o hk hm => ⟨hm, hk⟩)
 refine ⟨h.t.beside ho h1 h2 hg, row_frame ho hb.1 h.fr hg, h.fc.trans hF (fun k o hk => ?_), row_gl ho hb.2 h.gl hg⟩
 obtain ⟨h3, o', h4, h5⟩ := row_block ho hk.1
 rw [hk.2] at h4
 cases h4
 rcases hm with hm | hm
 ·exact .inl (hm _ h5 _)
 ·exact .inr (Nat.le_trans hm h3)
theorem CpS.growN (h : CpS bT bN tb bc bl bnd t ms ns ks vm vn vk g lv w wc V) {ns' : List Bs} (hn : W.ownsRow bN 9 1 v' ns'.length (strVs ns')) (hg : V.grownBy W vn.ownBlock) : CpS bT bN tb bc bl bnd t ms ns' ks vm v' vk g lv w wc W := by
 obtain ⟨h1, h2, h3, h4⟩ := h.grown h.n ⟨h.low.2.2.2.1, h.low.2.1⟩ (by decide) (by decide) (.inl fun _ h _ => .inl h) hg
 exact ⟨h1, row_beside h.m h.n (by decide) hg, hn, row_beside h.k h.n (by decide) hg, h2, h3, h4, h.low⟩
theorem CpS.growK (h : CpS bT bN tb bc bl bnd t ms ns ks vm vn vk g lv w wc V) {ks' : List Bs} (hn : W.ownsRow bN 24 32 v' ks'.length (ks'.flatMap Lib.byteCells)) (hg : V.grownBy W vk.ownBlock) : CpS bT bN tb bc bl bnd t ms ns ks' vm vn v' g lv w wc W := by
 obtain ⟨h1, h2, h3, h4⟩ := h.grown h.k ⟨h.low.2.2.2.1, h.low.2.1⟩ (by decide) (by decide) (.inl fun _ h _ => .inr h) hg
 exact ⟨h1, row_beside h.m h.k (by decide) hg, row_beside h.n h.k (by decide) hg, hn, h2, h3, h4, h.low⟩
theorem CpS.growM (h : CpS bT bN tb bc bl bnd t ms ns ks vm vn vk g lv w wc V) {ms' : List CameV} (hn : W.ownsRow bT 67 71 v' ms'.length (ms'.flatMap CameV.cells)) (hg : V.grownBy W vm.ownBlock) : CpS bT bN tb bc bl bnd t ms' ns ks v' vn vk g lv w wc W := by
 obtain ⟨h1, h2, h3, h4⟩ := h.grown h.m ⟨h.low.2.2.1, h.low.1⟩ (by decide) (by decide) (.inr h.low.2.2.2.2.1) hg
 exact ⟨h1, hn, row_beside h.n h.m (by decide) hg, row_beside h.k h.m (by decide) hg, h2, h3, h4, h.low⟩
end
/-- what the rows hold, as plain data -/
structure CpD (t : Tb) (ms : List CameV) (ns ks : List Bs) (n : Nat) : Prop where
 tied : Tied t (ms.map CameV.cm)
 right : t.right
 ml : ms.length ≤ n
 nl : ns.length = n
 kl : ks.length = n
 ok : ∀ c ∈ ms, c.e.ok
 one : ∀ c ∈ ms, c.pv.oneCell' = true ∧ c.sv.oneCell' = true
 ns : ∀ s ∈ ns, s.length ≤ 500
 ks : ∀ k ∈ ks, k.length = 32
theorem CpD.new : CpD Tb.new [] [] [] 0 := ⟨Tied.new, Tb.new_right, Nat.le_refl _, rfl, rfl, fun _ h => (by cases h), fun _ h => (by cases h), fun _ h => (by cases h), fun _ h => (by cases h)⟩
/-- a binding came -/
theorem CpD.step {t : Tb} {ms : List CameV} {ns ks : List Bs} {n : Nat} (h : CpD t ms ns ks n) {c : CameV} (hok : c.e.ok) (h1 : c.pv.oneCell' = true ∧ c.sv.oneCell' = true) (hid : c.e.ident.length ≤ 500) (hz : pBind psub t c.e = 0 → c.e.op = 3 → c.e.key = zero32) :
 CpD (t.take psub c.e c.pos) (if pBind psub t c.e = 0 then ms ++ [c] else ms) (ns ++ [c.e.ident]) (ks ++ [c.e.key]) (n + 1) := by
 have e : t.take psub c.e c.pos = if pBind psub t c.e = 0 then t.came c.e c.pos else t := rfl
 rw [e]
 have hl : (ns ++ [c.e.ident]).length = n + 1 := by rw [List.length_append, h.nl]; rfl
 have hk : (ks ++ [c.e.key]).length = n + 1 := by rw [List.length_append, h.kl]; rfl
 have hns : ∀ s ∈ ns ++ [c.e.ident], s.length ≤ 500 := fun s hs => by
  rcases List.mem_append.1 hs with hs | hs
  ·exact h.ns s hs
  ·obtain rfl : s = c.e.ident := by simpa using hs
   exact hid
 have hks : ∀ k ∈ ks ++ [c.e.key], k.length = 32 := fun k hs => by
  rcases List.mem_append.1 hs with hs | hs
  ·exact h.ks k hs
  ·obtain rfl : k = c.e.key := by simpa using hs
   exact hok.2.1
 by_cases hb : pBind psub t c.e = 0
 ·rw [if_pos hb, if_pos hb]
  refine ⟨?_, came_right hb h.right c.pos, by rw [List.length_append]; have := h.ml; simp; omega, hl, hk, fun d hd => ?_, fun d hd => ?_, hns, hks⟩
  ·rw [List.map_append]
   exact h.tied.came h.right hb (hz hb) c.pos
  ·rcases List.mem_append.1 hd with hd | hd
   ·exact h.ok d hd
   ·obtain rfl : d = c := by simpa using hd
    exact hok
  ·rcases List.mem_append.1 hd with hd | hd
   ·exact h.one d hd
   ·obtain rfl : d = c := by simpa using hd
    exact h1
 ·rw [if_neg hb, if_neg hb]
  exact ⟨h.tied, h.right, Nat.le_succ_of_le h.ml, hl, hk, h.ok, h.one, hns, hks⟩
end Go.Proofs.YtcddlemkimbkcaaGreatDoor
