/-
 How a table of identities' keys (package bind) lies in memory.
-/
import Derived.Test.YtcddlemkimbkcaaGreatDoorKSpecBind
import Derived.Test.YtcddlemkimbkcaaGreatDoorKEnAt
import Derived.Test.YtcddlemkimbkcaaGreatDoorKSigEq
import Derived.WideKeyEntry
import Derived.Maps.AppendAt
import Derived.Great.Walk
namespace Go.Proofs.YtcddlemkimbkcaaGreatDoor
set_option linter.unusedVariables false
set_option linter.unusedSimpArgs false
set_option linter.unusedSectionVars false
open Go.RowKit
variable [OldK]
theorem Tryz.laidOutP : laidOutB Tryz.prog = true := by kernel_rfl
theorem Tryz.u8cells : Tryz.prog.cellsOf 5 = 1 := by kernel_rfl
theorem Tryz.keycells : Tryz.prog.cellsOf 24 = 32 := by kernel_rfl
/-- texts as keys -/
def strK : KeyB Tryz.prog 9 := strKey Tryz.underlying9
/-- keys as keys -/
def keyK : KeyB Tryz.prog 24 := arrKey (n := 32) Tryz.laidOutP Tryz.underKey Tryz.underlying5 Tryz.u8cells Tryz.keycells (by kernel_rfl) (by kernel_rfl) (of_decide_eq_true (by kernel_rfl))
def Chg.cells (c : Chg) : List Value := [.int .i64 c.pos, .bool c.has] ++ Lib.byteCells c.key
def Chg.ok (c : Chg) : Prop := c.key.length = 32
theorem Chg.size {c : Chg} (h : c.ok) : c.cells.length = 34 := by simp [Chg.cells, Lib.byteCells, h.symm ▸ (rfl : c.key.length = c.key.length), show c.key.length = 32 from h]
theorem Chg.one (c : Chg) : c.cells.toArray.all (·.oneCell') = true := by
 refine all_oneCell_toArray (fun v hv => ?_)
 unfold Chg.cells at hv
 simp only [List.mem_append, List.mem_cons, List.not_mem_nil, or_false] at hv
 rcases hv with (rfl | rfl) | hv
 all_goals first | rfl | exact cells_one _ _ hv
theorem Chg.zero_cells : Chg.zero.cells = [.int .i64 0, .bool false, .int .u8 0, .int .u8 0, .int .u8 0, .int .u8 0, .int .u8 0, .int .u8 0, .int .u8 0, .int .u8 0, .int .u8 0, .int .u8 0, .int .u8 0, .int .u8 0, .int .u8 0, .int .u8 0, .int .u8 0, .int .u8 0, .int .u8 0, .int .u8 0, .int .u8 0, .int .u8 0, .int .u8 0, .int .u8 0, .int .u8 0, .int .u8 0, .int .u8 0, .int .u8 0, .int .u8 0, .int .u8 0, .int .u8 0, .int .u8 0, .int .u8 0, .int .u8 0] := rfl
/-- the slice at a key -/
def atOr (g : Bs → Option Value) (x : Bs) : Value := (g x).getD (.slice none 0 0)
/-- a table: its struct in block tb, its maps in bc and bl; what it writes lies from block 'base' on; n: not more than n bindings came -/
structure TBL (base tb n bc bl : Nat) (t : Tb) (g lv : Bs → Option Value) (w : World) : Prop where
 old : OldK.k ≤ base
 cells : w.heap[tb]? = some (.cells #[.map (some bc), .map (some bl)] 115 (0, 0))
 low : base ≤ tb ∧ base ≤ bc ∧ base ≤ bl ∧ bc ≠ bl
 ch : MapB strK w bc n g
 li : MapB keyK w bl (2 * n) lv
 life : ∀ k : Bs, k.length = 32 → (lv k).getD (.int .i64 0) = .int .i64 (t.life k)
 rows : ∀ x : Bs, x.length ≤ maxLen → w.ownsRow base 117 34 (atOr g x) (t.hist x).length ((t.hist x).flatMap Chg.cells)
 apart : ∀ x y : Bs, x.length ≤ maxLen → y.length ≤ maxLen → x ≠ y → (atOr g x).ownBlock = none ∨ (atOr g x).ownBlock ≠ (atOr g y).ownBlock
 few : ∀ x, (t.hist x).length ≤ n
 keys : ∀ x, ∀ c ∈ t.hist x, c.ok
/-- a row kept by a frame -/
theorem ownsRow_fr {M : Nat → Obj → Prop} {base e size n : Nat} {v : Value} {xs : List Value} {w w' : World} (h : w.ownsRow base e size v n xs) (hF : Fr M w w') (hM : ∀ k o, base ≤ k → OfTy e o → ¬ M k o) : w'.ownsRow base e size v n xs := by
 refine ⟨h.1, h.2.imp id ?_⟩
 rintro ⟨g, cap, cur, h1, h2, h3, h4⟩
 exact ⟨g, cap, cur, h1, h2, hF.block _ _ h3 (hM _ _ h2 ⟨_, _, rfl⟩), h4⟩
theorem MapB.fr {M : Nat → Obj → Prop} {k : TypeId} {K : KeyB Tryz.prog k} {w w' : World} {b n : Nat} {m : Bs → Option Value} (h : MapB K w b n m) (hF : Fr M w w') (hM : ∀ o, ¬ M b o) : MapB K w' b n m := by
 obtain ⟨D, ⟨es, clock, h0, h1⟩, h2⟩ := h
 exact ⟨D, ⟨es, clock, hF.block _ _ h0 (hM _), h1⟩, h2⟩
theorem TBL.fr {M : Nat → Obj → Prop} {base tb n bc bl : Nat} {t : Tb} {g lv : Bs → Option Value} {w w' : World} (h : TBL base tb n bc bl t g lv w) (hF : Fr M w w')
 (hM : ∀ k o, (k = tb ∨ k = bc ∨ k = bl ∨ (base ≤ k ∧ OfTy 117 o)) → ¬ M k o) : TBL base tb n bc bl t g lv w' :=
 ⟨h.old, hF.block _ _ h.cells (hM _ _ (.inl rfl)), h.low, h.ch.fr hF (fun o => hM _ _ (.inr (.inl rfl))), h.li.fr hF (fun o => hM _ _ (.inr (.inr (.inl rfl)))), h.life,
  fun x hx => ownsRow_fr (h.rows x hx) hF (fun k o hk ho => hM _ _ (.inr (.inr (.inr ⟨hk, ho⟩)))), h.apart, h.few, h.keys⟩
theorem TBL.keep {base tb n bc bl : Nat} {t : Tb} {g lv : Bs → Option Value} {w w' : World} (h : TBL base tb n bc bl t g lv w) (hF : Fr NoB w w') : TBL base tb n bc bl t g lv w' := h.fr hF (fun _ _ _ h => h)
section
variable {base tb n bc bl : Nat} {t : Tb} {g lv : Bs → Option Value} {w : World}
theorem TBL.at (h : TBL base tb n bc bl t g lv w) : w.cell? ⟨tb, 0, none⟩ = some (.map (some bc)) ∧ w.cell? ⟨tb, 1, none⟩ = some (.map (some bl)) := by
 have hc := h.cells
 exact ⟨by simp [World.cell?, hc], by simp [World.cell?, hc]⟩
theorem Tryz.zeroHist (w : World) : (zeroValue 110).run Tryz.prog w = .ok (.slice none 0 0) w := by kernel_rfl
theorem Tryz.zeroLife (w : World) : (zeroValue 119).run Tryz.prog w = .ok (.int .i64 0) w := by kernel_rfl
theorem TBL.lookC (h : TBL base tb n bc bl t g lv w) {x : Bs} (hx : x.length ≤ maxLen) : (Instr.lookup 112 (.map (some bc)) (.string ⟨x.toArray⟩) false).run Tryz.prog w = .ok (atOr g x) w :=
 h.ch.look (K := strK) Tryz.underlying112 (Tryz.zeroHist w) hx
theorem TBL.lookL (h : TBL base tb n bc bl t g lv w) {k : Bs} (hk : k.length = 32) : (Instr.lookup 113 (.map (some bl)) (.agg (Lib.byteCells k).toArray) false).run Tryz.prog w = .ok (.int .i64 (t.life k)) w := by
 rw [← h.life k hk]
 exact h.li.look (K := keyK) Tryz.underlying113 (Tryz.zeroLife w) hk
end
theorem Tryz.sizeChg : (Tryz.prog.info? 117).map (·.size) = some 34 := by kernel_rfl
theorem Tryz.rowChg : ∃ d, Tryz.prog.underlying 117 = some d ∧ d.isRow = true := ⟨_, Tryz.underlying117, rfl⟩
set_option maxRecDepth 100000 in
set_option maxHeartbeats 2000000 in
theorem life_c {base tb n bc bl : Nat} {t : Tb} {g lv : Bs → Option Value} (k : Bs) (w : World) (h : TBL base tb n bc bl t g lv w) (hk : k.length = 32) :
 Calls Tryz.prog 67 #[.pointer (some ⟨tb, 0, none⟩), .agg (Lib.byteCells k).toArray] w fun e w' => e = .returned (.int .i64 (t.life k)) ∧ Fr NoB w w' := by
 have hA := heap_alloc_new w (.cells (Lib.byteCells k).toArray 24)
 have hF : Fr NoB w (w.alloc (.cells (Lib.byteCells k).toArray 24)) := Fr.refl.alloc _
 have hT := h.keep hF
 have hR := range_block hA
 rw [List.toList_toArray] at hR
 have hZ : (Tryz.prog.info? 24).map (·.size) = some (Lib.byteCells k).length := by rw [Tryz.sizeKey, byteCells_len, hk]
 obtain ⟨L, hL⟩ : ∃ L, t.life k = L := ⟨_, rfl⟩
 obtain ⟨t0, t1⟩ := hT.at
 have hlook := (hT.keep Fr.refl.drew).lookL hk
 rw [hL] at hlook
 rw [hL]
 obtain ⟨C, hC⟩ : ∃ C, Lib.byteCells k = C := ⟨_, rfl⟩
 rw [hC] at hR hF hZ hlook t0 t1
 rw [hC]
 clear hA h hT hk hL hC
 go_enter Tryz.func67, Tryz.ntmps67
 go_upto_region 1 with (fail)
 change Code.wp _ _ _ _ (w.alloc (.cells C.toArray 24))
 obtain ⟨W, hW⟩ : ∃ W, w.alloc (.cells C.toArray 24) = W := ⟨_, rfl⟩
 rw [hW] at hR hF hlook t0 t1 ⊢
 obtain ⟨p, hp⟩ : ∃ p, w.heap.size = p := ⟨_, rfl⟩
 rw [hp] at hR ⊢
 clear hW hp
 have HR := Lib.hid hR
 have HF := Lib.hid hF
 have HZ := Lib.hid hZ
 clear hR hF hZ
 go_upto_region 3 with (fail)
 refine wp_region_held_drew (S := fun V => V = W.drew) (by kernel_rfl) rfl (fun hHeld => ?_)
 simp only [qL, qL1, qL0, qR, qR1, qR0]
 iterate 4
  refine qt (v := ?_) rfl (Or.inl ⟨by rfl, ?_⟩) hHeld ?_
  rotate_left
  ·intro W hSw
   obtain rfl := hSw
   try simp only [qG, qG0, qG1]
   go_simp
   try rw [if_neg (by omega)]
   try with_reducible rfl
  try simp only [Act.put, qS, qS0, qS1, qG, qG0, qG1, qM0, qM1]
 refine qi (i := 4) rfl (yieldsIf_load_mid (by rfl) 24 _ rfl p 0 rfl C (.array 32 5) (fun V h => by rw [h]; exact (World.rangeAt_drew _ _ _ _).2 HR.out) Tryz.underKey rfl HZ.out) hHeld ?_
 try simp only [Act.put, qS, qS0, qS1, qG, qG0, qG1, qM0, qM1]
 iterate 2
  refine qt (v := ?_) rfl (Or.inl ⟨by rfl, ?_⟩) hHeld ?_
  rotate_left
  ·intro W hSw
   obtain rfl := hSw
   try simp only [qG, qG0, qG1]
   go_simp
   try rw [if_neg (by omega)]
   try with_reducible rfl
  try simp only [Act.put, qS, qS0, qS1, qG, qG0, qG1, qM0, qM1]
 refine wpAnyH_done (by kernel_rfl) ?_ _
 clear hHeld
 go_wp2_with fail
 go_ret
 exact ⟨rfl, HF.out.drew⟩
theorem nth_chg (l : List Chg) (hk : ∀ c ∈ l, c.ok) : ∀ i c, l[i]? = some c → ∀ j v, c.cells[j]? = some v → (l.flatMap Chg.cells)[i * 34 + j]? = some v := by
 induction l with
 | nil => intro i c hi; cases hi
 | cons x l ih =>
   intro i c hi j v hv
   have hx := Chg.size (hk x (by simp))
   rw [List.flatMap_cons]
   cases i with
   | zero =>
     obtain rfl : x = c := by simpa using hi
     rw [Nat.zero_mul, Nat.zero_add, List.getElem?_append_left (by
      have := (List.getElem?_eq_some_iff.1 hv).1
      exact this)]
     exact hv
   | succ i =>
     rw [List.getElem?_append_right (by rw [hx]; omega), hx, show (i + 1) * 34 + j - 34 = i * 34 + j by omega]
     exact ih (fun c hc => hk c (by simp [hc])) i c (by simpa using hi) j v hv
/-- a row of changes, one by one -/
theorem row_chg {w : World} {base g n cap : Nat} {l : List Chg} (h : w.ownsRow base 117 34 (.slice (some ⟨g, 0, none⟩) n cap) l.length (l.flatMap Chg.cells)) (hk : ∀ c ∈ l, c.ok) (i : Nat) (c : Chg) (hi : l[i]? = some c) : w.rangeAt g (i * 34) c.cells := by
 intro j v hv
 have := h.cells (g := g) rfl (i * 34 + j) v (nth_chg l hk i c hi j v hv)
 rw [Addr.add_lit] at this
 rw [Nat.zero_add] at this
 exact this
theorem row_form {w : World} {base n : Nat} {v : Value} {xs : List Value} (h : w.ownsRow base 117 34 v n xs) : (v = .slice none 0 0 ∧ n = 0) ∨ ∃ g cap, v = .slice (some ⟨g, 0, none⟩) n cap ∧ base ≤ g ∧ g < w.heap.size ∧ n ≤ cap ∧ cap ≤ maxLen := by
 rcases h.2 with h | ⟨g, cap, cur, h1, h2, h3, h4, h5, -⟩
 ·exact .inl h
 ·exact .inr ⟨g, cap, h1, h2, get_lt h3, h4, h5⟩
theorem Tryz.chgAgg : Chg.zero.cells.toArray = #[.int .i64 0, .bool false, .int .u8 0, .int .u8 0, .int .u8 0, .int .u8 0, .int .u8 0, .int .u8 0, .int .u8 0, .int .u8 0, .int .u8 0, .int .u8 0, .int .u8 0, .int .u8 0, .int .u8 0, .int .u8 0, .int .u8 0, .int .u8 0, .int .u8 0, .int .u8 0, .int .u8 0, .int .u8 0, .int .u8 0, .int .u8 0, .int .u8 0, .int .u8 0, .int .u8 0, .int .u8 0, .int .u8 0, .int .u8 0, .int .u8 0, .int .u8 0, .int .u8 0, .int .u8 0] := rfl
set_option maxRecDepth 100000 in
set_option maxHeartbeats 2000000 in
theorem last_c {base tb n bc bl : Nat} {t : Tb} {g lv : Bs → Option Value} (x : Bs) (w : World) (h : TBL base tb n bc bl t g lv w) (hx : x.length ≤ maxLen) :
 Calls Tryz.prog 66 #[.pointer (some ⟨tb, 0, none⟩), .string ⟨x.toArray⟩] w fun e w' => e = .returned (.agg (t.last x).cells.toArray) ∧ Fr NoB w w' := by
 have hA := heap_alloc_new w (.cells #[.int .i64 0, .bool false, .int .u8 0, .int .u8 0, .int .u8 0, .int .u8 0, .int .u8 0, .int .u8 0, .int .u8 0, .int .u8 0, .int .u8 0, .int .u8 0, .int .u8 0, .int .u8 0, .int .u8 0, .int .u8 0, .int .u8 0, .int .u8 0, .int .u8 0, .int .u8 0, .int .u8 0, .int .u8 0, .int .u8 0, .int .u8 0, .int .u8 0, .int .u8 0, .int .u8 0, .int .u8 0, .int .u8 0, .int .u8 0, .int .u8 0, .int .u8 0, .int .u8 0, .int .u8 0] 117)
 have hF : Fr NoB w (w.alloc (.cells #[.int .i64 0, .bool false, .int .u8 0, .int .u8 0, .int .u8 0, .int .u8 0, .int .u8 0, .int .u8 0, .int .u8 0, .int .u8 0, .int .u8 0, .int .u8 0, .int .u8 0, .int .u8 0, .int .u8 0, .int .u8 0, .int .u8 0, .int .u8 0, .int .u8 0, .int .u8 0, .int .u8 0, .int .u8 0, .int .u8 0, .int .u8 0, .int .u8 0, .int .u8 0, .int .u8 0, .int .u8 0, .int .u8 0, .int .u8 0, .int .u8 0, .int .u8 0, .int .u8 0, .int .u8 0] 117)) := Fr.refl.alloc _
 have hT := h.keep hF
 obtain ⟨t0, t1⟩ := hT.at
 have hlook := hT.lookC hx
 have hrow := hT.rows x hx
 have hkeys := hT.keys x
 unfold Tb.last
 obtain ⟨l, hl⟩ : ∃ l, t.hist x = l := ⟨_, rfl⟩
 obtain ⟨V, hV⟩ : ∃ V, atOr g x = V := ⟨_, rfl⟩
 rw [hl] at hrow hkeys
 rw [hl]
 rw [hV] at hrow hlook
 obtain ⟨d, hu, hd⟩ := Tryz.rowChg
 have hT34 := there_block hA (n := 34) (by show 34 ≤ 34; omega)
 have hpw : w.heap.size < (w.alloc (.cells #[.int .i64 0, .bool false, .int .u8 0, .int .u8 0, .int .u8 0, .int .u8 0, .int .u8 0, .int .u8 0, .int .u8 0, .int .u8 0, .int .u8 0, .int .u8 0, .int .u8 0, .int .u8 0, .int .u8 0, .int .u8 0, .int .u8 0, .int .u8 0, .int .u8 0, .int .u8 0, .int .u8 0, .int .u8 0, .int .u8 0, .int .u8 0, .int .u8 0, .int .u8 0, .int .u8 0, .int .u8 0, .int .u8 0, .int .u8 0, .int .u8 0, .int .u8 0, .int .u8 0, .int .u8 0] 117)).heap.size := by rw [World.size_alloc]; omega
 clear hT h hl hV hA
 obtain ⟨c, hc⟩ : ∃ c, lastC l = c := ⟨_, rfl⟩
 have hcok : c.ok := by
  rw [← hc]
  unfold lastC
  cases hq : l.getLast? with
  | none => rfl
  | some c => exact hkeys c (List.mem_of_getLast? hq)
 rw [hc]
 have Hsz := Lib.hid (show (Tryz.prog.info? 117).map (·.size) = some c.cells.toArray.size by rw [Tryz.sizeChg, List.size_toArray, Chg.size hcok])
 have Hsl := Lib.hid (show (Tryz.prog.info? 117).map (·.size) = some c.cells.length by rw [Tryz.sizeChg, Chg.size hcok])
 have H1 := Lib.hid (Chg.one c)
 have Hcl : Hid (c.cells.toArray.size = 34) := Lib.hid (by rw [List.size_toArray, Chg.size hcok])
 rw [← Hcl.out] at hT34
 have HT := Lib.hid hT34
 clear hT34
 have Hu := Lib.hid hu
 have Hd := Lib.hid hd
 have hres : ∀ (V : World) (p : Nat) (tm : Array Value), tm.getD 4 undef = .pointer (some ⟨p, 0, none⟩) → V.rangeAt p 0 c.cells → (results Tryz.f66 tm).run Tryz.prog V = .ok (.agg c.cells.toArray) V := fun V p tm htm hr => by
  rw [results_cell1 rfl, htm]
  have := run_loadVar_mid (P := Tryz.prog) V p 0 117 c.cells d hr Hu.out Hd.out Hsl.out
  simp [asAddr, Result.andThen, this]
 have Hres := Lib.hid hres
 clear hu hd hres
 rcases Nat.eq_zero_or_pos l.length with h0 | hpos
 ·obtain rfl : l = [] := List.length_eq_zero_iff.1 h0
  obtain rfl : Chg.zero = c := hc
  obtain ⟨a, cap, rfl⟩ : ∃ a cap, V = .slice a 0 cap := by
   rcases row_form hrow with ⟨rfl, -⟩ | ⟨g', cap, rfl, -⟩
   ·exact ⟨_, _, rfl⟩
   ·exact ⟨_, _, rfl⟩
  clear hrow hkeys
  go_enter Tryz.func66, Tryz.ntmps66
  go_upto_region 1 with (fail)
  change Code.wp _ _ _ _ (w.alloc (.cells #[.int .i64 0, .bool false, .int .u8 0, .int .u8 0, .int .u8 0, .int .u8 0, .int .u8 0, .int .u8 0, .int .u8 0, .int .u8 0, .int .u8 0, .int .u8 0, .int .u8 0, .int .u8 0, .int .u8 0, .int .u8 0, .int .u8 0, .int .u8 0, .int .u8 0, .int .u8 0, .int .u8 0, .int .u8 0, .int .u8 0, .int .u8 0, .int .u8 0, .int .u8 0, .int .u8 0, .int .u8 0, .int .u8 0, .int .u8 0, .int .u8 0, .int .u8 0, .int .u8 0, .int .u8 0] 117))
  obtain ⟨W, hW⟩ : ∃ W, w.alloc (.cells #[.int .i64 0, .bool false, .int .u8 0, .int .u8 0, .int .u8 0, .int .u8 0, .int .u8 0, .int .u8 0, .int .u8 0, .int .u8 0, .int .u8 0, .int .u8 0, .int .u8 0, .int .u8 0, .int .u8 0, .int .u8 0, .int .u8 0, .int .u8 0, .int .u8 0, .int .u8 0, .int .u8 0, .int .u8 0, .int .u8 0, .int .u8 0, .int .u8 0, .int .u8 0, .int .u8 0, .int .u8 0, .int .u8 0, .int .u8 0, .int .u8 0, .int .u8 0, .int .u8 0, .int .u8 0] 117) = W := ⟨_, rfl⟩
  rw [hW] at hF HT hlook t0 t1 hpw ⊢
  obtain ⟨p, hp⟩ : ∃ p, w.heap.size = p := ⟨_, rfl⟩
  rw [hp] at HT hpw ⊢
  have Hp := Lib.hid hp
  have HF := Lib.hid hF
  clear hW hp hF
  go_wp2_with (first
   | ((with_reducible refine wpList_buildTo ?_ 117 _ rfl _ rfl Chg.zero.cells.toArray ?_ ?_); rfl; kernel_rfl)
   | (with_reducible refine wpList_store_mid rfl 117 _ _ rfl p 0 Chg.zero.cells.toArray rfl rfl HT.out Hsz.out H1.out ?_))
  refine bodyPost_ret (v := .agg Chg.zero.cells.toArray) ?_ rfl ⟨rfl, HF.out.trans (setCells_fr _ _ _ _) (fun k _ hm => .inr (by have := Hp.out; omega))⟩
  exact Hres.out _ p _ rfl (World.rangeAt_setCells_same W p 0 _ (by simpa using HT.out))
 ·obtain ⟨g', cap, rfl, -, hgl, hnc, hcm⟩ : ∃ g' cap, V = .slice (some ⟨g', 0, none⟩) l.length cap ∧ base ≤ g' ∧ g' < (w.alloc (.cells #[.int .i64 0, .bool false, .int .u8 0, .int .u8 0, .int .u8 0, .int .u8 0, .int .u8 0, .int .u8 0, .int .u8 0, .int .u8 0, .int .u8 0, .int .u8 0, .int .u8 0, .int .u8 0, .int .u8 0, .int .u8 0, .int .u8 0, .int .u8 0, .int .u8 0, .int .u8 0, .int .u8 0, .int .u8 0, .int .u8 0, .int .u8 0, .int .u8 0, .int .u8 0, .int .u8 0, .int .u8 0, .int .u8 0, .int .u8 0, .int .u8 0, .int .u8 0, .int .u8 0, .int .u8 0] 117)).heap.size ∧ l.length ≤ cap ∧ cap ≤ maxLen := by
   rcases row_form hrow with ⟨-, h⟩ | h
   ·omega
   ·exact h
  have hlc : l[l.length - 1]? = some c := by
   rw [← List.getLast?_eq_getElem?]
   rw [← hc]
   unfold lastC
   cases hq : l.getLast? with
   | none =>
     rw [List.getLast?_eq_none_iff] at hq
     subst hq
     simp at hpos
   | some c => rfl
  have HR := Lib.hid (row_chg hrow hkeys _ _ hlc)
  obtain ⟨n, hn⟩ : ∃ n, l.length = n + 1 := ⟨l.length - 1, by omega⟩
  rw [hn] at HR hnc hlook hpos
  rw [Nat.add_sub_cancel] at HR
  clear hrow hkeys hc hcok hlc hpos hn
  unfold maxLen at hcm
  have hnm : IntKind.i64.wrap (((n + 1 : Nat) : Int) - 1) = (n : Int) := by rw [show ((n + 1 : Nat) : Int) - 1 = (n : Int) by omega]; rw [IntKind.wrap_i64]; omega
  have hnlt : (n : Int) < ((n + 1 : Nat) : Int) := by omega
  go_enter Tryz.func66, Tryz.ntmps66
  go_upto_region 1 with (fail)
  change Code.wp _ _ _ _ (w.alloc (.cells #[.int .i64 0, .bool false, .int .u8 0, .int .u8 0, .int .u8 0, .int .u8 0, .int .u8 0, .int .u8 0, .int .u8 0, .int .u8 0, .int .u8 0, .int .u8 0, .int .u8 0, .int .u8 0, .int .u8 0, .int .u8 0, .int .u8 0, .int .u8 0, .int .u8 0, .int .u8 0, .int .u8 0, .int .u8 0, .int .u8 0, .int .u8 0, .int .u8 0, .int .u8 0, .int .u8 0, .int .u8 0, .int .u8 0, .int .u8 0, .int .u8 0, .int .u8 0, .int .u8 0, .int .u8 0] 117))
  obtain ⟨W, hW⟩ : ∃ W, w.alloc (.cells #[.int .i64 0, .bool false, .int .u8 0, .int .u8 0, .int .u8 0, .int .u8 0, .int .u8 0, .int .u8 0, .int .u8 0, .int .u8 0, .int .u8 0, .int .u8 0, .int .u8 0, .int .u8 0, .int .u8 0, .int .u8 0, .int .u8 0, .int .u8 0, .int .u8 0, .int .u8 0, .int .u8 0, .int .u8 0, .int .u8 0, .int .u8 0, .int .u8 0, .int .u8 0, .int .u8 0, .int .u8 0, .int .u8 0, .int .u8 0, .int .u8 0, .int .u8 0, .int .u8 0, .int .u8 0] 117) = W := ⟨_, rfl⟩
  rw [hW] at hF HT hlook t0 t1 hpw hgl HR ⊢
  obtain ⟨p, hp⟩ : ∃ p, w.heap.size = p := ⟨_, rfl⟩
  rw [hp] at HT hpw ⊢
  have Hp := Lib.hid hp
  have HF := Lib.hid hF
  clear hW hp hF
  have hnz : (((n + 1 : Nat) : Int) == 0) = false := by simp; omega
  go_wp2_with (first
   | (with_reducible refine wpList_load_mid rfl 117 _ rfl g' (n * 34) rfl c.cells d HR.out Hu.out Hd.out Hsl.out ?_)
   | (with_reducible refine wpList_store_mid rfl 117 _ _ rfl p 0 c.cells.toArray rfl rfl HT.out Hsz.out H1.out ?_))
  refine bodyPost_ret (v := .agg c.cells.toArray) ?_ rfl ⟨rfl, HF.out.trans (setCells_fr _ _ _ _) (fun k _ hm => .inr (by have := Hp.out; omega))⟩
  exact Hres.out _ p _ rfl (World.rangeAt_setCells_same W p 0 _ (by simpa using HT.out))
end Go.Proofs.YtcddlemkimbkcaaGreatDoor
namespace Go.Proofs.YtcddlemkimbkcaaGreatDoor
set_option linter.unusedVariables false
set_option linter.unusedSimpArgs false
set_option linter.unusedSectionVars false
variable [OldK]
section
open Go.ChangeShapes Go.WideShapes Go.MapKept Go.ChangeMaps
open Go.WideMaps (KeyLaw)
open Go.WideElems
variable {H : Type} {P : Program} {w : World} {t k e : TypeId} {R : Value → Option (DataW H × List MemPlace)} {b : Nat} {es : Array MapEntry} {clock : Nat}
/-- an entry that is taken: as if its value had been stored; and the value is what a look-up answers -/
theorem entry_update (K : KeyLaw P k) (ht : P.underlying t = some (.map k e)) {z : Value} (hz : ∀ u : World, (zeroValue e).run P u = .ok z u) (hb : w.heap[b]? = some (.map es clock)) (F : WideElems.Fit P k R es clock)
 {key : Value} {kl : Lit} (hkey : keyOf P k key = some kl) :
 ∃ (v0 : Value) (st : Nat) (w1 : World), (Instr.mapEntry t (.map (some b)) key).run P w = .ok (.tuple #[v0, goInt st]) w1 ∧ (Instr.mapUpdate t (.map (some b)) key v0).run P w = .ok () w1 ∧ (Instr.lookup t (.map (some b)) key false).run P w = .ok v0 w := by
 rcases K.find w hkey es.toList F.keys with ⟨h1, h2⟩ | ⟨j, e0, h1, h2, h3⟩
 ·refine ⟨z, clock, setBlock w b (.map (es.push ⟨key, z, clock⟩) (clock + 1)), ?_, ?_, ?_⟩
  ·simp [Instr.mapEntry, run_underlying ht, MapKept.run_getObj_map hb, K.check w false hkey, h1, hz, MapKept.run_setObj_map _ hb, Result.andThen, setBlock]
  ·simp [Instr.mapUpdate, run_underlying ht, MapKept.run_getObj_map hb, K.check w false hkey, h1, MapKept.run_setObj_map _ hb, Result.andThen, setBlock]
  ·simp [Instr.lookup, run_underlying ht, MapKept.run_getObj_map hb, K.check w _ hkey, h1, hz, Result.andThen]
 ·have hj : es[j]? = some e0 := by simpa using h2
  have hsame : es.modify j (fun e => { e with key := key }) = es := by
   apply Array.ext'
   rw [Array.toList_modify, modify_eq_set _ _ _ _ h2]
   have : ({ e0 with key := key } : MapEntry) = e0 := by rw [← h3]
   rw [this]
   exact set_self _ _ _ h2
  have hsame2 : es.modify j (fun e => { e with key := key, val := e0.val }) = es := by
   apply Array.ext'
   rw [Array.toList_modify, modify_eq_set _ _ _ _ h2]
   have : ({ e0 with key := key, val := e0.val } : MapEntry) = e0 := by rw [← h3]
   rw [this]
   exact set_self _ _ _ h2
  refine ⟨e0.val, e0.born, setBlock w b (.map es clock), ?_, ?_, ?_⟩
  ·simp [Instr.mapEntry, run_underlying ht, MapKept.run_getObj_map hb, K.check w false hkey, h1, hj, h3, K.stays w hkey, hsame, MapKept.run_setObj_map _ hb, Result.andThen, setBlock]
  ·simp [Instr.mapUpdate, run_underlying ht, MapKept.run_getObj_map hb, K.check w false hkey, h1, hj, h3, K.stays w hkey, hsame2, MapKept.run_setObj_map _ hb, Result.andThen, setBlock]
  ·simp [Instr.lookup, run_underlying ht, MapKept.run_getObj_map hb, K.check w _ hkey, h1, hj, Result.andThen]
end
section
variable {P : Program} {k t e : TypeId} {K : KeyB P k} {w : World} {b n : Nat} {M : Bs → Option Value}
theorem MapB.entry (h : MapB K w b n M) (hK : WideMaps.KeyLaw P k) (ht : P.underlying t = some (.map k e)) {z : Value} (hz : ∀ u : World, (zeroValue e).run P u = .ok z u) (hn : n < maxLen) {x : Bs} (hx : K.dom x) :
 ∃ (v0 : Value) (st : Nat) (w1 : World), (Instr.mapEntry t (.map (some b)) (K.kv x)).run P w = .ok (.tuple #[v0, goInt st]) w1 ∧ w.grownBy w1 (some b) ∧
  ∀ (w2 : World) (v : Value), w1.grownBy w2 none → ∃ w3, (Instr.entryStore t (.map (some b)) (goInt st) v).run P w2 = .ok () w3 ∧ MapB K w3 b (n + 1) (upd M x (some v)) ∧ w2.grownBy w3 (some b) := by
 obtain ⟨D, ⟨es, clock, hb, F, hs, hD⟩, hd⟩ := h
 have hbl : b < w.heap.size := (Array.getElem?_eq_some_iff.1 hb).1
 obtain ⟨v0, st, es1, clock1, h1, -, h2⟩ := Go.WideElems.entry_then_store hK ht hz hb F (K.key x hx)
 have hg1 : w.grownBy (ChangeMaps.setBlock w b (.map es1 clock1)) (some b) := ⟨rfl, rfl, rfl, by simp [ChangeMaps.setBlock], fun i _ hi => ChangeMaps.heap_setBlock_other hb _ (fun e => hi (by rw [e]))⟩
 refine ⟨v0, st, _, h1, hg1, fun w2 v hg2 => ?_⟩
 have hb1 := ChangeMaps.heap_setBlock_same hb (.map es1 clock1)
 have hb2 : w2.heap[b]? = some (.map es1 clock1) := (hg2.block b (Nat.lt_of_lt_of_le hbl hg1.size) (by simp)).trans hb1
 obtain ⟨es', clock', h3, h4⟩ := h2 w2 v hb2
 have hm : MapB K w b n M := ⟨D, ⟨es, clock, hb, F, hs, hD⟩, hd⟩
 obtain ⟨w', h5, ⟨D', ⟨es2, cl2, hb', hF', hs', hD'⟩, hd'⟩, -⟩ := hm.store ht hn hx v
 rw [h4] at h5
 injection h5 with _ h5
 subst h5
 rw [ChangeMaps.heap_setBlock_same hb] at hb'
 injection hb' with hb'
 injection hb' with e1 e2
 subst e1 e2
 exact ⟨_, h3, ⟨D', ⟨es', clock', ChangeMaps.heap_setBlock_same hb2 _, hF', hs', hD'⟩, hd'⟩, ⟨rfl, rfl, rfl, by simp [ChangeMaps.setBlock], fun i _ hi => ChangeMaps.heap_setBlock_other hb2 _ (fun e => hi (by rw [e]))⟩⟩
/-- the same, with what lies in the map behind the taking -/
theorem MapB.entry2 (h : MapB K w b n M) (hK : WideMaps.KeyLaw P k) (ht : P.underlying t = some (.map k e)) {z : Value} (hz : ∀ u : World, (zeroValue e).run P u = .ok z u) (hn : n < maxLen) {x : Bs} (hx : K.dom x) :
 ∃ (st : Nat) (w1 : World), (Instr.mapEntry t (.map (some b)) (K.kv x)).run P w = .ok (.tuple #[(M x).getD z, goInt st]) w1 ∧ MapB K w1 b (n + 1) (upd M x (some ((M x).getD z))) ∧ w.grownBy w1 (some b) ∧
  ∀ (w2 : World) (v : Value), w1.grownBy w2 none → ∃ w3, (Instr.entryStore t (.map (some b)) (goInt st) v).run P w2 = .ok () w3 ∧ MapB K w3 b (n + 1) (upd M x (some v)) ∧ w2.grownBy w3 (some b) := by
 obtain ⟨v0, st, w1, h1, h2, h3⟩ := h.entry hK ht hz hn hx
 obtain ⟨D, ⟨es, clock, hb, F, hs, hD⟩, hd⟩ := id h
 obtain ⟨v0', st', w1', g1, g2, g3⟩ := entry_update hK ht hz hb F (K.key x hx)
 rw [h1] at g1
 injection g1 with g1 g1w
 injection g1 with g1
 obtain rfl : v0 = v0' := by
  have g2 := congrArg Array.toList g1
  simp only [List.cons.injEq] at g2
  exact g2.1
 subst g1w
 rw [h.look ht (hz w) hx] at g3
 injection g3 with g3
 obtain ⟨w4, k1, k2, -⟩ := h.store ht hn hx v0
 rw [g2] at k1
 injection k1 with _ k1
 subst k1
 subst g3
 exact ⟨st, w1, h1, k2, h2, h3⟩
end
theorem Tryz.keyLaw : WideMaps.KeyLaw Tryz.prog 24 := deep_law_laid Tryz.laidOutP (m := 9999) (Nat.le_refl _) (of_decide_eq_true (by kernel_rfl)) (by kernel_rfl) (by rw [Tryz.underKey])
end Go.Proofs.YtcddlemkimbkcaaGreatDoor
namespace Go.Proofs.YtcddlemkimbkcaaGreatDoor
set_option linter.unusedVariables false
set_option linter.unusedSimpArgs false
set_option linter.unusedSectionVars false
open Go.RowKit
variable [OldK]
/-- a table but for its keys' lives -/
structure TBC (base tb n bc bl : Nat) (hist : Bs → List Chg) (g : Bs → Option Value) (w : World) : Prop where
 old : OldK.k ≤ base
 cells : w.heap[tb]? = some (.cells #[.map (some bc), .map (some bl)] 115 (0, 0))
 low : base ≤ tb ∧ base ≤ bc ∧ base ≤ bl ∧ bc ≠ bl
 ch : MapB strK w bc n g
 rows : ∀ x : Bs, x.length ≤ maxLen → w.ownsRow base 117 34 (atOr g x) (hist x).length ((hist x).flatMap Chg.cells)
 apart : ∀ x y : Bs, x.length ≤ maxLen → y.length ≤ maxLen → x ≠ y → (atOr g x).ownBlock = none ∨ (atOr g x).ownBlock ≠ (atOr g y).ownBlock
 few : ∀ x, (hist x).length ≤ n
 keys : ∀ x, ∀ c ∈ hist x, c.ok
section
variable {base tb n bc bl : Nat} {t : Tb} {hist : Bs → List Chg} {g lv : Bs → Option Value} {w w' : World}
theorem TBL.toC (h : TBL base tb n bc bl t g lv w) : TBC base tb n bc bl t.hist g w := ⟨h.old, h.cells, h.low, h.ch, h.rows, h.apart, h.few, h.keys⟩
theorem TBC.toL (h : TBC base tb n bc bl hist g w) {life : Bs → Int} (hl : MapB keyK w bl (2 * n) lv) (hk : ∀ k : Bs, k.length = 32 → (lv k).getD (.int .i64 0) = .int .i64 (life k)) : TBL base tb n bc bl ⟨hist, life⟩ g lv w :=
 ⟨h.old, h.cells, h.low, h.ch, hl, hk, h.rows, h.apart, h.few, h.keys⟩
theorem TBC.fr {M : Nat → Obj → Prop} (h : TBC base tb n bc bl hist g w) (hF : Fr M w w')
 (hM : ∀ k o, (k = tb ∨ k = bc ∨ (base ≤ k ∧ OfTy 117 o)) → w.heap[k]? = some o → ¬ M k o) : TBC base tb n bc bl hist g w' := by
 obtain ⟨D, ⟨es, clock, h0, h1⟩, h2⟩ := id h.ch
 refine ⟨h.old, hF.block _ _ h.cells (hM _ _ (.inl rfl) h.cells), h.low, ⟨D, ⟨es, clock, hF.block _ _ h0 (hM _ _ (.inr (.inl rfl)) h0), h1⟩, h2⟩, fun x hx => ?_, h.apart, h.few, h.keys⟩
 have hr := h.rows x hx
 refine ⟨hr.1, hr.2.imp id ?_⟩
 rintro ⟨g', cap, cur, e1, e2, e3, e4⟩
 exact ⟨g', cap, cur, e1, e2, hF.block _ _ e3 (hM _ _ (.inr (.inr ⟨e2, _, _, rfl⟩)) e3), e4⟩
theorem TBC.apartB {m : Nat} (h : TBC base tb n bc bl hist g w) (hl : MapB keyK w bl m lv) : tb ≠ bl ∧ tb ≠ bc := by
 obtain ⟨D, ⟨es, clock, h0, h1⟩, h2⟩ := id h.ch
 obtain ⟨D', ⟨es', clock', h0', h1'⟩, h2'⟩ := id hl
 have hc := h.cells
 constructor
 ·rintro rfl
  rw [hc] at h0'
  cases h0'
 ·rintro rfl
  rw [hc] at h0
  cases h0
/-- an identity's changes grew by one, and its slice was stored anew -/
theorem TBC.push (h : TBC base tb n bc bl hist g w) {x : Bs} (hx : x.length ≤ maxLen) {c : Chg} (hc : c.ok) {wA w1 w2 : World} {v' : Value} (hA : Fr NoB w wA)
 (hown : w1.ownsRow base 117 34 v' ((hist x).length + 1) ((hist x).flatMap Chg.cells ++ c.cells)) (hg1 : wA.grownBy w1 (atOr g x).ownBlock) (hloc : v'.ownBlock = (atOr g x).ownBlock ∨ v'.ownBlock = some wA.heap.size)
 (hm : MapB strK w2 bc (n + 1) (upd g x (some v'))) (hg2 : w1.grownBy w2 (some bc)) : TBC base tb (n + 1) bc bl (upd hist x (hist x ++ [c])) (upd g x (some v')) w2 := by
 obtain ⟨D, ⟨es, clock, h0, -⟩, -⟩ := id h.ch
 have hrx := h.rows x hx
 have hAb := hA.size
 -- an old block but the slice's own stays
 have keep : ∀ k o, w.heap[k]? = some o → some k ≠ (atOr g x).ownBlock → k ≠ bc → w2.heap[k]? = some o := fun k o hk h1 h2 => by
  have e1 := hA.block k o hk (fun h => h)
  have e2 := (hg1.block k (get_lt e1) h1).trans e1
  exact (hg2.block k (get_lt e2) (fun e => h2 (Option.some.inj e))).trans e2
 have hown2 : ∀ {v : Value} {m : Nat} {xs : List Value}, w1.ownsRow base 117 34 v m xs → w2.ownsRow base 117 34 v m xs := fun {v m xs} ho => by
  refine ⟨ho.1, ho.2.imp id ?_⟩
  rintro ⟨g', cap, cur, e1, e2, e3, e4⟩
  refine ⟨g', cap, cur, e1, e2, (hg2.block _ (get_lt e3) (fun e => ?_)).trans e3, e4⟩
  -- a row is no map
  obtain rfl := Option.some.inj e
  have hb := hA.block _ _ h0 (fun h => h)
  have hne : some g' ≠ (atOr g x).ownBlock := fun e5 => by
   rcases hrx.2 with ⟨e6, -⟩ | ⟨g6, cap6, cur6, e6, -, e7, -⟩
   ·rw [e6] at e5; cases e5
   ·rw [e6] at e5
    obtain rfl : g' = g6 := by simpa [Value.ownBlock] using e5
    rw [h0] at e7
    cases e7
  have hb1 := (hg1.block _ (get_lt hb) hne).trans hb
  rw [hb1] at e3
  cases e3
 have gx : atOr (upd g x (some v')) x = v' := by unfold atOr; rw [upd_same]; rfl
 have gy : ∀ y, y ≠ x → atOr (upd g x (some v')) y = atOr g y := fun y hy => by unfold atOr; rw [upd_other _ _ hy]
 have hnew : ∀ y, y.length ≤ maxLen → y ≠ x → (atOr g y).ownBlock = none ∨ (atOr g y).ownBlock ≠ v'.ownBlock := fun y hy hne => by
  rcases hloc with e | e
  ·rw [e]
   exact h.apart y x hy hx hne
  ·rw [e]
   right
   intro e2
   rcases (h.rows y hy).2 with ⟨e6, -⟩ | ⟨g6, cap6, cur6, e6, -, e7, -⟩
   ·rw [e6] at e2; cases e2
   ·rw [e6] at e2
    have := get_lt e7
    have : g6 = wA.heap.size := by simpa [Value.ownBlock] using e2
    omega
 refine ⟨h.old, keep _ _ h.cells (fun e => ?_) (fun e => ?_), h.low, hm, fun y hy => ?_, fun y z hy hz hne => ?_, fun y => ?_, fun y c' hc' => ?_⟩
 ·rcases hrx.2 with ⟨e6, -⟩ | ⟨g6, cap6, cur6, e6, -, e7, -⟩
  ·rw [e6] at e; cases e
  ·rw [e6] at e
   obtain rfl : tb = g6 := by simpa [Value.ownBlock] using e
   have := h.cells
   rw [e7] at this
   injection this with this
   injection this with _ this _
   revert this; decide
 ·subst e
  have := h.cells
  rw [h0] at this
  cases this
 ·by_cases he : y = x
  ·subst he
   rw [gx, upd_same, List.length_append, List.flatMap_append]
   simpa using hown2 hown
  ·rw [gy y he, upd_other _ _ he]
   have hr := h.rows y hy
   refine ⟨hr.1, hr.2.imp id ?_⟩
   rintro ⟨g', cap, cur, e1, e2, e3, e4⟩
   refine ⟨g', cap, cur, e1, e2, keep _ _ e3 (fun e => ?_) (fun e => ?_), e4⟩
   ·rcases h.apart y x hy hx he with h5 | h5
    ·rw [e1] at h5; cases h5
    ·exact h5 (by rw [e1, ← e]; rfl)
   ·subst e
    rw [h0] at e3
    cases e3
 ·by_cases hyx : y = x
  ·subst hyx
   rw [gx, gy z (fun e => hne e.symm)]
   rcases hnew z hz (fun e => hne e.symm) with h5 | h5
   ·right
    rw [h5]
    rcases hown.2 with ⟨-, e6⟩ | ⟨g6, cap6, cur6, e6, -⟩
    ·omega
    ·rw [e6]; simp [Value.ownBlock]
   ·exact .inr h5.symm
  ·by_cases hzx : z = x
   ·subst hzx
    rw [gx, gy y hyx]
    exact hnew y hy hyx
   ·rw [gy y hyx, gy z hzx]
    exact h.apart y z hy hz hne
 ·by_cases he : y = x
  ·subst he
   rw [upd_same, List.length_append]
   have := h.few y
   simp; omega
  ·rw [upd_other _ _ he]
   have := h.few y
   omega
 ·by_cases he : y = x
  ·subst he
   rw [upd_same] at hc'
   rcases List.mem_append.1 hc' with h5 | h5
   ·exact h.keys y c' h5
   ·obtain rfl : c' = c := by simpa using h5
    exact hc
  ·rw [upd_other _ _ he] at hc'
   exact h.keys y c' hc'
end
/-- append where the new row's place is told, as one operation -/
theorem wp_append_at {P : Program} {o : Oper} {a : Act} {w : World} {K : Act → World → Prop} {Q : Exit → Act → World → Prop} (s x : Operand) (t : TypeId)
 (ho : o.op = .call { callee := .builtin .append, args := #[s, x], argTypes := #[t, t] })
 (base : Nat) (e : TypeId) (i : TypeInfo) (z : Value) (size bytes : Nat) (ht : P.underlying t = some (.slice e)) (hi : P.info? e = some i) (hz : i.zero = some z)
 (hsize : i.size = size) (hby : i.bytes = bytes) (hzs : z.cells.size = size) (hsz : 0 < size)
 (v : Value) (n : Nat) (xs : List Value) (hs : a.eval s = v) (hown : w.ownsRow base e size v n xs)
 (ad : Addr) (m c : Nat) (news : List Value) (hx : a.eval x = .slice (some ad) m c) (hl : news.length = m * size) (hnews : ∀ j u, news[j]? = some u → w.cell? (ad.add j) = some u) (h1 : ∀ u ∈ news, u.oneCell' = true)
 (h63 : n + m ≤ maxLen) (hbytes : (n + m) * bytes ≤ 140737488355328) (hbase : base ≤ w.heap.size)
 (h : ∀ v' w', w'.ownsRow base e size v' (n + m) (xs ++ news) → w.grownBy w' v.ownBlock → (v'.ownBlock = v.ownBlock ∨ v'.ownBlock = some w.heap.size) → K (a.put o.dst v') w') :
 Oper.wp P o a w K Q := by
 obtain ⟨v', w', hr, h2, h3, h4, h5⟩ := run_append_own_at (P := P) w base t o.type e i z size bytes ht hi hz hsize hby hzs hsz v n xs hown ad m c news hl hnews h1 h63 hbytes hbase
 unfold Oper.wp execOp
 simp only [ho, resolve, invoke, builtin, Sem.run_bind, Sem.run_pure, Result.andThen_ok, List.map_toArray, List.map_cons, List.map_nil, hs, hx, hr]
 exact h v' w' h2 h3 h5
/-- a slice literal, as one operation -/
theorem wp_buildSliceTo {P : Program} {o : Oper} {a : Act} {w : World} {K : Act → World → Prop} {Q : Exit → Act → World → Prop} (t e : TypeId) (len : Nat) (parts : Array (Nat × Operand)) (ho : o.op = .buildSlice t len parts)
 (hu : P.underlying t = some (.slice e)) (cells : Array Value) (hf : P.builtSlice e len (parts.map fun (i, x) => (i, a.eval x)).toList = some cells)
 (h : K (a.put o.dst (.slice (some ⟨w.heap.size, 0, none⟩) len len)) (w.alloc (.cells cells e))) : Oper.wp P o a w K Q := by
 unfold Program.builtSlice at hf
 cases hie : P.info? e with
 | none => simp [hie] at hf
 | some ie =>
   simp only [hie] at hf
   cases hz : ie.zero with
   | none => simp [hz] at hf
   | some z =>
     simp only [hz] at hf
     by_cases hc : len * ie.size > 2 ^ 24 ∨ len * ie.size = 0
     ·simp [hc] at hf
     ·rw [if_neg hc] at hf
      unfold Oper.wp execOp
      simp only [ho]
      rw [Sem.run_bind, run_buildSlice w t e len _ cells ie z hu hie hz (fun h' => hc (Or.inl h')) (fun h' => hc (Or.inr h')) hf]
      exact h
theorem Tryz.infoChg : (Tryz.prog.info? 117).map (fun i => (i.zero, i.size, i.bytes)) = some (some (.agg Chg.zero.cells.toArray), 34, 48) := by kernel_rfl
end Go.Proofs.YtcddlemkimbkcaaGreatDoor
