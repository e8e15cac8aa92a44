/-
 The walks of package coder: digests by their figures.
-/
import Derived.Test.YtcddlemkimbkcaaGreatDoorKUnhex
import Derived.Deep.MidRow
import Derived.Deep.WholeRow
import Derived.Test.YtcddlemkimbkcaaGreatDoorKSpecEntry
namespace Go.Proofs.YtcddlemkimbkcaaGreatDoor
set_option linter.unusedVariables false
set_option linter.unusedSimpArgs false
set_option linter.unusedSectionVars false
open Go.RowKit
variable [OldK]
set_option maxRecDepth 100000 in
set_option maxHeartbeats 1000000 in
theorem unhex_c (s : Bs) (w : World) (hlen : s.length ≤ 1000000) :
 Calls Tryz.prog 111 #[.string ⟨s.toArray⟩] w fun e w' => DecPost w.heap.size (unhexS s) e w' ∧ Fr NoB w w' := by
 have hc := fun W => decode_c hexes 4 (.inl rfl) rfl s W hlen
 unfold unhexS
 obtain ⟨X, hX⟩ : ∃ X : Bs, X = hexes := ⟨_, rfl⟩
 have hh := hexes_c w
 rw [← hX] at hc hh ⊢
 obtain ⟨R, hR⟩ : ∃ R, dLoop X 4 0 0 [] s = R := ⟨_, rfl⟩
 rw [hR] at hc ⊢
 have Hc := Lib.hid hc
 have Hh := Lib.hid hh
 clear hc hh hX hR
 cases R with
 | none =>
   go_enter Tryz.func111, Tryz.ntmps111
   go_wp2_with fail
   refine Hh.out.mono ?_
   rintro e w1 ⟨rfl, hF1⟩
   have HF1 := Lib.hid hF1
   clear hF1
   go_wp2_with fail
   refine (Hc.out _).mono ?_
   rintro e w2 ⟨hp, hF2⟩
   obtain rfl : e = _ := hp
   go_wp2_with fail
   go_ret2
   exact ⟨rfl, HF1.out.trans' hF2⟩
 | some b =>
   go_enter Tryz.func111, Tryz.ntmps111
   go_wp2_with fail
   refine Hh.out.mono ?_
   rintro e w1 ⟨rfl, hF1⟩
   have HF1 := Lib.hid hF1
   clear hF1
   go_wp2_with fail
   refine (Hc.out _).mono ?_
   rintro e w2 ⟨⟨a, c, rfl, hsb⟩, hF2⟩
   go_wp2_with fail
   go_ret2
   exact ⟨⟨a, c, rfl, hsb.kp (fun k o hk ho _ => ⟨by have := HF1.out.size; omega, ho⟩)⟩, HF1.out.trans' hF2⟩
set_option maxRecDepth 100000 in
set_option maxHeartbeats 1000000 in
theorem clip_c (ad : Addr) (n c : Nat) (w : World) (h : n ≤ c) :
 Calls Tryz.prog 163 #[.slice (some ad) n c] w fun e w' => e = .returned (.slice (some ad) n n) ∧ w = w' := by
 have h1 : (n : Int) ≤ (c : Int) := by omega
 go_enter Tryz.func163, Tryz.ntmps163
 go_wp2_with fail
 go_ret
 exact ⟨rfl, rfl⟩
/-- a digest's figures, as bytes of a slice that has just that room -/
def ExactPost (B : Nat) (r : Option Bs) (e : Ending) (w' : World) : Prop :=
 match r with
 | some b => ∃ a, e = .returned (.tuple #[.slice a b.length b.length, .nilIface]) ∧ SB (fun k => B ≤ k) b (.slice a b.length b.length) w'
 | none => e = .returned (.tuple #[.slice none 0 0, .iface 56 (.int .i64 1)])
set_option maxRecDepth 100000 in
set_option maxHeartbeats 1000000 in
theorem coderExact_c (s : Bs) (w : World) (hlen : s.length ≤ 1000000) :
 Calls Tryz.prog 110 #[.func (.func 111) #[] #[], .string ⟨s.toArray⟩, .int .i64 32] w fun e w' => ExactPost w.heap.size (sumS s) e w' ∧ Fr NoB w w' := by
 have hc := unhex_c s w hlen
 unfold sumS
 obtain ⟨R, hR⟩ : ∃ R, unhexS s = R := ⟨_, rfl⟩
 rw [hR] at hc ⊢
 have Hc := Lib.hid hc
 clear hc hR
 have hent : ∀ args w, (callFunc 111 args).run Tryz.prog w = .ok (.enter 111 args) w := fun args w => by simp [go_sem]
 cases R with
 | none =>
   go_enter Tryz.func110, Tryz.ntmps110
   go_wp2_with fail
   refine Hc.out.mono ?_
   rintro e w2 ⟨hp, hF2⟩
   obtain rfl : e = _ := hp
   go_wp2_with fail
   go_ret2
   exact ⟨rfl, hF2⟩
 | some b =>
   simp only
   by_cases h32 : b.length = 32
   ·rw [if_pos h32]
    have Hc2 := Hc
    clear Hc
    go_enter Tryz.func110, Tryz.ntmps110
    go_wp2_with fail
    refine Hc2.out.mono ?_
    rintro e w2 ⟨⟨a, c, rfl, hsb⟩, hF2⟩
    obtain ⟨g, o, c', e1, hc', -, -, -⟩ := hsb.cellsAt (by intro h; rw [h] at h32; simp at h32)
    obtain ⟨rfl, rfl⟩ : a = some ⟨g, o, none⟩ ∧ c = c' := by simpa using e1
    have hl := hsb
    have Hsb := Lib.hid hsb
    have HF2 := Lib.hid hF2
    rw [h32] at hc'
    have h32i : ((b.length : Int) != 32) = false := by rw [h32]; rfl
    have Hcl := Lib.hid (clip_c ⟨g, o, none⟩ b.length c w2 (by omega))
    have H32 := Lib.hid h32
    clear e1 hl hsb hF2 h32
    go_wp2_with fail
    refine Hcl.out.mono ?_
    rintro e w3 ⟨rfl, rfl⟩
    go_wp2_with fail
    go_ret2
    refine ⟨⟨_, rfl, ?_⟩, HF2.out⟩
    obtain ⟨a', cp, hv, hcp, hx⟩ := Hsb.out
    simp only [Value.slice.injEq] at hv
    obtain ⟨rfl, -, -⟩ := hv
    exact ⟨_, _, rfl, Nat.le_refl _, hx⟩
   ·rw [if_neg h32]
    have Hc2 := Hc
    clear Hc
    go_enter Tryz.func110, Tryz.ntmps110
    go_wp2_with fail
    refine Hc2.out.mono ?_
    rintro e w2 ⟨⟨a, c, rfl, hsb⟩, hF2⟩
    have HF2 := Lib.hid hF2
    have h32i : ((b.length : Int) != 32) = true := by simp; omega
    have h32n : (b.length != 32) = true := by simp; omega
    clear hsb hF2
    go_wp2_with fail
    go_ret2
    exact ⟨rfl, HF2.out⟩
/-- a digest, or none -/
def SumPost (r : Option Bs) (e : Ending) : Prop :=
 match r with
 | some b => e = .returned (.tuple #[.agg (Lib.byteCells b).toArray, .nilIface])
 | none => e = .returned (.tuple #[.agg #[.int .u8 0, .int .u8 0, .int .u8 0, .int .u8 0, .int .u8 0, .int .u8 0, .int .u8 0, .int .u8 0, .int .u8 0, .int .u8 0, .int .u8 0, .int .u8 0, .int .u8 0, .int .u8 0, .int .u8 0, .int .u8 0, .int .u8 0, .int .u8 0, .int .u8 0, .int .u8 0, .int .u8 0, .int .u8 0, .int .u8 0, .int .u8 0, .int .u8 0, .int .u8 0, .int .u8 0, .int .u8 0, .int .u8 0, .int .u8 0, .int .u8 0, .int .u8 0], .iface 56 (.int .i64 1)])
theorem Tryz.sizeSum : (Tryz.prog.info? 23).map (·.size) = some 32 := by kernel_rfl
theorem Tryz.underSum : Tryz.prog.underlying 23 = some (.array 32 5) := by kernel_rfl
/-- a block that holds an array of 32 bytes -/
theorem range_block {w : World} {b : Nat} {cs : Array Value} {T : TypeId} {f : Nat × Nat} (h : w.heap[b]? = some (.cells cs T f)) : w.rangeAt b 0 cs.toList := by
 intro j v hv
 rw [Array.getElem?_toList] at hv
 simp [World.cell?, h, hv]
theorem there_block {w : World} {b n : Nat} {cs : Array Value} {T : TypeId} (h : w.heap[b]? = some (.cells cs T (0, 0))) (hn : n ≤ cs.size) : w.there b 0 n := by
 intro j hj
 have hj2 : j < cs.size := by omega
 have : cs[0 + j]? = some cs[j] := by rw [Nat.zero_add]; exact Array.getElem?_eq_getElem hj2
 have hc : w.cell? ⟨b, 0 + j, none⟩ = some cs[j] := by
  simp only [World.cell?, h]
  exact this
 exact ⟨by rw [hc]; rfl, by simp [World.frozen?, h]⟩
theorem setCells_fr (b : Nat) : ∀ (vs : List Value) (o : Nat) (w : World), Fr (fun k _ => k = b) w (w.setCells b o vs)
 | [], _, _ => Fr.refl
 | v :: r, o, w => by
   rw [World.setCells]
   exact (Fr.refl.setCell ⟨b, o, none⟩ v (fun _ _ => rfl)).trans' (setCells_fr b r (o + 1) _)
set_option maxRecDepth 100000 in
set_option maxHeartbeats 1000000 in
theorem sum_c (s : Bs) (w : World) (hlen : s.length ≤ 1000000) :
 Calls Tryz.prog 60 #[.string ⟨s.toArray⟩] w fun e w' => SumPost (sumS s) e ∧ Fr NoB w w' := by
 have hc := fun W => coderExact_c s W hlen
 have hl := fun b h => (sumS_iff s b).1 h
 obtain ⟨R, hR⟩ : ∃ R, sumS s = R := ⟨_, rfl⟩
 rw [hR] at hc hl ⊢
 have Hc := Lib.hid hc
 clear hc hR
 cases R with
 | none =>
   clear hl
   go_enter Tryz.func60, Tryz.ntmps60
   go_wp2_with fail
   obtain ⟨w1, hw1⟩ : ∃ w1, w.alloc (.cells #[.int .u8 0, .int .u8 0, .int .u8 0, .int .u8 0, .int .u8 0, .int .u8 0, .int .u8 0, .int .u8 0, .int .u8 0, .int .u8 0, .int .u8 0, .int .u8 0, .int .u8 0, .int .u8 0, .int .u8 0, .int .u8 0, .int .u8 0, .int .u8 0, .int .u8 0, .int .u8 0, .int .u8 0, .int .u8 0, .int .u8 0, .int .u8 0, .int .u8 0, .int .u8 0, .int .u8 0, .int .u8 0, .int .u8 0, .int .u8 0, .int .u8 0, .int .u8 0] 23) = w1 := ⟨_, rfl⟩
   have hA := heap_alloc_new w (.cells #[.int .u8 0, .int .u8 0, .int .u8 0, .int .u8 0, .int .u8 0, .int .u8 0, .int .u8 0, .int .u8 0, .int .u8 0, .int .u8 0, .int .u8 0, .int .u8 0, .int .u8 0, .int .u8 0, .int .u8 0, .int .u8 0, .int .u8 0, .int .u8 0, .int .u8 0, .int .u8 0, .int .u8 0, .int .u8 0, .int .u8 0, .int .u8 0, .int .u8 0, .int .u8 0, .int .u8 0, .int .u8 0, .int .u8 0, .int .u8 0, .int .u8 0, .int .u8 0] 23)
   have hF := (Fr.refl (M := NoB)).alloc (w := w) (.cells #[.int .u8 0, .int .u8 0, .int .u8 0, .int .u8 0, .int .u8 0, .int .u8 0, .int .u8 0, .int .u8 0, .int .u8 0, .int .u8 0, .int .u8 0, .int .u8 0, .int .u8 0, .int .u8 0, .int .u8 0, .int .u8 0, .int .u8 0, .int .u8 0, .int .u8 0, .int .u8 0, .int .u8 0, .int .u8 0, .int .u8 0, .int .u8 0, .int .u8 0, .int .u8 0, .int .u8 0, .int .u8 0, .int .u8 0, .int .u8 0, .int .u8 0, .int .u8 0] 23)
   rw [hw1] at hA hF ⊢
   clear hw1
   refine (Hc.out _).mono ?_
   rintro e w2 ⟨hp, hF2⟩
   obtain rfl : e = _ := hp
   have hA2 := hF2.block _ _ hA (fun h => h)
   have HT := Lib.hid (there_block hA2 (n := 32) (by simp))
   have H1 := Lib.hid (show ((#[.int .u8 0, .int .u8 0, .int .u8 0, .int .u8 0, .int .u8 0, .int .u8 0, .int .u8 0, .int .u8 0, .int .u8 0, .int .u8 0, .int .u8 0, .int .u8 0, .int .u8 0, .int .u8 0, .int .u8 0, .int .u8 0, .int .u8 0, .int .u8 0, .int .u8 0, .int .u8 0, .int .u8 0, .int .u8 0, .int .u8 0, .int .u8 0, .int .u8 0, .int .u8 0, .int .u8 0, .int .u8 0, .int .u8 0, .int .u8 0, .int .u8 0, .int .u8 0] : Array Value).all (·.oneCell')) = true by simp [Value.oneCell'])
   have HA2 := Lib.hid hA2
   have HF := Lib.hid (hF.trans' hF2)
   clear hA hF hF2 hA2
   go_wp2_with (refine wpList_store_mid rfl 23 _ _ rfl w.heap.size 0 #[.int .u8 0, .int .u8 0, .int .u8 0, .int .u8 0, .int .u8 0, .int .u8 0, .int .u8 0, .int .u8 0, .int .u8 0, .int .u8 0, .int .u8 0, .int .u8 0, .int .u8 0, .int .u8 0, .int .u8 0, .int .u8 0, .int .u8 0, .int .u8 0, .int .u8 0, .int .u8 0, .int .u8 0, .int .u8 0, .int .u8 0, .int .u8 0, .int .u8 0, .int .u8 0, .int .u8 0, .int .u8 0, .int .u8 0, .int .u8 0, .int .u8 0, .int .u8 0] rfl rfl HT.out Tryz.sizeSum H1.out ?_)
   have hld := run_loadVar_mid (P := Tryz.prog) _ w.heap.size 0 23 (#[.int .u8 0, .int .u8 0, .int .u8 0, .int .u8 0, .int .u8 0, .int .u8 0, .int .u8 0, .int .u8 0, .int .u8 0, .int .u8 0, .int .u8 0, .int .u8 0, .int .u8 0, .int .u8 0, .int .u8 0, .int .u8 0, .int .u8 0, .int .u8 0, .int .u8 0, .int .u8 0, .int .u8 0, .int .u8 0, .int .u8 0, .int .u8 0, .int .u8 0, .int .u8 0, .int .u8 0, .int .u8 0, .int .u8 0, .int .u8 0, .int .u8 0, .int .u8 0] : Array Value).toList (.array 32 5) (World.rangeAt_setCells_same w2 w.heap.size 0 (#[.int .u8 0, .int .u8 0, .int .u8 0, .int .u8 0, .int .u8 0, .int .u8 0, .int .u8 0, .int .u8 0, .int .u8 0, .int .u8 0, .int .u8 0, .int .u8 0, .int .u8 0, .int .u8 0, .int .u8 0, .int .u8 0, .int .u8 0, .int .u8 0, .int .u8 0, .int .u8 0, .int .u8 0, .int .u8 0, .int .u8 0, .int .u8 0, .int .u8 0, .int .u8 0, .int .u8 0, .int .u8 0, .int .u8 0, .int .u8 0, .int .u8 0, .int .u8 0] : Array Value).toList HT.out) Tryz.underSum rfl Tryz.sizeSum
   refine bodyPost_ret (v := .tuple #[.agg #[.int .u8 0, .int .u8 0, .int .u8 0, .int .u8 0, .int .u8 0, .int .u8 0, .int .u8 0, .int .u8 0, .int .u8 0, .int .u8 0, .int .u8 0, .int .u8 0, .int .u8 0, .int .u8 0, .int .u8 0, .int .u8 0, .int .u8 0, .int .u8 0, .int .u8 0, .int .u8 0, .int .u8 0, .int .u8 0, .int .u8 0, .int .u8 0, .int .u8 0, .int .u8 0, .int .u8 0, .int .u8 0, .int .u8 0, .int .u8 0, .int .u8 0, .int .u8 0], .iface 56 (.int .i64 1)]) ?_ rfl ⟨rfl, HF.out.trans (setCells_fr _ _ _ _) (fun k _ hm => .inr (by omega))⟩
   rw [results_cell_tmp rfl]
   simp only [Array.toArray_toList] at hld
   simp [asAddr, Result.andThen, hld]
 | some b =>
   obtain ⟨-, h32⟩ := hl b rfl
   clear hl
   go_enter Tryz.func60, Tryz.ntmps60
   go_wp2_with fail
   obtain ⟨w1, hw1⟩ : ∃ w1, w.alloc (.cells #[.int .u8 0, .int .u8 0, .int .u8 0, .int .u8 0, .int .u8 0, .int .u8 0, .int .u8 0, .int .u8 0, .int .u8 0, .int .u8 0, .int .u8 0, .int .u8 0, .int .u8 0, .int .u8 0, .int .u8 0, .int .u8 0, .int .u8 0, .int .u8 0, .int .u8 0, .int .u8 0, .int .u8 0, .int .u8 0, .int .u8 0, .int .u8 0, .int .u8 0, .int .u8 0, .int .u8 0, .int .u8 0, .int .u8 0, .int .u8 0, .int .u8 0, .int .u8 0] 23) = w1 := ⟨_, rfl⟩
   have hA := heap_alloc_new w (.cells #[.int .u8 0, .int .u8 0, .int .u8 0, .int .u8 0, .int .u8 0, .int .u8 0, .int .u8 0, .int .u8 0, .int .u8 0, .int .u8 0, .int .u8 0, .int .u8 0, .int .u8 0, .int .u8 0, .int .u8 0, .int .u8 0, .int .u8 0, .int .u8 0, .int .u8 0, .int .u8 0, .int .u8 0, .int .u8 0, .int .u8 0, .int .u8 0, .int .u8 0, .int .u8 0, .int .u8 0, .int .u8 0, .int .u8 0, .int .u8 0, .int .u8 0, .int .u8 0] 23)
   have hF := (Fr.refl (M := NoB)).alloc (w := w) (.cells #[.int .u8 0, .int .u8 0, .int .u8 0, .int .u8 0, .int .u8 0, .int .u8 0, .int .u8 0, .int .u8 0, .int .u8 0, .int .u8 0, .int .u8 0, .int .u8 0, .int .u8 0, .int .u8 0, .int .u8 0, .int .u8 0, .int .u8 0, .int .u8 0, .int .u8 0, .int .u8 0, .int .u8 0, .int .u8 0, .int .u8 0, .int .u8 0, .int .u8 0, .int .u8 0, .int .u8 0, .int .u8 0, .int .u8 0, .int .u8 0, .int .u8 0, .int .u8 0] 23)
   rw [hw1] at hA hF ⊢
   clear hw1
   refine (Hc.out _).mono ?_
   rintro e w2 ⟨⟨a, rfl, hsb⟩, hF2⟩
   have hA2 := hF2.block _ _ hA (fun h => h)
   obtain ⟨g, o, c', e1, -, -, -, hcell⟩ := hsb.cellsAt (by intro h; rw [h] at h32; simp at h32)
   obtain ⟨rfl, -⟩ : a = some ⟨g, o, none⟩ ∧ b.length = c' := by simpa using e1
   have hbl : (Lib.byteCells b).length = 32 := by simp [Lib.byteCells, h32]
   have HRg := Lib.hid (show w2.rangeAt g o (Lib.byteCells b) from fun j v hv => by
    unfold Lib.byteCells at hv
    rw [List.getElem?_map] at hv
    cases hx : b[j]? with
    | none => rw [hx] at hv; simp at hv
    | some x =>
      rw [hx] at hv
      obtain rfl : v = .int .u8 x.toNat := by simpa using hv.symm
      exact hcell j x hx)
   have HT := Lib.hid (there_block hA2 (n := (Lib.byteCells b).toArray.size) (by simp [hbl]))
   have H1 := Lib.hid (show ((Lib.byteCells b).toArray.all (·.oneCell')) = true from all_oneCell_toArray (fun v hv => by
    unfold Lib.byteCells at hv
    rw [List.mem_map] at hv
    obtain ⟨x, _, rfl⟩ := hv
    rfl))
   have Hs1 := Lib.hid (show (Tryz.prog.info? 23).map (·.size) = some (Lib.byteCells b).length by rw [Tryz.sizeSum, hbl])
   have Hs2 := Lib.hid (show (Tryz.prog.info? 23).map (·.size) = some (Lib.byteCells b).toArray.size by rw [Tryz.sizeSum]; simp [hbl])
   have HF := Lib.hid (hF.trans' hF2)
   have Hbl := Lib.hid hbl
   clear hA hF hF2 hA2 hsb hcell e1 hbl
   have hat : ∀ W, (Instr.arrayAt 23 (.slice (some ⟨g, o, none⟩) 32 32)).run Tryz.prog W = .ok (.pointer (some ⟨g, o, none⟩)) W := fun W => run_arrayAt W 23 5 32 _ 32 32 Tryz.underSum (Nat.le_refl _)
   go_wp2_with (first | (refine wpList_load_mid rfl 23 _ rfl g o rfl (Lib.byteCells b) (.array 32 5) HRg.out Tryz.underSum rfl Hs1.out ?_) | (refine wpList_store_mid rfl 23 _ _ rfl w.heap.size 0 (Lib.byteCells b).toArray rfl rfl HT.out Hs2.out H1.out ?_))
   have hld := run_loadVar_mid (P := Tryz.prog) _ w.heap.size 0 23 (Lib.byteCells b) (.array 32 5) (World.rangeAt_setCells_same w2 w.heap.size 0 (Lib.byteCells b) (by simpa using HT.out)) Tryz.underSum rfl Hs1.out
   refine bodyPost_ret (v := .tuple #[.agg (Lib.byteCells b).toArray, .nilIface]) ?_ rfl ⟨rfl, HF.out.trans (setCells_fr _ _ _ _) (fun k _ hm => .inr (by omega))⟩
   rw [results_cell_tmp rfl]
   simp [asAddr, Result.andThen, hld]
end Go.Proofs.YtcddlemkimbkcaaGreatDoor
namespace Go.Proofs.YtcddlemkimbkcaaGreatDoor
set_option linter.unusedVariables false
set_option linter.unusedSimpArgs false
set_option linter.unusedSectionVars false
open Go.RowKit
variable [OldK]
theorem typed1_c (n : Nat) (W : World) (hn : n ≤ 1114111) :
 Calls Tryz.prog 182 #[.int .i32 n] W fun e w' => e = .returned (.bool (!typCh n)) ∧ ∃ q, w' = W.drewN q := by
 have hch : (!typCh n) = (decide ((n : Int) < 33) || decide ((126 : Int) < n)) := by
  unfold typCh
  by_cases h1 : n < 33 <;> by_cases h2 : 126 < n
  all_goals (first | (have e1 : ((n : Int) < 33) := by omega) | (have e1 : ¬ ((n : Int) < 33) := by omega))
  all_goals (first | (have e2 : ((126 : Int) < n) := by omega) | (have e2 : ¬ ((126 : Int) < n) := by omega))
  all_goals simp [e1, e2]
  all_goals omega
 rw [hch]
 obtain ⟨b1, hb1⟩ : ∃ b1, decide ((n : Int) < 33) = b1 := ⟨_, rfl⟩
 obtain ⟨b2, hb2⟩ : ∃ b2, decide ((126 : Int) < n) = b2 := ⟨_, rfl⟩
 rw [hb1, hb2]
 clear hch
 cases b1 <;> cases b2
 all_goals
  go_enter Tryz.func182, Tryz.ntmps182
  go_wp2_with fail
  go_ret
  exact ⟨rfl, 0, rfl⟩
theorem any_odd_typ (s : Bs) : s.any (fun c => !typCh c.toNat) = !s.all (fun c => typCh c.toNat) := by
 induction s with
 | nil => rfl
 | cons c s ih => simp [ih]
theorem size_mk (s : Bs) : (ByteArray.mk s.toArray).size = s.length := rfl
theorem typed_c (s : Bs) (w : World) (hlen : s.length ≤ 1000000000000) :
 Calls Tryz.prog 142 #[.string ⟨s.toArray⟩] w fun e w' => e = .returned (.bool (pTyped s)) ∧ Fr NoB w w' := by
 have heg : ∀ args w, (callFunc 182 args).run Tryz.prog w = .ok (.enter 182 args) w := enters_of Tryz.func182 (by kernel_rfl) rfl
 have hcf := fun W : World => Tryz.strings_ContainsFunc_runes 182 #[] heg (fun n => !typCh n) ⟨s.toArray⟩ W (fun W' x hx _ => by
  have := typed1_c x W' hx
  exact this)
 have hpf := fun W : World => Tryz.strings_HasPrefix ⟨s.toArray⟩ ⟨sReserved.toArray⟩ W
 rw [idx_odd (fun n => !typCh n) (fun r hr => by simp [typCh]; omega) s, any_odd_typ s] at hcf
 obtain ⟨P, hP⟩ : ∃ P, pTyped s = P := ⟨_, rfl⟩
 rw [hP]
 unfold pTyped at hP
 obtain ⟨b3, hb3⟩ : ∃ b3, s.all (fun c => typCh c.toNat) = b3 := ⟨_, rfl⟩
 obtain ⟨b4, hb4⟩ : ∃ b4, Lib.hasPrefix s sReserved = b4 := ⟨_, rfl⟩
 rw [hb3] at hcf hP
 rw [hb4] at hP
 have hpf' : ∀ W, Calls Tryz.prog 184 #[.string ⟨s.toArray⟩, .string ⟨sReserved.toArray⟩] W fun e w' => e = .returned (.bool b4) ∧ w' = W := fun W => by
  have := hpf W
  rw [show (ByteArray.mk s.toArray).data.toList = s from by simp, show (ByteArray.mk sReserved.toArray).data.toList = sReserved from by simp, hb4] at this
  exact this
 have Hcf := Lib.hid hcf
 have Hpf := Lib.hid hpf'
 have hsz := size_mk s
 clear hcf hpf hpf' hb3 hb4 heg
 cases s with
 | nil =>
   obtain rfl : false = P := hP
   go_enter Tryz.func142, Tryz.ntmps142
   go_wp2_with fail
   go_ret
   exact ⟨rfl, Fr.refl⟩
 | cons c r =>
   have hne : (c :: r : Bs).isEmpty = false := rfl
   rw [List.isEmpty_cons] at hP
   obtain ⟨l, hl⟩ : ∃ l, (c :: r : Bs) = l := ⟨_, rfl⟩
   rw [hl] at hP Hcf Hpf hsz hne hlen ⊢
   clear hl
   by_cases h64 : l.length ≤ 64
   ·have h64i : decide ((l.length : Int) ≤ 64) = true := by simp; omega
    have h64n : decide (l.length ≤ 64) = true := by simp; omega
    rw [h64n] at hP
    clear h64
    cases b3 with
    | false =>
      obtain rfl : false = P := by simpa using hP
      clear hP
      go_enter Tryz.func142, Tryz.ntmps142
      go_wp2_with fail
      refine (Hcf.out _).mono ?_
      rintro e w1 ⟨rfl, hb⟩
      have HF := Lib.hid (Fr.ofBelow hb)
      clear hb
      go_wp2_with fail
      go_ret
      exact ⟨rfl, HF.out⟩
    | true =>
      obtain rfl : (!b4) = P := by simpa using hP
      clear hP
      go_enter Tryz.func142, Tryz.ntmps142
      go_wp2_with fail
      refine (Hcf.out _).mono ?_
      rintro e w1 ⟨rfl, hb⟩
      have HF := Lib.hid (Fr.ofBelow hb)
      clear hb
      go_wp2_with fail
      refine (Hpf.out _).mono ?_
      rintro e w2 ⟨rfl, rfl⟩
      go_wp2_with fail
      go_ret
      exact ⟨rfl, HF.out⟩
   ·have h64i : decide ((l.length : Int) ≤ 64) = false := by simp; omega
    have h64n : decide (l.length ≤ 64) = false := by simp; omega
    rw [h64n] at hP
    obtain rfl : false = P := by simpa using hP
    clear h64 hP
    go_enter Tryz.func142, Tryz.ntmps142
    go_wp2_with fail
    go_ret
    exact ⟨rfl, Fr.refl⟩
end Go.Proofs.YtcddlemkimbkcaaGreatDoor
