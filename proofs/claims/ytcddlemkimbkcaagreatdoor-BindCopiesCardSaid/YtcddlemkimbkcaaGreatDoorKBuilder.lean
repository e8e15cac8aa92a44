/-
 What the writing methods of strings.Builder do to a builder that the program itself has made, over this seat's translation.
-/
import Derived.Test.YtcddlemkimbkcaaGreatDoorKSeen
import Derived.Test.YtcddlemkimbkcaaGreatDoorShelf
import Derived.Lib.FrozenHead2
namespace Go.Proofs.YtcddlemkimbkcaaGreatDoor
set_option linter.unusedVariables false
set_option linter.unusedSimpArgs false
set_option linter.unusedSectionVars false
open Go.RowKit

/-- what a builder's call may turn: its own block, and rows of bytes, from block B on -/
def MB (B b : Nat) : Nat → Obj → Prop := fun k o => B ≤ k ∧ (k = b ∨ OfTy 5 o)
/-- block b is a builder that holds these bytes; its row lies from block B on -/
def Bld (B b : Nat) (l : List UInt8) (w : World) : Prop := Lib.IsBuilder 262 5 B b (Lib.byteCells l) w

theorem Fr.ofOwn {w w' : World} {B : Nat} {e : TypeId} {size : Nat} {v : Value} {n : Nat} {xs : List Value} (h : w.ownsRow B e size v n xs) (hg : w.grownBy w' v.ownBlock) :
 Fr (fun k o => B ≤ k ∧ OfTy e o) w w' :=
 ⟨hg.os, hg.tape, hg.output, hg.size, fun k o hk hn => by
  rw [hg.block k (get_lt hk) ?_]; exact hk
  intro e1
  rcases h.2 with ⟨rfl, _⟩ | ⟨g, cap, cur, rfl, hB, hgg, _⟩
  ·simp [Value.ownBlock] at e1
  ·simp only [Value.ownBlock, Option.some.injEq] at e1
   subst e1
   rw [hgg] at hk
   exact hn ⟨hB, _, _, (Option.some.inj hk).symm⟩⟩

theorem Bld.lt {B b : Nat} {l : List UInt8} {w : World} (h : Bld B b l w) : b < w.heap.size := by
 rcases h with h | h <;> exact h.lt
theorem Bld.base {B b : Nat} {l : List UInt8} {w : World} (h : Bld B b l w) : B ≤ b := by
 rcases h with h | h <;> exact h.1
theorem Bld.fresh (w : World) : Bld w.heap.size w.heap.size [] (w.alloc (.cells #[.pointer none, .slice none 0 0] 262)) := Lib.fresh_isBuilder _ _ _
theorem Bld.ty {B b : Nat} {l : List UInt8} {w : World} (h : Bld B b l w) : ∃ o, w.heap[b]? = some o ∧ OfTy 262 o := by
 rcases h with ⟨_, v, hb, _⟩ | ⟨_, v, hb, _⟩ <;> exact ⟨_, hb, _, _, rfl⟩
/-- a builder stays where its block and the rows of bytes stay -/
theorem Bld.fr {M : Nat → Obj → Prop} {B b : Nat} {l : List UInt8} {w w' : World} (h : Bld B b l w) (hF : Fr M w w')
 (hM : ∀ k o, w.heap[k]? = some o → B ≤ k → (k = b ∨ OfTy 5 o) → ¬ M k o) : Bld B b l w' := by
 have go : ∀ p, Lib.BuilderAt 262 5 B b p (Lib.byteCells l) w → Lib.BuilderAt 262 5 B b p (Lib.byteCells l) w' := by
  rintro p ⟨hB, v, hb, hown, hne⟩
  refine ⟨hB, v, hF.block _ _ hb (hM _ _ hb hB (.inl rfl)), ⟨hown.1, ?_⟩, hne⟩
  rcases hown.2 with h1 | ⟨g, cap, cur, rfl, hbg, hg, rest⟩
  ·exact .inl h1
  ·exact .inr ⟨g, cap, cur, rfl, hbg, hF.block _ _ hg (hM _ _ hg hbg (.inr ⟨_, _, rfl⟩)), rest⟩
 exact h.imp (go _) (go _)

theorem Tryz.sizeBuilder : (Tryz.prog.info? 262).map (·.size) = some 2 := by kernel_rfl
theorem Tryz.liesBuilder : liesAt Tryz.prog Tryz.prog.depth 262 (2 / Tryz.prog.cellsOf 262) 0 262 1 = true := by kernel_rfl
theorem Tryz.infoByte : (Tryz.prog.info? 5).map (fun i => (i.zero, i.size, i.bytes)) = some (some (.int .u8 0), 1, 1) := by kernel_rfl

set_option maxRecDepth 100000 in
set_option maxHeartbeats 400000 in
theorem copyCheck_c (B b : Nat) (bs : List Value) (w : World) (h : Lib.IsBuilder 262 5 B b bs w) :
 Calls Tryz.prog 207 #[.pointer (some ⟨b, 0, none⟩)] w fun e w' => e = .returned (.tuple #[]) ∧ Lib.BuilderAt 262 5 B b (.pointer (some ⟨b, 0, none⟩)) bs w' ∧ Fr (MB B b) w w' := by
 rcases h with h | h
 ·have c0 := h.cell0
  have f0 := h.frozen0
  have hsh := h.shape
  go_enter Tryz.func207, Tryz.ntmps207
  obtain ⟨j, hj, hjs⟩ := Option.map_eq_some_iff.1 Tryz.sizeBuilder
  go_wp2
  rw [Lib.run_to_unsafe w ⟨b, 0, none⟩ Tryz.underlying260 Tryz.underlying337 hj (by rw [hjs]; decide) hsh (Nat.zero_lt_succ 1)]
  simp only [Result.andThen]
  rw [Oper.upon_value]
  go_wp2
  rw [run_callFunc_extern Tryz.func243 (by kernel_rfl) (by kernel_rfl) (by kernel_rfl) (e := Extern.AbiNoEscape.same) (by kernel_rfl)]
  rw [Lib.run_noEscape]
  simp only [Result.andThen]
  rw [Oper.upon_value]
  go_wp2
  rw [Lib.run_from_unsafe w ⟨b, 0, none⟩ Tryz.underlying337 Tryz.underlying260 hj hsh Tryz.liesBuilder]
  simp only [Result.andThen]
  rw [Oper.upon_value]
  go_wp2
  go_end0
  exact ⟨rfl, h.used _, Fr.refl.setCell _ _ (fun _ _ => ⟨h.1, .inl rfl⟩)⟩
 ·have c0 := h.cell0
  go_enter Tryz.func207, Tryz.ntmps207
  obtain ⟨j, hj, _⟩ := Option.map_eq_some_iff.1 Tryz.sizeBuilder
  go_wp2
  rw [Lib.run_neq_ptr_same w _ Tryz.underlying260 hj]
  go_wp2
  go_end0
  exact ⟨rfl, h, Fr.refl⟩

set_option maxHeartbeats 400000 in
theorem writeByte_c (B b : Nat) (l : List UInt8) (c : UInt8) (w : World) (h : Bld B b l w) (hlen : l.length + 1 ≤ 140737488355328) :
 Calls Tryz.prog 166 #[.pointer (some ⟨b, 0, none⟩), .int .u8 c.toNat] w fun e w' => e = .returned .nilIface ∧ Bld B b (l ++ [c]) w' ∧ Fr (MB B b) w w' := by
 obtain ⟨i0, hi, hz0, hz1, hz2⟩ := info_parts Tryz.infoByte
 go_enter Tryz.func166, Tryz.ntmps166
 go_wp2_with fail
 refine (copyCheck_c B b _ _ h).mono ?_
 rintro e w1 ⟨rfl, h1, hF1⟩
 have hBb := h1.1
 obtain ⟨hB, v, hbk, hown, hne⟩ := h1
 have c0 : w1.cell? ⟨b, 0, none⟩ = some (.pointer (some ⟨b, 0, none⟩)) := by rw [Lib.cell_of_heap hbk]; rfl
 have c1 : w1.cell? ⟨b, 1, none⟩ = some v := by rw [Lib.cell_of_heap hbk]; rfl
 have hl1 : b < w1.heap.size := get_lt hbk
 go_wp2_with (at_builtin; refine wpList_append_own _ rfl _ _ 36 rfl B 5 i0 (.int .u8 0) 1 1 Tryz.underlying36 hi hz0 hz1 hz2 rfl (by decide) _ _ _ rfl (hown.alloc _) ⟨w1.heap.size, 0, none⟩ 1 1 [.int .u8 c.toNat] rfl rfl ?c1 ?c2 ?c3 ?c4 ?c5 ?_)
 case c1 => exact cell_one_new _ _ _
 case c2 => intro u hu; simp at hu; subst hu; rfl
 case c3 => unfold maxLen; rw [Lib.byteCells_length]; omega
 case c4 => rw [Lib.byteCells_length]; omega
 case c5 => simp; omega
 intro v' w2 hown' hgrow _
 have hF2 : Fr (MB B b) w w2 := (hF1.alloc (.cells #[.int .u8 c.toNat] 5)).trans (Fr.ofOwn (hown.alloc _) hgrow) (fun k o hk => .inl ⟨hk.1, .inr hk.2⟩)
 have hb2 : w2.heap[b]? = some (.cells #[.pointer (some ⟨b, 0, none⟩), v] 262 (0, 0)) := by
  rw [hgrow.block b (by simp; omega) (fun e => hne e.symm), Lib.alloc_old w1 _ b hl1]
  exact hbk
 have d1 : w2.cell? ⟨b, 1, none⟩ = some v := by rw [Lib.cell_of_heap hb2]; rfl
 have f1 : w2.frozen? ⟨b, 1, none⟩ = false := Lib.frozen_of_heap hb2 1
 obtain ⟨ao, n', cap, rfl⟩ : ∃ ao n' cap, v' = .slice ao n' cap := by
  rcases hown'.2 with ⟨hv, _⟩ | ⟨g, cap, cur, hv, _⟩
  ·exact ⟨_, _, _, hv⟩
  ·exact ⟨_, _, _, hv⟩
 go_wp2
 go_ret
 refine ⟨rfl, .inr ?_, hF2.setCell _ _ (fun _ _ => ⟨hB, .inl rfl⟩)⟩
 have hx : Lib.byteCells (l ++ [c]) = Lib.byteCells l ++ [.int .u8 c.toNat] := by rw [Lib.byteCells_append]; rfl
 rw [hx]
 exact Lib.BuilderAt.put hB hb2 (by simpa using hown') (by decide)

theorem runeCells_bytes (r : Int) (h0 : -2147483648 ≤ r) (h1 : r ≤ 2147483647) : Lib.runeCells r = Lib.byteCells (Lib.encodeRune r) := by
 unfold Lib.runeCells Lib.byteCells Lib.encodeRune
 rw [List.map_map]
 apply List.map_congr_left
 intro x hx
 have hx' : 0 ≤ x ∧ x < 256 := by
  unfold Lib.encodeRuneZ at hx
  split at hx
  ·simp at hx; omega
  ·split at hx
   ·simp at hx; omega
   ·split at hx
    ·simp at hx; omega
    ·split at hx
     ·simp at hx; omega
     ·simp at hx; omega
 simp
 omega

set_option maxHeartbeats 400000 in
theorem writeRune_c (B b : Nat) (l : List UInt8) (r : Int) (h0 : -2147483648 ≤ r) (h1 : r ≤ 2147483647) (w : World) (h : Bld B b l w) (hlen : l.length + 4 ≤ 140737488355328) :
 Calls Tryz.prog 286 #[.pointer (some ⟨b, 0, none⟩), .int .i32 r] w fun e w' => e = .returned (.tuple #[.int .i64 (Lib.encodeRune r).length, .nilIface]) ∧ Bld B b (l ++ Lib.encodeRune r) w' ∧ Fr (MB B b) w w' := by
 have hrc := Lib.hid (runeCells_bytes r h0 h1)
 go_enter Tryz.func286, Tryz.ntmps286
 go_wp2_with fail
 refine (copyCheck_c B b _ _ h).mono ?_
 rintro e w1 ⟨rfl, h1', hF1⟩
 have hBb := h1'.1
 obtain ⟨hB, v, hbk, hown, hne⟩ := h1'
 have c0 : w1.cell? ⟨b, 0, none⟩ = some (.pointer (some ⟨b, 0, none⟩)) := by rw [Lib.cell_of_heap hbk]; rfl
 have hl1 : b < w1.heap.size := get_lt hbk
 obtain ⟨ao, cap, hv⟩ : ∃ ao cap, v = .slice ao (Lib.byteCells l).length cap := by
  rcases hown.2 with ⟨hv, h0'⟩ | ⟨g, cap, cur, hv, _⟩
  ·exact ⟨_, _, hv.trans (by rw [h0'])⟩
  ·exact ⟨_, _, hv⟩
 have c1 : w1.cell? ⟨b, 1, none⟩ = some (.slice ao (Lib.byteCells l).length cap) := by rw [Lib.cell_of_heap hbk, hv]; rfl
 have Hv := Lib.hid hv
 clear hv
 go_wp2_with fail
 rw [← Hv.out]
 refine (Go.Proofs.Tryz.utf8_AppendRune_plain B v _ _ r h0 h1 _ hown (by rw [Lib.byteCells_length]; omega) (by omega)).mono ?_
 rintro e w2 ⟨v', rfl, hown', o, hgrow⟩
 have hF2 : Fr (MB B b) w w2 := (hF1.alloc o).trans (Fr.ofOwn (hown.alloc _) hgrow) (fun k o hk => .inl ⟨hk.1, .inr hk.2⟩)
 have hb2 : w2.heap[b]? = some (.cells #[.pointer (some ⟨b, 0, none⟩), v] 262 (0, 0)) := by
  rw [hgrow.block b (by simp; omega) (fun e => hne e.symm), Lib.alloc_old w1 _ b hl1]
  exact hbk
 have d0 : w2.cell? ⟨b, 0, none⟩ = some (.pointer (some ⟨b, 0, none⟩)) := by rw [Lib.cell_of_heap hb2]; rfl
 have d1 : w2.cell? ⟨b, 1, none⟩ = some v := by rw [Lib.cell_of_heap hb2]; rfl
 have f1 : w2.frozen? ⟨b, 1, none⟩ = false := Lib.frozen_of_heap hb2 1
 obtain ⟨ao', cap', rfl⟩ : ∃ ao' cap', v' = .slice ao' ((Lib.byteCells l).length + (Lib.runeCells r).length) cap' := by
  rcases hown'.2 with ⟨hv, h0'⟩ | ⟨g, cap, cur, hv, _⟩
  ·exact ⟨_, _, hv.trans (by rw [h0'])⟩
  ·exact ⟨_, _, hv⟩
 have hL1 : (Lib.byteCells l).length = l.length := Lib.byteCells_length l
 have hL2 : (Lib.runeCells r).length ≤ 4 := by
  rw [hrc.out, Lib.byteCells_length]; unfold Lib.encodeRune; rw [List.length_map]; unfold Lib.encodeRuneZ; repeat' split
  all_goals simp
 generalize hq : (Lib.byteCells l).length = q at *
 generalize hp : (Lib.runeCells r).length = p at *
 have Hq := Lib.hid hq
 have Hp := Lib.hid hp
 have HL := Lib.hid hL1
 have Hb2 := Lib.hid hb2
 clear hq hp hL1 hown h hbk hb2
 have hql : q ≤ 140737488355328 := by have := HL.out; omega
 go_wp2
 go_ret2
 have hq := Hq.out
 have hp := Hp.out
 have hx : ((q : Int) + p - q) = ((Lib.encodeRune r).length : Int) := by rw [← hp, hrc.out, Lib.byteCells_length]; omega
 refine ⟨by simp [hx], .inr ?_, hF2.setCell _ _ (fun _ _ => ⟨hB, .inl rfl⟩)⟩
 rw [Lib.byteCells_append, ← hrc.out]
 refine Lib.BuilderAt.put hB Hb2.out (by rw [List.length_append, hq, hp]; exact hown') (by decide)

/-- String: the bytes; the builder may be read alone behind it -/
theorem string_c (B b : Nat) (l : List UInt8) (w : World) (h : Bld B b l w) :
 Calls Tryz.prog 167 #[.pointer (some ⟨b, 0, none⟩)] w fun e w' => e = .returned (.string ⟨l.toArray⟩) ∧ Fr (MB B b) w w' := by
 refine (Go.Proofs.Tryz.Builder_String_any_k B b l w (Lib.IsBuilderF.of h) (Nat.le_trans h.base (Nat.le_of_lt h.lt))).mono ?_
 rintro e w' ⟨rfl, _, hb, ho⟩
 refine ⟨rfl, hb.os, hb.tape, hb.output, hb.size, fun k o hk hn => ?_⟩
 rcases Nat.lt_or_ge k B with h1 | h1
 ·rw [hb.block k h1]; exact hk
 ·refine ho k o hk (fun e => hn ⟨h1, .inl (by simpa using e)⟩) (fun c fz e => hn ⟨h1, .inr ⟨c, fz, e⟩⟩)
theorem len_c (B b : Nat) (l : List UInt8) (w : World) (h : Bld B b l w) :
 Calls Tryz.prog 322 #[.pointer (some ⟨b, 0, none⟩)] w fun e w' => e = .returned (.int .i64 l.length) ∧ w = w' := by
 refine (Go.Proofs.Tryz.Builder_Len B b _ w h).mono ?_
 rintro e w' ⟨rfl, rfl⟩
 exact ⟨by rw [Lib.byteCells_length], rfl⟩
end Go.Proofs.YtcddlemkimbkcaaGreatDoor
