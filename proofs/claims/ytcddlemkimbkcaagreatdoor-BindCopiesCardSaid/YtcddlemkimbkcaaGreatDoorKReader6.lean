/-
 The walks of json's reader, further: one of a list.
-/
import Derived.Test.YtcddlemkimbkcaaGreatDoorKReader5
import Derived.Test.YtcddlemkimbkcaaGreatDoorKStore
namespace Go.Proofs.YtcddlemkimbkcaaGreatDoor
set_option linter.unusedVariables false
set_option linter.unusedSimpArgs false
set_option linter.unusedSectionVars false
open Go.RowKit
attribute [local instance] oldZero

theorem Tryz.infoV : (Tryz.prog.info? 220).map (fun i => (i.zero, i.size, i.bytes)) = some (some (.agg #[.int .i64 0, .int .i64 0, .string ⟨#[]⟩, .slice none 0 0, .slice none 0 0]), 5, 80) := by kernel_rfl

/-- what 'value' does, at most f deep -/
def ValOk (f : Nat) : Prop := ∀ (d : Int) (r : Nat) (s : Bs) (bad : Bool) (w : World), Rd r s bad d w → Gl w → s.length ≤ 67108864 → 0 ≤ d → d ≤ 8 → d + f = 10 →
 Calls Tryz.prog 180 #[.pointer (some ⟨r, 0, none⟩)] w fun e w' => ∃ v, e = .returned v ∧ RJ (fun k => w.heap.size ≤ k) w' (sValue f d ⟨s, bad⟩).1 v ∧ Rd r (sValue f d ⟨s, bad⟩).2.s (sValue f d ⟨s, bad⟩).2.bad d w' ∧ Fr (MR r) w w'

/-- the list that grows: block q holds the reader's address, block bv the value, whose row lies behind it -/
def ListInv (r q bv : Nat) (l : List J) (w : World) : Prop :=
 Bx q r w ∧ q < bv ∧ ∃ lv xs, w.heap[bv]? = some (.cells #[.int .i64 4, .int .i64 0, .string ⟨#[]⟩, lv, .slice none 0 0] 220 (0, 0)) ∧
  w.ownsRow (bv + 1) 220 5 lv l.length xs ∧ RC (fun k => bv < k ∧ lv.ownBlock ≠ some k) w l xs

theorem ListInv.fr {M : Nat → Obj → Prop} {r q bv : Nat} {l : List J} {w w' : World} (h : ListInv r q bv l w) (hF : Fr M w w')
 (hM : ∀ k o, q ≤ k → (OfTy 280 o ∨ OfTy 220 o ∨ OfTy 306 o) → ¬ M k o) : ListInv r q bv l w' := by
 obtain ⟨hq, hqb, lv, xs, hb, hown, hrc⟩ := h
 refine ⟨hF.block _ _ hq (hM _ _ (Nat.le_refl _) (.inl ⟨_, _, rfl⟩)), hqb, lv, xs, hF.block _ _ hb (hM _ _ (Nat.le_of_lt hqb) (.inr (.inl ⟨_, _, rfl⟩))), ?_, ?_⟩
 ·exact own_fr hown hF (fun k o _ hk ht => hM k o (by omega) (.inr (.inl ht)))
 ·exact RC.kp (Kp.fr hF (fun b hb _ => hb) (fun b o hs _ ht => hM b o (by omega) (.inr (vt_zero ht)))) l xs hrc
theorem MR_not {r k : Nat} {o : Obj} (h : OfTy 280 o ∨ OfTy 220 o ∨ OfTy 306 o) : ¬ MR r k o := by
 rintro ⟨_, c, f, rfl⟩
 rcases h with ⟨_, _, h⟩ | ⟨_, _, h⟩ | ⟨_, _, h⟩ <;> simp at h

/-- the end of a round of a list, whatever order the stores came in -/
theorem list_end {r q bv B g cap : Nat} {l : List J} {j : J} {d : Int} {s : Bs} {bad : Bool} {w w1 w2 w3 : World} {X Z : Obj} {lv v0 v1 v2 v3 v4 : Value} {xs : List Value}
 (hqB : B ≤ bv) (hR : Rd r s bad d w1) (hF : Fr (MR r) w w1) (hbw : bv < w.heap.size) (hq : Bx q r w1) (hqb : q < bv)
 (hown : w1.ownsRow (bv + 1) 220 5 lv l.length xs) (hrc : RC (fun k => bv < k ∧ lv.ownBlock ≠ some k) w1 l xs)
 (hb : w1.heap[bv]? = some (.cells #[.int .i64 4, .int .i64 0, .string ⟨#[]⟩, lv, .slice none 0 0] 220 (0, 0)))
 (hlw : ∀ k, lv.ownBlock = some k → k < w.heap.size)
 (hj : RJ (fun k => w.heap.size ≤ k) w1 j (.agg #[v0, v1, v2, v3, v4]))
 (hgr : ((w1.alloc X).alloc Z).drew.grownBy w2 lv.ownBlock) (hg2 : lv.ownBlock = some g ∨ w1.heap.size + 2 ≤ g)
 (hown3 : w3.ownsRow (bv + 1) 220 5 (.slice (some ⟨g, 0, none⟩) (l.length + 1) cap) (l.length + 1) (xs ++ [v0, v1, v2, v3, v4]))
 (hb3 : w3.heap[bv]? = some (.cells #[.int .i64 4, .int .i64 0, .string ⟨#[]⟩, .slice (some ⟨g, 0, none⟩) (l.length + 1) cap, .slice none 0 0] 220 (0, 0)))
 (h3 : But2 g bv w2 w3) : Rd r s bad d w3 ∧ ListInv r q bv (l ++ [j]) w3 ∧ Fr (ML r B) w w3 := by
 have hF3 : Fr (fun k _ => lv.ownBlock = some k ∨ k = g ∨ k = bv) w1 w3 :=
  ((region_fr hgr).mono (fun _ _ h => .inl h)).trans h3.fr (fun _ _ h => .inl (.inr h))
 have hown0 := own_ty hown
 have hgt : ∀ o, w1.heap[g]? = some o → OfTy 220 o ∧ bv < g := by
  intro o ho
  rcases hg2 with hg | hg
  ·obtain ⟨h1, o', h2, h3⟩ := hown0 g hg
   rw [ho] at h2
   exact ⟨(Option.some.inj h2) ▸ h3, h1⟩
  ·have := get_lt ho; omega
 have hrt : ∀ k, OfTy 220 k → ¬ OfTy 282 k := by
  rintro k ⟨_, _, rfl⟩ ⟨_, _, h⟩
  simp at h
 have hqt : ∀ k, OfTy 220 k → ¬ OfTy 280 k := by
  rintro k ⟨_, _, rfl⟩ ⟨_, _, h⟩
  simp at h
 have hrne : ∀ k, (lv.ownBlock = some k ∨ k = g ∨ k = bv) → ∀ o, w1.heap[k]? = some o → OfTy 220 o ∧ B ≤ k := by
  rintro k hk o ho
  rcases hk with hk | rfl | rfl
  ·obtain ⟨h1, o', h2, h3⟩ := hown0 k hk
   rw [ho] at h2
   exact ⟨(Option.some.inj h2) ▸ h3, by omega⟩
  ·exact ⟨(hgt o ho).1, by have := (hgt o ho).2; omega⟩
  ·rw [hb] at ho
   exact ⟨⟨_, _, (Option.some.inj ho).symm⟩, by omega⟩
 refine ⟨⟨hR.1, hF3.block _ _ hR.2 (fun hm => hrt _ (hrne _ hm _ hR.2).1 ⟨_, _, rfl⟩)⟩, ⟨hF3.block _ _ hq (fun hm => hqt _ (hrne _ hm _ hq).1 ⟨_, _, rfl⟩), hqb, _, _, hb3, by simpa using hown3, ?_⟩, ?_⟩
 ·have hgown : (Value.slice (some ⟨g, 0, none⟩) (l.length + 1) cap).ownBlock = some g := rfl
  rw [hgown]
  refine RC.append l xs [j] _ (RC.kp ?_ l xs hrc) (RC.one (RJ.kp ?_ j _ hj))
  ·intro b o hs ho _
   have hne : b ≠ g := by
    rintro rfl
    rcases hg2 with hg | hg
    ·exact hs.2 hg
    ·have := get_lt ho; omega
   exact ⟨⟨hs.1, fun e => hne (by simpa using e.symm)⟩, hF3.block b o ho (fun hm => by
    rcases hm with hm | hm | hm
    ·exact hs.2 hm
    ·exact hne hm
    ·omega)⟩
  ·intro b o hs ho _
   have hne : b ≠ g := by
    rintro rfl
    rcases hg2 with hg | hg
    ·have := hlw _ hg; omega
    ·have := get_lt ho; omega
   exact ⟨⟨by omega, fun e => hne (by simpa using e.symm)⟩, hF3.block b o ho (fun hm => by
    rcases hm with hm | hm | hm
    ·have := hlw _ hm; omega
    ·exact hne hm
    ·omega)⟩
 ·refine ⟨hF3.os.trans hF.os, hF3.tape.trans hF.tape, hF3.output.trans hF.output, Nat.le_trans hF.size hF3.size, fun k o hk hn => ?_⟩
  have hk1 := hF.block k o hk (fun hm => hn (.inl hm))
  exact hF3.block k o hk1 (fun hm => hn (.inr ⟨(hrne k hm o hk1).2, hqt _ (hrne k hm o hk1).1⟩))

theorem list_ends {r q bv B g cap : Nat} {l : List J} {j : J} {d : Int} {s : Bs} {bad : Bool} {w w1 w2 : World} {X Z : Obj} {lv v0 v1 v2 v3 v4 z0 z1 z2 z3 z4 : Value} {xs : List Value}
 (hqB : B ≤ bv) (hR : Rd r s bad d w1) (hF : Fr (MR r) w w1) (hbw : bv < w.heap.size) (hq : Bx q r w1) (hqb : q < bv)
 (hown : w1.ownsRow (bv + 1) 220 5 lv l.length xs) (hrc : RC (fun k => bv < k ∧ lv.ownBlock ≠ some k) w1 l xs)
 (hb : w1.heap[bv]? = some (.cells #[.int .i64 4, .int .i64 0, .string ⟨#[]⟩, lv, .slice none 0 0] 220 (0, 0)))
 (hlw : ∀ k, lv.ownBlock = some k → k < w.heap.size)
 (hj : RJ (fun k => w.heap.size ≤ k) w1 j (.agg #[v0, v1, v2, v3, v4]))
 (hgr : ((w1.alloc X).alloc Z).drew.grownBy w2 lv.ownBlock) (hg2 : lv.ownBlock = some g ∨ w1.heap.size + 2 ≤ g) (hgb : ¬ g = bv)
 (hown2 : w2.ownsRow (bv + 1) 220 5 (.slice (some ⟨g, 0, none⟩) (l.length + 1) cap) (l.length + 1) (xs ++ [z0, z1, z2, z3, z4]))
 (hb2 : w2.heap[bv]? = some (.cells #[.int .i64 4, .int .i64 0, .string ⟨#[]⟩, lv, .slice none 0 0] 220 (0, 0))) (w3 : World)
 (h3 : w3 = (put5 g (l.length * 5) v0 v1 v2 v3 v4 w2).setCell ⟨bv, 3, none⟩ (.slice (some ⟨g, 0, none⟩) (l.length + 1) cap) ∨
   w3 = put5 g (l.length * 5) v0 v1 v2 v3 v4 (w2.setCell ⟨bv, 3, none⟩ (.slice (some ⟨g, 0, none⟩) (l.length + 1) cap))) :
 Rd r s bad d w3 ∧ ListInv r q bv (l ++ [j]) w3 ∧ Fr (ML r B) w w3 := by
 have hxl : xs.length = l.length * 5 := by have := RC.length l xs hrc; omega
 have hgb' : bv ≠ g := fun e => hgb e.symm
 have hown2' := hown2
 rcases h3 with rfl | rfl
 ·refine list_end hqB hR hF hbw hq hqb hown hrc hb hlw hj hgr hg2 (own_same (own_put5 hown2 hxl v0 v1 v2 v3 v4) (fun k hk => ?_)) ?_ (But2.put5 _ _ _ _ _ _ _ _ _ _ _)
  ·have : k = g := by simpa [Value.ownBlock] using hk.symm
   subst this
   exact Below.heap_setCell _ _ _ _ hgb
  ·exact heap_setCell_eq (o := 3) _ ((put5_other hgb').trans hb2)
 ·refine list_end hqB hR hF hbw hq hqb hown hrc hb hlw hj hgr hg2 (own_put5 (own_same hown2 (fun k hk => ?_)) hxl v0 v1 v2 v3 v4) ?_ (But2.put5' _ _ _ _ _ _ _ _ _ _ _)
  ·have : k = g := by simpa [Value.ownBlock] using hk.symm
   subst this
   exact Below.heap_setCell _ _ _ _ hgb
  ·exact (put5_other hgb').trans (heap_setCell_eq (o := 3) _ hb2)

set_option maxRecDepth 100000 in
set_option maxHeartbeats 1000000 in
theorem list1_c (f : Nat) (hv : ValOk f) (d : Int) (hd0 : 0 ≤ d) (hd1 : d ≤ 8) (hdf : d + f = 10) (r q bv B N : Nat) (hqB : B ≤ bv) (hN : N ≤ 67108864) (s : Bs) (l : List J) (w : World)
 (h : Rd r s false d w) (hI : ListInv r q bv l w) (hg : Gl w) (hB : B ≤ w.heap.size) (hsz : l.length + s.length ≤ N) :
 Calls Tryz.prog 289 #[.pointer (some ⟨q, 0, none⟩), .pointer (some ⟨bv, 0, none⟩)] w fun e w' => e = .returned (.tuple #[]) ∧
  Rd r (sItem (sValue f d) ⟨s, false⟩ l).1.s (sItem (sValue f d) ⟨s, false⟩ l).1.bad d w' ∧ ListInv r q bv (sItem (sValue f d) ⟨s, false⟩ l).2 w' ∧ Fr (ML r B) w w' := by
 have hval := hv d r s false w h hg (by omega) hd0 hd1 hdf
 obtain ⟨hbw, hlw0⟩ : bv < w.heap.size ∧ True := ⟨by obtain ⟨_, _, lv, xs, hb, _⟩ := hI; exact get_lt hb, trivial⟩
 clear hlw0
 simp only [sItem]
 generalize sValue f d ⟨s, false⟩ = V at *
 obtain ⟨j, st⟩ := V
 simp only at hval ⊢
 have Hval := Lib.hid hval
 have cq := hI.1.cell
 obtain ⟨i0, hi, hz0, hz1, hz2⟩ := info_parts Tryz.infoV
 have hlen : l.length ≤ 67108864 := by omega
 clear hval hv
 go_enter Tryz.func289, Tryz.ntmps289
 go_wp2_with fail
 refine Hval.out.mono ?_
 rintro e w1 ⟨v, rfl, hj, hR1, hF1⟩
 have hI1 : ListInv r q bv l w1 := hI.fr hF1 (fun _ _ _ ht => MR_not ht)
 have hold : ∃ lv, w.heap[bv]? = some (.cells #[.int .i64 4, .int .i64 0, .string ⟨#[]⟩, lv, .slice none 0 0] 220 (0, 0)) ∧ (∀ k, lv.ownBlock = some k → k < w.heap.size) := by
  obtain ⟨_, _, lv, xs, hb, hown, _⟩ := hI
  exact ⟨lv, hb, fun k hk => (hown.lt k hk).2⟩
 obtain ⟨lw, hbw0, hlw0⟩ := hold
 have hbw1 := hF1.block _ _ hbw0 (fun hm => MR_not (.inr (.inl ⟨_, _, rfl⟩)) hm)
 have hsz1 : w.heap.size ≤ w1.heap.size := hF1.size
 obtain ⟨jk, jn, jt, jl, jp⟩ := j
 have hjv := hj
 unfold RJ at hjv
 obtain ⟨a1, c1, a2, c2, rfl, _, _⟩ := hjv
 obtain ⟨hq1, hqb, lv, xs, hb, hown, hrc⟩ := hI1
 obtain ⟨a0, c0, hlv⟩ := own_form hown
 have hbv : bv < w1.heap.size := get_lt hb
 obtain rfl : lw = lv := by rw [hb] at hbw1; simpa using hbw1.symm
 have Hlw0 := Lib.hid hlw0
 have Hlw : Hid (∀ k, (Value.slice a0 l.length c0).ownBlock = some k → k < w.heap.size) := by rw [← hlv]; exact Hlw0
 clear hlw0 hbw1 hbw0
 have v3 : w1.cell? ⟨bv, 3, none⟩ = some (.slice a0 l.length c0) := by simp [World.cell?, hb, hlv]
 have f3 : w1.frozen? ⟨bv, 3, none⟩ = false := by simp [World.frozen?, hb]
 have cq1 := hq1.cell
 have hnn : (l.length : Int) < l.length + 1 := by omega
 -- what the row was: it lies behind bv
 have hrow : ∀ g, (Value.slice a0 l.length c0).ownBlock = some g ∨ w1.heap.size + 2 ≤ g → ¬ g = bv ∧ ¬ bv = g := by
  intro g hg
  rw [← hlv] at hg
  rcases hg with hg | hg
  ·have := (own_ty hown g hg).1; omega
  ·omega
 have hxl := RC.length l xs hrc
 rw [hlv] at hown hrc
 have Hown := Lib.hid hown
 have Hrow := Lib.hid hrow
 have Hrc := Lib.hid hrc
 have Hb := Lib.hid hb
 have Hxl := Lib.hid hxl
 have Hj := Lib.hid hj
 have Hlv := Lib.hid hlv
 clear hown hrow hrc hb hxl hj hlv
 go_wp2_with fail
 have hlen1 : (l.length + 1) * 80 ≤ 140737488355328 := by omega
 have hlen2 : l.length + 1 ≤ maxLen := by unfold maxLen; omega
 go_region_law (refine step_append_own rfl (.tmp 6) (.tmp 9) 217 rfl (bv + 1) 220 i0 (.agg #[.int .i64 0, .int .i64 0, .string ⟨#[]⟩, .slice none 0 0, .slice none 0 0]) 5 80 Tryz.underlying217 hi hz0 hz1 hz2 rfl (by decide) (.slice a0 l.length c0) l.length xs rfl (by exact (Hown.out.alloc _).alloc _) ⟨w1.heap.size + 1, 0, none⟩ 1 [.int .i64 0, .int .i64 0, .string ⟨#[]⟩, .slice none 0 0, .slice none 0 0] rfl rfl (by exact cells_at (w1.alloc _) _ _ _ (by simp)) (by simp [Value.oneCell']) hlen2 hlen1 (by simp; omega) ?_; intro g cap w2 hown2 hgr2 hg2 hc2 hf2; have Hown2 := Lib.hid hown2; clear hown2; have k0 := hc2 0 _ rfl; have k1 := hc2 1 _ rfl; have k2 := hc2 2 _ rfl; have k3 := hc2 3 _ rfl; have k4 := hc2 4 _ rfl; rw [Nat.add_zero] at k0; clear hc2; obtain ⟨hg3, hg4⟩ := Hrow.out g (by simpa using hg2); have hb2 := (region_keep hgr2 hbv (fun e => (Hrow.out bv (.inl e)).1 rfl)).trans Hb.out; have b1 : w2.cell? ⟨bv, 3, none⟩ = some (.slice a0 l.length c0) := (by simp [World.cell?, hb2, Hlv.out]); have b2 : w2.frozen? ⟨bv, 3, none⟩ = false := (by simp [World.frozen?, hb2]); have Hg2 := Lib.hid hg2; have Hb2 := Lib.hid hb2; have Hgr2 := Lib.hid hgr2; clear hg2 hb2 hgr2)
 all_goals
  go_wp2_with fail
  go_end0
  refine ⟨rfl, ?_⟩
  have hb0 := Hb.out
  have hb2 := Hb2.out
  rw [Hlv.out] at hb0 hb2
  have hg2' : (Value.slice a0 l.length c0).ownBlock = some g ∨ w1.heap.size + 2 ≤ g := by have := Hg2.out; simp only [World.size_drew, World.size_alloc] at this; exact this
  refine list_ends hqB hR1 hF1 hbw hq1 hqb Hown.out Hrc.out hb0 Hlw.out Hj.out Hgr2.out hg2' hg3 Hown2.out hb2 _ ?_
  simp only [put5, true_or, or_true]
end Go.Proofs.YtcddlemkimbkcaaGreatDoor
