/-
 The walks of json's reader, further: one of an object.
-/
import Derived.Test.YtcddlemkimbkcaaGreatDoorKReader6
import Derived.Test.YtcddlemkimbkcaaGreatDoorKSeen
import Derived.Test.YtcddlemkimbkcaaGreatDoorKSpecSound
namespace Go.Proofs.YtcddlemkimbkcaaGreatDoor
set_option linter.unusedVariables false
set_option linter.unusedSimpArgs false
set_option linter.unusedSectionVars false
open Go.RowKit
attribute [local instance] oldZero

theorem Tryz.infoP : (Tryz.prog.info? 306).map (fun i => (i.zero, i.size, i.bytes)) = some (some (.agg #[.string ⟨#[]⟩, .int .i64 0, .int .i64 0, .string ⟨#[]⟩, .slice none 0 0, .slice none 0 0]), 6, 96) := by kernel_rfl

/-- the object that grows: block mq holds the map of the names, mb is the map -/
def ObjP (r q mq mb bv : Nat) (names : List Bs) (l : List (Bs × J)) (lv : Value) (xs : List Value) (w : World) : Prop :=
 Bx q r w ∧ q < bv ∧ bv < mb ∧ w.heap[mq]? = some (.cells #[.map (some mb)] 369 (0, 0)) ∧ Seen mb names.length names w ∧
  w.heap[bv]? = some (.cells #[.int .i64 5, .int .i64 0, .string ⟨#[]⟩, .slice none 0 0, lv] 220 (0, 0)) ∧
  w.ownsRow (bv + 1) 306 6 lv l.length xs ∧ RP (fun k => bv < k ∧ lv.ownBlock ≠ some k) w l xs
def ObjInv (r q mq bv : Nat) (l : List (Bs × J)) (w : World) : Prop := ∃ mb lv xs, ObjP r q mq mb bv (l.map (·.1)) l lv xs w

/-- the end of a round of an object, whatever order the stores came in -/
theorem pair_end {r q bv B g cap : Nat} {l : List (Bs × J)} {nm : Bs} {mb mq : Nat} {j : J} {d : Int} {s : Bs} {bad : Bool} {w w1 w2 w3 : World} {X Z : Obj} {lv v0 v1 v2 v3 v4 : Value} {xs : List Value}
 (hqB : B ≤ bv) (hR : Rd r s bad d w1) (hF : Fr (ML r B) w w1) (hbw : bv < w.heap.size) (hq : Bx q r w1) (hqb : q < bv) (hqm : bv < mb)
 (hmq : w1.heap[mq]? = some (.cells #[.map (some mb)] 369 (0, 0))) (hseen : Seen mb (l.length + 1) (l.map (·.1) ++ [nm]) w1)
 (hown : w1.ownsRow (bv + 1) 306 6 lv l.length xs) (hrc : RP (fun k => bv < k ∧ lv.ownBlock ≠ some k) w1 l xs)
 (hb : w1.heap[bv]? = some (.cells #[.int .i64 5, .int .i64 0, .string ⟨#[]⟩, .slice none 0 0, lv] 220 (0, 0)))
 (hlw : ∀ k, lv.ownBlock = some k → k < w.heap.size)
 (hj : RJ (fun k => w.heap.size ≤ k) w1 j (.agg #[v0, v1, v2, v3, v4]))
 (hgr : ((w1.alloc X).alloc Z).drew.grownBy w2 lv.ownBlock) (hg2 : lv.ownBlock = some g ∨ w1.heap.size + 2 ≤ g)
 (hown3 : w3.ownsRow (bv + 1) 306 6 (.slice (some ⟨g, 0, none⟩) (l.length + 1) cap) (l.length + 1) (xs ++ [.string ⟨nm.toArray⟩, v0, v1, v2, v3, v4]))
 (hb3 : w3.heap[bv]? = some (.cells #[.int .i64 5, .int .i64 0, .string ⟨#[]⟩, .slice none 0 0, .slice (some ⟨g, 0, none⟩) (l.length + 1) cap] 220 (0, 0)))
 (h3 : But2 g bv w2 w3) : Rd r s bad d w3 ∧ ObjInv r q mq bv (l ++ [(nm, j)]) w3 ∧ Fr (ML r B) w w3 := by
 have hF3 : Fr (fun k _ => lv.ownBlock = some k ∨ k = g ∨ k = bv) w1 w3 :=
  ((region_fr hgr).mono (fun _ _ h => .inl h)).trans h3.fr (fun _ _ h => .inl (.inr h))
 have hown0 := own_ty hown
 have hgt : ∀ o, w1.heap[g]? = some o → OfTy 306 o ∧ bv < g := by
  intro o ho
  rcases hg2 with hg | hg
  ·obtain ⟨h1, o', h2, h3⟩ := hown0 g hg
   rw [ho] at h2
   exact ⟨(Option.some.inj h2) ▸ h3, h1⟩
  ·have := get_lt ho; omega
 have hrt : ∀ k, (OfTy 220 k ∨ OfTy 306 k) → ¬ OfTy 282 k := by
  rintro k (⟨_, _, rfl⟩ | ⟨_, _, rfl⟩) ⟨_, _, h⟩ <;> simp at h
 have hqt : ∀ k, (OfTy 220 k ∨ OfTy 306 k) → ¬ OfTy 280 k := by
  rintro k (⟨_, _, rfl⟩ | ⟨_, _, rfl⟩) ⟨_, _, h⟩ <;> simp at h
 have hmt : ∀ k, (OfTy 220 k ∨ OfTy 306 k) → ¬ OfTy 369 k := by
  rintro k (⟨_, _, rfl⟩ | ⟨_, _, rfl⟩) ⟨_, _, h⟩ <;> simp at h
 have hmo : ∀ k, (OfTy 220 k ∨ OfTy 306 k) → ¬ isMapO k := by
  rintro k (⟨_, _, rfl⟩ | ⟨_, _, rfl⟩) ⟨_, _, h⟩ <;> simp at h
 have hrne : ∀ k, (lv.ownBlock = some k ∨ k = g ∨ k = bv) → ∀ o, w1.heap[k]? = some o → (OfTy 220 o ∨ OfTy 306 o) ∧ B ≤ k := by
  rintro k hk o ho
  rcases hk with hk | rfl | rfl
  ·obtain ⟨h1, o', h2, h3⟩ := hown0 k hk
   rw [ho] at h2
   exact ⟨.inr ((Option.some.inj h2) ▸ h3), by omega⟩
  ·exact ⟨.inr (hgt o ho).1, by have := (hgt o ho).2; omega⟩
  ·rw [hb] at ho
   exact ⟨.inl ⟨_, _, (Option.some.inj ho).symm⟩, by omega⟩
 refine ⟨⟨hR.1, hF3.block _ _ hR.2 (fun hm => hrt _ (hrne _ hm _ hR.2).1 ⟨_, _, rfl⟩)⟩, ⟨mb, _, _, hF3.block _ _ hq (fun hm => hqt _ (hrne _ hm _ hq).1 ⟨_, _, rfl⟩), hqb, hqm, hF3.block _ _ hmq (fun hm => hmt _ (hrne _ hm _ hmq).1 ⟨_, _, rfl⟩), ?_, hb3, by simpa using hown3, ?_⟩, ?_⟩
 ·obtain ⟨om, hom⟩ := get_some hseen.lt
  have hs3 := hseen.fr hF3 (fun o ho hm => by
   have hob : ∃ es c, w1.heap[mb]? = some (.map es c) := by
    obtain ⟨D, ⟨es, clock, h1, _⟩, _⟩ := hseen
    exact ⟨_, _, h1⟩
   obtain ⟨es, c, hob⟩ := hob
   exact hmo _ (hrne _ hm _ hob).1 ⟨_, _, rfl⟩)
  simpa using hs3
 ·have hgown : (Value.slice (some ⟨g, 0, none⟩) (l.length + 1) cap).ownBlock = some g := rfl
  rw [hgown]
  refine RP.append l xs [(nm, j)] _ (RP.kp ?_ l xs hrc) (RP.one (RJ.kp ?_ j _ hj))
  ·intro b o hs ho _
   have hne : b ≠ g := by
    rintro rfl
    rcases hg2 with hg | hg
    ·exact hs.2 hg
    ·have := get_lt ho; omega
   exact ⟨⟨hs.1, fun e => hne (by simpa using e.symm)⟩, hF3.block b o ho (fun hm => by
    rcases hm with hm | hm | hm
    ·exact hs.2 hm
    ·exact hne hm
    ·omega)⟩
  ·intro b o hs ho _
   have hne : b ≠ g := by
    rintro rfl
    rcases hg2 with hg | hg
    ·have := hlw _ hg; omega
    ·have := get_lt ho; omega
   exact ⟨⟨by omega, fun e => hne (by simpa using e.symm)⟩, hF3.block b o ho (fun hm => by
    rcases hm with hm | hm | hm
    ·have := hlw _ hm; omega
    ·exact hne hm
    ·omega)⟩
 ·refine ⟨hF3.os.trans hF.os, hF3.tape.trans hF.tape, hF3.output.trans hF.output, Nat.le_trans hF.size hF3.size, fun k o hk hn => ?_⟩
  have hk1 := hF.block k o hk hn
  exact hF3.block k o hk1 (fun hm => hn (.inr ⟨(hrne k hm o hk1).2, hqt _ (hrne k hm o hk1).1⟩))

theorem pair_ends {r q bv B g cap : Nat} {l : List (Bs × J)} {nm : Bs} {mb mq : Nat} {j : J} {d : Int} {s : Bs} {bad : Bool} {w w1 w2 : World} {X Z : Obj} {lv v0 v1 v2 v3 v4 z0 z1 z2 z3 z4 z5 : Value} {xs : List Value}
 (hqB : B ≤ bv) (hR : Rd r s bad d w1) (hF : Fr (ML r B) w w1) (hbw : bv < w.heap.size) (hq : Bx q r w1) (hqb : q < bv) (hqm : bv < mb)
 (hmq : w1.heap[mq]? = some (.cells #[.map (some mb)] 369 (0, 0))) (hseen : Seen mb (l.length + 1) (l.map (·.1) ++ [nm]) w1)
 (hown : w1.ownsRow (bv + 1) 306 6 lv l.length xs) (hrc : RP (fun k => bv < k ∧ lv.ownBlock ≠ some k) w1 l xs)
 (hb : w1.heap[bv]? = some (.cells #[.int .i64 5, .int .i64 0, .string ⟨#[]⟩, .slice none 0 0, lv] 220 (0, 0)))
 (hlw : ∀ k, lv.ownBlock = some k → k < w.heap.size)
 (hj : RJ (fun k => w.heap.size ≤ k) w1 j (.agg #[v0, v1, v2, v3, v4]))
 (hgr : ((w1.alloc X).alloc Z).drew.grownBy w2 lv.ownBlock) (hg2 : lv.ownBlock = some g ∨ w1.heap.size + 2 ≤ g) (hgb : ¬ g = bv)
 (hown2 : w2.ownsRow (bv + 1) 306 6 (.slice (some ⟨g, 0, none⟩) (l.length + 1) cap) (l.length + 1) (xs ++ [z0, z1, z2, z3, z4, z5]))
 (hb2 : w2.heap[bv]? = some (.cells #[.int .i64 5, .int .i64 0, .string ⟨#[]⟩, .slice none 0 0, lv] 220 (0, 0))) (w3 : World)
 (h3 : w3 = (put6 g (l.length * 6) (.string ⟨nm.toArray⟩) v0 v1 v2 v3 v4 w2).setCell ⟨bv, 4, none⟩ (.slice (some ⟨g, 0, none⟩) (l.length + 1) cap) ∨
   w3 = put6 g (l.length * 6) (.string ⟨nm.toArray⟩) v0 v1 v2 v3 v4 (w2.setCell ⟨bv, 4, none⟩ (.slice (some ⟨g, 0, none⟩) (l.length + 1) cap))) :
 Rd r s bad d w3 ∧ ObjInv r q mq bv (l ++ [(nm, j)]) w3 ∧ Fr (ML r B) w w3 := by
 have hxl : xs.length = l.length * 6 := by have := RP.length l xs hrc; omega
 have hgb' : bv ≠ g := fun e => hgb e.symm
 have hown2' := hown2
 rcases h3 with rfl | rfl
 ·refine pair_end hqB hR hF hbw hq hqb hqm hmq hseen hown hrc hb hlw hj hgr hg2 (own_same (own_put6 hown2 hxl (.string ⟨nm.toArray⟩) v0 v1 v2 v3 v4) (fun k hk => ?_)) ?_ (But2.put6 _ _ _ _ _ _ _ _ _ _ _ _)
  ·have : k = g := by simpa [Value.ownBlock] using hk.symm
   subst this
   exact Below.heap_setCell _ _ _ _ hgb
  ·exact heap_setCell_eq (o := 4) _ ((put6_other hgb').trans hb2)
 ·refine pair_end hqB hR hF hbw hq hqb hqm hmq hseen hown hrc hb hlw hj hgr hg2 (own_put6 (own_same hown2 (fun k hk => ?_)) hxl (.string ⟨nm.toArray⟩) v0 v1 v2 v3 v4) ?_ (But2.put6' _ _ _ _ _ _ _ _ _ _ _ _)
  ·have : k = g := by simpa [Value.ownBlock] using hk.symm
   subst this
   exact Below.heap_setCell _ _ _ _ hgb
  ·exact (put6_other hgb').trans (heap_setCell_eq (o := 4) _ hb2)


theorem ObjP.fr {M : Nat → Obj → Prop} {r q mq mb bv : Nat} {names : List Bs} {l : List (Bs × J)} {lv : Value} {xs : List Value} {w w' : World} (h : ObjP r q mq mb bv names l lv xs w) (hF : Fr M w w')
 (hM : ∀ k o, (OfTy 280 o ∨ OfTy 220 o ∨ OfTy 306 o ∨ OfTy 369 o ∨ isMapO o) → ¬ M k o) : ObjP r q mq mb bv names l lv xs w' := by
 obtain ⟨hq, hqb, hqm, hmq, hse, hb, hown, hrc⟩ := h
 refine ⟨hF.block _ _ hq (hM _ _ (.inl ⟨_, _, rfl⟩)), hqb, hqm, hF.block _ _ hmq (hM _ _ (.inr (.inr (.inr (.inl ⟨_, _, rfl⟩))))), hse.fr hF (fun o ho => hM _ _ (.inr (.inr (.inr (.inr ho))))), hF.block _ _ hb (hM _ _ (.inr (.inl ⟨_, _, rfl⟩))), ?_, ?_⟩
 ·exact own_fr hown hF (fun k o _ _ ht => hM k o (.inr (.inr (.inl ht))))
 ·exact RP.kp (Kp.fr hF (fun b hb _ => hb) (fun b o _ _ ht => hM b o (by rcases vt_zero ht with ht | ht; exact .inr (.inl ht); exact .inr (.inr (.inl ht))))) l xs hrc
/-- behind the turn of the map itself -/
theorem ObjP.grown {r q mq mb bv : Nat} {names names' : List Bs} {l : List (Bs × J)} {lv : Value} {xs : List Value} {w w' : World} (h : ObjP r q mq mb bv names l lv xs w) (hm : ∃ o, w.heap[mb]? = some o ∧ isMapO o)
 (hF : w.grownBy w' (some mb)) (hse' : Seen mb names'.length names' w') : ObjP r q mq mb bv names' l lv xs w' := by
 obtain ⟨hq, hqb, hqm, hmq, hse, hb, hown, hrc⟩ := h
 obtain ⟨om, hom, es, cl, rfl⟩ := hm
 have hF' : Fr (fun k o => k = mb ∧ isMapO o) w w' := ⟨(Fr.ofGrown hF).os, (Fr.ofGrown hF).tape, (Fr.ofGrown hF).output, (Fr.ofGrown hF).size, fun k o hk hn => (Fr.ofGrown hF).block k o hk (fun e => by
  obtain rfl : k = mb := by simpa using e
  rw [hom] at hk
  obtain rfl := Option.some.inj hk
  exact hn ⟨rfl, _, _, rfl⟩)⟩
 have hno : ∀ k c T f, ¬ (k = mb ∧ isMapO (.cells c T f)) := by rintro k c T f ⟨_, _, _, h⟩; cases h
 refine ⟨hF'.block _ _ hq (hno _ _ _ _), hqb, hqm, hF'.block _ _ hmq (hno _ _ _ _), hse', hF'.block _ _ hb (hno _ _ _ _), ?_, ?_⟩
 ·exact own_fr hown hF' (fun k o _ _ ht => by obtain ⟨c, f, rfl⟩ := ht; exact hno _ _ _ _)
 ·exact RP.kp (Kp.fr hF' (fun b hb _ => hb) (fun b o _ _ ht => by rcases vt_zero ht with ⟨c, f, rfl⟩ | ⟨c, f, rfl⟩ <;> exact hno _ _ _ _)) l xs hrc
theorem rd_grown {r mb : Nat} {s : Bs} {bad : Bool} {d : Int} {w w' : World} (h : Rd r s bad d w) (hm : ∃ o, w.heap[mb]? = some o ∧ isMapO o) (hF : w.grownBy w' (some mb)) : Rd r s bad d w' := by
 refine ⟨h.1, (Fr.ofGrown hF).block _ _ h.2 (fun e => ?_)⟩
 obtain rfl : r = mb := by simpa using e
 obtain ⟨om, hom, es, cl, rfl⟩ := hm
 rw [h.2] at hom
 cases hom
theorem gl_grown {mb : Nat} {w w' : World} (h : Gl w) (hB : 3 ≤ mb) (hF : w.grownBy w' (some mb)) : Gl w' :=
 h.fr (Fr.ofGrown hF) (fun k _ _ e => by
  obtain rfl : k = mb := by simpa using e
  exact hB)
theorem ml_grown {r B mb : Nat} {w w' : World} (hm : ∃ o, w.heap[mb]? = some o ∧ isMapO o) (hB : B ≤ mb) (hF : w.grownBy w' (some mb)) : Fr (ML r B) w w' := by
 refine ⟨(Fr.ofGrown hF).os, (Fr.ofGrown hF).tape, (Fr.ofGrown hF).output, (Fr.ofGrown hF).size, fun k o hk hn => (Fr.ofGrown hF).block k o hk (fun e => hn (.inr ?_))⟩
 obtain rfl : k = mb := by simpa using e
 obtain ⟨om, hom, es, cl, rfl⟩ := hm
 rw [hom] at hk
 obtain rfl := Option.some.inj hk
 refine ⟨hB, ?_⟩
 rintro ⟨_, _, h⟩
 cases h
theorem MR_not2 {r k : Nat} {o : Obj} (h : OfTy 280 o ∨ OfTy 220 o ∨ OfTy 306 o ∨ OfTy 369 o ∨ isMapO o) : ¬ MR r k o := by
 rintro ⟨_, c, f, rfl⟩
 rcases h with ⟨_, _, h⟩ | ⟨_, _, h⟩ | ⟨_, _, h⟩ | ⟨_, _, h⟩ | ⟨_, _, h⟩ <;> simp at h
set_option maxRecDepth 100000 in
set_option maxHeartbeats 2000000 in
theorem object1_c (f : Nat) (hv : ValOk f) (d : Int) (hd0 : 0 ≤ d) (hd1 : d ≤ 8) (hdf : d + f = 10) (r q mq bv B N : Nat) (hqB : B ≤ bv) (hN : N ≤ 67108864) (s : Bs) (l : List (Bs × J)) (w : World)
 (h : Rd r s false d w) (hI : ObjInv r q mq bv l w) (hg : Gl w) (hB : B ≤ w.heap.size) (hBn : 3 ≤ B) (hsz : l.length + s.length ≤ N) :
 Calls Tryz.prog 290 #[.pointer (some ⟨q, 0, none⟩), .pointer (some ⟨mq, 0, none⟩), .pointer (some ⟨bv, 0, none⟩)] w fun e w' => e = .returned (.tuple #[]) ∧
  Rd r (sPair (sValue f d) ⟨s, false⟩ l).1.s (sPair (sValue f d) ⟨s, false⟩ l).1.bad d w' ∧ ObjInv r q mq bv (sPair (sValue f d) ⟨s, false⟩ l).2 w' ∧ Fr (ML r B) w w' := by
 simp only [sPair]
 have hbl := blanks_len s
 have htn := text_name_len ⟨sBlanks s, false⟩
 have htl := text_len ⟨sBlanks s, false⟩
 have htc := fun w1 h1 hg1 => text_c r (sBlanks s) false d w1 h1 hg1 (by omega)
 generalize sText ⟨sBlanks s, false⟩ = T at *
 obtain ⟨nm, st1⟩ := T
 obtain ⟨s1, b1⟩ := st1
 simp only at htn htl htc ⊢
 have hcol : (sColon (l.map (·.1)) nm ⟨s1, b1⟩).s.length ≤ s1.length := by
  unfold sColon
  split
  ·simp
  ·split
   ·rename_i l' he; have h2 : l'.length + 1 ≤ s1.length := eat_len he; show l'.length ≤ _; omega
   ·exact blanks_len s1
 generalize hcl : sColon (l.map (·.1)) nm ⟨s1, b1⟩ = C at *
 obtain ⟨s2, b2⟩ := C
 simp only at hcol ⊢
 have hval := fun w5 h5 hg5 => hv d r s2 b2 w5 h5 hg5 (by omega) hd0 hd1 hdf
 generalize sValue f d ⟨s2, b2⟩ = V at *
 obtain ⟨j, st⟩ := V
 simp only at hval ⊢
 have Hval := Lib.hid hval
 have Htc := Lib.hid htc
 have Hcl := Lib.hid hcl
 have hnm : nm.length ≤ maxLen := by unfold maxLen; omega
 have hln : l.length < maxLen := by unfold maxLen; omega
 have Hnm := Lib.hid hnm
 have Hln := Lib.hid hln
 obtain ⟨mb, lw, xs0, hP⟩ := hI
 have cq := hP.1.cell
 obtain ⟨i0, hi, hz0, hz1, hz2⟩ := info_parts Tryz.infoP
 have hlen : l.length ≤ 67108864 := by omega
 clear hval htc hcl hnm hln hv htn htl hbl hcol
 obtain ⟨cn, hcn⟩ : ∃ cn, (l.map (·.1)).contains nm = cn := ⟨_, rfl⟩
 have Hcn := Lib.hid hcn
 clear hcn
 obtain ⟨eo, heo⟩ : ∃ eo, sEat 58 s1 = eo := ⟨_, rfl⟩
 have Heo := Lib.hid heo
 clear heo
 have hS : (cn = true ∧ s2 = s1 ∧ b2 = true) ∨ (cn = false ∧ ((∃ l', eo = some l' ∧ s2 = l' ∧ b2 = b1) ∨ (eo = none ∧ s2 = sBlanks s1 ∧ b2 = true))) := by
  have := Hcl.out
  unfold sColon at this
  rw [Hcn.out, Heo.out] at this
  cases cn with
  | true => left; simp at this; exact ⟨rfl, this.1.symm, by simp [← this.2]⟩
  | false =>
    right
    cases eo with
    | none => simp at this; exact ⟨rfl, .inr ⟨rfl, this.1.symm, by simp [← this.2]⟩⟩
    | some l' => simp at this; exact ⟨rfl, .inl ⟨l', rfl, this.1.symm, this.2.symm⟩⟩
 clear Hcl
 have hbw0 : bv < w.heap.size := get_lt hP.2.2.2.2.2.1
 have hlw0 : ∀ k, lw.ownBlock = some k → k < w.heap.size := fun k hk => (hP.2.2.2.2.2.2.1.lt k hk).2
 have hqm0 : bv < mb := hP.2.2.1
 have Hlw0 := Lib.hid hlw0
 clear hlw0
 rcases hS with ⟨rfl, rfl, rfl⟩ | ⟨rfl, ⟨l', rfl, rfl, rfl⟩ | ⟨rfl, rfl, rfl⟩⟩
 all_goals
  go_enter Tryz.func290, Tryz.ntmps290
  go_wp2_with fail
  refine (blanks_c r s false d w h).mono ?_
  rintro e w1 ⟨rfl, hR1, hF1⟩
  have hP1 := hP.fr hF1 (fun _ _ ht => MR_not2 ht)
  have hg1 := hg.rd h hF1
  have cq1 := hP1.1.cell
  go_wp2_with fail
  refine (Htc.out w1 hR1 hg1).mono ?_
  rintro e w2 ⟨rfl, hR2, hF2⟩
  have hP2 := hP1.fr hF2 (fun _ _ ht => MR_not2 ht)
  have hg2 := hg1.rd hR1 hF2
  have cq2 := hP2.1.cell
  obtain ⟨_, _, _, hmq, hse, _⟩ := id hP2
  have cm2 : w2.cell? ⟨mq, 0, none⟩ = some (.map (some mb)) := by simp [World.cell?, hmq]
  have hlk := hse.look nm Hnm.out
  rw [Hcn.out] at hlk
  have hF02 := hF1.trans' hF2
  go_wp2_with fail
 all_goals first
  | (refine (fail_c r _ _ d w2 hR2).mono ?_
     rintro e w5 ⟨rfl, hR5, hF5⟩
     have hP5 := hP2.fr hF5 (fun _ _ ht => MR_not2 ht)
     have hg5 := hg2.rd hR2 hF5
     have hF05 := hF02.trans' hF5
     have cq5 := hP5.1.cell)
  | (refine (eat_yes r _ _ _ d 58 w2 hR2 Heo.out).mono ?_
     rintro e w5 ⟨rfl, hR5, hF5⟩
     have hP5 := hP2.fr hF5 (fun _ _ ht => MR_not2 ht)
     have hg5 := hg2.rd hR2 hF5
     have hF05 := hF02.trans' hF5
     have cq5 := hP5.1.cell)
  | (refine (eat_no r _ _ d 58 w2 hR2 Heo.out).mono ?_
     rintro e w3 ⟨rfl, hR3, hF3⟩
     have hP3 := hP2.fr hF3 (fun _ _ ht => MR_not2 ht)
     have hg3 := hg2.rd hR2 hF3
     have cq3 := hP3.1.cell
     go_wp2_with fail
     refine (fail_c r _ _ d w3 hR3).mono ?_
     rintro e w5 ⟨rfl, hR5, hF5⟩
     have hP5 := hP3.fr hF5 (fun _ _ ht => MR_not2 ht)
     have hg5 := hg3.rd hR3 hF5
     have hF05 := (hF02.trans' hF3).trans' hF5
     have cq5 := hP5.1.cell)
  | (fail)
 all_goals
  obtain ⟨_, _, _, hmq5, hse5, _⟩ := id hP5
  have cm5 : w5.cell? ⟨mq, 0, none⟩ = some (.map (some mb)) := by simp [World.cell?, hmq5]
  obtain ⟨w6, hput, hse6, hgr6, hmo⟩ := hse5.put nm Hnm.out (by simpa using Hln.out)
  have hP6 := hP5.grown (names' := l.map (·.1) ++ [nm]) hmo hgr6 (by simpa using hse6)
  have hF56 : Fr (ML r B) w5 w6 := ml_grown hmo (by omega) hgr6
  have hR6 := rd_grown hR5 hmo hgr6
  have hg6 := gl_grown hg5 (by omega) hgr6
  have cq6 := hP6.1.cell
  have hF06 := (hF05.mono MR_ML).trans' hF56
  go_wp2_with fail
  refine (Hval.out w6 hR6 hg6).mono ?_
  rintro e w7 ⟨v, rfl, hj, hR7, hF7⟩
  have hP7 := hP6.fr hF7 (fun _ _ ht => MR_not2 ht)
  have hF07 := hF06.trans' (hF7.mono MR_ML)
  have hsz7 : w.heap.size ≤ w6.heap.size := hF06.size
  obtain ⟨jk, jn, jt, jl, jp⟩ := j
  have hjv := hj
  unfold RJ at hjv
  obtain ⟨a1, c1, a2, c2, rfl, _, _⟩ := hjv
  obtain ⟨hq7, hqb, hqm, hmq7, hse7, hb, hown, hrc⟩ := hP7
  obtain ⟨a0, c0, hlv⟩ := own_form hown
  have hbv : bv < w7.heap.size := get_lt hb
  have Hlw : Hid (∀ k, (Value.slice a0 l.length c0).ownBlock = some k → k < w.heap.size) := by rw [← hlv]; exact Hlw0
  have v3 : w7.cell? ⟨bv, 4, none⟩ = some (.slice a0 l.length c0) := by simp [World.cell?, hb, hlv]
  have f3 : w7.frozen? ⟨bv, 4, none⟩ = false := by simp [World.frozen?, hb]
  have cq7 := hq7.cell
  have hnn : (l.length : Int) < l.length + 1 := by omega
  have hrow : ∀ g, (Value.slice a0 l.length c0).ownBlock = some g ∨ w7.heap.size + 2 ≤ g → ¬ g = bv ∧ ¬ bv = g := by
   intro g hg
   rw [← hlv] at hg
   rcases hg with hg | hg
   ·have := (own_ty hown g hg).1; omega
   ·omega
  have hxl := RP.length l xs0 hrc
  rw [hlv] at hown hrc
  have Hown := Lib.hid hown
  have Hrow := Lib.hid hrow
  have Hrc := Lib.hid hrc
  have Hb := Lib.hid hb
  have Hxl := Lib.hid hxl
  have Hj7 := Lib.hid (RJ.kp (S' := fun k => w.heap.size ≤ k) (fun b o hs ho _ => ⟨Nat.le_trans hsz7 hs, ho⟩) _ _ hj)
  have Hlv := Lib.hid hlv
  clear hown hrow hrc hb hxl hj hlv
  go_wp2_with fail
  have hlen1 : (l.length + 1) * 96 ≤ 140737488355328 := by omega
  have hlen2 : l.length + 1 ≤ maxLen := by unfold maxLen; omega
  go_region_law (refine step_append_own rfl (.tmp 24) (.tmp 29) 218 rfl (bv + 1) 306 i0 (.agg #[.string ⟨#[]⟩, .int .i64 0, .int .i64 0, .string ⟨#[]⟩, .slice none 0 0, .slice none 0 0]) 6 96 Tryz.underlying218 hi hz0 hz1 hz2 rfl (by decide) (.slice a0 l.length c0) l.length xs0 rfl (by exact (Hown.out.alloc _).alloc _) ⟨w7.heap.size + 1, 0, none⟩ 1 [.string ⟨#[]⟩, .int .i64 0, .int .i64 0, .string ⟨#[]⟩, .slice none 0 0, .slice none 0 0] rfl rfl (by exact cells_at (w7.alloc _) _ _ _ (by simp)) (by simp [Value.oneCell']) hlen2 hlen1 (by simp; omega) ?_; intro g cap w8 hown8 hgr8 hg8 hc8 hf8; have Hown8 := Lib.hid hown8; clear hown8; have k0 := hc8 0 _ rfl; have k1 := hc8 1 _ rfl; have k2 := hc8 2 _ rfl; have k3 := hc8 3 _ rfl; have k4 := hc8 4 _ rfl; have k5 := hc8 5 _ rfl; rw [Nat.add_zero] at k0; clear hc8; obtain ⟨hg3, hg4⟩ := Hrow.out g (by simpa using hg8); have hb8 := (region_keep hgr8 hbv (fun e => (Hrow.out bv (.inl e)).1 rfl)).trans Hb.out; have b1 : w8.cell? ⟨bv, 4, none⟩ = some (.slice a0 l.length c0) := (by simp [World.cell?, hb8, Hlv.out]); have b2 : w8.frozen? ⟨bv, 4, none⟩ = false := (by simp [World.frozen?, hb8]); have Hg8 := Lib.hid hg8; have Hb8 := Lib.hid hb8; have Hgr8 := Lib.hid hgr8; clear hg8 hb8 hgr8)
  all_goals
   go_wp2_with fail
   go_end0
   refine ⟨rfl, ?_⟩
   have hb0 := Hb.out
   have hb8 := Hb8.out
   rw [Hlv.out] at hb0 hb8
   have hg8' : (Value.slice a0 l.length c0).ownBlock = some g ∨ w7.heap.size + 2 ≤ g := by have := Hg8.out; simp only [World.size_drew, World.size_alloc] at this; exact this
   refine pair_ends hqB hR7 hF07 hbw0 hq7 hqb hqm hmq7 (by simpa using hse7) Hown.out Hrc.out hb0 Hlw.out Hj7.out Hgr8.out hg8' hg3 Hown8.out hb8 _ ?_
   simp only [put6, put5, true_or, or_true]
end Go.Proofs.YtcddlemkimbkcaaGreatDoor
