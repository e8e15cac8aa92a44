/-
 Objects with just some names (package entry's fields), and a statement's subjects, as plain data.
-/
import Derived.Test.YtcddlemkimbkcaaGreatDoorKGet
import Derived.Test.YtcddlemkimbkcaaGreatDoorKSpecCheck
import Derived.Test.YtcddlemkimbkcaaGreatDoorKOwn
import Derived.Test.YtcddlemkimbkcaaGreatDoorKTyped
import Derived.Test.YtcddlemkimbkcaaGreatDoorKEnAt
import Derived.Test.YtcddlemkimbkcaaGreatDoorKSigEq
import Derived.Test.YtcddlemkimbkcaaGreatDoorKStore
namespace Go.Proofs.YtcddlemkimbkcaaGreatDoor
set_option linter.unusedVariables false
set_option linter.unusedSimpArgs false
set_option linter.unusedSectionVars false
/-- an object, how many of its names were seen, whether it is bad -/
structure Fd where
 j : J
 seen : Int
 bad : Bool
def fGet (f : Fd) (nm : Bs) (k : Int) : J × Fd :=
 match pGet f.j nm with
 | some v => if v.kind = k then (v, { f with seen := f.seen + 1 }) else (J.zero, { f with bad := true })
 | none => (J.zero, { f with bad := true })
def fText (f : Fd) (nm : Bs) : Bs × Fd := ((fGet f nm 3).1.text, (fGet f nm 3).2)
def fSum (f : Fd) (nm : Bs) : Bs × Fd :=
 ((sumS (fText f nm).1).getD (List.replicate 32 0), { (fText f nm).2 with bad := (fText f nm).2.bad || (sumS (fText f nm).1).isNone })
def fDone (f : Fd) : Bool := !f.bad && (decide (f.j.kind = 5) && decide (f.seen = (f.j.pairs.length : Int)))
def sDigest : Bs := [100, 105, 103, 101, 115, 116]
def sName : Bs := [110, 97, 109, 101]
def sSha256 : Bs := [115, 104, 97, 50, 53, 54]
def sType : Bs := [95, 116, 121, 112, 101]
def sPredType : Bs := [112, 114, 101, 100, 105, 99, 97, 116, 101, 84, 121, 112, 101]
def sPredicate : Bs := [112, 114, 101, 100, 105, 99, 97, 116, 101]
def sSubject : Bs := [115, 117, 98, 106, 101, 99, 116]
/-- 'https://in-toto.io/Statement/v1' -/
def sStatement : Bs := [104, 116, 116, 112, 115, 58, 47, 47, 105, 110, 45, 116, 111, 116, 111, 46, 105, 111, 47, 83, 116, 97, 116, 101, 109, 101, 110, 116, 47, 118, 49]
/-- a subject: its name, its digest, whether it is one -/
def pSubject (j : J) : Bs × Bs × Bool :=
 let f0 : Fd := ⟨j, 0, false⟩
 let d0 : Fd := ⟨(fGet f0 sDigest 5).1, 0, false⟩
 let f1 := (fGet f0 sDigest 5).2
 let n := fText f1 sName
 let h := fSum d0 sSha256
 (n.1, h.1, (fDone n.2 && fDone h.2) && (!n.1.isEmpty && decide (n.1.length ≤ 64)))
theorem fGet_seen (f : Fd) (nm : Bs) (k : Int) : (fGet f nm k).2.j = f.j ∧ ((fGet f nm k).2.seen = f.seen ∨ (fGet f nm k).2.seen = f.seen + 1) := by
 unfold fGet
 split
 ·split
  ·exact ⟨rfl, .inr rfl⟩
  ·exact ⟨rfl, .inl rfl⟩
 ·exact ⟨rfl, .inl rfl⟩
/-- what stands behind a statement's fields: its subjects' value, and the fields -/
def pSubj0 (j : J) (bad : Bool) : J × Fd :=
 let t := fText ⟨j, 0, bad⟩ sType
 let f2 : Fd := if t.1 = sStatement then (if pTyped (fText t.2 sPredType).1 then (fText t.2 sPredType).2 else { (fText t.2 sPredType).2 with bad := true }) else { t.2 with bad := true }
 fGet (fGet f2 sPredicate 5).2 sSubject 4
/-- a statement's subjects -/
def pSubjects (s : Bs) : Option (List (Bs × Bs)) :=
 if 2048 < s.length then none else
 let g := pSubj0 (pParse s).1 (decide ((pParse s).2 ≠ 0))
 let l := g.1.list.map pSubject
 if fDone { g.2 with bad := g.2.bad || l.any (fun x => !x.2.2) } && (decide (1 ≤ l.length) && decide (l.length ≤ 16)) then some (l.map fun x => (x.1, x.2.1)) else none
end Go.Proofs.YtcddlemkimbkcaaGreatDoor
namespace Go.Proofs.YtcddlemkimbkcaaGreatDoor
set_option linter.unusedVariables false
set_option linter.unusedSimpArgs false
set_option linter.unusedSectionVars false
open Go.RowKit
variable [OldK]
abbrev MFd (b : Nat) : Nat → Obj → Prop := One b 225
/-- block b is the fields f -/
def FB (S : Nat → Prop) (b : Nat) (f : Fd) (w : World) : Prop := OldK.k ≤ b ∧ ∃ a1 n1 a2 n2, w.heap[b]? = some (.cells #[.int .i64 f.j.kind, .int .i64 f.j.int, .string ⟨f.j.text.toArray⟩, .slice a1 f.j.list.length n1, .slice a2 f.j.pairs.length n2, .int .i64 f.seen, .bool f.bad] 225 (0, 0)) ∧
 RJ S w f.j (.agg #[.int .i64 f.j.kind, .int .i64 f.j.int, .string ⟨f.j.text.toArray⟩, .slice a1 f.j.list.length n1, .slice a2 f.j.pairs.length n2])
theorem mfd_not {b : Nat} (hb : OldK.k ≤ b) : ∀ k o, MFd b k o → ¬ Vt k o := by
 rintro k o ⟨rfl, c, f, rfl⟩ (⟨c', f', h⟩ | ⟨c', f', h⟩ | h)
 ·injection h with _ h _; revert h; decide
 ·injection h with _ h _; revert h; decide
 ·omega
theorem RJ.fd {S : Nat → Prop} {b : Nat} {w w' : World} {j : J} {v : Value} (h : RJ S w j v) (hb : OldK.k ≤ b) (hF : Fr (MFd b) w w') : RJ S w' j v :=
 RJ.kp (Kp.fr hF (fun _ h _ => h) (fun k o _ _ ht hm => mfd_not hb k o hm ht)) _ _ h
theorem FB.fr {S : Nat → Prop} {b : Nat} {f : Fd} {w w' : World} (h : FB S b f w) (hF : Fr NoB w w') : FB S b f w' := by
 obtain ⟨hb, a1, n1, a2, n2, h1, h2⟩ := h
 exact ⟨hb, a1, n1, a2, n2, hF.block _ _ h1 (fun h => h), RJ.kp (Kp.ofFr hF) _ _ h2⟩
theorem FB.cells {S : Nat → Prop} {b : Nat} {f : Fd} {w : World} (h : FB S b f w) : ∃ a1 n1 a2 n2, w.cell? ⟨b, 0, none⟩ = some (.int .i64 f.j.kind) ∧ w.cell? ⟨b, 1, none⟩ = some (.int .i64 f.j.int) ∧ w.cell? ⟨b, 2, none⟩ = some (.string ⟨f.j.text.toArray⟩) ∧ w.cell? ⟨b, 3, none⟩ = some (.slice a1 f.j.list.length n1) ∧ w.cell? ⟨b, 4, none⟩ = some (.slice a2 f.j.pairs.length n2) ∧
 w.cell? ⟨b, 5, none⟩ = some (.int .i64 f.seen) ∧ w.cell? ⟨b, 6, none⟩ = some (.bool f.bad) ∧ (∀ o, w.frozen? ⟨b, o, none⟩ = false) ∧ b < w.heap.size ∧ RJ S w f.j (.agg #[.int .i64 f.j.kind, .int .i64 f.j.int, .string ⟨f.j.text.toArray⟩, .slice a1 f.j.list.length n1, .slice a2 f.j.pairs.length n2]) := by
 obtain ⟨hb, a1, n1, a2, n2, h1, h2⟩ := h
 exact ⟨a1, n1, a2, n2, by simp [World.cell?, h1], by simp [World.cell?, h1], by simp [World.cell?, h1], by simp [World.cell?, h1], by simp [World.cell?, h1], by simp [World.cell?, h1], by simp [World.cell?, h1], by simp [World.frozen?, h1], get_lt h1, h2⟩
/-- a bool stored into 'bad' -/
theorem FB.setBad {S : Nat → Prop} {b : Nat} {f : Fd} {w : World} (h : FB S b f w) (x : Bool) : FB S b { f with bad := x } (w.setCell ⟨b, 6, none⟩ (.bool x)) ∧ Fr (MFd b) w (w.setCell ⟨b, 6, none⟩ (.bool x)) := by
 obtain ⟨hb, a1, n1, a2, n2, h1, h2⟩ := h
 have hF : Fr (MFd b) w (w.setCell ⟨b, 6, none⟩ (.bool x)) := Fr.refl.setCell _ _ (fun o ho => ⟨rfl, by
  have : o = _ := Option.some.inj (ho.symm.trans h1)
  subst this
  exact ⟨_, _, rfl⟩⟩)
 refine ⟨⟨hb, a1, n1, a2, n2, ?_, h2.fd hb hF⟩, hF⟩
 rw [setCell_eq_setRow w b 6 _ _ _ _ h1]
 exact setRow_heap _ _ _ _ _ _ h1
theorem FB.setSeen {S : Nat → Prop} {b : Nat} {f : Fd} {w : World} (h : FB S b f w) (x : Int) : FB S b { f with seen := x } (w.setCell ⟨b, 5, none⟩ (.int .i64 x)) ∧ Fr (MFd b) w (w.setCell ⟨b, 5, none⟩ (.int .i64 x)) := by
 obtain ⟨hb, a1, n1, a2, n2, h1, h2⟩ := h
 have hF : Fr (MFd b) w (w.setCell ⟨b, 5, none⟩ (.int .i64 x)) := Fr.refl.setCell _ _ (fun o ho => ⟨rfl, by
  have : o = _ := Option.some.inj (ho.symm.trans h1)
  subst this
  exact ⟨_, _, rfl⟩⟩)
 refine ⟨⟨hb, a1, n1, a2, n2, ?_, h2.fd hb hF⟩, hF⟩
 rw [setCell_eq_setRow w b 5 _ _ _ _ h1]
 exact setRow_heap _ _ _ _ _ _ h1
/-- the block behind some steps: what was read of it stays -/
theorem FB.to {S : Nat → Prop} {b : Nat} {f f' : Fd} {w w' : World} (h : FB S b f w) (hF : Fr (MFd b) w w') (hj : f'.j = f.j)
 (hc : ∀ a1 n1 a2 n2, w.heap[b]? = some (.cells #[.int .i64 f.j.kind, .int .i64 f.j.int, .string ⟨f.j.text.toArray⟩, .slice a1 f.j.list.length n1, .slice a2 f.j.pairs.length n2, .int .i64 f.seen, .bool f.bad] 225 (0, 0)) →
   w'.heap[b]? = some (.cells #[.int .i64 f.j.kind, .int .i64 f.j.int, .string ⟨f.j.text.toArray⟩, .slice a1 f.j.list.length n1, .slice a2 f.j.pairs.length n2, .int .i64 f'.seen, .bool f'.bad] 225 (0, 0))) : FB S b f' w' := by
 obtain ⟨j', s', d'⟩ := f'
 obtain rfl : j' = f.j := hj
 obtain ⟨hb, a1, n1, a2, n2, h1, h2⟩ := h
 exact ⟨hb, a1, n1, a2, n2, hc _ _ _ _ h1, h2.fd hb hF⟩
/-- a digest's block was written: the fields' values don't lie there -/
theorem FB.to2 {S : Nat → Prop} {b p : Nat} {f : Fd} {w w' : World} {c : Array Value} {fr : Nat × Nat} (h : FB S b f w) (hF : Fr (fun k _ => k = p) w w') (hbp : b < p) (hz : w.heap[p]? = some (.cells c 23 fr)) : FB S b f w' := by
 obtain ⟨hb, a1, n1, a2, n2, h1, h2⟩ := h
 refine ⟨hb, a1, n1, a2, n2, hF.block _ _ h1 (by omega), RJ.kp (Kp.fr hF (fun _ h _ => h) (fun k o _ hk ht hm => ?_)) _ _ h2⟩
 subst hm
 obtain rfl := Option.some.inj (hk.symm.trans hz)
 rcases ht with ⟨c', f', h⟩ | ⟨c', f', h⟩ | h
 ·injection h with _ h _; revert h; decide
 ·injection h with _ h _; revert h; decide
 ·omega
theorem J.eta (j : J) : j = .mk j.kind j.int j.text j.list j.pairs := by cases j; rfl
/-- the end of 'get': one field is stored into, the result and the copy are laid -/
theorem get_end {S : Nat → Prop} {b p : Nat} {f f' : Fd} {w W0 w1 : World} {z0 z1 z2 z3 z4 : Value} (h : FB S b f w) (hF0 : Fr NoB w W0) (hp : w.heap.size = p) (hF1 : Fr NoB W0 w1)
 (hz : w1.heap[p]? = some (.cells #[z0, z1, z2, z3, z4] 220 (0, 0))) (o : Nat) (v v0 v1 v2 v3 v4 : Value) (ob : Obj) (hj : f'.j = f.j)
 (ho : ∀ x0 x1 x2 x3 x4 : Value, (#[x0, x1, x2, x3, x4, .int .i64 f.seen, .bool f.bad] : Array Value).setIfInBounds o v = #[x0, x1, x2, x3, x4, .int .i64 f'.seen, .bool f'.bad]) :
 Fr (MFd b) w (((((((w1.setCell ⟨b, o, none⟩ v).setCell ⟨p, 0, none⟩ v0).setCell ⟨p, 1, none⟩ v1).setCell ⟨p, 2, none⟩ v2).setCell ⟨p, 3, none⟩ v3).setCell ⟨p, 4, none⟩ v4).alloc ob) ∧
 (((((((w1.setCell ⟨b, o, none⟩ v).setCell ⟨p, 0, none⟩ v0).setCell ⟨p, 1, none⟩ v1).setCell ⟨p, 2, none⟩ v2).setCell ⟨p, 3, none⟩ v3).setCell ⟨p, 4, none⟩ v4).alloc ob).heap[p]? = some (.cells #[v0, v1, v2, v3, v4] 220 (0, 0)) ∧
 FB S b f' (((((((w1.setCell ⟨b, o, none⟩ v).setCell ⟨p, 0, none⟩ v0).setCell ⟨p, 1, none⟩ v1).setCell ⟨p, 2, none⟩ v2).setCell ⟨p, 3, none⟩ v3).setCell ⟨p, 4, none⟩ v4).alloc ob) ∧
 ∀ (j : J) (x : Value), RJ (fun k => S k ∧ k < p) w1 j x → RJ S (((((((w1.setCell ⟨b, o, none⟩ v).setCell ⟨p, 0, none⟩ v0).setCell ⟨p, 1, none⟩ v1).setCell ⟨p, 2, none⟩ v2).setCell ⟨p, 3, none⟩ v3).setCell ⟨p, 4, none⟩ v4).alloc ob) j x := by
 obtain ⟨hbk, a1, n1, a2, n2, hb, hrj⟩ := id h
 have hbl := get_lt hb
 have hb1 := hF1.block _ _ (hF0.block _ _ hb (fun h => h)) (fun h => h)
 have hne : b ≠ p := by omega
 have hF : Fr (MFd b) w (((((((w1.setCell ⟨b, o, none⟩ v).setCell ⟨p, 0, none⟩ v0).setCell ⟨p, 1, none⟩ v1).setCell ⟨p, 2, none⟩ v2).setCell ⟨p, 3, none⟩ v3).setCell ⟨p, 4, none⟩ v4).alloc ob) := by
  refine ((((((Fr.setCell ((hF0.trans' hF1).mono (fun _ _ h => h.elim)) _ _ ?_).setNew _ _ ?_).setNew _ _ ?_).setNew _ _ ?_).setNew _ _ ?_).setNew _ _ ?_).alloc _
  ·intro ob' ho'
   obtain rfl := Option.some.inj (ho'.symm.trans hb)
   exact ⟨rfl, _, _, rfl⟩
  all_goals exact Nat.le_of_eq hp
 have hF2 : Fr (fun k o => (k = b ∧ OfTy 225 o) ∨ k = p) w1 (((((((w1.setCell ⟨b, o, none⟩ v).setCell ⟨p, 0, none⟩ v0).setCell ⟨p, 1, none⟩ v1).setCell ⟨p, 2, none⟩ v2).setCell ⟨p, 3, none⟩ v3).setCell ⟨p, 4, none⟩ v4).alloc ob) := by
  refine ((((((Fr.setCell Fr.refl _ _ ?_).setCell _ _ (fun _ _ => .inr rfl)).setCell _ _ (fun _ _ => .inr rfl)).setCell _ _ (fun _ _ => .inr rfl)).setCell _ _ (fun _ _ => .inr rfl)).setCell _ _ (fun _ _ => .inr rfl)).alloc _
  intro ob' ho'
  obtain rfl := Option.some.inj (ho'.symm.trans hb1)
  exact .inl ⟨rfl, _, _, rfl⟩
 have halloc : ∀ (W : World) (k : Nat) (x : Obj), W.heap[k]? = some x → (W.alloc ob).heap[k]? = some x := fun W k x hx => by rw [Below.heap_alloc _ _ _ (get_lt hx)]; exact hx
 refine ⟨hF, halloc _ _ _ ?_, h.to hF hj (fun a1' n1' a2' n2' hc => halloc _ _ _ ?_), fun j x hx => RJ.kp (fun k o' hs hk ht => ⟨hs.1, hF2.block _ _ hk ?_⟩) _ _ hx⟩
 ·have e1 := Below.heap_setCell w1 ⟨b, o, none⟩ v p (by simpa using hne.symm)
  have h5 := heap_setCell_eq (o := 4) v4 (heap_setCell_eq (o := 3) v3 (heap_setCell_eq (o := 2) v2 (heap_setCell_eq (o := 1) v1 (heap_setCell_eq (o := 0) v0 (e1.trans hz)))))
  exact h5
 ·have hc1 := hF1.block _ _ (hF0.block _ _ hc (fun h => h)) (fun h => h)
  rw [Below.heap_setCell _ _ _ _ (by simpa using hne), Below.heap_setCell _ _ _ _ (by simpa using hne), Below.heap_setCell _ _ _ _ (by simpa using hne), Below.heap_setCell _ _ _ _ (by simpa using hne), Below.heap_setCell _ _ _ _ (by simpa using hne)]
  rw [← ho]
  exact heap_setCell_eq v hc1
 ·rintro (⟨rfl, ho⟩ | rfl)
  ·exact mfd_not hbk _ _ ⟨rfl, ho⟩ ht
  ·omega
set_option maxRecDepth 100000 in
set_option maxHeartbeats 2000000 in
theorem fget_c (S : Nat → Prop) (b : Nat) (f : Fd) (nm : Bs) (k : Int) (w : World) (h : FB S b f w) (hfit : fits 67108864 f.j = true) (hs : 0 ≤ f.seen ∧ f.seen ≤ 1000) :
 Calls Tryz.prog 143 #[.pointer (some ⟨b, 0, none⟩), .string ⟨nm.toArray⟩, .int .i64 k] w fun e w' => ∃ x, e = .returned x ∧ RJ S w' (fGet f nm k).1 x ∧ FB S b (fGet f nm k).2 w' ∧ Fr (MFd b) w w' := by
 have hZ := heap_alloc_new w (.cells #[.int .i64 0, .int .i64 0, .string ⟨#[]⟩, .slice none 0 0, .slice none 0 0] 220)
 have hF0 : Fr NoB w (w.alloc (.cells #[.int .i64 0, .int .i64 0, .string ⟨#[]⟩, .slice none 0 0, .slice none 0 0] 220)) := Fr.refl.alloc _
 have hsz0 : (w.alloc (.cells #[.int .i64 0, .int .i64 0, .string ⟨#[]⟩, .slice none 0 0, .slice none 0 0] 220)).heap.size = w.heap.size + 1 := World.size_alloc _ _
 obtain ⟨W0, hW0⟩ : ∃ W, w.alloc (.cells #[.int .i64 0, .int .i64 0, .string ⟨#[]⟩, .slice none 0 0, .slice none 0 0] 220) = W := ⟨_, rfl⟩
 rw [hW0] at hZ hF0 hsz0
 obtain ⟨a1, n1, a2, n2, c0, c1, c2, c3, c4, c5, c6, fz, hlt, hrj⟩ := (FB.fr (S := fun k => S k ∧ k < w.heap.size) (w := w) (by
  obtain ⟨h1, b1, b2, b3, b4, h2, h3⟩ := h
  exact ⟨h1, b1, b2, b3, b4, h2, RJ.kp (fun k o hs hk _ => ⟨⟨hs, get_lt hk⟩, hk⟩) _ _ h3⟩) hF0).cells
 have hget := get_c _ f.j _ nm W0 hrj hfit
 obtain ⟨G, hG⟩ : ∃ G, (pGet f.j nm).getD J.zero = G := ⟨_, rfl⟩
 obtain ⟨B, hB⟩ : ∃ B, (pGet f.j nm).isSome = B := ⟨_, rfl⟩
 rw [hG, hB] at hget
 obtain ⟨kk, n, t, l, q⟩ := G
 have HG := Lib.hid hG
 have HB := Lib.hid hB
 have Hh := Lib.hid h
 have Hget := Lib.hid hget
 have HZ := Lib.hid hZ
 have HF0 := Lib.hid hF0
 have hbw : b < w.heap.size := by obtain ⟨-, b1, b2, b3, b4, h5, -⟩ := h; exact get_lt h5
 clear hget hZ hF0 hrj h hfit hG hB
 go_enter Tryz.func143, Tryz.ntmps143
 go_upto_region 1 with (fail)
 change Code.wp _ _ _ _ W0
 obtain ⟨p, hp⟩ : ∃ p, w.heap.size = p := ⟨_, rfl⟩
 rw [hp] at HZ hsz0 hbw
 rw [hp]
 have Hp := Lib.hid hp
 clear hW0 hp
 go_wp2_with fail
 refine Hget.out.mono ?_
 rintro e w1 ⟨x, rfl, hx, hF1⟩
 have hx0 := hx
 unfold RJ at hx
 obtain ⟨b1, d1, b2, d2, rfl, -, -⟩ := hx
 obtain ⟨a1, n1, a2, n2, c0, c1, c2, c3, c4, c5, c6, fz, hlt, -⟩ := ((Hh.out.fr HF0.out).fr hF1).cells
 have hz := hF1.block _ _ HZ.out (fun h => h)
 obtain ⟨z0, z1, z2, z3, z4, zz, zlt⟩ := VB.at hz
 have hs1 := hF1.size
 have Hx := Lib.hid (show RJ (fun k => S k ∧ k < p) w1 _ _ by rw [← Hp.out]; exact hx0)
 have HF1 := Lib.hid hF1
 have Hz := Lib.hid hz
 have hbp : (b == p) = false := by simp; omega
 clear hx0 hF1 hz c0 c1 c2 c3 c4
 have hbad : B = false ∨ (B = true ∧ (kk != k) = true) → Hid (fGet f nm k = (J.zero, { f with bad := true })) := fun hc => Lib.hid (by
  unfold fGet
  cases hpg : pGet f.j nm with
  | none => rfl
  | some v =>
    rw [hpg] at HB HG
    rcases hc with h | ⟨-, h⟩
    ·rw [h] at HB
     exact absurd HB.out (by simp)
    ·have h1 : v = .mk kk n t l q := HG.out
     subst h1
     have : ¬ (J.mk kk n t l q).kind = k := by simpa [J.kind] using h
     simp only
     rw [if_neg this])
 cases B with
 | false =>
   have Hbad := hbad (.inl rfl)
   clear hbad Hget
   go_wp2_with fail
   obtain ⟨e1, e2, e3, e4⟩ := get_end (f' := { f with bad := true }) Hh.out HF0.out Hp.out HF1.out Hz.out 6 (.bool true) (.int .i64 0) (.int .i64 0) (.string ⟨#[]⟩) (.slice none 0 0) (.slice none 0 0) (.cells #[.int .i64 kk, .int .i64 n, .string ⟨t.toArray⟩, .slice b1 l.length d1, .slice b2 q.length d2] 220) rfl (fun _ _ _ _ _ => rfl)
   obtain ⟨y0, y1, y2, y3, y4, -, -⟩ := VB.at e2
   refine bodyPost_ret (v := .agg #[.int .i64 0, .int .i64 0, .string ⟨#[]⟩, .slice none 0 0, .slice none 0 0]) (by simp [results, Tryz.results143, go_sem, y0, y1, y2, y3, y4]) rfl ?_
   rw [Hbad.out]
   exact ⟨_, rfl, RJ.zero _ _, e3, e1⟩
 | true =>
   cases hkk : (kk != k) with
   | true =>
     have Hbad := hbad (.inr ⟨rfl, hkk⟩)
     clear hbad Hget
     go_wp2_with fail
     obtain ⟨e1, e2, e3, e4⟩ := get_end (f' := { f with bad := true }) Hh.out HF0.out Hp.out HF1.out Hz.out 6 (.bool true) (.int .i64 0) (.int .i64 0) (.string ⟨#[]⟩) (.slice none 0 0) (.slice none 0 0) (.cells #[.int .i64 kk, .int .i64 n, .string ⟨t.toArray⟩, .slice b1 l.length d1, .slice b2 q.length d2] 220) rfl (fun _ _ _ _ _ => rfl)
     obtain ⟨y0, y1, y2, y3, y4, -, -⟩ := VB.at e2
     refine bodyPost_ret (v := .agg #[.int .i64 0, .int .i64 0, .string ⟨#[]⟩, .slice none 0 0, .slice none 0 0]) (by simp [results, Tryz.results143, go_sem, y0, y1, y2, y3, y4]) rfl ?_
     rw [Hbad.out]
     exact ⟨_, rfl, RJ.zero _ _, e3, e1⟩
   | false =>
     have hw1 : IntKind.i64.wrap (f.seen + 1) = f.seen + 1 := by rw [IntKind.wrap_i64]; omega
     have Hgood : Hid (fGet f nm k = (.mk kk n t l q, { f with seen := f.seen + 1 })) := Lib.hid (by
      unfold fGet
      cases hpg : pGet f.j nm with
      | none =>
        rw [hpg] at HB
        exact absurd HB.out (by simp)
      | some v =>
        rw [hpg] at HG
        have h1 : v = .mk kk n t l q := HG.out
        subst h1
        have : (J.mk kk n t l q).kind = k := by simpa [J.kind] using hkk
        simp only
        rw [if_pos this])
     clear hbad Hget
     go_wp2_with fail
     obtain ⟨e1, e2, e3, e4⟩ := get_end (f' := { f with seen := f.seen + 1 }) Hh.out HF0.out Hp.out HF1.out Hz.out 5 (.int .i64 (f.seen + 1)) (.int .i64 kk) (.int .i64 n) (.string ⟨t.toArray⟩) (.slice b1 l.length d1) (.slice b2 q.length d2) (.cells #[.int .i64 kk, .int .i64 n, .string ⟨t.toArray⟩, .slice b1 l.length d1, .slice b2 q.length d2] 220) rfl (fun _ _ _ _ _ => rfl)
     obtain ⟨y0, y1, y2, y3, y4, -, -⟩ := VB.at e2
     refine bodyPost_ret (v := .agg #[.int .i64 kk, .int .i64 n, .string ⟨t.toArray⟩, .slice b1 l.length d1, .slice b2 q.length d2]) (by simp [results, Tryz.results143, go_sem, y0, y1, y2, y3, y4]) rfl ?_
     rw [Hgood.out]
     exact ⟨_, rfl, e4 _ _ Hx.out, e3, e1⟩
/-- a value that is not too big -/
def Fits (j : J) : Prop := fits 67108864 j = true ∧ fits 1000000 j = true
theorem Fits.text {j : J} (h : Fits j) : j.text.length ≤ 1000000 := by
 obtain ⟨-, h⟩ := h
 cases j
 exact (fits.open h).1
theorem Fits.zero : Fits J.zero := ⟨rfl, rfl⟩
theorem pGetL_mem (nm : Bs) : ∀ (l : List (Bs × J)) (v : J), pGetL nm l = some v → ∃ i : Nat, l[i]? = some (nm, v) := by
 intro l
 induction l with
 | nil => intro v h; cases h
 | cons q l ih =>
   intro v h
   obtain ⟨n, x⟩ := q
   unfold pGetL at h
   split at h
   ·rename_i hn
    subst hn
    exact ⟨0, by simpa using h⟩
   ·obtain ⟨i, hi⟩ := ih v h
    exact ⟨i + 1, by simpa using hi⟩
theorem Fits.get {f : Fd} {nm : Bs} {k : Int} (h : Fits f.j) : Fits (fGet f nm k).1 ∧ (fGet f nm k).2.j = f.j := by
 refine ⟨?_, (fGet_seen f nm k).1⟩
 unfold fGet
 cases hg : pGet f.j nm with
 | none => exact Fits.zero
 | some v =>
   simp only
   split
   ·unfold pGet at hg
    split at hg
    ·obtain ⟨i, hi⟩ := pGetL_mem _ _ _ hg
     obtain ⟨h1, h2⟩ := h
     cases hj : f.j
     rw [hj] at h1 h2 hi
     exact ⟨(fitsp.at _ (fits.open h1).2.2.2.2 i _ _ hi).2, (fitsp.at _ (fits.open h2).2.2.2.2 i _ _ hi).2⟩
    ·cases hg
   ·exact Fits.zero
theorem Fits.at {j x : J} {i : Nat} (h : Fits j) (hi : j.list[i]? = some x) : Fits x := by
 obtain ⟨h1, h2⟩ := h
 cases j
 exact ⟨fitsl.at _ (fits.open h1).2.2.2.1 i _ hi, fitsl.at _ (fits.open h2).2.2.2.1 i _ hi⟩
set_option maxRecDepth 100000 in
set_option maxHeartbeats 2000000 in
theorem ftext_c (S : Nat → Prop) (b : Nat) (f : Fd) (nm : Bs) (w : World) (h : FB S b f w) (hfit : Fits f.j) (hs : 0 ≤ f.seen ∧ f.seen ≤ 1000) :
 Calls Tryz.prog 141 #[.pointer (some ⟨b, 0, none⟩), .string ⟨nm.toArray⟩] w fun e w' => e = .returned (.string ⟨(fText f nm).1.toArray⟩) ∧ FB S b (fText f nm).2 w' ∧ Fr (MFd b) w w' := by
 have hc := fget_c S b f nm 3 w h hfit.1 hs
 unfold fText
 obtain ⟨G, hG⟩ : ∃ G, (fGet f nm 3).1 = G := ⟨_, rfl⟩
 obtain ⟨f2, hf2⟩ : ∃ f2, (fGet f nm 3).2 = f2 := ⟨_, rfl⟩
 rw [hG, hf2] at hc
 rw [hG, hf2]
 obtain ⟨kk, n, t, l, q⟩ := G
 show Calls _ _ _ _ fun e w' => e = .returned (.string ⟨t.toArray⟩) ∧ FB S b f2 w' ∧ Fr (MFd b) w w'
 have Hc := Lib.hid hc
 clear hc h hG hf2
 go_enter Tryz.func141, Tryz.ntmps141
 go_wp2_with fail
 refine Hc.out.mono ?_
 rintro e w1 ⟨x, rfl, hx, hfb, hF⟩
 unfold RJ at hx
 obtain ⟨b1, d1, b2, d2, rfl, -, -⟩ := hx
 have Hfb := Lib.hid hfb
 have HF := Lib.hid hF
 have hfd : ∀ W : World, (Instr.field 220 (.agg #[.int .i64 kk, .int .i64 n, .string ⟨t.toArray⟩, .slice b1 l.length d1, .slice b2 q.length d2]) 2).run Tryz.prog W = .ok (.string ⟨t.toArray⟩) W := fun _ => by kernel_rfl
 clear hfb hF
 go_wp2_with fail
 go_ret
 exact ⟨rfl, Hfb.out, HF.out⟩
set_option maxRecDepth 100000 in
set_option maxHeartbeats 2000000 in
theorem fdone_c (S : Nat → Prop) (b : Nat) (f : Fd) (w : World) (h : FB S b f w) :
 Calls Tryz.prog 145 #[.pointer (some ⟨b, 0, none⟩)] w fun e w' => e = .returned (.bool (fDone f)) ∧ Fr NoB w w' := by
 obtain ⟨a1, n1, a2, n2, c0, c1, c2, c3, c4, c5, c6, fz, hlt, -⟩ := (h.fr Fr.refl.drew).cells
 unfold fDone
 obtain ⟨bd, hbd⟩ : ∃ x, f.bad = x := ⟨_, rfl⟩
 obtain ⟨k, hk⟩ : ∃ x, f.j.kind = x := ⟨_, rfl⟩
 obtain ⟨s, hs⟩ : ∃ x, f.seen = x := ⟨_, rfl⟩
 obtain ⟨n, hn⟩ : ∃ x, f.j.pairs.length = x := ⟨_, rfl⟩
 obtain ⟨R, hR⟩ : ∃ R, (!f.bad && (decide (f.j.kind = 5) && decide (f.seen = (f.j.pairs.length : Int)))) = R := ⟨_, rfl⟩
 rw [hR]
 have HR : Hid ((!bd && (decide (k = 5) && decide (s = (n : Int)))) = R) := Lib.hid (by rw [← hbd, ← hk, ← hs, ← hn]; exact hR)
 rw [hk] at c0
 rw [hn] at c4
 rw [hs] at c5
 rw [hbd] at c6
 clear c1 c2 c3 h hbd hk hs hn hR
 cases bd with
 | true =>
   have HP : Hid (false = R) := Lib.hid (by rw [← HR.out]; rfl)
   clear HR
   go_enter Tryz.func145, Tryz.ntmps145
   go_upto_region 1 with (fail)
   refine wp_region_held_drew (S := fun V => V = w.drew) (by kernel_rfl) rfl (fun hHeld => ?_)
   simp only [qL, qL1, qL0, qR, qR1, qR0]
   iterate 27
    first
    | refine qt (v := undef) rfl (Or.inr ⟨by rfl, rfl⟩) hHeld ?_
      try simp only [Act.put, qS, qS0, qS1, qG, qG0, qG1, qM0, qM1]
    | refine qt (v := ?_) rfl (Or.inl ⟨by rfl, ?_⟩) hHeld ?_
      rotate_left
      ·intro W hSw
       obtain rfl := hSw
       try simp only [qG, qG0, qG1]
       go_simp
       try rw [if_neg (by omega)]
       try with_reducible rfl
      try simp only [Act.put, qS, qS0, qS1, qG, qG0, qG1, qM0, qM1]
   refine wpAnyH_done (by kernel_rfl) ?_ _
   clear hHeld
   go_wp2_with fail
   go_ret
   exact ⟨ret_bool HP.out, Fr.refl.drew⟩
 | false =>
   cases hk5 : (k == 5) with
   | false =>
     have HP : Hid (false = R) := Lib.hid (by
      rw [← HR.out]
      have : ¬ k = 5 := by simpa using hk5
      simp [this])
     clear HR
     go_enter Tryz.func145, Tryz.ntmps145
     go_upto_region 1 with (fail)
     refine wp_region_held_drew (S := fun V => V = w.drew) (by kernel_rfl) rfl (fun hHeld => ?_)
     simp only [qL, qL1, qL0, qR, qR1, qR0]
     iterate 27
      first
      | refine qt (v := undef) rfl (Or.inr ⟨by rfl, rfl⟩) hHeld ?_
        try simp only [Act.put, qS, qS0, qS1, qG, qG0, qG1, qM0, qM1]
      | refine qt (v := ?_) rfl (Or.inl ⟨by rfl, ?_⟩) hHeld ?_
        rotate_left
        ·intro W hSw
         obtain rfl := hSw
         try simp only [qG, qG0, qG1]
         go_simp
         try rw [if_neg (by omega)]
         try with_reducible rfl
        try simp only [Act.put, qS, qS0, qS1, qG, qG0, qG1, qM0, qM1]
     refine wpAnyH_done (by kernel_rfl) ?_ _
     clear hHeld
     go_wp2_with fail
     go_ret
     exact ⟨ret_bool HP.out, Fr.refl.drew⟩
   | true =>
     obtain ⟨e5, he5⟩ : ∃ e, (s == (n : Int)) = e := ⟨_, rfl⟩
     have HP : Hid (e5 = R) := Lib.hid (by
      rw [← HR.out, ← he5]
      have : k = 5 := by simpa using hk5
      subst this
      by_cases h : s = (n : Int) <;> simp [h])
     clear HR
     go_enter Tryz.func145, Tryz.ntmps145
     go_upto_region 1 with (fail)
     refine wp_region_held_drew (S := fun V => V = w.drew) (by kernel_rfl) rfl (fun hHeld => ?_)
     simp only [qL, qL1, qL0, qR, qR1, qR0]
     iterate 27
      refine qt (v := ?_) rfl (Or.inl ⟨by rfl, ?_⟩) hHeld ?_
      rotate_left
      ·intro W hSw
       obtain rfl := hSw
       try simp only [qG, qG0, qG1]
       go_simp
       try rw [if_neg (by omega)]
       try with_reducible rfl
      try simp only [Act.put, qS, qS0, qS1, qG, qG0, qG1, qM0, qM1]
     refine wpAnyH_done (by kernel_rfl) ?_ _
     clear hHeld
     go_wp2_with fail
     go_ret
     exact ⟨ret_bool HP.out, Fr.refl.drew⟩
set_option maxRecDepth 100000 in
set_option maxHeartbeats 2000000 in
/-- bytes[api.Sum] with coder.Sum -/
theorem fsum_c (S : Nat → Prop) (b : Nat) (f : Fd) (nm : Bs) (w : World) (h : FB S b f w) (hfit : Fits f.j) (hs : 0 ≤ f.seen ∧ f.seen ≤ 1000) :
 Calls Tryz.prog 186 #[.pointer (some ⟨b, 0, none⟩), .string ⟨nm.toArray⟩, .func (.func 60) #[] #[]] w fun e w' => e = .returned (.agg (Lib.byteCells (fSum f nm).1).toArray) ∧ FB S b (fSum f nm).2 w' ∧ Fr (MFd b) w w' := by
 have hbw : b < w.heap.size := by obtain ⟨-, b1, b2, b3, b4, h5, -⟩ := h; exact get_lt h5
 have hZ := heap_alloc_new w (.cells #[.int .u8 0, .int .u8 0, .int .u8 0, .int .u8 0, .int .u8 0, .int .u8 0, .int .u8 0, .int .u8 0, .int .u8 0, .int .u8 0, .int .u8 0, .int .u8 0, .int .u8 0, .int .u8 0, .int .u8 0, .int .u8 0, .int .u8 0, .int .u8 0, .int .u8 0, .int .u8 0, .int .u8 0, .int .u8 0, .int .u8 0, .int .u8 0, .int .u8 0, .int .u8 0, .int .u8 0, .int .u8 0, .int .u8 0, .int .u8 0, .int .u8 0, .int .u8 0] 23)
 have hF0 : Fr NoB w (w.alloc (.cells #[.int .u8 0, .int .u8 0, .int .u8 0, .int .u8 0, .int .u8 0, .int .u8 0, .int .u8 0, .int .u8 0, .int .u8 0, .int .u8 0, .int .u8 0, .int .u8 0, .int .u8 0, .int .u8 0, .int .u8 0, .int .u8 0, .int .u8 0, .int .u8 0, .int .u8 0, .int .u8 0, .int .u8 0, .int .u8 0, .int .u8 0, .int .u8 0, .int .u8 0, .int .u8 0, .int .u8 0, .int .u8 0, .int .u8 0, .int .u8 0, .int .u8 0, .int .u8 0] 23)) := Fr.refl.alloc _
 obtain ⟨W0, hW0⟩ : ∃ W, w.alloc (.cells #[.int .u8 0, .int .u8 0, .int .u8 0, .int .u8 0, .int .u8 0, .int .u8 0, .int .u8 0, .int .u8 0, .int .u8 0, .int .u8 0, .int .u8 0, .int .u8 0, .int .u8 0, .int .u8 0, .int .u8 0, .int .u8 0, .int .u8 0, .int .u8 0, .int .u8 0, .int .u8 0, .int .u8 0, .int .u8 0, .int .u8 0, .int .u8 0, .int .u8 0, .int .u8 0, .int .u8 0, .int .u8 0, .int .u8 0, .int .u8 0, .int .u8 0, .int .u8 0] 23) = W := ⟨_, rfl⟩
 rw [hW0] at hZ hF0
 obtain ⟨p, hp⟩ : ∃ p, w.heap.size = p := ⟨_, rfl⟩
 rw [hp] at hZ hbw
 have hc := ftext_c S b f nm W0 (h.fr hF0) hfit hs
 have htl : (fText f nm).1.length ≤ 1000000 := (Fits.get (nm := nm) (k := 3) hfit).1.text
 unfold fSum
 obtain ⟨t, ht⟩ : ∃ t, (fText f nm).1 = t := ⟨_, rfl⟩
 obtain ⟨f2, hf2⟩ : ∃ f2, (fText f nm).2 = f2 := ⟨_, rfl⟩
 rw [ht, hf2] at hc
 rw [ht] at htl
 rw [ht, hf2]
 have hsum := fun W => sum_c t W htl
 have hl := fun r h => (sumS_iff t r).1 h
 obtain ⟨R, hR⟩ : ∃ R, sumS t = R := ⟨_, rfl⟩
 rw [hR] at hsum hl
 rw [hR]
 obtain ⟨D, hD⟩ : ∃ D, R.getD (List.replicate 32 0) = D := ⟨_, rfl⟩
 have hD32 : D.length = 32 := by
  rw [← hD]
  cases R with
  | none => rfl
  | some r => exact (hl r rfl).2
 obtain ⟨E, hE⟩ : ∃ E, (if R.isNone then Value.iface 56 (.int .i64 1) else .nilIface) = E := ⟨_, rfl⟩
 have hsum2 : ∀ W, Calls Tryz.prog 60 #[.string ⟨t.toArray⟩] W fun e w' => e = .returned (.tuple #[.agg (Lib.byteCells D).toArray, E]) ∧ Fr NoB W w' := fun W => (hsum W).mono (by
  rintro e w' ⟨h1, h2⟩
  refine ⟨?_, h2⟩
  rw [← hD, ← hE]
  cases R with
  | none => exact h1
  | some r => exact h1)
 have hent : ∀ args W, (callFunc 60 args).run Tryz.prog W = .ok (.enter 60 args) W := fun args w => by simp [go_sem]
 obtain ⟨bn, hbn⟩ : ∃ bn, R.isNone = bn := ⟨_, rfl⟩
 rw [hbn] at hE ⊢
 rw [hD]
 have Hc := Lib.hid hc
 have Hsum := Lib.hid hsum2
 have HZ := Lib.hid hZ
 have HF0 := Lib.hid hF0
 have Hp := Lib.hid hp
 have Hh := Lib.hid h
 have HD := Lib.hid hD32
 obtain ⟨C, hC⟩ : ∃ C, Lib.byteCells D = C := ⟨_, rfl⟩
 have HC : Hid (C.length = 32) := Lib.hid (by rw [← hC, byteCells_len, hD32])
 have H1 := Lib.hid (show C.toArray.all (·.oneCell') = true by rw [← hC]; exact all_oneCell_toArray (cells_one _))
 rw [hC] at Hsum
 have hDC : (Lib.byteCells D).toArray = C.toArray := by rw [hC]
 clear hc hsum hsum2 hl hZ hF0 hp h hD32 hR hD htl ht hf2 hbn hC
 show Calls _ _ _ _ fun e w' => e = .returned (.agg (Lib.byteCells D).toArray) ∧ FB S b { f2 with bad := f2.bad || bn } w' ∧ Fr (MFd b) w w'
 rw [hDC]
 clear hDC HD
 have Hs1 : Hid ((Tryz.prog.info? 23).map (·.size) = some C.toArray.size) := Lib.hid (by rw [Tryz.sizeSum, List.size_toArray, HC.out])
 have Hs2 : Hid ((Tryz.prog.info? 23).map (·.size) = some C.length) := Lib.hid (by rw [Tryz.sizeSum, HC.out])
 go_enter Tryz.func186, Tryz.ntmps186
 go_upto_region 1 with (fail)
 change Code.wp _ _ _ _ W0
 have hpe := Hp.out
 rw [hpe]
 clear hW0 hpe
 go_wp2_with fail
 refine Hc.out.mono ?_
 rintro e w1 ⟨rfl, hfb1, hF1⟩
 have HF1 := Lib.hid hF1
 have Hfb1 := Lib.hid hfb1
 clear hfb1 hF1
 go_wp2_with fail
 refine (Hsum.out _).mono ?_
 rintro e w2 ⟨rfl, hF2⟩
 have hbq : b < w2.heap.size := Nat.lt_of_lt_of_le (Nat.lt_of_lt_of_le (Nat.lt_of_lt_of_le (Hp.out ▸ hbw) HF0.out.size) HF1.out.size) hF2.size
 have hpq : p < w2.heap.size := Nat.lt_of_lt_of_le (Nat.lt_of_lt_of_le (get_lt HZ.out) HF1.out.size) hF2.size
 have hZ2 := hF2.block _ _ (HF1.out.block _ _ HZ.out (fun h => by have := h.1; omega)) (fun h => h)
 have hN := heap_alloc_new w2 (.cells #[.int .u8 0, .int .u8 0, .int .u8 0, .int .u8 0, .int .u8 0, .int .u8 0, .int .u8 0, .int .u8 0, .int .u8 0, .int .u8 0, .int .u8 0, .int .u8 0, .int .u8 0, .int .u8 0, .int .u8 0, .int .u8 0, .int .u8 0, .int .u8 0, .int .u8 0, .int .u8 0, .int .u8 0, .int .u8 0, .int .u8 0, .int .u8 0, .int .u8 0, .int .u8 0, .int .u8 0, .int .u8 0, .int .u8 0, .int .u8 0, .int .u8 0, .int .u8 0] 23)
 have HTq := Lib.hid (there_block hN (n := C.toArray.size) (by rw [List.size_toArray, HC.out]; show 32 ≤ 32; omega))
 have hF3 : Fr NoB w2 ((w2.alloc (.cells #[.int .u8 0, .int .u8 0, .int .u8 0, .int .u8 0, .int .u8 0, .int .u8 0, .int .u8 0, .int .u8 0, .int .u8 0, .int .u8 0, .int .u8 0, .int .u8 0, .int .u8 0, .int .u8 0, .int .u8 0, .int .u8 0, .int .u8 0, .int .u8 0, .int .u8 0, .int .u8 0, .int .u8 0, .int .u8 0, .int .u8 0, .int .u8 0, .int .u8 0, .int .u8 0, .int .u8 0, .int .u8 0, .int .u8 0, .int .u8 0, .int .u8 0, .int .u8 0] 23)).setCells w2.heap.size 0 C) := ((Fr.refl (M := NoB)).alloc _).trans (setCells_fr _ _ _ _) (fun k _ hm => .inr (by omega))
 have hR3 := World.rangeAt_setCells_same (w2.alloc (.cells #[.int .u8 0, .int .u8 0, .int .u8 0, .int .u8 0, .int .u8 0, .int .u8 0, .int .u8 0, .int .u8 0, .int .u8 0, .int .u8 0, .int .u8 0, .int .u8 0, .int .u8 0, .int .u8 0, .int .u8 0, .int .u8 0, .int .u8 0, .int .u8 0, .int .u8 0, .int .u8 0, .int .u8 0, .int .u8 0, .int .u8 0, .int .u8 0, .int .u8 0, .int .u8 0, .int .u8 0, .int .u8 0, .int .u8 0, .int .u8 0, .int .u8 0, .int .u8 0] 23)) w2.heap.size 0 C (by simpa using HTq.out)
 have hFB3 := (Hfb1.out.fr hF2).fr hF3
 have hZ3 := hF3.block _ _ hZ2 (fun h => h)
 have hFa : Fr (MFd b) w ((w2.alloc (.cells #[.int .u8 0, .int .u8 0, .int .u8 0, .int .u8 0, .int .u8 0, .int .u8 0, .int .u8 0, .int .u8 0, .int .u8 0, .int .u8 0, .int .u8 0, .int .u8 0, .int .u8 0, .int .u8 0, .int .u8 0, .int .u8 0, .int .u8 0, .int .u8 0, .int .u8 0, .int .u8 0, .int .u8 0, .int .u8 0, .int .u8 0, .int .u8 0, .int .u8 0, .int .u8 0, .int .u8 0, .int .u8 0, .int .u8 0, .int .u8 0, .int .u8 0, .int .u8 0] 23)).setCells w2.heap.size 0 C) := (((HF0.out.mono (fun _ _ h => h.elim)).trans' HF1.out).trans' (hF2.mono (fun _ _ h => h.elim))).trans' (hF3.mono (fun _ _ h => h.elim))
 clear hF2 hZ2 hN
 go_upto_region 2 with (with_reducible refine wpList_store_mid rfl 23 _ _ rfl w2.heap.size 0 C.toArray rfl rfl HTq.out Hs1.out H1.out ?_)
 change Code.wp _ _ _ _ ((w2.alloc (.cells #[.int .u8 0, .int .u8 0, .int .u8 0, .int .u8 0, .int .u8 0, .int .u8 0, .int .u8 0, .int .u8 0, .int .u8 0, .int .u8 0, .int .u8 0, .int .u8 0, .int .u8 0, .int .u8 0, .int .u8 0, .int .u8 0, .int .u8 0, .int .u8 0, .int .u8 0, .int .u8 0, .int .u8 0, .int .u8 0, .int .u8 0, .int .u8 0, .int .u8 0, .int .u8 0, .int .u8 0, .int .u8 0, .int .u8 0, .int .u8 0, .int .u8 0, .int .u8 0] 23)).setCells w2.heap.size 0 C)
 obtain ⟨W3, hW3⟩ : ∃ W, (w2.alloc (.cells #[.int .u8 0, .int .u8 0, .int .u8 0, .int .u8 0, .int .u8 0, .int .u8 0, .int .u8 0, .int .u8 0, .int .u8 0, .int .u8 0, .int .u8 0, .int .u8 0, .int .u8 0, .int .u8 0, .int .u8 0, .int .u8 0, .int .u8 0, .int .u8 0, .int .u8 0, .int .u8 0, .int .u8 0, .int .u8 0, .int .u8 0, .int .u8 0, .int .u8 0, .int .u8 0, .int .u8 0, .int .u8 0, .int .u8 0, .int .u8 0, .int .u8 0, .int .u8 0] 23)).setCells w2.heap.size 0 C = W := ⟨_, rfl⟩
 rw [hW3] at hR3 hFB3 hZ3 hF3 hFa ⊢
 obtain ⟨q, hq⟩ : ∃ q, w2.heap.size = q := ⟨_, rfl⟩
 have hqW : q < W3.heap.size := by
  rw [← hW3, ← hq]
  exact Nat.lt_of_lt_of_le (by rw [World.size_alloc]; omega) (setCells_fr (w2.heap.size) C 0 (w2.alloc _)).size
 rw [hq] at hR3 hbq hpq
 rw [hq]
 clear hW3 hF3 HTq
 obtain ⟨a1, n1, a2, n2, -, -, -, -, -, -, c6, fz, hlt, -⟩ := hFB3.cells
 obtain ⟨e1, e2⟩ := hFB3.setBad (f2.bad || bn)
 have hR4 := Lib.hid (range_fr hR3 e2 hqW (fun _ h => by have := h.1; omega))
 have hT4 := Lib.hid (there_fr (there_block hZ3 (n := C.toArray.size) (by rw [List.size_toArray, HC.out]; show 32 ≤ 32; omega)) e2 (get_lt hZ3) (fun _ h => by have := h.1; omega))
 have HFB := Lib.hid e1
 have hZ4 := Lib.hid (e2.block _ _ hZ3 (fun h => by have := h.1; omega))
 have HFe := Lib.hid (hFa.trans' e2)
 have HpW := Lib.hid (Hp.out)
 clear hZ3 hFB3 hR3 hFa e1 e2 Hfb1 Hh hfit Hc Hsum
 obtain ⟨j2, s2, bd⟩ := f2
 have hfin : ∀ tm : Array Value, tm.getD 6 undef = .pointer (some ⟨p, 0, none⟩) → bodyPost Tryz.prog Tryz.f186 (fun e w' => e = .returned (.agg C.toArray) ∧ FB S b { j := j2, seen := s2, bad := bd || bn } w' ∧ Fr (MFd b) w w') Exit.ret { tmps := tm, defers := [] } ((W3.setCell ⟨b, 6, none⟩ (.bool (bd || bn))).setCells p 0 C) := fun tm htm => by
  have hld := run_loadVar_mid (P := Tryz.prog) _ p 0 23 C (.array 32 5) (World.rangeAt_setCells_same (W3.setCell ⟨b, 6, none⟩ (.bool (bd || bn))) p 0 C (by simpa using hT4.out)) Tryz.underSum rfl Hs2.out
  have hFp := setCells_fr p C 0 (W3.setCell ⟨b, 6, none⟩ (.bool (bd || bn)))
  refine bodyPost_ret (v := .agg C.toArray) ?_ rfl ⟨rfl, ?_, HFe.out.trans hFp (fun k _ hm => .inr (by have h1 := Hp.out; have h2 : k = p := hm; omega))⟩
  ·rw [results_cell1 rfl, htm]
   simp [asAddr, Result.andThen, hld]
  ·exact HFB.out.to2 hFp hbw hZ4.out
 have Hfin := Lib.hid hfin
 clear hfin
 cases bd <;> cases bn
 all_goals
  simp only [Bool.or_self, Bool.or_false, Bool.or_true, Bool.true_or, Bool.false_or] at hR4 hT4 Hfin
  first | (obtain rfl : Value.nilIface = E := hE) | (obtain rfl : Value.iface 56 (.int .i64 1) = E := hE)
  go_wp2_with (first
   | (with_reducible refine wpList_load_mid rfl 23 _ rfl q 0 rfl C (.array 32 5) hR4.out Tryz.underSum rfl Hs2.out ?_)
   | (with_reducible refine wpList_store_mid rfl 23 _ _ rfl p 0 C.toArray rfl rfl hT4.out Hs1.out H1.out ?_))
  refine Hfin.out _ ?_
  rfl
end Go.Proofs.YtcddlemkimbkcaaGreatDoor
