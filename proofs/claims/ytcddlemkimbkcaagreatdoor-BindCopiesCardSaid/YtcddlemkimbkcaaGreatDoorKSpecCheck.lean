/-
 The walk of entry.named.
-/
import Derived.Test.YtcddlemkimbkcaaGreatDoorKRune
import Derived.Test.YtcddlemkimbkcaaGreatDoorKUnhex
namespace Go.Proofs.YtcddlemkimbkcaaGreatDoor
set_option linter.unusedVariables false
set_option linter.unusedSimpArgs false
set_option linter.unusedSectionVars false
open Go.RowKit
variable [OldK]
def oddCh (n : Nat) : Bool := n == 46 || (n == 45 || (n == 95 || n == 64))
set_option maxRecDepth 100000 in
theorem odd_ix : ∀ n : Nat, n < 128 → decide (0 ≤ Lib.indexByte ([46, 45, 95, 64] : Bs) n.toUInt8) = oddCh n := by decide
theorem odd_c (n : Nat) (w : World) (hn : n ≤ 1114111) :
 Calls Tryz.prog 204 #[.string ⟨#[46, 45, 95, 64]⟩, .int .i32 n] w fun e w' => e = .returned (.bool (oddCh n)) ∧ Below w.heap.size w w' := by
 by_cases h : n < 128
 ·refine (Tryz.strings_ContainsRune_ascii ⟨#[46, 45, 95, 64]⟩ (n : Int) w (by omega) (by omega)).mono ?_
  rintro e w' ⟨rfl, rfl⟩
  refine ⟨?_, Below.refl _ _⟩
  rw [← odd_ix n h, Int.toNat_natCast]
 ·have : oddCh n = false := by unfold oddCh; simp; omega
  rw [this]
  exact crune_c n w (by omega) hn
theorem named1_c (n : Nat) (W : World) (hn : n ≤ 1114111) :
 Calls Tryz.prog 203 #[.int .i32 n] W fun e w' => e = .returned (.bool (!nameCh n)) ∧ Below W.heap.size W w' := by
 have hc := fun V => odd_c n V hn
 have hch : (!nameCh n) = ((decide ((n : Int) < 97) || decide ((122 : Int) < n)) && ((decide ((n : Int) < 48) || decide ((57 : Int) < n)) && !oddCh n)) := by
  unfold nameCh oddCh
  generalize (n == 46 || (n == 45 || (n == 95 || n == 64))) = C
  have a1 : decide ((n : Int) < 97) = !decide (97 ≤ n) := by by_cases h : 97 ≤ n <;> simp [h] <;> omega
  have a2 : decide ((122 : Int) < n) = !decide (n ≤ 122) := by by_cases h : n ≤ 122 <;> simp [h] <;> omega
  have a3 : decide ((n : Int) < 48) = !decide (48 ≤ n) := by by_cases h : 48 ≤ n <;> simp [h] <;> omega
  have a4 : decide ((57 : Int) < n) = !decide (n ≤ 57) := by by_cases h : n ≤ 57 <;> simp [h] <;> omega
  rw [a1, a2, a3, a4]
  cases decide (97 ≤ n) <;> cases decide (n ≤ 122) <;> cases decide (48 ≤ n) <;> cases decide (n ≤ 57) <;> cases C <;> rfl
 rw [hch]
 obtain ⟨b1, hb1⟩ : ∃ b1, decide ((n : Int) < 97) = b1 := ⟨_, rfl⟩
 obtain ⟨b2, hb2⟩ : ∃ b2, decide ((122 : Int) < n) = b2 := ⟨_, rfl⟩
 obtain ⟨b3, hb3⟩ : ∃ b3, decide ((n : Int) < 48) = b3 := ⟨_, rfl⟩
 obtain ⟨b4, hb4⟩ : ∃ b4, decide ((57 : Int) < n) = b4 := ⟨_, rfl⟩
 obtain ⟨C, hC⟩ : ∃ C, oddCh n = C := ⟨_, rfl⟩
 rw [hC] at hc ⊢
 rw [hb1, hb2, hb3, hb4]
 have Hc := Lib.hid hc
 clear hch hn hC hc
 cases b1 <;> cases b2 <;> cases b3 <;> cases b4
 all_goals
  go_enter Tryz.func203, Tryz.ntmps203
  go_wp2_with fail
  first
  | (go_ret; exact ⟨rfl, Below.refl _ _⟩)
  | (refine (Hc.out _).mono ?_
     rintro e w' ⟨rfl, hB⟩
     go_wp2_with fail
     go_ret
     exact ⟨rfl, hB⟩)
theorem any_odd_name (s : Bs) : s.any (fun c => !nameCh c.toNat) = !s.all (fun c => nameCh c.toNat) := by
 induction s with
 | nil => rfl
 | cons c s ih => simp [ih]
theorem named_c (s : Bs) (w : World) (hlen : s.length ≤ 1000000000000) :
 Calls Tryz.prog 160 #[.string ⟨s.toArray⟩] w fun e w' => e = .returned (.bool (pNamed s)) ∧ Fr NoB w w' := by
 have heg : ∀ args w, (callFunc 203 args).run Tryz.prog w = .ok (.enter 203 args) w := enters_of Tryz.func203 (by kernel_rfl) rfl
 have hcf := fun W : World => containsf_c 203 heg (fun n => !nameCh n) ⟨s.toArray⟩ W (fun W' x hx => named1_c x W' hx)
 rw [idx_odd (fun n => !nameCh n) (fun r hr => by simp [nameCh]; omega) s, any_odd_name s] at hcf
 obtain ⟨P, hP⟩ : ∃ P, pNamed s = P := ⟨_, rfl⟩
 rw [hP]
 unfold pNamed at hP
 obtain ⟨b3, hb3⟩ : ∃ b3, s.all (fun c => nameCh c.toNat) = b3 := ⟨_, rfl⟩
 rw [hb3] at hcf hP
 have Hcf := Lib.hid hcf
 have hsz := size_mk s
 clear hcf hb3 heg
 cases s with
 | nil =>
   obtain rfl : false = P := hP
   go_enter Tryz.func160, Tryz.ntmps160
   go_wp2_with fail
   go_ret
   exact ⟨rfl, Fr.refl⟩
 | cons c r =>
   have hne : (c :: r : Bs).isEmpty = false := rfl
   rw [List.isEmpty_cons] at hP
   obtain ⟨l, hl⟩ : ∃ l, (c :: r : Bs) = l := ⟨_, rfl⟩
   rw [hl] at hP Hcf hsz hne hlen ⊢
   clear hl
   by_cases h64 : l.length ≤ 64
   ·have h64i : decide ((l.length : Int) ≤ 64) = true := by simp; omega
    have h64n : decide (l.length ≤ 64) = true := by simp; omega
    rw [h64n] at hP
    obtain rfl : b3 = P := by simpa using hP
    clear h64 hP
    go_enter Tryz.func160, Tryz.ntmps160
    go_wp2_with fail
    refine (Hcf.out _).mono ?_
    rintro e w1 ⟨rfl, hb⟩
    have HF := Lib.hid (Fr.ofBelow hb)
    clear hb
    go_wp2_with fail
    go_ret
    exact ⟨by simp, HF.out⟩
   ·have h64i : decide ((l.length : Int) ≤ 64) = false := by simp; omega
    have h64n : decide (l.length ≤ 64) = false := by simp; omega
    rw [h64n] at hP
    obtain rfl : false = P := by simpa using hP
    clear h64 hP
    go_enter Tryz.func160, Tryz.ntmps160
    go_wp2_with fail
    go_ret
    exact ⟨rfl, Fr.refl⟩
end Go.Proofs.YtcddlemkimbkcaaGreatDoor
namespace Go.Proofs.YtcddlemkimbkcaaGreatDoor
set_option linter.unusedVariables false
set_option linter.unusedSimpArgs false
set_option linter.unusedSectionVars false
open Go.RowKit
variable [OldK]
/-- a signature's cells -/
def Sg.cells (s : Sg) : Array Value := #[.string ⟨s.id.toArray⟩] ++ ((Lib.byteCells s.key).toArray ++ (Lib.byteCells s.sig).toArray)
theorem Sg.size {s : Sg} (h : s.ok) : s.cells.size = 97 := by
 obtain ⟨h1, h2⟩ := h
 simp [Sg.cells, Lib.byteCells, h1, h2]
theorem Sg.cell0 (s : Sg) : s.cells[0]? = some (.string ⟨s.id.toArray⟩) := by
 simp [Sg.cells]
theorem Sg.cellK {s : Sg} (j : Nat) (x : UInt8) (h : s.key[j]? = some x) : s.cells[1 + j]? = some (.int .u8 x.toNat) := by
 have hj : j < s.key.length := by
  rcases Nat.lt_or_ge j s.key.length with h1 | h1
  ·exact h1
  ·rw [List.getElem?_eq_none h1] at h; simp at h
 unfold Sg.cells
 rw [Array.getElem?_append_right (by simp), Array.getElem?_append_left (by simp [Lib.byteCells]; omega)]
 simp [Lib.byteCells, h]
theorem Tryz.sizeSig : (Tryz.prog.info? 54).map (·.size) = some 97 := by kernel_rfl
set_option maxRecDepth 100000 in
set_option maxHeartbeats 1000000 in
theorem signer_c (s : Sg) (w : World) (hok : s.ok) (hlen : s.id.length ≤ 1000000) :
 Calls Tryz.prog 118 #[.agg s.cells] w fun e w' => e = .returned (.string ⟨(pSigner s).toArray⟩) ∧ Fr NoB w w' := by
 have hsz := Sg.size hok
 have h0 := Sg.cell0 s
 have hk : ∀ j x, s.key[j]? = some x → s.cells[1 + j]? = some (.int .u8 x.toNat) := Sg.cellK
 have hkl := hok.1
 obtain ⟨cs, hcs⟩ : ∃ cs, s.cells = cs := ⟨_, rfl⟩
 rw [hcs] at hsz h0 hk ⊢
 have h0' : ∀ h, cs[0]'h = .string ⟨s.id.toArray⟩ := fun h => by
  rw [Array.getElem?_eq_getElem h] at h0
  exact Option.some.inj h0
 clear h0 hcs hok
 obtain ⟨id, hid⟩ : ∃ id, s.id = id := ⟨_, rfl⟩
 unfold pSigner
 rw [hid] at h0' hlen ⊢
 obtain ⟨key, hkey⟩ : ∃ key, s.key = key := ⟨_, rfl⟩
 rw [hkey] at hk hkl ⊢
 clear hid hkey
 have hF := (Fr.refl (M := NoB)).alloc (w := w) (.cells cs 54)
 have HF := Lib.hid hF
 clear hF
 cases id with
 | cons c r =>
   have hne : (c :: r : Bs).isEmpty = false := rfl
   rw [if_neg (by simp)]
   obtain ⟨l, hl⟩ : ∃ l, (c :: r : Bs) = l := ⟨_, rfl⟩
   rw [hl] at h0' hne hlen ⊢
   clear hl
   go_enter Tryz.func118, Tryz.ntmps118
   go_wp2_with fail
   go_ret
   exact ⟨rfl, HF.out⟩
 | nil =>
   rw [if_pos rfl]
   go_enter Tryz.func118, Tryz.ntmps118
   go_wp2_with fail
   have hx := @coderHex_c ⟨w.heap.size + 1⟩ (fun _ => True) key (.slice (some ⟨w.heap.size, 1, none⟩) 32 32) (w.alloc (.cells cs 54)) ⟨some ⟨w.heap.size, 1, none⟩, 32, by rw [hkl], by omega, .inr ⟨w.heap.size, 1, cs, _, _, rfl, trivial, ⟨heap_alloc_new w _, .inr (Nat.lt_succ_self _)⟩, fun j hj => hk j _ (List.getElem?_eq_getElem hj)⟩⟩ (by omega)
   refine hx.mono ?_
   rintro e w2 ⟨rfl, hF2⟩
   have HF2 := Lib.hid (HF.out.trans' hF2)
   have hxl : (hexS key).length ≤ 100 := by rw [hexS_len]; omega
   obtain ⟨X, hX⟩ : ∃ X, hexS key = X := ⟨_, rfl⟩
   rw [hX] at hxl ⊢
   have HX := Lib.hid hX
   clear hF2 hx hX hk hkl
   go_wp2_with fail
   go_ret
   refine ⟨?_, HF2.out⟩
   have hs : (ByteArray.mk #[107, 101, 121, 58]) ++ (ByteArray.mk X.toArray) = ⟨(sKey ++ X).toArray⟩ := by
    apply ByteArray.ext
    simp [sKey]
   simp [hs, HX.out]
end Go.Proofs.YtcddlemkimbkcaaGreatDoor
namespace Go.Proofs.YtcddlemkimbkcaaGreatDoor
set_option linter.unusedVariables false
set_option linter.unusedSimpArgs false
set_option linter.unusedSectionVars false
open Go.RowKit
/-- 32 zero bytes -/
def zero32 : Bs := List.replicate 32 0
/-- a signature that may not stand behind a signer 'last' -/
def sgBad (last : Bs) (s : Sg) : Bool := (Op.bytesLess (pSigner s) last || pSigner s == last) || (!s.id.isEmpty && (!pNamed s.id || s.key != zero32))
def signedFrom (last : Bs) : List Sg → Bool
 | [] => true
 | s :: r => if sgBad last s then false else signedFrom (pSigner s) r
def pSigned (l : List Sg) : Bool := signedFrom [] l && (decide (1 ≤ l.length) && decide (l.length ≤ 8))
/-- v is the signatures l, in a block of S -/
def GS (S : Nat → Prop) (l : List Sg) (v : Value) (w : World) : Prop := ∃ a cap, v = .slice a l.length cap ∧ l.length ≤ cap ∧
 (l = [] ∨ ∃ b o, a = some ⟨b, o, none⟩ ∧ S b ∧ b < w.heap.size ∧ ∀ i (hi : i < l.length), w.rangeAt b (o + i * 97) l[i].cells.toList)
theorem GS.fr {S : Nat → Prop} {M : Nat → Obj → Prop} {l : List Sg} {v : Value} {w w' : World} (h : GS S l v w) (hF : Fr M w w') (hM : ∀ k o, S k → ¬ M k o) : GS S l v w' := by
 obtain ⟨a, cap, hv, hc, h | ⟨b, o, ha, hS, hb, hr⟩⟩ := h
 ·exact ⟨a, cap, hv, hc, .inl h⟩
 ·obtain ⟨ob, hob⟩ : ∃ ob, w.heap[b]? = some ob := ⟨_, Array.getElem?_eq_getElem hb⟩
  have hob' := hF.block _ _ hob (hM _ _ hS)
  refine ⟨a, cap, hv, hc, .inr ⟨b, o, ha, hS, get_lt hob', fun i hi j x hx => ?_⟩⟩
  have := hr i hi j x hx
  simp only [World.cell?, hob] at this
  simp only [World.cell?, hob']
  exact this
end Go.Proofs.YtcddlemkimbkcaaGreatDoor
namespace Go.Proofs.YtcddlemkimbkcaaGreatDoor
set_option linter.unusedVariables false
set_option linter.unusedSimpArgs false
set_option linter.unusedSectionVars false
open Go.RowKit
/-- the same signature? -/
def sgEq (a b : Sg) : Bool := a.id == b.id && (a.key == b.key && a.sig == b.sig)
def sgsEq : List Sg → List Sg → Bool
 | [], [] => true
 | a :: l, b :: m => sgEq a b && sgsEq l m
 | _, _ => false
theorem sgEq_same (a : Sg) : sgEq a a = true := by simp [sgEq]
theorem sgsEq_same : ∀ l : List Sg, sgsEq l l = true
 | [] => rfl
 | a :: l => by rw [sgsEq, sgEq_same, sgsEq_same l]; rfl
theorem sgsEq_len : ∀ (l m : List Sg), l.length ≠ m.length → sgsEq l m = false
 | [], [], h => absurd rfl h
 | [], _ :: _, _ => rfl
 | _ :: _, [], _ => rfl
 | a :: l, b :: m, h => by
   rw [sgsEq, sgsEq_len l m (by intro h2; exact h (by simp [h2])), Bool.and_false]
theorem sgsEq_at : ∀ (l m : List Sg), l.length = m.length → ∀ i (h : i < l.length) (h2 : i < m.length), sgsEq (l.drop i) (m.drop i) = (sgEq l[i] m[i] && sgsEq (l.drop (i + 1)) (m.drop (i + 1))) := by
 intro l m hl i h h2
 rw [List.drop_eq_getElem_cons h, List.drop_eq_getElem_cons h2, sgsEq]
/-- the same entry? -/
def enEq (a b : En) : Bool := decide (a.kind = b.kind) && (a.digest == b.digest && (a.typ == b.typ && (a.payload == b.payload && (decide (a.op = b.op) && (a.ident == b.ident && (a.key == b.key && sgsEq a.sigs b.sigs))))))
/-- what an entry has of its kind, taken away -/
def pBlank (e : En) : En :=
 if e.kind = 1 then { e with digest := zero32 }
 else if e.kind = 2 then { e with typ := [], payload := [] }
 else if e.kind = 3 then { e with payload := [] }
 else if e.kind = 4 then { e with key := if e.op = 3 then e.key else zero32, op := 0, ident := [] }
 else e
/-- an entry of a kind and signatures, and of nothing else -/
def enOnly (k : Int) (l : List Sg) : En := ⟨k, zero32, [], [], 0, [], zero32, l⟩
/-- is what it has of its kind as told? (sub: a statement's payload is one) -/
def pOwn (sub : Bs → Bool) (e : En) : Bool :=
 if e.kind = 1 then true
 else if e.kind = 2 then pTyped e.typ && decide (e.payload.length ≤ 2048)
 else if e.kind = 3 then sub e.payload
 else if e.kind = 4 then decide (1 ≤ e.op) && (decide (e.op ≤ 3) && pNamed e.ident)
 else false
def pEntry (sub : Bs → Bool) (e : En) : Bool := pOwn sub e && (pSigned e.sigs && enEq (pBlank e) (enOnly e.kind e.sigs))
/-- an entry's cells: pv, sv are its payload and its signatures -/
def En.cells (e : En) (pv sv : Value) : List Value :=
 [.int .i64 e.kind] ++ (Lib.byteCells e.digest ++ ([.string ⟨e.typ.toArray⟩, pv, .int .i64 e.op, .string ⟨e.ident.toArray⟩] ++ (Lib.byteCells e.key ++ [sv])))
theorem En.size {e : En} (h : e.ok) (pv sv : Value) : (e.cells pv sv).length = 70 := by
 obtain ⟨h1, h2, -⟩ := h
 simp [En.cells, Lib.byteCells, h1, h2]
theorem zero32_len : zero32.length = 32 := rfl
theorem pBlank_ok {e : En} (h : e.ok) : (pBlank e).ok := by
 obtain ⟨h1, h2, h3⟩ := h
 unfold pBlank
 repeat' split
 all_goals refine ⟨?_, ?_, h3⟩
 all_goals first | exact h1 | exact h2 | rfl | (simp only; split <;> first | exact h2 | rfl)
theorem enOnly_ok {k : Int} {l : List Sg} (h : ∀ s ∈ l, s.ok) : (enOnly k l).ok := ⟨rfl, rfl, h⟩
end Go.Proofs.YtcddlemkimbkcaaGreatDoor
