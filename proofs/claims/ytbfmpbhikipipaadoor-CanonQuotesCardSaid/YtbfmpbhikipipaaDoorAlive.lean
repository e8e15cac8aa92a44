/-
  The walk of the law's fixed fact.
-/
import Derived.Test.YtbfmpbhikipipaaDoorIs
import Derived.KernelRfl
import Derived.Lib.SlBytesConst
namespace Go.Proofs.YtbfmpbhikipipaaDoor
set_option linter.unusedVariables false
set_option linter.unusedSimpArgs false
open Go.RowKit
def t1 : Bs := [123, 32, 34, 98, 34, 32, 58, 32, 49, 44, 32, 34, 97, 34, 32, 58, 32, 34, 92, 117, 48, 48, 52, 49, 34, 32, 125]
def t2 : Bs := [123, 34, 97, 34, 58, 34, 65, 34, 44, 34, 98, 34, 58, 49, 125]
def t3 : Bs := [91, 32, 93]
def j1 : J := .mk 5 0 [] [] [([98], .mk 2 1 [] [] []), ([97], .mk 3 0 [65] [] [])]
def j2 : J := .mk 5 0 [] [] [([97], .mk 3 0 [65] [] []), ([98], .mk 2 1 [] [] [])]
def j3 : J := .mk 4 0 [] [] []
theorem alive_p1 : pParse t1 = (j1, 0) := by kernel_rfl
theorem alive_p2 : pParse t2 = (j2, 0) := by kernel_rfl
theorem alive_p3 : pParse t3 = (j3, 0) := by kernel_rfl
theorem alive_u1 : pPut j1 = (t2, 0) := by kernel_rfl
theorem alive_i2 : pIs t2 = true := by kernel_rfl
theorem alive_i3 : pIs t3 = false := by kernel_rfl
theorem alive_ok {b : Bs} {j : J} (N : Nat) (hN : 2 ≤ N) (hp : pParse b = (j, 0)) (h : (fits 67108864 j && (few 2 j && decide ((pText j).length + 16 ≤ 140737488355328))) = true) (hfN : few 2 j = true → few N j = true) :
    (pParse b).2 = 0 → fits 67108864 (pParse b).1 = true ∧ few N (pParse b).1 = true ∧ (pText (pParse b).1).length + 16 ≤ 140737488355328 := by
  intro _
  rw [hp]
  simp only [Bool.and_eq_true, decide_eq_true_eq] at h
  exact ⟨h.1, hfN h.2.1, h.2.2⟩
mutual
theorem few_mono {N M : Nat} (hNM : N ≤ M) : ∀ (j : J), few N j = true → few M j = true
  | .mk k n t l p, h => by
    obtain ⟨h1, h2, h3⟩ := few.open h
    unfold few
    rw [fewl_mono hNM l h2, fewp_mono hNM p h3]
    simp; omega
theorem fewl_mono {N M : Nat} (hNM : N ≤ M) : ∀ (l : List J), fewl N l = true → fewl M l = true
  | [], _ => by unfold fewl; rfl
  | j :: js, h => by
    unfold fewl at h
    rw [Bool.and_eq_true] at h
    unfold fewl
    rw [few_mono hNM j h.1, fewl_mono hNM js h.2]
    rfl
theorem fewp_mono {N M : Nat} (hNM : N ≤ M) : ∀ (l : List (Bs × J)), fewp N l = true → fewp M l = true
  | [], _ => by unfold fewp; rfl
  | (_, j) :: js, h => by
    unfold fewp at h
    rw [Bool.and_eq_true] at h
    unfold fewp
    rw [few_mono hNM j h.1, fewp_mono hNM js h.2]
    rfl
end

/-- the bytes of a constant -/
theorem SB.const (l : Bs) (w : World) (cap : Nat) (fr : Nat × Nat) (cs : Array Value) (hcs : cs.toList = l.map fun c => Value.int .u8 (c.toNat : Int)) : SB (fun k => k = w.heap.size) l (.slice (some ⟨w.heap.size, 0, none⟩) l.length cap) (w.alloc (.cells cs 5 fr)) := by
  refine ⟨_, cap, rfl, .inr ⟨w.heap.size, 0, cs, fr, rfl, rfl, heap_alloc_new w _, fun j hj => ?_⟩⟩
  rw [Nat.zero_add, ← Array.getElem?_toList, hcs]
  simp [hj]
set_option maxRecDepth 100000 in
set_option maxHeartbeats 1000000 in
theorem alive_c (N : Nat) (hN2 : 2 ≤ N) (hN : SortOk N) (w : World) (hg : Gl w) :
    Calls Tryd.prog 5 #[] w fun e w' => e = .returned (.bool true) ∧ Fr NoB w w' := by
  have kc := fun (w : World) (C : Array Value) (n c : Nat) => Lib.run_convert_bytes_const (P := Tryd.prog) w 40 5 C n c Tryd.underlying40 Tryd.underlying5
  have hF0 := (Fr.refl (M := NoB)).alloc (w := w) (.cells #[.int .u8 123, .int .u8 32, .int .u8 34, .int .u8 98, .int .u8 34, .int .u8 32, .int .u8 58, .int .u8 32, .int .u8 49, .int .u8 44, .int .u8 32, .int .u8 34, .int .u8 97, .int .u8 34, .int .u8 32, .int .u8 58, .int .u8 32, .int .u8 34, .int .u8 92, .int .u8 117, .int .u8 48, .int .u8 48, .int .u8 52, .int .u8 49, .int .u8 34, .int .u8 32, .int .u8 125] 5 (27, 28))
  have hpa := parse_c _ t1 _ _ (SB.const t1 w 27 (27, 28) #[.int .u8 123, .int .u8 32, .int .u8 34, .int .u8 98, .int .u8 34, .int .u8 32, .int .u8 58, .int .u8 32, .int .u8 49, .int .u8 44, .int .u8 32, .int .u8 34, .int .u8 97, .int .u8 34, .int .u8 32, .int .u8 58, .int .u8 32, .int .u8 34, .int .u8 92, .int .u8 117, .int .u8 48, .int .u8 48, .int .u8 52, .int .u8 49, .int .u8 34, .int .u8 32, .int .u8 125] rfl) (hg.fr hF0 (fun _ _ _ h => h.elim)) (by decide)
  rw [alive_p1] at hpa
  have Hpa := Lib.hid hpa
  have HF0 := Lib.hid hF0
  have Hg := Lib.hid hg
  clear hpa hF0 hg
  go_enter Tryd.func5, Tryd.ntmps5
  go_wp2_with fail
  refine (Hpa.out).mono ?_
  rintro e w1 ⟨x, rfl, hx, hF1⟩
  obtain ⟨k', n', t', a', l', c', b', p', e', rfl⟩ := hx.form
  rw [show errV 0 = .nilIface from rfl]
  have hb1 := heap_alloc_new w1 (.cells #[.int .i64 k', .int .i64 n', .string t', .slice a' l' c', .slice b' p' e'] 25)
  obtain ⟨d0, d1, d2, d3, d4, dz, dlt⟩ := VB.at hb1
  have hF2 := (HF0.out.trans' hF1).alloc (.cells #[.int .i64 k', .int .i64 n', .string t', .slice a' l' c', .slice b' p' e'] 25)
  have HF2 := Lib.hid hF2
  have Hg2 := Lib.hid (Hg.out.fr hF2 (fun _ _ _ h => h.elim))
  have Hx2 := Lib.hid (RJ.kp (Kp.ofFr ((Fr.refl (M := NoB)).alloc (w := w1) (.cells #[.int .i64 k', .int .i64 n', .string t', .slice a' l' c', .slice b' p' e'] 25))) _ _ hx)
  clear hF2 hb1 hx hF1
  go_wp2_with fail
  have hpu := put_c N hN _ j1 _ _ Hx2.out (by kernel_rfl) (few_mono hN2 _ (by kernel_rfl)) Hg2.out (by decide +kernel)
  rw [alive_u1] at hpu
  refine (hpu).mono ?_
  rintro e w2 ⟨y, rfl, hy, hF3⟩
  rw [show errV 0 = .nilIface from rfl]
  have htx := hy.text
  have HF3 := Lib.hid (HF2.out.trans' hF3)
  have his := is_c N hN _ t2 y w2 hy (Hg.out.fr HF3.out (fun _ _ _ h => h.elim)) (by decide) (alive_ok N hN2 alive_p2 (by kernel_rfl) (few_mono hN2 _))
  rw [alive_i2] at his
  have His := Lib.hid his
  clear hpu hy hF3 his
  unfold t2 at htx
  go_wp2_with fail
  refine (His.out).mono ?_
  rintro e w3 ⟨rfl, hF4⟩
  have HF4 := Lib.hid (HF3.out.trans' hF4)
  have hF5 := HF4.out.alloc (.cells #[.int .u8 91, .int .u8 32, .int .u8 93] 5 (3, 4))
  have his3 := is_c N hN _ t3 _ _ (SB.const t3 w3 3 (3, 4) #[.int .u8 91, .int .u8 32, .int .u8 93] rfl) (Hg.out.fr hF5 (fun _ _ _ h => h.elim)) (by decide) (alive_ok N hN2 alive_p3 (by kernel_rfl) (few_mono hN2 _))
  rw [alive_i3] at his3
  have His3 := Lib.hid his3
  have HF5 := Lib.hid hF5
  clear hF5 his3 hF4
  go_wp2_with fail
  refine (His3.out).mono ?_
  rintro e w4 ⟨rfl, hF6⟩
  have HF6 := Lib.hid (HF5.out.trans' hF6)
  clear hF6
  go_wp2_with fail
  go_ret
  exact ⟨rfl, HF6.out⟩
end Go.Proofs.YtbfmpbhikipipaaDoor
