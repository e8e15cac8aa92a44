/-
 The walk of entry.subject.
-/
import Derived.Test.YtcddlemkimbkcaaGreatDoorKFields
import Derived.Great.Walk
namespace Go.Proofs.YtcddlemkimbkcaaGreatDoor
set_option linter.unusedVariables false
set_option linter.unusedSimpArgs false
set_option linter.unusedSectionVars false
open Go.RowKit
variable [OldK]
theorem list32 (l : Bs) (h : l.length = 32) : ∃ x0 x1 x2 x3 x4 x5 x6 x7 x8 x9 x10 x11 x12 x13 x14 x15 x16 x17 x18 x19 x20 x21 x22 x23 x24 x25 x26 x27 x28 x29 x30 x31 : UInt8, l = [x0, x1, x2, x3, x4, x5, x6, x7, x8, x9, x10, x11, x12, x13, x14, x15, x16, x17, x18, x19, x20, x21, x22, x23, x24, x25, x26, x27, x28, x29, x30, x31] := by
 match l, h with
 | [x0, x1, x2, x3, x4, x5, x6, x7, x8, x9, x10, x11, x12, x13, x14, x15, x16, x17, x18, x19, x20, x21, x22, x23, x24, x25, x26, x27, x28, x29, x30, x31], _ => exact ⟨x0, x1, x2, x3, x4, x5, x6, x7, x8, x9, x10, x11, x12, x13, x14, x15, x16, x17, x18, x19, x20, x21, x22, x23, x24, x25, x26, x27, x28, x29, x30, x31, rfl⟩
/-- a subject's cells -/
def subCells (nm D : Bs) : List Value := .string ⟨nm.toArray⟩ :: Lib.byteCells D
set_option maxRecDepth 100000 in
theorem built_sub (nm D : Bs) (h : D.length = 32) : Tryz.prog.built 164 [(0, .string ⟨nm.toArray⟩), (1, .agg (Lib.byteCells D).toArray)] = some (subCells nm D).toArray := by
 obtain ⟨x0, x1, x2, x3, x4, x5, x6, x7, x8, x9, x10, x11, x12, x13, x14, x15, x16, x17, x18, x19, x20, x21, x22, x23, x24, x25, x26, x27, x28, x29, x30, x31, rfl⟩ := list32 D h
 kernel_rfl
set_option maxRecDepth 100000 in
theorem built_subs (nm D : Bs) (h : D.length = 32) : Tryz.prog.builtSlice 164 1 [(0, .agg (subCells nm D).toArray)] = some (subCells nm D).toArray := by
 obtain ⟨x0, x1, x2, x3, x4, x5, x6, x7, x8, x9, x10, x11, x12, x13, x14, x15, x16, x17, x18, x19, x20, x21, x22, x23, x24, x25, x26, x27, x28, x29, x30, x31, rfl⟩ := list32 D h
 kernel_rfl
theorem Tryz.sizeSub : (Tryz.prog.info? 164).map (·.size) = some 33 := by kernel_rfl
theorem Tryz.rowSub : ∃ d, Tryz.prog.underlying 164 = some d ∧ d.isRow = true := ⟨_, Tryz.underlying164, rfl⟩
theorem subCells_len {nm D : Bs} (h : D.length = 32) : (subCells nm D).length = 33 := by simp [subCells, byteCells_len, h]
theorem subCells_one (nm D : Bs) : (subCells nm D).toArray.all (·.oneCell') = true := by
 refine all_oneCell_toArray (fun v hv => ?_)
 unfold subCells at hv
 rcases List.mem_cons.1 hv with rfl | hv
 ·rfl
 ·exact cells_one _ _ hv
theorem fSum_len (f : Fd) (nm : Bs) : (fSum f nm).1.length = 32 := by
 unfold fSum
 cases hR : sumS (fText f nm).1 with
 | none => rfl
 | some r => exact ((sumS_iff _ r).1 hR).2
/-- other fields were written -/
theorem FB.other {S : Nat → Prop} {b b' : Nat} {f : Fd} {w w' : World} (h : FB S b f w) (hF : Fr (MFd b') w w') (hk : OldK.k ≤ b') (hne : b ≠ b') : FB S b f w' := by
 obtain ⟨hb, a1, n1, a2, n2, h1, h2⟩ := h
 exact ⟨hb, a1, n1, a2, n2, hF.block _ _ h1 (fun h => hne h.1), h2.fd hk hF⟩
set_option maxRecDepth 100000 in
set_option maxHeartbeats 4000000 in
theorem subject_c (S : Nat → Prop) (j : J) (v : Value) (w : World) (h : RJ S w j v) (hfit : Fits j) (hk : OldK.k ≤ w.heap.size) :
 Calls Tryz.prog 144 #[v] w fun e w' => e = .returned (.tuple #[.agg (subCells (pSubject j).1 (pSubject j).2.1).toArray, .bool (pSubject j).2.2]) ∧ Fr NoB w w' := by
 have hj := h
 obtain ⟨kk, n, t, l, q⟩ := j
 unfold RJ at h
 obtain ⟨b1, d1, b2, d2, rfl, -, -⟩ := h
 have hA1 := heap_alloc_new w (.cells #[.int .i64 kk, .int .i64 n, .string ⟨t.toArray⟩, .slice b1 l.length d1, .slice b2 q.length d2] 220)
 obtain ⟨w1, hw1⟩ : ∃ w1, w.alloc (.cells #[.int .i64 kk, .int .i64 n, .string ⟨t.toArray⟩, .slice b1 l.length d1, .slice b2 q.length d2] 220) = w1 := ⟨_, rfl⟩
 have hs1 : w1.heap.size = w.heap.size + 1 := by rw [← hw1, World.size_alloc]
 have hF1 : Fr NoB w w1 := by rw [← hw1]; exact Fr.refl.alloc _
 rw [hw1] at hA1
 have hA2 := heap_alloc_new w1 (.cells #[.string ⟨#[]⟩, .int .u8 0, .int .u8 0, .int .u8 0, .int .u8 0, .int .u8 0, .int .u8 0, .int .u8 0, .int .u8 0, .int .u8 0, .int .u8 0, .int .u8 0, .int .u8 0, .int .u8 0, .int .u8 0, .int .u8 0, .int .u8 0, .int .u8 0, .int .u8 0, .int .u8 0, .int .u8 0, .int .u8 0, .int .u8 0, .int .u8 0, .int .u8 0, .int .u8 0, .int .u8 0, .int .u8 0, .int .u8 0, .int .u8 0, .int .u8 0, .int .u8 0, .int .u8 0] 164)
 obtain ⟨w2, hw2⟩ : ∃ w2, w1.alloc (.cells #[.string ⟨#[]⟩, .int .u8 0, .int .u8 0, .int .u8 0, .int .u8 0, .int .u8 0, .int .u8 0, .int .u8 0, .int .u8 0, .int .u8 0, .int .u8 0, .int .u8 0, .int .u8 0, .int .u8 0, .int .u8 0, .int .u8 0, .int .u8 0, .int .u8 0, .int .u8 0, .int .u8 0, .int .u8 0, .int .u8 0, .int .u8 0, .int .u8 0, .int .u8 0, .int .u8 0, .int .u8 0, .int .u8 0, .int .u8 0, .int .u8 0, .int .u8 0, .int .u8 0, .int .u8 0] 164) = w2 := ⟨_, rfl⟩
 have hs2 : w2.heap.size = w1.heap.size + 1 := by rw [← hw2, World.size_alloc]
 have hF2 : Fr NoB w1 w2 := by rw [← hw2]; exact Fr.refl.alloc _
 rw [hw2] at hA2
 have hA3 := heap_alloc_new w2 (.cells #[.int .i64 kk, .int .i64 n, .string ⟨t.toArray⟩, .slice b1 l.length d1, .slice b2 q.length d2, .int .i64 0, .bool false] 225)
 obtain ⟨w3, hw3⟩ : ∃ w3, w2.alloc (.cells #[.int .i64 kk, .int .i64 n, .string ⟨t.toArray⟩, .slice b1 l.length d1, .slice b2 q.length d2, .int .i64 0, .bool false] 225) = w3 := ⟨_, rfl⟩
 have hs3 : w3.heap.size = w2.heap.size + 1 := by rw [← hw3, World.size_alloc]
 have hF3 : Fr NoB w2 w3 := by rw [← hw3]; exact Fr.refl.alloc _
 rw [hw3] at hA3
 have hF := (hF1.trans' hF2).trans' hF3
 obtain ⟨c0, c1, c2, c3, c4, -, -⟩ := VB.at (hF2.block _ _ hA1 (fun h => h))
 have hfb : FB S w2.heap.size ⟨.mk kk n t l q, 0, false⟩ w3 := ⟨by omega, b1, d1, b2, d2, hA3, RJ.kp (Kp.ofFr hF) _ _ hj⟩
 have hget := fget_c S _ _ sDigest 5 w3 hfb hfit.1 ⟨Int.le_refl 0, show (0 : Int) ≤ 1000 by decide⟩
 have hg1 := Fits.get (f := ⟨.mk kk n t l q, 0, false⟩) (nm := sDigest) (k := 5) hfit
 have hgs := fGet_seen ⟨.mk kk n t l q, 0, false⟩ sDigest 5
 obtain ⟨P, hP⟩ : ∃ P, pSubject (.mk kk n t l q) = P := ⟨_, rfl⟩
 rw [hP]
 unfold pSubject at hP
 obtain ⟨G, hG⟩ : ∃ G, (fGet ⟨.mk kk n t l q, 0, false⟩ sDigest 5).1 = G := ⟨_, rfl⟩
 obtain ⟨f1, hf1⟩ : ∃ f, (fGet ⟨.mk kk n t l q, 0, false⟩ sDigest 5).2 = f := ⟨_, rfl⟩
 simp only [hG, hf1] at hP
 obtain ⟨gk, gn, gt, gl, gq⟩ := G
 rw [hG, hf1] at hget hg1
 rw [hf1] at hgs
 have HP := Lib.hid hP
 have Hget := Lib.hid hget
 have HF := Lib.hid hF
 have HA2 := Lib.hid (hF3.block _ _ hA2 (fun h => h))
 have Hg1 := Lib.hid hg1
 have Hgs := Lib.hid hgs
 have Hfit := Lib.hid hfit
 have hO : OldK.k ≤ w2.heap.size := by omega
 clear hP hget hF hF1 hF2 hF3 hA1 hA2 hA3 hj hfb hg1 hgs hfit hG hf1
 go_enter Tryz.func144, Tryz.ntmps144
 go_upto_region 2 with (fail)
 change Code.wp _ _ _ _ w3
 clear hw1 hw2 hw3 c0 c1 c2 c3 c4
 obtain ⟨p1, hp1⟩ : ∃ p, w.heap.size + 1 = p := ⟨_, rfl⟩
 obtain ⟨p2, hp2⟩ : ∃ p, p1 + 1 = p := ⟨_, rfl⟩
 rw [hp1, hp2]
 rw [show w1.heap.size = p1 by omega] at HA2
 rw [show w2.heap.size = p2 by omega] at Hget hO
 have hs3' : w3.heap.size = p2 + 1 := by omega
 have hwp : w.heap.size < p1 := by omega
 clear hs1 hs2 hs3
 go_wp2_with fail
 refine Hget.out.mono ?_
 rintro e w4 ⟨x, rfl, hx, hfb1, hF4⟩
 have hx0 := hx
 unfold RJ at hx
 obtain ⟨x1, y1, x2, y2, rfl, -, -⟩ := hx
 have hA5 := heap_alloc_new w4 (.cells #[.int .i64 gk, .int .i64 gn, .string ⟨gt.toArray⟩, .slice x1 gl.length y1, .slice x2 gq.length y2, .int .i64 0, .bool false] 225)
 obtain ⟨w5, hw5⟩ : ∃ w5, w4.alloc (.cells #[.int .i64 gk, .int .i64 gn, .string ⟨gt.toArray⟩, .slice x1 gl.length y1, .slice x2 gq.length y2, .int .i64 0, .bool false] 225) = w5 := ⟨_, rfl⟩
 have hs5 : w5.heap.size = w4.heap.size + 1 := by rw [← hw5, World.size_alloc]
 have hF5 : Fr NoB w4 w5 := by rw [← hw5]; exact Fr.refl.alloc _
 rw [hw5] at hA5
 have hs4 := hF4.size
 have hfd5 : FB S w4.heap.size ⟨.mk gk gn gt gl gq, 0, false⟩ w5 := ⟨by omega, x1, y1, x2, y2, hA5, RJ.kp (Kp.ofFr hF5) _ _ hx0⟩
 have hf1s : f1.j = .mk kk n t l q ∧ 0 ≤ f1.seen ∧ f1.seen ≤ 1 := by
  obtain ⟨h1, h2⟩ := Hgs.out
  refine ⟨h1, ?_⟩
  rcases h2 with h2 | h2
  ·rw [h2]; exact ⟨by decide, by decide⟩
  ·rw [h2]; exact ⟨by decide, by decide⟩
 have htext := ftext_c S p2 f1 sName w5 (hfb1.fr hF5) (by rw [hf1s.1]; exact Hfit.out) ⟨hf1s.2.1, by omega⟩
 have Htext := Lib.hid htext
 have Hfd5 := Lib.hid hfd5
 have HF4 := Lib.hid hF4
 have HF5 := Lib.hid hF5
 clear htext hfd5 hF4 hF5 hA5 hx0 hfb1 Hget
 go_upto_region 3 with (fail)
 change Code.wp _ _ _ _ w5
 obtain ⟨p3, hp3⟩ : ∃ p, w4.heap.size = p := ⟨_, rfl⟩
 rw [hp3] at Hfd5 hs5 hs4
 rw [hp3]
 clear hw5
 have h23 : p2 < p3 := by omega
 obtain ⟨nm, hnm⟩ : ∃ x, (fText f1 sName).1 = x := ⟨_, rfl⟩
 obtain ⟨f2, hf2⟩ : ∃ x, (fText f1 sName).2 = x := ⟨_, rfl⟩
 rw [hnm, hf2] at Htext
 have hP := HP.out
 rw [hnm, hf2] at hP
 have hsumc := fun W h => fsum_c S p3 ⟨.mk gk gn gt gl gq, 0, false⟩ sSha256 W h Hg1.out.1 ⟨Int.le_refl 0, show (0 : Int) ≤ 1000 by decide⟩
 have hD32 := fSum_len ⟨.mk gk gn gt gl gq, 0, false⟩ sSha256
 obtain ⟨D, hD⟩ : ∃ x, (fSum ⟨.mk gk gn gt gl gq, 0, false⟩ sSha256).1 = x := ⟨_, rfl⟩
 obtain ⟨f3, hf3⟩ : ∃ x, (fSum ⟨.mk gk gn gt gl gq, 0, false⟩ sSha256).2 = x := ⟨_, rfl⟩
 rw [hD] at hsumc hD32 hP
 simp only [hf3] at hsumc hP
 have HP2 := Lib.hid hP
 have Hsum := Lib.hid hsumc
 have Hbuilt := Lib.hid (built_sub nm D hD32)
 have HCl := Lib.hid (subCells_len (nm := nm) hD32)
 have HC1 := Lib.hid (subCells_one nm D)
 obtain ⟨CS, hCS⟩ : ∃ x, subCells nm D = x := ⟨_, rfl⟩
 obtain ⟨CD, hCD⟩ : ∃ x, Lib.byteCells D = x := ⟨_, rfl⟩
 have hC0 : CS[0]? = some (.string ⟨nm.toArray⟩) := by rw [← hCS]; rfl
 have HPe : Hid (P = (nm, D, P.2.2)) := Lib.hid (by rw [← hP])
 rw [hCS] at HCl HC1
 rw [hCS, hCD] at Hbuilt
 simp only [hCD] at Hsum
 have HCS := Lib.hid hCS
 clear hP hsumc hD hf3 hnm hf2 HP hCS hCD hD32 Hg1 Hgs
 go_wp2_with fail
 refine Htext.out.mono ?_
 rintro e w6 ⟨rfl, hfb2, hF6⟩
 have hfd6 := Hfd5.out.other hF6 hO (by omega)
 have Hfb2 := Lib.hid hfb2
 have HF6 := Lib.hid hF6
 have hsum := Lib.hid (Hsum.out w6 hfd6)
 clear hfb2 hF6 hfd6 Hfd5 Hsum Htext
 go_wp2_with fail
 refine hsum.out.mono ?_
 rintro e w7 ⟨rfl, hfd7, hF7⟩
 have hfb7 := Hfb2.out.other hF7 (by omega) (by omega)
 -- the subject's block
 have hN := heap_alloc_new w7 (.cells #[.string ⟨#[]⟩, .int .u8 0, .int .u8 0, .int .u8 0, .int .u8 0, .int .u8 0, .int .u8 0, .int .u8 0, .int .u8 0, .int .u8 0, .int .u8 0, .int .u8 0, .int .u8 0, .int .u8 0, .int .u8 0, .int .u8 0, .int .u8 0, .int .u8 0, .int .u8 0, .int .u8 0, .int .u8 0, .int .u8 0, .int .u8 0, .int .u8 0, .int .u8 0, .int .u8 0, .int .u8 0, .int .u8 0, .int .u8 0, .int .u8 0, .int .u8 0, .int .u8 0, .int .u8 0] 164)
 have HT4 := Lib.hid (there_block hN (n := CS.toArray.size) (by rw [List.size_toArray, HCl.out]; show 33 ≤ 33; omega))
 have hF8 : Fr NoB w7 ((w7.alloc (.cells #[.string ⟨#[]⟩, .int .u8 0, .int .u8 0, .int .u8 0, .int .u8 0, .int .u8 0, .int .u8 0, .int .u8 0, .int .u8 0, .int .u8 0, .int .u8 0, .int .u8 0, .int .u8 0, .int .u8 0, .int .u8 0, .int .u8 0, .int .u8 0, .int .u8 0, .int .u8 0, .int .u8 0, .int .u8 0, .int .u8 0, .int .u8 0, .int .u8 0, .int .u8 0, .int .u8 0, .int .u8 0, .int .u8 0, .int .u8 0, .int .u8 0, .int .u8 0, .int .u8 0, .int .u8 0] 164)).setCells w7.heap.size 0 CS) := ((Fr.refl (M := NoB)).alloc _).trans (setCells_fr _ _ _ _) (fun k _ hm => .inr (by omega))
 have hR8 := World.rangeAt_setCells_same (w7.alloc (.cells #[.string ⟨#[]⟩, .int .u8 0, .int .u8 0, .int .u8 0, .int .u8 0, .int .u8 0, .int .u8 0, .int .u8 0, .int .u8 0, .int .u8 0, .int .u8 0, .int .u8 0, .int .u8 0, .int .u8 0, .int .u8 0, .int .u8 0, .int .u8 0, .int .u8 0, .int .u8 0, .int .u8 0, .int .u8 0, .int .u8 0, .int .u8 0, .int .u8 0, .int .u8 0, .int .u8 0, .int .u8 0, .int .u8 0, .int .u8 0, .int .u8 0, .int .u8 0, .int .u8 0, .int .u8 0] 164)) w7.heap.size 0 CS (by simpa using HT4.out)
 have hFa : Fr NoB w w7 := by
  have h1 : Fr (fun k _ => k = p2 ∨ k = p3) w3 w7 := ((((HF4.out.mono (fun _ _ h => .inl h.1)).trans' (HF5.out.mono (fun _ _ h => h.elim))).trans' (HF6.out.mono (fun _ _ h => .inl h.1))).trans' (hF7.mono (fun _ _ h => .inr h.1)))
  exact HF.out.trans h1 (fun k _ hm => .inr (by rcases hm with h | h <;> omega))
 have hA2' : w7.heap[p1]? = some (.cells #[.string ⟨#[]⟩, .int .u8 0, .int .u8 0, .int .u8 0, .int .u8 0, .int .u8 0, .int .u8 0, .int .u8 0, .int .u8 0, .int .u8 0, .int .u8 0, .int .u8 0, .int .u8 0, .int .u8 0, .int .u8 0, .int .u8 0, .int .u8 0, .int .u8 0, .int .u8 0, .int .u8 0, .int .u8 0, .int .u8 0, .int .u8 0, .int .u8 0, .int .u8 0, .int .u8 0, .int .u8 0, .int .u8 0, .int .u8 0, .int .u8 0, .int .u8 0, .int .u8 0, .int .u8 0] 164 (0, 0)) := by
  have h1 : Fr (fun k _ => k = p2 ∨ k = p3) w3 w7 := ((((HF4.out.mono (fun _ _ h => .inl h.1)).trans' (HF5.out.mono (fun _ _ h => h.elim))).trans' (HF6.out.mono (fun _ _ h => .inl h.1))).trans' (hF7.mono (fun _ _ h => .inr h.1)))
  exact h1.block _ _ HA2.out (by omega)
 have h17 : p1 < w7.heap.size := get_lt hA2'
 have Hs1 : Hid ((Tryz.prog.info? 164).map (·.size) = some CS.toArray.size) := Lib.hid (by rw [Tryz.sizeSub, List.size_toArray, HCl.out])
 have Hs2 : Hid ((Tryz.prog.info? 164).map (·.size) = some CS.length) := Lib.hid (by rw [Tryz.sizeSub, HCl.out])
 have hfb8 := hfb7.fr hF8
 have hfd8 := hfd7.fr hF8
 have hA28 := hF8.block _ _ hA2' (fun h => h)
 have hFw := hFa.trans' hF8
 clear hfb7 hfd7 hF7 hN hFa hA2' Hfb2 HF4 HF5 HF6 HF HA2 hsum
 go_upto_region 4 with (first
  | ((with_reducible refine wpList_buildTo ?_ 164 _ rfl _ rfl CS.toArray ?_ ?_); rfl; (refine Eq.trans (congrArg (Tryz.prog.built 164) ?_) Hbuilt.out; kernel_rfl))
  | (with_reducible refine wpList_store_mid rfl 164 _ _ rfl w7.heap.size 0 CS.toArray rfl rfl HT4.out Hs1.out HC1.out ?_))
 change Code.wp _ _ _ _ ((w7.alloc (.cells #[.string ⟨#[]⟩, .int .u8 0, .int .u8 0, .int .u8 0, .int .u8 0, .int .u8 0, .int .u8 0, .int .u8 0, .int .u8 0, .int .u8 0, .int .u8 0, .int .u8 0, .int .u8 0, .int .u8 0, .int .u8 0, .int .u8 0, .int .u8 0, .int .u8 0, .int .u8 0, .int .u8 0, .int .u8 0, .int .u8 0, .int .u8 0, .int .u8 0, .int .u8 0, .int .u8 0, .int .u8 0, .int .u8 0, .int .u8 0, .int .u8 0, .int .u8 0, .int .u8 0, .int .u8 0] 164)).setCells w7.heap.size 0 CS)
 obtain ⟨w8, hw8⟩ : ∃ W, (w7.alloc (.cells #[.string ⟨#[]⟩, .int .u8 0, .int .u8 0, .int .u8 0, .int .u8 0, .int .u8 0, .int .u8 0, .int .u8 0, .int .u8 0, .int .u8 0, .int .u8 0, .int .u8 0, .int .u8 0, .int .u8 0, .int .u8 0, .int .u8 0, .int .u8 0, .int .u8 0, .int .u8 0, .int .u8 0, .int .u8 0, .int .u8 0, .int .u8 0, .int .u8 0, .int .u8 0, .int .u8 0, .int .u8 0, .int .u8 0, .int .u8 0, .int .u8 0, .int .u8 0, .int .u8 0, .int .u8 0] 164)).setCells w7.heap.size 0 CS = W := ⟨_, rfl⟩
 have hp4 : w7.heap.size < w8.heap.size := by
  rw [← hw8]
  exact Nat.lt_of_lt_of_le (by rw [World.size_alloc]; omega) (setCells_fr (w7.heap.size) CS 0 (w7.alloc _)).size
 rw [hw8] at hF8 hR8 hfb8 hfd8 hA28 hFw ⊢
 obtain ⟨p4, hp⟩ : ∃ p, w7.heap.size = p := ⟨_, rfl⟩
 rw [hp] at hR8 hp4 h17
 rw [hp]
 have hC08 : w8.cell? ⟨p4, 0, none⟩ = some (.string ⟨nm.toArray⟩) := hR8 0 _ hC0
 have HC0 := Lib.hid hC08
 have HR := Lib.hid hR8
 have HFw := Lib.hid hFw
 have HT1 := Lib.hid (there_block hA28 (n := CS.toArray.size) (by rw [List.size_toArray, HCl.out]; show 33 ≤ 33; omega))
 obtain ⟨bd2, hbd2⟩ : ∃ x, fDone f2 = x := ⟨_, rfl⟩
 obtain ⟨bd3, hbd3⟩ : ∃ x, fDone f3 = x := ⟨_, rfl⟩
 have hd2 := fun V (h : Fr NoB w8 V) => fdone_c S p2 f2 V (hfb8.fr h)
 have hd3 := fun V (h : Fr NoB w8 V) => fdone_c S p3 f3 V (hfd8.fr h)
 rw [hbd2] at hd2
 rw [hbd3] at hd3
 have Hd2 := Lib.hid hd2
 have Hd3 := Lib.hid hd3
 obtain ⟨d, hu, hd⟩ := Tryz.rowSub
 have Hu := Lib.hid hu
 have Hd := Lib.hid hd
 have h1w : w.heap.size ≤ p1 := by omega
 obtain ⟨R, hRv⟩ : ∃ x, P.2.2 = x := ⟨_, rfl⟩
 have HRv : Hid (((bd2 && bd3) && (!nm.isEmpty && decide (nm.length ≤ 64))) = R) := Lib.hid (by rw [← hbd2, ← hbd3, ← hRv, ← HP2.out])
 have HPq : Hid (P = (nm, D, R)) := Lib.hid (by rw [← hRv]; exact HPe.out)
 have hfin : ∀ (V : World) (tm : Array Value), Fr NoB w8 V → tm.getD 2 undef = .pointer (some ⟨p1, 0, none⟩) → tm.getD 3 undef = .bool R →
  bodyPost Tryz.prog Tryz.f144 (fun e w' => e = .returned (.tuple #[.agg (subCells P.1 P.2.1).toArray, .bool P.2.2]) ∧ Fr NoB w w') Exit.ret { tmps := tm, defers := [] } (V.setCells p1 0 CS) := fun V tm hV h2 h3 => by
  have hT1V := there_fr HT1.out hV (get_lt hA28) (fun _ h => h)
  have hld := run_loadVar_mid (P := Tryz.prog) _ p1 0 164 CS d (World.rangeAt_setCells_same V p1 0 CS (by simpa using hT1V)) Hu.out Hd.out Hs2.out
  refine bodyPost_ret (v := .tuple #[.agg CS.toArray, .bool R]) ?_ rfl ⟨?_, (HFw.out.trans' hV).trans (setCells_fr p1 CS 0 V) (fun k _ hm => .inr (by have h5 : k = p1 := hm; omega))⟩
  ·rw [results_cell_tmp rfl, h2, h3]
   simp [asAddr, Result.andThen, hld]
  ·rw [HPq.out, ← HCS.out]
 have Hfin := Lib.hid hfin
 have HT1V := Lib.hid (fun V (h : Fr NoB w8 V) => there_fr HT1.out h (get_lt hA28) (fun _ h => h))
 have hp42 : p1 < p4 := h17
 clear hfin hF8 hR8 hfb8 hfd8 hA28 hFw hw8 hp hC08 hC0 hd2 hd3 hbd2 hbd3 hRv hu hd HT4 HPe HP2 HT1 hs5 hs4 hwp hs3' hf1s hp1 hp2 hp3
 obtain ⟨be, hbe⟩ : ∃ x, nm.isEmpty = x := ⟨_, rfl⟩
 obtain ⟨bl, hbl⟩ : ∃ x, decide (nm.length ≤ 64) = x := ⟨_, rfl⟩
 have hbl2 : decide ((nm.length : Int) ≤ 64) = bl := by rw [← hbl]; exact decide_eq_decide.2 (by omega)
 have HRw : Hid (((bd2 && bd3) && (!be && bl)) = R) := Lib.hid (by rw [← hbe, ← hbl]; exact HRv.out)
 clear HRv
 have HRv := HRw
 clear HRw
 cases bd2 with
 | false =>
   refine wp_region_held_drew (S := fun V => Hid (Fr (fun k _ => k = p1) w8 V) ∧ V.cell? ⟨p4, 0, none⟩ = some (.string ⟨nm.toArray⟩)) (by kernel_rfl) ⟨Lib.hid Fr.refl.drew, by simpa using HC0.out⟩ (fun hHeld => ?_)
   simp only [qL, qL1, qL0, qR, qR1, qR0]
   refine qi (i := 0) rfl (yieldsIf_load_mid (by rfl) 164 _ rfl p4 0 rfl CS d (fun V h => range_fr HR.out h.1.out hp4 (fun _ h => by have h2 : p4 = p1 := h; omega)) Hu.out Hd.out Hs2.out) hHeld ?_
   try simp only [Act.put, qS, qS0, qS1, qG, qG0, qG1, qM0, qM1]
   refine qt (v := ?_) rfl (Or.inl ⟨by rfl, ?_⟩) hHeld ?_
   rotate_left
   ·intro W hSw
    obtain ⟨-, hs0⟩ := hSw
    try simp only [qG, qG0, qG1]
    go_simp
    try rw [if_neg (by omega)]
    try with_reducible rfl
   try simp only [Act.put, qS, qS0, qS1, qG, qG0, qG1, qM0, qM1]
   refine qr (i := 2) (by kernel_rfl) rfl (fun K hK => ?_)
   try simp only [qG, qG0, qG1]
   go_simp
   refine (Hd2.out _ Fr.refl.drew).mono ?_; rintro r w9 ⟨rfl, hF9⟩
   refine hK.out _ _ ⟨Lib.hid ((Fr.refl.drew).trans' (hF9.mono (fun _ _ h => h.elim))), Fr.cell hF9 (by simpa using HC0.out)⟩ (fun hHeld => ?_)
   clear hK K
   try simp only [Act.put, qS, qS0, qS1, qG, qG0, qG1, qM0, qM1]
   have HG9 := Lib.hid ((Fr.refl (M := NoB) (w := w8)).drew.trans' hF9)
   clear hF9
   iterate 15
    first
    | refine qt (v := undef) rfl (Or.inr ⟨by rfl, rfl⟩) hHeld ?_
      try simp only [Act.put, qS, qS0, qS1, qG, qG0, qG1, qM0, qM1]
    | refine qt (v := ?_) rfl (Or.inl ⟨by rfl, ?_⟩) hHeld ?_
      rotate_left
      ·intro W hSw
       obtain ⟨-, hs0⟩ := hSw
       try simp only [qG, qG0, qG1]
       go_simp
       try rw [if_neg (by omega)]
       try with_reducible rfl
      try simp only [Act.put, qS, qS0, qS1, qG, qG0, qG1, qM0, qM1]
   refine qr (i := 18) (by kernel_rfl) rfl (fun K hK => ?_)
   try simp only [qG, qG0, qG1]
   rw [if_pos (by rfl)]; refine wp_store_mid 164 (.tmp 2) (.tmp 19) (by rfl) p1 0 CS.toArray (by rfl) (by rfl) (HT1V.out _ HG9.out) Hs1.out HC1.out ?_
   refine hK.out _ _ ⟨Lib.hid (hHeld.1.out.trans' (setCells_fr _ _ _ _)), Fr.cell (setCells_fr _ _ _ _) hHeld.2 (fun _ h => by have h2 : p4 = p1 := h; omega)⟩ (fun hHeld => ?_)
   clear hK K
   try simp only [Act.put, qS, qS0, qS1, qG, qG0, qG1, qM0, qM1]
   refine qt (v := ?_) rfl (Or.inl ⟨by rfl, ?_⟩) hHeld ?_
   rotate_left
   ·intro W hSw
    obtain ⟨-, hs0⟩ := hSw
    try simp only [qG, qG0, qG1]
    go_simp
    try rw [if_neg (by omega)]
    try with_reducible rfl
   try simp only [Act.put, qS, qS0, qS1, qG, qG0, qG1, qM0, qM1]
   refine wpAnyH_done (by kernel_rfl) ?_ _
   clear hHeld
   have HRf : Hid (false = R) := Lib.hid (by rw [← HRv.out]; rfl)
   go_wp2_with fail
   refine Hfin.out _ _ HG9.out ?_ ?_
   ·rfl
   ·exact congrArg Value.bool HRf.out
 | true =>
   cases bd3 with
   | false =>
     refine wp_region_held_drew (S := fun V => Hid (Fr (fun k _ => k = p1) w8 V) ∧ V.cell? ⟨p4, 0, none⟩ = some (.string ⟨nm.toArray⟩)) (by kernel_rfl) ⟨Lib.hid Fr.refl.drew, by simpa using HC0.out⟩ (fun hHeld => ?_)
     simp only [qL, qL1, qL0, qR, qR1, qR0]
     refine qi (i := 0) rfl (yieldsIf_load_mid (by rfl) 164 _ rfl p4 0 rfl CS d (fun V h => range_fr HR.out h.1.out hp4 (fun _ h => by have h2 : p4 = p1 := h; omega)) Hu.out Hd.out Hs2.out) hHeld ?_
     try simp only [Act.put, qS, qS0, qS1, qG, qG0, qG1, qM0, qM1]
     refine qt (v := ?_) rfl (Or.inl ⟨by rfl, ?_⟩) hHeld ?_
     rotate_left
     ·intro W hSw
      obtain ⟨-, hs0⟩ := hSw
      try simp only [qG, qG0, qG1]
      go_simp
      try rw [if_neg (by omega)]
      try with_reducible rfl
     try simp only [Act.put, qS, qS0, qS1, qG, qG0, qG1, qM0, qM1]
     refine qr (i := 2) (by kernel_rfl) rfl (fun K hK => ?_)
     try simp only [qG, qG0, qG1]
     go_simp
     refine (Hd2.out _ Fr.refl.drew).mono ?_; rintro r w9 ⟨rfl, hF9⟩
     refine hK.out _ _ ⟨Lib.hid ((Fr.refl.drew).trans' (hF9.mono (fun _ _ h => h.elim))), Fr.cell hF9 (by simpa using HC0.out)⟩ (fun hHeld => ?_)
     clear hK K
     try simp only [Act.put, qS, qS0, qS1, qG, qG0, qG1, qM0, qM1]
     have HG9 := Lib.hid ((Fr.refl (M := NoB) (w := w8)).drew.trans' hF9)
     clear hF9
     iterate 2
      refine qt (v := ?_) rfl (Or.inl ⟨by rfl, ?_⟩) hHeld ?_
      rotate_left
      ·intro W hSw
       obtain ⟨-, hs0⟩ := hSw
       try simp only [qG, qG0, qG1]
       go_simp
       try rw [if_neg (by omega)]
       try with_reducible rfl
      try simp only [Act.put, qS, qS0, qS1, qG, qG0, qG1, qM0, qM1]
     refine qr (i := 5) (by kernel_rfl) rfl (fun K hK => ?_)
     try simp only [qG, qG0, qG1]
     go_simp
     refine (Hd3.out _ HG9.out).mono ?_; rintro r w10 ⟨rfl, hF10⟩
     refine hK.out _ _ ⟨Lib.hid (hHeld.1.out.trans' (hF10.mono (fun _ _ h => h.elim))), Fr.cell hF10 hHeld.2⟩ (fun hHeld => ?_)
     clear hK K
     try simp only [Act.put, qS, qS0, qS1, qG, qG0, qG1, qM0, qM1]
     have HG10 := Lib.hid (HG9.out.trans' hF10)
     clear hF10
     iterate 12
      first
      | refine qt (v := undef) rfl (Or.inr ⟨by rfl, rfl⟩) hHeld ?_
        try simp only [Act.put, qS, qS0, qS1, qG, qG0, qG1, qM0, qM1]
      | refine qt (v := ?_) rfl (Or.inl ⟨by rfl, ?_⟩) hHeld ?_
        rotate_left
        ·intro W hSw
         obtain ⟨-, hs0⟩ := hSw
         try simp only [qG, qG0, qG1]
         go_simp
         try rw [if_neg (by omega)]
         try with_reducible rfl
        try simp only [Act.put, qS, qS0, qS1, qG, qG0, qG1, qM0, qM1]
     refine qr (i := 18) (by kernel_rfl) rfl (fun K hK => ?_)
     try simp only [qG, qG0, qG1]
     rw [if_pos (by rfl)]; refine wp_store_mid 164 (.tmp 2) (.tmp 19) (by rfl) p1 0 CS.toArray (by rfl) (by rfl) (HT1V.out _ HG10.out) Hs1.out HC1.out ?_
     refine hK.out _ _ ⟨Lib.hid (hHeld.1.out.trans' (setCells_fr _ _ _ _)), Fr.cell (setCells_fr _ _ _ _) hHeld.2 (fun _ h => by have h2 : p4 = p1 := h; omega)⟩ (fun hHeld => ?_)
     clear hK K
     try simp only [Act.put, qS, qS0, qS1, qG, qG0, qG1, qM0, qM1]
     refine qt (v := ?_) rfl (Or.inl ⟨by rfl, ?_⟩) hHeld ?_
     rotate_left
     ·intro W hSw
      obtain ⟨-, hs0⟩ := hSw
      try simp only [qG, qG0, qG1]
      go_simp
      try rw [if_neg (by omega)]
      try with_reducible rfl
     try simp only [Act.put, qS, qS0, qS1, qG, qG0, qG1, qM0, qM1]
     refine wpAnyH_done (by kernel_rfl) ?_ _
     clear hHeld
     have HRf : Hid (false = R) := Lib.hid (by rw [← HRv.out]; rfl)
     go_wp2_with fail
     refine Hfin.out _ _ HG10.out ?_ ?_
     ·rfl
     ·exact congrArg Value.bool HRf.out
   | true =>
     cases be with
     | true =>
       refine wp_region_held_drew (S := fun V => Hid (Fr (fun k _ => k = p1) w8 V) ∧ V.cell? ⟨p4, 0, none⟩ = some (.string ⟨nm.toArray⟩)) (by kernel_rfl) ⟨Lib.hid Fr.refl.drew, by simpa using HC0.out⟩ (fun hHeld => ?_)
       simp only [qL, qL1, qL0, qR, qR1, qR0]
       refine qi (i := 0) rfl (yieldsIf_load_mid (by rfl) 164 _ rfl p4 0 rfl CS d (fun V h => range_fr HR.out h.1.out hp4 (fun _ h => by have h2 : p4 = p1 := h; omega)) Hu.out Hd.out Hs2.out) hHeld ?_
       try simp only [Act.put, qS, qS0, qS1, qG, qG0, qG1, qM0, qM1]
       refine qt (v := ?_) rfl (Or.inl ⟨by rfl, ?_⟩) hHeld ?_
       rotate_left
       ·intro W hSw
        obtain ⟨-, hs0⟩ := hSw
        try simp only [qG, qG0, qG1]
        go_simp
        try rw [if_neg (by omega)]
        try with_reducible rfl
       try simp only [Act.put, qS, qS0, qS1, qG, qG0, qG1, qM0, qM1]
       refine qr (i := 2) (by kernel_rfl) rfl (fun K hK => ?_)
       try simp only [qG, qG0, qG1]
       go_simp
       refine (Hd2.out _ Fr.refl.drew).mono ?_; rintro r w9 ⟨rfl, hF9⟩
       refine hK.out _ _ ⟨Lib.hid ((Fr.refl.drew).trans' (hF9.mono (fun _ _ h => h.elim))), Fr.cell hF9 (by simpa using HC0.out)⟩ (fun hHeld => ?_)
       clear hK K
       try simp only [Act.put, qS, qS0, qS1, qG, qG0, qG1, qM0, qM1]
       have HG9 := Lib.hid ((Fr.refl (M := NoB) (w := w8)).drew.trans' hF9)
       clear hF9
       iterate 2
        refine qt (v := ?_) rfl (Or.inl ⟨by rfl, ?_⟩) hHeld ?_
        rotate_left
        ·intro W hSw
         obtain ⟨-, hs0⟩ := hSw
         try simp only [qG, qG0, qG1]
         go_simp
         try rw [if_neg (by omega)]
         try with_reducible rfl
        try simp only [Act.put, qS, qS0, qS1, qG, qG0, qG1, qM0, qM1]
       refine qr (i := 5) (by kernel_rfl) rfl (fun K hK => ?_)
       try simp only [qG, qG0, qG1]
       go_simp
       refine (Hd3.out _ HG9.out).mono ?_; rintro r w10 ⟨rfl, hF10⟩
       refine hK.out _ _ ⟨Lib.hid (hHeld.1.out.trans' (hF10.mono (fun _ _ h => h.elim))), Fr.cell hF10 hHeld.2⟩ (fun hHeld => ?_)
       clear hK K
       try simp only [Act.put, qS, qS0, qS1, qG, qG0, qG1, qM0, qM1]
       have HG10 := Lib.hid (HG9.out.trans' hF10)
       clear hF10
       iterate 12
        first
        | refine qt (v := undef) rfl (Or.inr ⟨by rfl, rfl⟩) hHeld ?_
          try simp only [Act.put, qS, qS0, qS1, qG, qG0, qG1, qM0, qM1]
        | refine qt (v := ?_) rfl (Or.inl ⟨by rfl, ?_⟩) hHeld ?_
          rotate_left
          ·intro W hSw
           obtain ⟨-, hs0⟩ := hSw
           try simp only [qG, qG0, qG1]
           go_simp
           try rw [if_neg (by omega)]
           try with_reducible rfl
          try simp only [Act.put, qS, qS0, qS1, qG, qG0, qG1, qM0, qM1]
       refine qr (i := 18) (by kernel_rfl) rfl (fun K hK => ?_)
       try simp only [qG, qG0, qG1]
       rw [if_pos (by rfl)]; refine wp_store_mid 164 (.tmp 2) (.tmp 19) (by rfl) p1 0 CS.toArray (by rfl) (by rfl) (HT1V.out _ HG10.out) Hs1.out HC1.out ?_
       refine hK.out _ _ ⟨Lib.hid (hHeld.1.out.trans' (setCells_fr _ _ _ _)), Fr.cell (setCells_fr _ _ _ _) hHeld.2 (fun _ h => by have h2 : p4 = p1 := h; omega)⟩ (fun hHeld => ?_)
       clear hK K
       try simp only [Act.put, qS, qS0, qS1, qG, qG0, qG1, qM0, qM1]
       refine qt (v := ?_) rfl (Or.inl ⟨by rfl, ?_⟩) hHeld ?_
       rotate_left
       ·intro W hSw
        obtain ⟨-, hs0⟩ := hSw
        try simp only [qG, qG0, qG1]
        go_simp
        try rw [if_neg (by omega)]
        try with_reducible rfl
       try simp only [Act.put, qS, qS0, qS1, qG, qG0, qG1, qM0, qM1]
       refine wpAnyH_done (by kernel_rfl) ?_ _
       clear hHeld
       have HRf : Hid (false = R) := Lib.hid (by rw [← HRv.out]; rfl)
       go_wp2_with fail
       refine Hfin.out _ _ HG10.out ?_ ?_
       ·rfl
       ·exact congrArg Value.bool HRf.out
     | false =>
       refine wp_region_held_drew (S := fun V => Hid (Fr (fun k _ => k = p1) w8 V) ∧ V.cell? ⟨p4, 0, none⟩ = some (.string ⟨nm.toArray⟩)) (by kernel_rfl) ⟨Lib.hid Fr.refl.drew, by simpa using HC0.out⟩ (fun hHeld => ?_)
       simp only [qL, qL1, qL0, qR, qR1, qR0]
       refine qi (i := 0) rfl (yieldsIf_load_mid (by rfl) 164 _ rfl p4 0 rfl CS d (fun V h => range_fr HR.out h.1.out hp4 (fun _ h => by have h2 : p4 = p1 := h; omega)) Hu.out Hd.out Hs2.out) hHeld ?_
       try simp only [Act.put, qS, qS0, qS1, qG, qG0, qG1, qM0, qM1]
       refine qt (v := ?_) rfl (Or.inl ⟨by rfl, ?_⟩) hHeld ?_
       rotate_left
       ·intro W hSw
        obtain ⟨-, hs0⟩ := hSw
        try simp only [qG, qG0, qG1]
        go_simp
        try rw [if_neg (by omega)]
        try with_reducible rfl
       try simp only [Act.put, qS, qS0, qS1, qG, qG0, qG1, qM0, qM1]
       refine qr (i := 2) (by kernel_rfl) rfl (fun K hK => ?_)
       try simp only [qG, qG0, qG1]
       go_simp
       refine (Hd2.out _ Fr.refl.drew).mono ?_; rintro r w9 ⟨rfl, hF9⟩
       refine hK.out _ _ ⟨Lib.hid ((Fr.refl.drew).trans' (hF9.mono (fun _ _ h => h.elim))), Fr.cell hF9 (by simpa using HC0.out)⟩ (fun hHeld => ?_)
       clear hK K
       try simp only [Act.put, qS, qS0, qS1, qG, qG0, qG1, qM0, qM1]
       have HG9 := Lib.hid ((Fr.refl (M := NoB) (w := w8)).drew.trans' hF9)
       clear hF9
       iterate 2
        refine qt (v := ?_) rfl (Or.inl ⟨by rfl, ?_⟩) hHeld ?_
        rotate_left
        ·intro W hSw
         obtain ⟨-, hs0⟩ := hSw
         try simp only [qG, qG0, qG1]
         go_simp
         try rw [if_neg (by omega)]
         try with_reducible rfl
        try simp only [Act.put, qS, qS0, qS1, qG, qG0, qG1, qM0, qM1]
       refine qr (i := 5) (by kernel_rfl) rfl (fun K hK => ?_)
       try simp only [qG, qG0, qG1]
       go_simp
       refine (Hd3.out _ HG9.out).mono ?_; rintro r w10 ⟨rfl, hF10⟩
       refine hK.out _ _ ⟨Lib.hid (hHeld.1.out.trans' (hF10.mono (fun _ _ h => h.elim))), Fr.cell hF10 hHeld.2⟩ (fun hHeld => ?_)
       clear hK K
       try simp only [Act.put, qS, qS0, qS1, qG, qG0, qG1, qM0, qM1]
       have HG10 := Lib.hid (HG9.out.trans' hF10)
       clear hF10
       iterate 12
        refine qt (v := ?_) rfl (Or.inl ⟨by rfl, ?_⟩) hHeld ?_
        rotate_left
        ·intro W hSw
         obtain ⟨-, hs0⟩ := hSw
         try simp only [qG, qG0, qG1]
         go_simp
         try rw [if_neg (by omega)]
         try with_reducible rfl
        try simp only [Act.put, qS, qS0, qS1, qG, qG0, qG1, qM0, qM1]
       refine qr (i := 18) (by kernel_rfl) rfl (fun K hK => ?_)
       try simp only [qG, qG0, qG1]
       rw [if_pos (by rfl)]; refine wp_store_mid 164 (.tmp 2) (.tmp 19) (by rfl) p1 0 CS.toArray (by rfl) (by rfl) (HT1V.out _ HG10.out) Hs1.out HC1.out ?_
       refine hK.out _ _ ⟨Lib.hid (hHeld.1.out.trans' (setCells_fr _ _ _ _)), Fr.cell (setCells_fr _ _ _ _) hHeld.2 (fun _ h => by have h2 : p4 = p1 := h; omega)⟩ (fun hHeld => ?_)
       clear hK K
       try simp only [Act.put, qS, qS0, qS1, qG, qG0, qG1, qM0, qM1]
       refine qt (v := ?_) rfl (Or.inl ⟨by rfl, ?_⟩) hHeld ?_
       rotate_left
       ·intro W hSw
        obtain ⟨-, hs0⟩ := hSw
        try simp only [qG, qG0, qG1]
        go_simp
        try rw [if_neg (by omega)]
        try with_reducible rfl
       try simp only [Act.put, qS, qS0, qS1, qG, qG0, qG1, qM0, qM1]
       refine wpAnyH_done (by kernel_rfl) ?_ _
       clear hHeld
       have HRf : Hid (bl = R) := Lib.hid (by rw [← HRv.out]; rfl)
       go_wp2_with fail
       refine Hfin.out _ _ HG10.out ?_ ?_
       ·rfl
       ·exact congrArg Value.bool HRf.out
end Go.Proofs.YtcddlemkimbkcaaGreatDoor
