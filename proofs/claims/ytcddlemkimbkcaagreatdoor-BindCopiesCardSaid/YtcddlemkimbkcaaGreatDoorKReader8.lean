/-
 The walks of json's reader, further: a list, an object.
-/
import Derived.Test.YtcddlemkimbkcaaGreatDoorKReader7
import Derived.Test.YtcddlemkimbkcaaGreatDoorKSpecSound
namespace Go.Proofs.YtcddlemkimbkcaaGreatDoor
set_option linter.unusedVariables false
set_option linter.unusedSimpArgs false
set_option linter.unusedSectionVars false
open Go.RowKit
attribute [local instance] oldZero

theorem RJ.ofList {S S' : Nat → Prop} {w : World} {B : Nat} {lv : Value} {l : List J} {xs : List Value} (k n : Int) (t : Bs) (ho : w.ownsRow B 220 5 lv l.length xs) (hr : RC S w l xs)
 (hS : ∀ b, S b → S' b) (hS2 : ∀ b, lv.ownBlock = some b → S' b) : RJ S' w (.mk k n t l []) (.agg #[.int .i64 k, .int .i64 n, .string ⟨t.toArray⟩, lv, .slice none 0 0]) := by
 unfold RJ
 obtain ⟨h1, ⟨rfl, h2⟩ | ⟨g, cap, cur, rfl, h2, h3, h4, h5, h6, h7⟩⟩ := ho
 ·refine ⟨none, 0, none, 0, by simp [h2], .inl (List.length_eq_zero_iff.1 h2), .inl rfl⟩
 ·refine ⟨_, _, none, 0, rfl, .inr ⟨g, 0, cur, _, rfl, hS2 g rfl, Blk.of h3, ?_⟩, .inl rfl⟩
  rw [List.drop_zero, Nat.mul_comm, h7]
  exact RC.kp (fun b o hb ho _ => ⟨hS b hb, ho⟩) _ _ hr
theorem RJ.ofPairs {S S' : Nat → Prop} {w : World} {B : Nat} {lv : Value} {l : List (Bs × J)} {xs : List Value} (k n : Int) (t : Bs) (ho : w.ownsRow B 306 6 lv l.length xs) (hr : RP S w l xs)
 (hS : ∀ b, S b → S' b) (hS2 : ∀ b, lv.ownBlock = some b → S' b) : RJ S' w (.mk k n t [] l) (.agg #[.int .i64 k, .int .i64 n, .string ⟨t.toArray⟩, .slice none 0 0, lv]) := by
 unfold RJ
 obtain ⟨h1, ⟨rfl, h2⟩ | ⟨g, cap, cur, rfl, h2, h3, h4, h5, h6, h7⟩⟩ := ho
 ·refine ⟨none, 0, none, 0, by simp [h2], .inl rfl, .inl (List.length_eq_zero_iff.1 h2)⟩
 ·refine ⟨none, 0, _, _, rfl, .inl rfl, .inr ⟨g, 0, cur, _, rfl, hS2 g rfl, Blk.of h3, ?_⟩⟩
  rw [List.drop_zero, Nat.mul_comm, h7]
  exact RP.kp (fun b o hb ho _ => ⟨hS b hb, ho⟩) _ _ hr

theorem alloc3 (w : World) (a b c : Obj) : (((w.alloc a).alloc b).alloc c).heap[w.heap.size]? = some a ∧ (((w.alloc a).alloc b).alloc c).heap[w.heap.size + 1]? = some b ∧ (((w.alloc a).alloc b).alloc c).heap[w.heap.size + 1 + 1]? = some c := by
 have s1 : (w.alloc a).heap.size = w.heap.size + 1 := World.size_alloc _ _
 have s2 : ((w.alloc a).alloc b).heap.size = w.heap.size + 1 + 1 := (World.size_alloc _ _).trans (by rw [s1])
 have e1 := heap_alloc_new w a
 have e2 := heap_alloc_new (w.alloc a) b
 have e3 := heap_alloc_new ((w.alloc a).alloc b) c
 rw [s1] at e2
 rw [s2] at e3
 refine ⟨?_, ?_, e3⟩
 ·rw [Below.heap_alloc _ _ _ (by omega), Below.heap_alloc _ _ _ (by omega)]; exact e1
 ·rw [Below.heap_alloc _ _ _ (by omega)]; exact e2
theorem VB.ml {b r B : Nat} {w w' : World} (h : VB b w) (hF : Fr (ML r B) w w') (hb : b < B) : VB b w' := h.fr hF (fun o ho hm => by
 rcases hm with ⟨rfl, ⟨c, f, h1⟩⟩ | ⟨h1, _⟩
 ·obtain ⟨_, _, h2⟩ := ho
  rw [h2] at h1
  simp at h1
 ·omega)
theorem setV_fr (b : Nat) (v0 v1 v2 v3 v4 : Value) (w : World) : Fr (fun k _ => k = b) w (setV b v0 v1 v2 v3 v4 w) :=
 ((((Fr.refl.setCell _ _ (fun _ _ => rfl)).setCell _ _ (fun _ _ => rfl)).setCell _ _ (fun _ _ => rfl)).setCell _ _ (fun _ _ => rfl)).setCell _ _ (fun _ _ => rfl)
theorem ML_MR {r : Nat} {w W w1 : World} {B : Nat} (h : Fr (MR r) w W) (hF : Fr (ML r B) W w1) (hB : w.heap.size ≤ B) : Fr (MR r) w w1 := h.trans hF (fun k o hm => by
 rcases hm with hm | ⟨hm, _⟩
 ·exact .inl hm
 ·exact .inr (Nat.le_trans hB hm))
theorem list_ok (f : Nat) (hv : ValOk f) (d : Int) (hd0 : 0 ≤ d) (hdf : d + 1 + f = 10) (r q bv : Nat) (hbn : 3 ≤ bv) :
 OneOk 289 #[.pointer (some ⟨q, 0, none⟩), .pointer (some ⟨bv, 0, none⟩)] (sItem (sValue f (d + 1))) (ListInv r q bv) List.length r bv 67108864 d where
 enters := fun args w => by simp [go_sem]
 keeps := fun a w w' h hF => h.fr hF (fun _ _ _ ht => MR_not ht)
 boxes := fun a w o h => h.fr (Fr.refl.alloc (M := NoB) o) (fun _ _ _ _ hm => hm.elim)
 shrinks := fun st a _ => ⟨item_le (value_le f (d + 1)) st a, by simp [sItem]⟩
 does := fun s a w h hd1 hI hg hB hsz => list1_c f hv (d + 1) (by omega) hd1 hdf r q bv bv 67108864 (Nat.le_refl _) (by omega) s a w h hI hg hB hsz

set_option maxRecDepth 100000 in
set_option maxHeartbeats 1000000 in
theorem list_c (f : Nat) (hv : ValOk f) (d : Int) (hd0 : 0 ≤ d) (hd1 : d ≤ 8) (hdf : d + 1 + f = 10) (r : Nat) (s : Bs) (w : World) (h : Rd r s false d w) (hg : Gl w) (hlen : s.length ≤ 67108864) :
 Calls Tryz.prog 262 #[.pointer (some ⟨r, 0, none⟩)] w fun e w' => ∃ v, e = .returned v ∧
  RJ (fun k => w.heap.size ≤ k) w' (.mk 4 0 [] (sEach (sItem (sValue f (d + 1))) 91 93 (d + 1) ⟨s, false⟩ []).2 []) v ∧
  Rd r (sEach (sItem (sValue f (d + 1))) 91 93 (d + 1) ⟨s, false⟩ []).1.s (sEach (sItem (sValue f (d + 1))) 91 93 (d + 1) ⟨s, false⟩ []).1.bad d w' ∧ Fr (MR r) w w' := by
 have hgs := hg.size
 have ok := list_ok f hv d hd0 hdf r w.heap.size (w.heap.size + 2) (by omega)
 have heach := fun W hR hI hg hB => each_c ok 91 93 s false [] W hR hI hg hB (by omega) hd0 (by omega) (by simpa using hlen)
 generalize sEach (sItem (sValue f (d + 1))) 91 93 (d + 1) ⟨s, false⟩ [] = G at *
 obtain ⟨st, l⟩ := G
 simp only at heach ⊢
 have Heach := Lib.hid heach
 clear heach ok
 go_enter Tryz.func262, Tryz.ntmps262
 go_wp2_with fail
 obtain ⟨a1, a2, a3⟩ := alloc3 w (.cells #[.pointer (some ⟨r, 0, none⟩)] 280) (.cells #[.int .i64 0, .int .i64 0, .string ⟨#[]⟩, .slice none 0 0, .slice none 0 0] 220) (.cells #[.int .i64 4, .int .i64 0, .string ⟨#[]⟩, .slice none 0 0, .slice none 0 0] 220)
 refine (Heach.out _ (((h.alloc _).alloc _).alloc _) ⟨a1, by omega, _, [], a3, ⟨rfl, .inl ⟨rfl, rfl⟩⟩, by unfold RC; rfl⟩ (((hg.alloc _).alloc _).alloc _) (by simp)).mono ?_
 rintro e w1 ⟨rfl, hR1, ⟨hq1, _, lv, xs, hb1, hown1, hrc1⟩, hF1⟩
 obtain ⟨la, lc, rfl⟩ := own_form hown1
 have hV0 : VB (w.heap.size + 1) _ := ⟨_, _, _, _, _, a2⟩
 have hV1 := hV0.ml hF1 (by omega)
 obtain ⟨q0, q1, q2, q3, q4, b0, b1, b2, b3, b4, fz, hlt⟩ := hV1.cells
 obtain ⟨n0, n1, n2, n3, n4, nz, nlt⟩ := (⟨by simp [World.cell?, hb1], by simp [World.cell?, hb1], by simp [World.cell?, hb1], by simp [World.cell?, hb1], by simp [World.cell?, hb1], by simp [World.frozen?, hb1], get_lt hb1⟩ : w1.cell? ⟨w.heap.size + 1 + 1, 0, none⟩ = some (.int .i64 4) ∧ w1.cell? ⟨w.heap.size + 1 + 1, 1, none⟩ = some (.int .i64 0) ∧ w1.cell? ⟨w.heap.size + 1 + 1, 2, none⟩ = some (.string ⟨#[]⟩) ∧ w1.cell? ⟨w.heap.size + 1 + 1, 3, none⟩ = some (.slice la l.length lc) ∧ w1.cell? ⟨w.heap.size + 1 + 1, 4, none⟩ = some (.slice none 0 0) ∧ (∀ o, w1.frozen? ⟨w.heap.size + 1 + 1, o, none⟩ = false) ∧ w.heap.size + 2 < w1.heap.size)
 go_wp2_with fail
 refine bodyPost_ret (v := .agg #[.int .i64 4, .int .i64 0, .string ⟨#[]⟩, .slice la l.length lc, .slice none 0 0]) (by simp [results, Tryz.results262, go_sem, b0, b1, b2, b3, b4]) rfl ?_
 have hs1 := hF1.size
 simp only [World.size_alloc] at hs1
 refine ⟨_, rfl, ?_, hR1.setV (by have := h.lt; omega) _ _ _ _ _, (ML_MR (((Fr.refl.alloc _).alloc _).alloc _) hF1 (by omega)).setV (by omega) _ _ _ _ _⟩
 refine RJ.kp (S := fun k => w.heap.size + 2 < k ∨ Value.ownBlock (.slice la l.length lc) = some k) (fun b o hb ho _ => ?_) _ _ (RJ.ofList 4 0 [] hown1 hrc1 (fun b hb => .inl hb.1) (fun b hb => .inr hb))
 have hb2 : w.heap.size + 2 < b := by
  rcases hb with hb | hb
  ·exact hb
  ·exact (own_ty hown1 b hb).1
 exact ⟨by omega, (setV_fr _ _ _ _ _ _ _).block b o ho (by omega)⟩

theorem object_ok (f : Nat) (hv : ValOk f) (d : Int) (hd0 : 0 ≤ d) (hdf : d + 1 + f = 10) (r q mq bv : Nat) (hbn : 3 ≤ bv) :
 OneOk 290 #[.pointer (some ⟨q, 0, none⟩), .pointer (some ⟨mq, 0, none⟩), .pointer (some ⟨bv, 0, none⟩)] (sPair (sValue f (d + 1))) (ObjInv r q mq bv) List.length r bv 67108864 d where
 enters := fun args w => by simp [go_sem]
 keeps := fun a w w' ⟨mb, lv, xs, h⟩ hF => ⟨mb, lv, xs, h.fr hF (fun _ _ ht => MR_not2 ht)⟩
 boxes := fun a w o ⟨mb, lv, xs, h⟩ => ⟨mb, lv, xs, h.fr (Fr.refl.alloc (M := NoB) o) (fun _ _ _ hm => hm.elim)⟩
 shrinks := fun st a _ => ⟨pair_le (value_le f (d + 1)) st a, pair_more st a⟩
 does := fun s a w h hd1 hI hg hB hsz => object1_c f hv (d + 1) (by omega) hd1 hdf r q mq bv bv 67108864 (Nat.le_refl _) (by omega) s a w h hI hg hB hbn hsz

set_option maxRecDepth 100000 in
set_option maxHeartbeats 1000000 in
theorem object_c (f : Nat) (hv : ValOk f) (d : Int) (hd0 : 0 ≤ d) (hd1 : d ≤ 8) (hdf : d + 1 + f = 10) (r : Nat) (s : Bs) (w : World) (h : Rd r s false d w) (hg : Gl w) (hlen : s.length ≤ 67108864) :
 Calls Tryz.prog 263 #[.pointer (some ⟨r, 0, none⟩)] w fun e w' => ∃ v, e = .returned v ∧
  RJ (fun k => w.heap.size ≤ k) w' (.mk 5 0 [] [] (sEach (sPair (sValue f (d + 1))) 123 125 (d + 1) ⟨s, false⟩ []).2) v ∧
  Rd r (sEach (sPair (sValue f (d + 1))) 123 125 (d + 1) ⟨s, false⟩ []).1.s (sEach (sPair (sValue f (d + 1))) 123 125 (d + 1) ⟨s, false⟩ []).1.bad d w' ∧ Fr (MR r) w w' := by
 have hgs := hg.size
 have ok := object_ok f hv d hd0 hdf r w.heap.size (w.heap.size + 1 + 1 + 1 + 1) (w.heap.size + 2) (by omega)
 have heach := fun W hR hI hg hB => each_c ok 123 125 s false [] W hR hI hg hB (by omega) hd0 (by omega) (by simpa using hlen)
 generalize sEach (sPair (sValue f (d + 1))) 123 125 (d + 1) ⟨s, false⟩ [] = G at *
 obtain ⟨st, l⟩ := G
 simp only at heach ⊢
 have Heach := Lib.hid heach
 clear heach ok
 have hmm := @run_makeMap Tryz.prog
 go_enter Tryz.func263, Tryz.ntmps263
 go_wp2_with fail
 obtain ⟨a1, a2, a3⟩ := alloc3 w (.cells #[.pointer (some ⟨r, 0, none⟩)] 280) (.cells #[.int .i64 0, .int .i64 0, .string ⟨#[]⟩, .slice none 0 0, .slice none 0 0] 220) (.cells #[.int .i64 5, .int .i64 0, .string ⟨#[]⟩, .slice none 0 0, .slice none 0 0] 220)
 generalize hW3 : ((w.alloc (.cells #[.pointer (some ⟨r, 0, none⟩)] 280)).alloc (.cells #[.int .i64 0, .int .i64 0, .string ⟨#[]⟩, .slice none 0 0, .slice none 0 0] 220)).alloc (.cells #[.int .i64 5, .int .i64 0, .string ⟨#[]⟩, .slice none 0 0, .slice none 0 0] 220) = W3 at *
 have hs3 : W3.heap.size = w.heap.size + 1 + 1 + 1 := by rw [← hW3]; simp
 have hR3 : Rd r s false d W3 := by rw [← hW3]; exact (((h.alloc _).alloc _).alloc _)
 have hg3 : Gl W3 := by rw [← hW3]; exact (((hg.alloc _).alloc _).alloc _)
 have hF3 : Fr (MR r) w W3 := by rw [← hW3]; exact (((Fr.refl.alloc _).alloc _).alloc _)
 clear hW3
 have hse := Seen.made W3
 have hmn := heap_alloc_new (W3.alloc (.map #[] 0)) (.cells #[.map (some (w.heap.size + 1 + 1 + 1))] 369)
 have hs4 : (W3.alloc (.map #[] 0)).heap.size = w.heap.size + 1 + 1 + 1 + 1 := (World.size_alloc _ _).trans (by rw [hs3])
 rw [hs4] at hmn
 rw [hs3] at hse
 have hF35 : Fr NoB W3 ((W3.alloc (.map #[] 0)).alloc (.cells #[.map (some (w.heap.size + 1 + 1 + 1))] 369)) := (Fr.refl.alloc _).alloc _
 have hF45 : Fr NoB (W3.alloc (.map #[] 0)) ((W3.alloc (.map #[] 0)).alloc (.cells #[.map (some (w.heap.size + 1 + 1 + 1))] 369)) := Fr.refl.alloc _
 have hno : ∀ k o, ¬ NoB k o := fun _ _ h => h
 have hs5 : ((W3.alloc (.map #[] 0)).alloc (.cells #[.map (some (w.heap.size + 1 + 1 + 1))] 369)).heap.size = w.heap.size + 1 + 1 + 1 + 1 + 1 := (World.size_alloc _ _).trans (by rw [hs4])
 refine (Heach.out _ ((hR3.alloc _).alloc _) ⟨w.heap.size + 1 + 1 + 1, _, [], hF35.block _ _ a1 (hno _ _), by omega, by omega, hmn, hse.fr hF45 (fun _ _ => hno _ _), hF35.block _ _ a3 (hno _ _), ⟨rfl, .inl ⟨rfl, rfl⟩⟩, by unfold RP; rfl⟩ ((hg3.alloc _).alloc _) (by rw [hs5]; omega)).mono ?_
 rintro e w1 ⟨rfl, hR1, ⟨mb1, lv, xs, hq1, _, _, _, _, hb1, hown1, hrc1⟩, hF1⟩
 obtain ⟨la, lc, rfl⟩ := own_form hown1
 have hV0 : VB (w.heap.size + 1) _ := ⟨_, _, _, _, _, hF35.block _ _ a2 (hno _ _)⟩
 have hV1 := hV0.ml hF1 (by omega)
 have hs1 := hF1.size
 rw [hs5] at hs1
 obtain ⟨q0, q1, q2, q3, q4, b0, b1, b2, b3, b4, fz, hlt⟩ := hV1.cells
 obtain ⟨n0, n1, n2, n3, n4, nz, nlt⟩ := (⟨by simp [World.cell?, hb1], by simp [World.cell?, hb1], by simp [World.cell?, hb1], by simp [World.cell?, hb1], by simp [World.cell?, hb1], by simp [World.frozen?, hb1], get_lt hb1⟩ : w1.cell? ⟨w.heap.size + 1 + 1, 0, none⟩ = some (.int .i64 5) ∧ w1.cell? ⟨w.heap.size + 1 + 1, 1, none⟩ = some (.int .i64 0) ∧ w1.cell? ⟨w.heap.size + 1 + 1, 2, none⟩ = some (.string ⟨#[]⟩) ∧ w1.cell? ⟨w.heap.size + 1 + 1, 3, none⟩ = some (.slice none 0 0) ∧ w1.cell? ⟨w.heap.size + 1 + 1, 4, none⟩ = some (.slice la l.length lc) ∧ (∀ o, w1.frozen? ⟨w.heap.size + 1 + 1, o, none⟩ = false) ∧ w.heap.size + 2 < w1.heap.size)
 go_wp2_with fail
 refine bodyPost_ret (v := .agg #[.int .i64 5, .int .i64 0, .string ⟨#[]⟩, .slice none 0 0, .slice la l.length lc]) (by simp [results, Tryz.results263, go_sem, b0, b1, b2, b3, b4]) rfl ?_
 refine ⟨_, rfl, ?_, hR1.setV (by have := h.lt; omega) _ _ _ _ _, (ML_MR ((hF3.alloc _).alloc _) hF1 (by omega)).setV (by omega) _ _ _ _ _⟩
 refine RJ.kp (S := fun k => w.heap.size + 2 < k ∨ Value.ownBlock (.slice la l.length lc) = some k) (fun b o hb ho _ => ?_) _ _ (RJ.ofPairs 5 0 [] hown1 hrc1 (fun b hb => .inl hb.1) (fun b hb => .inr hb))
 have hb2 : w.heap.size + 2 < b := by
  rcases hb with hb | hb
  ·exact hb
  ·exact (own_ty hown1 b hb).1
 exact ⟨by omega, (setV_fr _ _ _ _ _ _ _).block b o ho (by omega)⟩
end Go.Proofs.YtcddlemkimbkcaaGreatDoor
