/-
 The walk of entry.Subjects.
-/
import Derived.Test.YtcddlemkimbkcaaGreatDoorKSubject
import Derived.Test.YtcddlemkimbkcaaGreatDoorKParsedF
import Derived.Test.YtcddlemkimbkcaaGreatDoorKOwnE
import Derived.Test.YtcddlemkimbkcaaGreatDoorKTable2
import Derived.Maps.AppendAt
import Derived.OwnWalk
namespace Go.Proofs.YtcddlemkimbkcaaGreatDoor
set_option linter.unusedVariables false
set_option linter.unusedSimpArgs false
set_option linter.unusedSectionVars false
open Go.RowKit
variable [OldK]
theorem Tryz.infoSub : (Tryz.prog.info? 164).map (fun i => (i.zero, i.size, i.bytes)) = some (some (.agg #[.string ⟨#[]⟩, .int .u8 0, .int .u8 0, .int .u8 0, .int .u8 0, .int .u8 0, .int .u8 0, .int .u8 0, .int .u8 0, .int .u8 0, .int .u8 0, .int .u8 0, .int .u8 0, .int .u8 0, .int .u8 0, .int .u8 0, .int .u8 0, .int .u8 0, .int .u8 0, .int .u8 0, .int .u8 0, .int .u8 0, .int .u8 0, .int .u8 0, .int .u8 0, .int .u8 0, .int .u8 0, .int .u8 0, .int .u8 0, .int .u8 0, .int .u8 0, .int .u8 0, .int .u8 0]), 33, 48) := by kernel_rfl
/-- a text that is parsed is not too big a value -/
theorem parse_fits {s : Bs} (hs : s.length ≤ 4096) : Fits (pParse s).1 := by
 unfold pParse
 rw [if_neg (by omega)]
 cases h : sParse s with
 | none => exact Fits.zero
 | some j =>
   obtain ⟨h1, h2⟩ := parse_good h
   have h3 := sound_ints j 0 h1
   exact ⟨fits_wt j h3 (by omega), fits_wt j h3 (by omega)⟩
/-- the subjects' cells, one behind the other -/
def subRows (l : List J) : List Value := l.flatMap fun x => subCells (pSubject x).1 (pSubject x).2.1
theorem pSubject_len (j : J) : (pSubject j).2.1.length = 32 := fSum_len _ _
def anyBad (l : List J) : Bool := l.any fun x => !(pSubject x).2.2
theorem subCells_mem (nm D : Bs) : ∀ u ∈ subCells nm D, u.oneCell' = true := by
 intro v hv
 unfold subCells at hv
 rcases List.mem_cons.1 hv with rfl | hv
 ·rfl
 ·exact cells_one _ _ hv
theorem lit_cells (w : World) (cs : List Value) (T : TypeId) : ∀ (j : Nat) (u : Value), cs[j]? = some u → (w.alloc (.cells cs.toArray T)).cell? ((⟨w.heap.size, 0, none⟩ : Addr).add j) = some u := by
 intro j u hj
 rw [Addr.add_lit, Nat.zero_add]
 have h := heap_alloc_new w (.cells cs.toArray T)
 simp only [World.cell?]
 rw [h]
 simpa using hj
theorem anyBad_take {l : List J} {i : Nat} {x : J} (h : l[i]? = some x) : anyBad (l.take (i + 1)) = (anyBad (l.take i) || !(pSubject x).2.2) := by
 unfold anyBad
 rw [List.take_add_one, h]
 simp
theorem subRows_take {l : List J} {i : Nat} {x : J} (h : l[i]? = some x) : subRows (l.take (i + 1)) = subRows (l.take i) ++ subCells (pSubject x).1 (pSubject x).2.1 := by
 unfold subRows
 rw [List.take_add_one, h]
 simp
theorem ownsRow_base {base base' e size n : Nat} {v : Value} {xs : List Value} {w : World} (h : w.ownsRow base e size v n xs) (hb : base' ≤ base) : w.ownsRow base' e size v n xs :=
 ⟨h.1, h.2.imp id fun ⟨g, cap, cur, h1, h2, h3⟩ => ⟨g, cap, cur, h1, Nat.le_trans hb h2, h3⟩⟩
theorem ownsRow_le {base e size n : Nat} {v : Value} {xs : List Value} {w : World} (h : w.ownsRow base e size v n xs) {k : Nat} (hk : some k = v.ownBlock) : base ≤ k := by
 rcases h.2 with ⟨rfl, -⟩ | ⟨g, cap, cur, rfl, h2, -⟩
 ·cases hk
 ·cases hk
  exact h2
theorem sub_row_fr {b base n : Nat} {v : Value} {xs : List Value} {w w' : World} (h : w.ownsRow base 164 33 v n xs) (hF : Fr (MFd b) w w') : w'.ownsRow base 164 33 v n xs := by
 refine ⟨h.1, h.2.imp id ?_⟩
 rintro ⟨g, cap, cur, h1, h2, h3, h4⟩
 refine ⟨g, cap, cur, h1, h2, hF.block _ _ h3 ?_, h4⟩
 rintro ⟨-, c, f, h⟩
 injection h with _ h _
 revert h; decide
/-- the list of subjects grew: the fields stay -/
theorem FB.grown {S : Nat → Prop} {b base n : Nat} {f : Fd} {v : Value} {xs : List Value} {w w' : World} (h : FB S b f w) (hg : w.grownBy w' v.ownBlock) (ho : w.ownsRow base 164 33 v n xs) (hb : b < base) (hO : OldK.k ≤ base) : FB S b f w' := by
 obtain ⟨h0, a1, n1, a2, n2, h1, h2⟩ := h
 have hF := Fr.ofGrown hg
 refine ⟨h0, a1, n1, a2, n2, hF.block _ _ h1 (fun h => by have := ownsRow_le ho h; omega), RJ.kp (Kp.fr hF (fun _ h _ => h) (fun k o _ hk ht hm => ?_)) _ _ h2⟩
 have hle := ownsRow_le ho hm
 rcases ho.2 with ⟨rfl, -⟩ | ⟨g, cap, cur, rfl, h2, h3, -⟩
 ·cases hm
 ·cases hm
  obtain rfl := Option.some.inj (hk.symm.trans h3)
  rcases ht with ⟨c', f', h⟩ | ⟨c', f', h⟩ | h
  ·injection h with _ h _; revert h; decide
  ·injection h with _ h _; revert h; decide
  ·omega
theorem errV_neq (n : Nat) (W : World) : (binOp .neq 46 (errV n) .nilIface).run Tryz.prog W = .ok (.bool (decide (n ≠ 0))) W := by
 unfold errV
 by_cases h : n = 0
 ·subst h
  simp [go_sem]
 ·rw [if_neg h]
  simp [go_sem, h]
theorem errV_guard (n : Nat) (x : Tmp) (W : World) : (eqGuard .neq 46 (.tmp x) (.const .nilIface) (errV n) .nilIface).run Tryz.prog W = .ok () W := by
 unfold errV
 by_cases h : n = 0
 ·subst h
  simp [go_sem, eqGuard]
 ·rw [if_neg h]
  simp [go_sem, eqGuard]
theorem seen_next {f : Fd} {nm : Bs} {k : Int} {N : Int} {j : J} (h : f.j = j ∧ 0 ≤ f.seen ∧ f.seen ≤ N) : (fGet f nm k).2.j = j ∧ 0 ≤ (fGet f nm k).2.seen ∧ (fGet f nm k).2.seen ≤ N + 1 := by
 obtain ⟨h1, h2⟩ := fGet_seen f nm k
 refine ⟨h1.trans h.1, ?_⟩
 rcases h2 with h2 | h2 <;> rw [h2] <;> omega
set_option maxRecDepth 100000 in
set_option maxHeartbeats 4000000 in
theorem subjects_c (S : Nat → Prop) (s : Bs) (pv : Value) (w : World) (hb : SB S s pv w) (hg : Gl w) (hk : OldK.k ≤ w.heap.size) (hlen : s.length ≤ 1000000) :
 Calls Tryz.prog 94 #[pv] w fun e w' => (match pSubjects s with
  | none => e = .returned (.tuple #[.slice none 0 0, .iface 56 (.int .i64 11)])
  | some l => ∃ v, e = .returned (.tuple #[v, .nilIface]) ∧ w'.ownsRow w.heap.size 164 33 v l.length (l.flatMap fun x => subCells x.1 x.2)) ∧ Fr NoB w w' := by
 obtain ⟨a1, c1, hpv⟩ := hb.form
 obtain ⟨R, hR⟩ : ∃ R, pSubjects s = R := ⟨_, rfl⟩
 rw [hR]
 unfold pSubjects at hR
 by_cases h20 : 2048 < s.length
 ·rw [if_pos h20] at hR
  subst hR
  subst hpv
  have hl : decide ((2048 : Int) < (s.length : Int)) = true := decide_eq_true (by omega)
  clear hb
  go_enter Tryz.func94, Tryz.ntmps94
  go_wp2_with fail
  go_ret2
  exact ⟨rfl, Fr.refl⟩
 ·rw [if_neg h20] at hR
  have hl : decide ((2048 : Int) < (s.length : Int)) = false := decide_eq_false (by omega)
  have hpc := parse_c S s pv w hb hg (by unfold maxLen; omega)
  have hfit := parse_fits (s := s) (by omega)
  obtain ⟨j, hj⟩ : ∃ j, (pParse s).1 = j := ⟨_, rfl⟩
  obtain ⟨n, hn⟩ : ∃ n, (pParse s).2 = n := ⟨_, rfl⟩
  rw [hj, hn] at hpc
  rw [hj] at hfit
  simp only [hj, hn] at hR
  clear hj hn hb
  have HR := Lib.hid hR
  clear hR
  subst hpv
  have Hpc := Lib.hid hpc
  have Hfit := Lib.hid hfit
  clear hpc hfit
  obtain ⟨i0, hi, hz0, hz1, hz2⟩ := info_parts Tryz.infoSub
  have hent : True := trivial
  go_enter Tryz.func94, Tryz.ntmps94
  go_wp2_with fail
  refine Hpc.out.mono ?_
  rintro e w1 ⟨x, rfl, hx, hF1⟩
  obtain ⟨kk, jn, jt, jl, jp⟩ := j
  obtain ⟨b1, d1, b2, d2, rfl, -, -⟩ := hx.open
  have hA := heap_alloc_new w1 (.cells #[.int .i64 kk, .int .i64 jn, .string ⟨jt.toArray⟩, .slice b1 jl.length d1, .slice b2 jp.length d2] 220)
  obtain ⟨w2, hw2⟩ : ∃ W, w1.alloc (.cells #[.int .i64 kk, .int .i64 jn, .string ⟨jt.toArray⟩, .slice b1 jl.length d1, .slice b2 jp.length d2] 220) = W := ⟨_, rfl⟩
  have hF2 : Fr NoB w1 w2 := by rw [← hw2]; exact Fr.refl.alloc _
  rw [hw2] at hA
  have hRJ := RJ.kp (Kp.ofFr hF2) _ _ hx
  have hne := fun W => And.intro (errV_neq n W) (errV_guard n 22 W)
  obtain ⟨E, hE⟩ : ∃ E, errV n = E := ⟨_, rfl⟩
  obtain ⟨b0, hb0⟩ : ∃ b, decide (n ≠ 0) = b := ⟨_, rfl⟩
  rw [hE, hb0] at hne
  rw [hE]
  have Hb0 := Lib.hid hb0
  clear hb0
  have HF12 := Lib.hid (hF1.trans' hF2)
  have HRJ := Lib.hid hRJ
  have Hne := Lib.hid hne
  have hsz2 : w1.heap.size < w2.heap.size := get_lt hA
  have HA := Lib.hid hA
  clear hx hF1 hF2 hRJ hA hE hne
  go_upto_region 4 with (fail)
  change Code.wp _ _ _ _ w2
  clear hw2
  obtain ⟨p1, hp1⟩ : ∃ p, w1.heap.size = p := ⟨_, rfl⟩
  rw [hp1] at HA hsz2
  rw [hp1]
  clear hp1
  refine wp_region_held_drew (S := fun V => Hid (Fr NoB w2 V)) (by kernel_rfl) (Lib.hid Fr.refl.drew) (fun hHeld => ?_)
  simp only [qL, qL1, qL0, qR, qR1, qR0]
  iterate 4
   refine qt (v := ?_) rfl (Or.inl ⟨by rfl, ?_⟩) hHeld ?_
   rotate_left
   ·intro W hSw
    have hbk := hSw.out.block _ _ HA.out (fun h => h); obtain ⟨q0, q1, q2, q3, q4, -, -⟩ := VB.at hbk; obtain ⟨hne1, hne2⟩ := Hne.out W
    try simp only [qG, qG0, qG1]
    go_simp
    try rw [if_neg (by omega)]
    try with_reducible rfl
   try simp only [Act.put, qS, qS0, qS1, qG, qG0, qG1, qM0, qM1]
  refine qr (i := 4) (by kernel_rfl) rfl (fun K hK => ?_)
  try simp only [qG, qG0, qG1]
  go_simp
  skip
  refine hK.out _ _ (Lib.hid (hHeld.out.alloc _)) (fun hHeld => ?_)
  clear hK K
  try simp only [Act.put, qS, qS0, qS1, qG, qG0, qG1, qM0, qM1]
  refine qt (v := ?_) rfl (Or.inl ⟨by rfl, ?_⟩) hHeld ?_
  rotate_left
  ·intro W hSw
   have hbk := hSw.out.block _ _ HA.out (fun h => h); obtain ⟨q0, q1, q2, q3, q4, -, -⟩ := VB.at hbk; obtain ⟨hne1, hne2⟩ := Hne.out W
   try simp only [qG, qG0, qG1]
   go_simp
   try rw [if_neg (by omega)]
   try with_reducible rfl
  try simp only [Act.put, qS, qS0, qS1, qG, qG0, qG1, qM0, qM1]
  refine wpAnyH_done (by kernel_rfl) ?_ _
  clear hHeld
  have hA3 := heap_alloc_new w2 (.cells #[.int .i64 kk, .int .i64 jn, .string ⟨jt.toArray⟩, .slice b1 jl.length d1, .slice b2 jp.length d2, .int .i64 0, .bool b0] 225)
  have hF3 : Fr NoB w2 ((w2.alloc (.cells #[.int .i64 kk, .int .i64 jn, .string ⟨jt.toArray⟩, .slice b1 jl.length d1, .slice b2 jp.length d2, .int .i64 0, .bool b0] 225)).drew) := (Fr.refl.alloc _).drew
  obtain ⟨w3, hw3⟩ : ∃ W, (w2.alloc (.cells #[.int .i64 kk, .int .i64 jn, .string ⟨jt.toArray⟩, .slice b1 jl.length d1, .slice b2 jp.length d2, .int .i64 0, .bool b0] 225)).drew = W := ⟨_, rfl⟩
  have hA3' : w3.heap[w2.heap.size]? = some (.cells #[.int .i64 kk, .int .i64 jn, .string ⟨jt.toArray⟩, .slice b1 jl.length d1, .slice b2 jp.length d2, .int .i64 0, .bool b0] 225 (0, 0)) := by rw [← hw3]; exact hA3
  rw [hw3] at hF3 ⊢
  have hwp : w.heap.size ≤ w2.heap.size := HF12.out.size
  have hfb : FB (fun k => w.heap.size ≤ k) w2.heap.size ⟨.mk kk jn jt jl jp, 0, b0⟩ w3 := ⟨by omega, b1, d1, b2, d2, hA3', RJ.kp (Kp.ofFr hF3) _ _ HRJ.out⟩
  have HF3 := Lib.hid (HF12.out.trans' hF3)
  obtain ⟨fb, hfbe⟩ : ∃ p, w2.heap.size = p := ⟨_, rfl⟩
  rw [hfbe] at hfb hwp
  rw [hfbe]
  clear hF3 hA3 hA3' hw3 HF12 HRJ Hne HA hsz2 hfbe
  have ht := ftext_c _ fb _ sType w3 hfb Hfit.out ⟨Int.le_refl 0, show (0 : Int) ≤ 1000 by decide⟩
  have hsn := fGet_seen ⟨.mk kk jn jt jl jp, 0, b0⟩ sType 3
  have hsl := (Fits.get (f := ⟨.mk kk jn jt jl jp, 0, b0⟩) (nm := sType) (k := 3) Hfit.out).1.text
  have hR := HR.out
  have hb0 := Hb0.out
  simp only [hb0] at hR
  unfold pSubj0 at hR
  obtain ⟨t1, ht1⟩ : ∃ x, (fText ⟨.mk kk jn jt jl jp, 0, b0⟩ sType).1 = x := ⟨_, rfl⟩
  obtain ⟨f1, hf1⟩ : ∃ x, (fText ⟨.mk kk jn jt jl jp, 0, b0⟩ sType).2 = x := ⟨_, rfl⟩
  have hf1s : f1.j = .mk kk jn jt jl jp ∧ 0 ≤ f1.seen ∧ f1.seen ≤ 1 := by
   rw [← hf1]
   obtain ⟨h1, h2⟩ := hsn
   refine ⟨h1, ?_⟩
   rcases h2 with h2 | h2
   ·show 0 ≤ (fGet _ _ _).2.seen ∧ (fGet _ _ _).2.seen ≤ 1
    rw [h2]; exact ⟨Int.le_refl 0, show (0 : Int) ≤ 1 by decide⟩
   ·show 0 ≤ (fGet _ _ _).2.seen ∧ (fGet _ _ _).2.seen ≤ 1
    rw [h2]; exact ⟨show (0 : Int) ≤ 0 + 1 by decide, show (0 : Int) + 1 ≤ 1 by decide⟩
  rw [ht1, hf1] at ht
  simp only [ht1, hf1] at hR
  clear HR
  have HR := Lib.hid hR
  have Ht := Lib.hid ht
  clear ht hsn hsl hR ht1 hf1 hfb hb0
  obtain ⟨bs, hbs⟩ : ∃ b, (t1 == sStatement) = b := ⟨_, rfl⟩
  cases bs with
  | true =>
    have hts : t1 = sStatement := by simpa using hbs
    have hR := HR.out
    simp only [if_pos hts] at hR
    have ht2 := fun V h => ftext_c (fun k => w.heap.size ≤ k) fb f1 sPredType V h (by rw [hf1s.1]; exact Hfit.out) ⟨hf1s.2.1, by omega⟩
    have htl := (Fits.get (f := f1) (nm := sPredType) (k := 3) (by rw [hf1s.1]; exact Hfit.out)).1.text
    have hfs := seen_next (nm := sPredType) (k := 3) hf1s
    obtain ⟨t2, hte⟩ : ∃ x, (fText f1 sPredType).1 = x := ⟨_, rfl⟩
    obtain ⟨g2, hge⟩ : ∃ x, (fText f1 sPredType).2 = x := ⟨_, rfl⟩
    have htl2 : t2.length ≤ 1000000 := by rw [← hte]; exact htl
    have hgs : g2.j = .mk kk jn jt jl jp ∧ 0 ≤ g2.seen ∧ g2.seen ≤ 2 := by rw [← hge]; exact ⟨hfs.1, hfs.2.1, by have := hfs.2.2; show (fGet _ _ _).2.seen ≤ 2; omega⟩
    rw [hte, hge] at hR
    simp only [hte, hge] at ht2
    have hty := fun V => typed_c t2 V (by omega)
    obtain ⟨bt, hbt⟩ : ∃ x, pTyped t2 = x := ⟨_, rfl⟩
    rw [hbt] at hR
    simp only [hbt] at hty
    have Ht2 := Lib.hid ht2
    have Hty := Lib.hid hty
    have HR2 := Lib.hid hR
    have Hgs := Lib.hid hgs
    subst hts
    clear ht2 htl hfs hte hge htl2 hgs hty hbt hR HR hf1s hbs
    cases bt with
    | true =>
      obtain ⟨f2, hf2⟩ : ∃ f2 : Fd, f2 = g2 := ⟨_, rfl⟩
      have hR := HR2.out
      simp only [if_true] at hR
      rw [← hf2] at hR
      have HRF := Lib.hid hR
      clear hR HR2
      go_wp2_with fail
      refine Ht.out.mono ?_
      rintro e w4 ⟨rfl, hfb4, hF4⟩
      have Ht24 := Lib.hid (Ht2.out w4 hfb4)
      have HF4 := Lib.hid hF4
      clear hfb4 hF4 Ht Ht2
      go_wp2_with fail
      refine Ht24.out.mono ?_
      rintro e w5 ⟨rfl, hfb5, hF5⟩
      have HF5 := Lib.hid (HF4.out.trans' hF5)
      have Hfb5 := Lib.hid hfb5
      clear hfb5 hF5 Ht24 HF4
      go_wp2_with fail
      refine (Hty.out _).mono ?_
      rintro e W ⟨rfl, hF6⟩
      have hFB := Hfb5.out.fr hF6
      have hFW : Fr NoB w W := (HF3.out.trans HF5.out (fun k _ hm => .inr (by have := hm.1; omega))).trans' hF6
      have hf2s : f2.j = .mk kk jn jt jl jp ∧ 0 ≤ f2.seen ∧ f2.seen ≤ 2 := by rw [hf2]; exact Hgs.out
      rw [← hf2] at hFB
      clear hF6 hf2 HF3 HF5 Hgs Hfb5 Hty
      go_upto_region 7 with (fail)
      change Code.wp _ _ _ _ W
      have hg5 := fget_c _ fb f2 sPredicate 5 W hFB (by rw [hf2s.1]; exact Hfit.out.1) ⟨hf2s.2.1, by omega⟩
      have hf3s := seen_next (nm := sPredicate) (k := 5) hf2s
      obtain ⟨f3, hf3⟩ : ∃ x, (fGet f2 sPredicate 5).2 = x := ⟨_, rfl⟩
      rw [hf3] at hg5 hf3s
      have hRx := HRF.out
      simp only [hf3] at hRx
      have hfit4 := (Fits.get (f := f3) (nm := sSubject) (k := 4) (by rw [hf3s.1]; exact Hfit.out)).1
      have hg6 := fun V (h : FB (fun k => w.heap.size ≤ k) fb f3 V) => fget_c _ fb f3 sSubject 4 V h (by rw [hf3s.1]; exact Hfit.out.1) ⟨hf3s.2.1, by omega⟩
      obtain ⟨G, hG⟩ : ∃ x, (fGet f3 sSubject 4).1 = x := ⟨_, rfl⟩
      obtain ⟨f4, hf4⟩ : ∃ x, (fGet f3 sSubject 4).2 = x := ⟨_, rfl⟩
      rw [hG] at hfit4
      simp only [hG, hf4] at hg6 hRx
      obtain ⟨gk, gn, gt, gl, gq⟩ := G
      have HRx := Lib.hid hRx
      have Hg5 := Lib.hid hg5
      have Hg6 := Lib.hid hg6
      have Hfit4 := Lib.hid hfit4
      have HFW := Lib.hid hFW
      clear hg5 hg6 hRx HRF hf3 hG hf4 hFB hfit4 hFW hf3s hf2s
      go_wp2_with fail
      refine Hg5.out.mono ?_
      rintro e w5 ⟨x5, rfl, -, hfb5, hF5⟩
      have HF5 := Lib.hid (HFW.out.trans hF5 (fun k _ hm => .inr (by have := hm.1; omega)))
      have Hg65 := Lib.hid (Hg6.out w5 hfb5)
      clear hfb5 hF5 Hg6 Hg5 HFW
      go_wp2_with fail
      refine Hg65.out.mono ?_
      rintro e w6 ⟨x6, rfl, hx6, hfb6, hF6⟩
      obtain ⟨u1, e1, u2, e2, rfl, hrow, -⟩ := hx6.open
      have hfd : ∀ V : World, (Instr.field 220 (.agg #[.int .i64 gk, .int .i64 gn, .string ⟨gt.toArray⟩, .slice u1 gl.length e1, .slice u2 gq.length e2]) 3).run Tryz.prog V = .ok (.slice u1 gl.length e1) V := fun _ => by kernel_rfl
      have HF6 := Lib.hid (HF5.out.trans hF6 (fun k _ hm => .inr (by have := hm.1; omega)))
      have Hrow := Lib.hid hrow
      have Hfb6 := Lib.hid hfb6
      have hfbk : fb < w6.heap.size := by obtain ⟨-, y1, y2, y3, y4, h5, -⟩ := hfb6; exact get_lt h5
      have hgl : gl.length ≤ 67108864 := (fits.open Hfit4.out.1).2.1
      clear hx6 hfb6 hF6 hrow Hg65 HF5
      go_wp2_with fail
      go_loopg [7, 44] (gl.length + 1) (fun g v7 vi wr => ∃ (i : Nat) (ao : Option Addr) (co : Nat), vi = .int .i64 i ∧ v7 = .slice ao i co ∧ i ≤ gl.length ∧ i + g = gl.length + 1 ∧ Hid (wr.ownsRow w6.heap.size 164 33 (.slice ao i co) i (subRows (gl.take i))) ∧ Hid (FB (fun k => w.heap.size ≤ k) fb { f4 with bad := f4.bad || anyBad (gl.take i) } wr) ∧ Hid (Fr (MFd fb) w6 wr))
      case atStart => exact ⟨0, none, 0, rfl, rfl, by omega, by omega, Lib.hid ⟨rfl, .inl ⟨rfl, rfl⟩⟩, Lib.hid (by simpa [anyBad] using Hfb6.out), Lib.hid Fr.refl⟩
      case round =>
       obtain ⟨i, ao, co, rfl, rfl, hile, hgk, Hown, HFBr, HFr⟩ := hrel
       rcases Nat.lt_or_ge i gl.length with hlt | hge
       ·obtain ⟨jx, hjx⟩ : ∃ x, gl[i]? = some x := ⟨_, List.getElem?_eq_getElem hlt⟩
        have hfbO : OldK.k ≤ fb := by omega
        obtain ⟨rb, ro, x0, x1, x2, x3, x4, rfl, hbl, r0, r1, r2, r3, r4, hrj⟩ := (Hrow.out.kp (Kp.fr HFr.out (fun _ h _ => h) (fun k o _ _ ht hm => mfd_not hfbO k o hm ht))).at hjx
        have hft := Hfit4.out.at (j := .mk gk gn gt gl gq) hjx
        have hB := anyBad_take hjx
        have hS := subRows_take hjx
        have hD32 := pSubject_len jx
        obtain ⟨jk, jn', jt', jl', jp'⟩ := jx
        obtain ⟨s1, m1, s2, m2, hval, -, -⟩ := hrj.open
        obtain ⟨rfl, rfl, rfl, rfl, rfl⟩ : x0 = .int .i64 jk ∧ x1 = .int .i64 jn' ∧ x2 = .string ⟨jt'.toArray⟩ ∧ x3 = .slice s1 jl'.length m1 ∧ x4 = .slice s2 jp'.length m2 := by simpa using hval
        have hFx : Fr NoB wr (wr.alloc (.cells #[.int .i64 jk, .int .i64 jn', .string ⟨jt'.toArray⟩, .slice s1 jl'.length m1, .slice s2 jp'.length m2] 220)) := Fr.refl.alloc _
        obtain ⟨g0, g1, g2, g3, g4, gz, glt⟩ := VB.at (heap_alloc_new wr (.cells #[.int .i64 jk, .int .i64 jn', .string ⟨jt'.toArray⟩, .slice s1 jl'.length m1, .slice s2 jp'.length m2] 220))
        have hwr : w6.heap.size ≤ wr.heap.size := HFr.out.size
        have hsub := subject_c _ _ _ _ (RJ.kp (Kp.ofFr hFx) _ _ hrj) hft (Nat.le_trans (Nat.le_trans hfbO (by omega : fb ≤ wr.heap.size)) hFx.size)
        obtain ⟨P, hP⟩ : ∃ P, pSubject (.mk jk jn' jt' jl' jp') = P := ⟨_, rfl⟩
        rw [hP] at hsub hB hS hD32
        obtain ⟨nm, D, ok⟩ := P
        simp only at hsub hB hS hD32
        have HB := Lib.hid hB
        have HS := Lib.hid hS
        have Hsub := Lib.hid hsub
        have HFx := Lib.hid hFx
        have Hbuilt := Lib.hid (built_subs nm D hD32)
        have HCl := Lib.hid (subCells_len (nm := nm) hD32)
        have HC1 := Lib.hid (subCells_one nm D)
        have HCm := Lib.hid (subCells_mem nm D)
        obtain ⟨CS, hCS⟩ : ∃ x, subCells nm D = x := ⟨_, rfl⟩
        rw [hCS] at Hsub HS Hbuilt HCl HC1 HCm
        clear hB hS hsub hFx hft hrj hval hP hCS hD32 gz glt
        go_wp2_with fail
        refine Hsub.out.mono ?_
        rintro e w7 ⟨rfl, hF7⟩
        have hN := heap_alloc_new w7 (.cells #[.string ⟨#[]⟩, .int .u8 0, .int .u8 0, .int .u8 0, .int .u8 0, .int .u8 0, .int .u8 0, .int .u8 0, .int .u8 0, .int .u8 0, .int .u8 0, .int .u8 0, .int .u8 0, .int .u8 0, .int .u8 0, .int .u8 0, .int .u8 0, .int .u8 0, .int .u8 0, .int .u8 0, .int .u8 0, .int .u8 0, .int .u8 0, .int .u8 0, .int .u8 0, .int .u8 0, .int .u8 0, .int .u8 0, .int .u8 0, .int .u8 0, .int .u8 0, .int .u8 0, .int .u8 0] 164)
        have HT4 := Lib.hid (there_block hN (n := CS.toArray.size) (by rw [List.size_toArray, HCl.out]; show 33 ≤ 33; omega))
        have hF8 : Fr NoB w7 ((w7.alloc (.cells #[.string ⟨#[]⟩, .int .u8 0, .int .u8 0, .int .u8 0, .int .u8 0, .int .u8 0, .int .u8 0, .int .u8 0, .int .u8 0, .int .u8 0, .int .u8 0, .int .u8 0, .int .u8 0, .int .u8 0, .int .u8 0, .int .u8 0, .int .u8 0, .int .u8 0, .int .u8 0, .int .u8 0, .int .u8 0, .int .u8 0, .int .u8 0, .int .u8 0, .int .u8 0, .int .u8 0, .int .u8 0, .int .u8 0, .int .u8 0, .int .u8 0, .int .u8 0, .int .u8 0, .int .u8 0] 164)).setCells w7.heap.size 0 CS) := ((Fr.refl (M := NoB)).alloc _).trans (setCells_fr _ _ _ _) (fun k _ hm => .inr (by omega))
        have hR8 := World.rangeAt_setCells_same (w7.alloc (.cells #[.string ⟨#[]⟩, .int .u8 0, .int .u8 0, .int .u8 0, .int .u8 0, .int .u8 0, .int .u8 0, .int .u8 0, .int .u8 0, .int .u8 0, .int .u8 0, .int .u8 0, .int .u8 0, .int .u8 0, .int .u8 0, .int .u8 0, .int .u8 0, .int .u8 0, .int .u8 0, .int .u8 0, .int .u8 0, .int .u8 0, .int .u8 0, .int .u8 0, .int .u8 0, .int .u8 0, .int .u8 0, .int .u8 0, .int .u8 0, .int .u8 0, .int .u8 0, .int .u8 0, .int .u8 0] 164)) w7.heap.size 0 CS (by simpa using HT4.out)
        have Hs1 : Hid ((Tryz.prog.info? 164).map (·.size) = some CS.toArray.size) := Lib.hid (by rw [Tryz.sizeSub, List.size_toArray, HCl.out])
        have Hs2 : Hid ((Tryz.prog.info? 164).map (·.size) = some CS.length) := Lib.hid (by rw [Tryz.sizeSub, HCl.out])
        obtain ⟨dS, hu, hd⟩ := Tryz.rowSub
        have Hu := Lib.hid hu
        have Hd := Lib.hid hd
        have hFr8 := (HFx.out.trans' hF7).trans' hF8
        have hp7 : w6.heap.size < w7.heap.size := Nat.lt_of_lt_of_le (by rw [World.size_alloc]; omega) hF7.size
        clear hF7 hF8 hN hu hd g0 g1 g2 g3 g4
        go_upto_region 13 with (with_reducible refine wpList_store_mid rfl 164 _ _ rfl w7.heap.size 0 CS.toArray rfl rfl HT4.out Hs1.out HC1.out ?_)
        change Code.wp _ _ _ _ ((w7.alloc (.cells #[.string ⟨#[]⟩, .int .u8 0, .int .u8 0, .int .u8 0, .int .u8 0, .int .u8 0, .int .u8 0, .int .u8 0, .int .u8 0, .int .u8 0, .int .u8 0, .int .u8 0, .int .u8 0, .int .u8 0, .int .u8 0, .int .u8 0, .int .u8 0, .int .u8 0, .int .u8 0, .int .u8 0, .int .u8 0, .int .u8 0, .int .u8 0, .int .u8 0, .int .u8 0, .int .u8 0, .int .u8 0, .int .u8 0, .int .u8 0, .int .u8 0, .int .u8 0, .int .u8 0, .int .u8 0] 164)).setCells w7.heap.size 0 CS)
        obtain ⟨w8, hw8⟩ : ∃ W, (w7.alloc (.cells #[.string ⟨#[]⟩, .int .u8 0, .int .u8 0, .int .u8 0, .int .u8 0, .int .u8 0, .int .u8 0, .int .u8 0, .int .u8 0, .int .u8 0, .int .u8 0, .int .u8 0, .int .u8 0, .int .u8 0, .int .u8 0, .int .u8 0, .int .u8 0, .int .u8 0, .int .u8 0, .int .u8 0, .int .u8 0, .int .u8 0, .int .u8 0, .int .u8 0, .int .u8 0, .int .u8 0, .int .u8 0, .int .u8 0, .int .u8 0, .int .u8 0, .int .u8 0, .int .u8 0, .int .u8 0] 164)).setCells w7.heap.size 0 CS = W := ⟨_, rfl⟩
        have hp4 : w7.heap.size < w8.heap.size := by
         rw [← hw8]
         exact Nat.lt_of_lt_of_le (by rw [World.size_alloc]; omega) (setCells_fr (w7.heap.size) CS 0 (w7.alloc _)).size
        rw [hw8] at hR8 hFr8 ⊢
        obtain ⟨p7, hp7e⟩ : ∃ p, w7.heap.size = p := ⟨_, rfl⟩
        rw [hp7e] at hR8 hp4 hp7
        rw [hp7e]
        clear hw8 HT4 hp7e
        have hFB8 := HFBr.out.fr hFr8
        obtain ⟨bdi, hbdi⟩ : ∃ b, (f4.bad || anyBad (gl.take i)) = b := ⟨_, rfl⟩
        rw [hbdi] at hFB8
        obtain ⟨y1, y2, y3, y4, -, -, -, -, -, -, c6, fz, hlt8, -⟩ := hFB8.cells
        obtain ⟨hFB9, hF9⟩ := hFB8.setBad (bdi || !ok)
        have Hbdi := Lib.hid hbdi
        have hR9 := Lib.hid (range_fr hR8 hF9 hp4 (fun _ h => by have := h.1; omega))
        have hFr9 := (hFr8.mono (M' := MFd fb) (fun _ _ h => h.elim)).trans' hF9
        have hOwn9 := Lib.hid (sub_row_fr Hown.out hFr9)
        have HFr9 := Lib.hid (HFr.out.trans' hFr9)
        have hFB9h := Lib.hid hFB9
        have hp9 : w6.heap.size < (w8.setCell ⟨fb, 6, none⟩ (.bool (bdi || !ok))).heap.size := Nat.lt_of_lt_of_le (by omega) hF9.size
        clear hR8 hFB8 hFB9 hF9 hFr9 hFr8 hbdi HFBr Hown HFr Hsub HFx r0 r1 r2 r3 r4
        have HBn : Hid ((f4.bad || anyBad (gl.take (i + 1))) = (bdi || !ok)) := Lib.hid (by rw [HB.out, ← Bool.or_assoc, Hbdi.out])
        have hO6 : OldK.k ≤ w6.heap.size := by omega
        clear Hbdi HB
        cases bdi
        all_goals
         simp only [Bool.false_or, Bool.true_or] at hR9 hOwn9 HFr9 hFB9h hp9 HBn
         go_upto_region 14 with (fail)
         first
          | (obtain ⟨W9, hW9⟩ : ∃ W, w8.setCell ⟨fb, 6, none⟩ (.bool true) = W := ⟨_, rfl⟩; rw [hW9] at hR9 hOwn9 HFr9 hFB9h hp9; change Code.wp _ _ _ _ (w8.setCell ⟨fb, 6, none⟩ (.bool true)); rw [hW9]; clear hW9)
          | (obtain ⟨W9, hW9⟩ : ∃ W, w8.setCell ⟨fb, 6, none⟩ (.bool (!ok)) = W := ⟨_, rfl⟩; rw [hW9] at hR9 hOwn9 HFr9 hFB9h hp9; change Code.wp _ _ _ _ (w8.setCell ⟨fb, 6, none⟩ (.bool (!ok))); rw [hW9]; clear hW9)
         clear c6 fz hlt8
         go_wp2_with (first
          | (with_reducible refine wpList_load_mid rfl 164 _ rfl p7 0 rfl CS dS hR9.out Hu.out Hd.out Hs2.out ?_)
          | ((with_reducible refine Great.wpList_buildSliceTo ?_ 160 164 1 _ rfl W9.heap.size rfl _ rfl Tryz.underlying160 CS.toArray ?_ ?_); rfl; (refine Eq.trans (congrArg (Tryz.prog.builtSlice 164 1) ?_) Hbuilt.out; kernel_rfl))
          | (at_builtin; (refine wpList_append_own_at _ rfl _ _ 160 rfl w6.heap.size 164 i0 (.agg #[.string ⟨#[]⟩, .int .u8 0, .int .u8 0, .int .u8 0, .int .u8 0, .int .u8 0, .int .u8 0, .int .u8 0, .int .u8 0, .int .u8 0, .int .u8 0, .int .u8 0, .int .u8 0, .int .u8 0, .int .u8 0, .int .u8 0, .int .u8 0, .int .u8 0, .int .u8 0, .int .u8 0, .int .u8 0, .int .u8 0, .int .u8 0, .int .u8 0, .int .u8 0, .int .u8 0, .int .u8 0, .int .u8 0, .int .u8 0, .int .u8 0, .int .u8 0, .int .u8 0, .int .u8 0]) 33 48 Tryz.underlying160 hi hz0 hz1 hz2 rfl (by decide) (.slice ao i co) i (subRows (gl.take i)) (by rfl) (hOwn9.out.alloc _) ⟨W9.heap.size, 0, none⟩ 1 1 CS (by rfl) (by rw [HCl.out]) (lit_cells W9 CS 164) HCm.out (by unfold maxLen; omega) (by omega) (by rw [World.size_alloc]; omega) ?_)))
         intro v' w10 hown10 hgr10 hne10 hat10
         have hFB10 := (hFB9h.out.fr (Fr.refl.alloc (.cells CS.toArray 164))).grown hgr10 (hOwn9.out.alloc _) hfbk hO6
         have hFr10 := (HFr9.out.alloc (.cells CS.toArray 164)).trans (Fr.ofGrown hgr10) (fun k _ hm => .inr (ownsRow_le hOwn9.out hm))
         rcases hown10.2 with ⟨rfl, h0⟩ | ⟨g, cp, cur, rfl, -⟩
         ·omega
         have Hown10 := Lib.hid hown10
         have HFB10 := Lib.hid hFB10
         have HFr10 := Lib.hid hFr10
         clear hown10 hgr10 hne10 hat10 hFB10 hFr10
         go_wp2_with fail
         go_roundg (gk - 1)
         case measure => omega
         case rel => exact ⟨i + 1, _, _, by simp, rfl, by omega, by omega, Lib.hid (by rw [HS.out]; exact Hown10.out), Lib.hid (by rw [HBn.out]; exact HFB10.out), HFr10⟩
       ·obtain rfl : i = gl.length := by omega
        have hdone := fdone_c _ fb _ wr HFBr.out
        obtain ⟨FD, hFD⟩ : ∃ x, fDone { f4 with bad := f4.bad || anyBad (gl.take gl.length) } = x := ⟨_, rfl⟩
        rw [hFD] at hdone
        rw [List.take_length] at hFD
        have hO := ownsRow_base Hown.out (Nat.le_trans hwp (by omega : fb ≤ w6.heap.size))
        rw [List.take_length] at hO
        have hRz := HRx.out
        have hab : (gl.map pSubject).any (fun x => !x.2.2) = anyBad gl := by
         unfold anyBad
         rw [List.any_map]
         rfl
        simp only [J.list, hab, hFD, List.length_map, List.map_map] at hRz
        have hrows : (gl.map ((fun x : Bs × Bs × Bool => (x.1, x.2.1)) ∘ pSubject)).flatMap (fun x => subCells x.1 x.2) = subRows gl := by
         unfold subRows
         rw [List.flatMap_map]
         rfl
        have hlenm : (gl.map ((fun x : Bs × Bs × Bool => (x.1, x.2.1)) ∘ pSubject)).length = gl.length := List.length_map _
        obtain ⟨LS, hLS⟩ : ∃ L, gl.map ((fun x : Bs × Bs × Bool => (x.1, x.2.1)) ∘ pSubject) = L := ⟨_, rfl⟩
        rw [hLS] at hRz hrows hlenm
        rw [← hrows] at hO
        have HO := Lib.hid hO
        have HFe := Lib.hid (HF6.out.trans HFr.out (fun k _ hm => .inr (by have := hm.1; omega)))
        have Hdone := Lib.hid hdone
        have Hrz := Lib.hid hRz
        have Hlm := Lib.hid hlenm
        clear hdone hO hRz hrows hlenm hLS hFD hab HRx HFBr Hown HFr HF6 Hrow Hfb6
        cases FD with
        | false =>
          obtain rfl : (none : Option (List (Bs × Bs))) = R := by simpa using Hrz.out
          go_wp2_with fail
          refine Hdone.out.mono ?_
          rintro e w7 ⟨rfl, hF7⟩
          have HF7 := Lib.hid (HFe.out.trans' hF7)
          clear hF7
          go_wp2_with fail
          go_ret2
          exact ⟨rfl, HF7.out⟩
        | true =>
          by_cases h1 : gl.length < 1
          ·have hc1 : decide ((gl.length : Int) < 1) = true := decide_eq_true (by omega)
           obtain rfl : (none : Option (List (Bs × Bs))) = R := by
            have := Hrz.out
            rw [show decide (1 ≤ gl.length) = false from decide_eq_false (by omega)] at this
            simpa using this
           clear h1
           go_wp2_with fail
           refine Hdone.out.mono ?_
           rintro e w7 ⟨rfl, hF7⟩
           have HF7 := Lib.hid (HFe.out.trans' hF7)
           clear hF7
           go_wp2_with fail
           go_ret2
           exact ⟨rfl, HF7.out⟩
          ·have hc1 : decide ((gl.length : Int) < 1) = false := decide_eq_false (by omega)
           by_cases h2 : 16 < gl.length
           ·have hc2 : decide ((16 : Int) < (gl.length : Int)) = true := decide_eq_true (by omega)
            obtain rfl : (none : Option (List (Bs × Bs))) = R := by
             have := Hrz.out
             rw [show decide (gl.length ≤ 16) = false from decide_eq_false (by omega)] at this
             simpa using this
            clear h1 h2
            go_wp2_with fail
            refine Hdone.out.mono ?_
            rintro e w7 ⟨rfl, hF7⟩
            have HF7 := Lib.hid (HFe.out.trans' hF7)
            clear hF7
            go_wp2_with fail
            go_ret2
            exact ⟨rfl, HF7.out⟩
           ·have hc2 : decide ((16 : Int) < (gl.length : Int)) = false := decide_eq_false (by omega)
            obtain rfl : some LS = R := by
             have := Hrz.out
             rw [show decide (gl.length ≤ 16) = true from decide_eq_true (by omega), show decide (1 ≤ gl.length) = true from decide_eq_true (by omega)] at this
             simpa using this
            clear h1 h2
            go_wp2_with fail
            refine Hdone.out.mono ?_
            rintro e w7 ⟨rfl, hF7⟩
            have HF7 := Lib.hid (HFe.out.trans' hF7)
            have HO7 := Lib.hid (ownsRow_fr HO.out hF7 (fun _ _ _ _ h => h))
            clear hF7
            go_wp2_with fail
            go_ret2
            refine ⟨⟨_, rfl, ?_⟩, HF7.out⟩
            rw [Hlm.out]
            exact HO7.out
    | false =>
      obtain ⟨f2, hf2⟩ : ∃ f2 : Fd, f2 = { g2 with bad := true } := ⟨_, rfl⟩
      have hR := HR2.out
      simp only [Bool.false_eq_true, if_false] at hR
      rw [← hf2] at hR
      have HRF := Lib.hid hR
      clear hR HR2
      go_wp2_with fail
      refine Ht.out.mono ?_
      rintro e w4 ⟨rfl, hfb4, hF4⟩
      have Ht24 := Lib.hid (Ht2.out w4 hfb4)
      have HF4 := Lib.hid hF4
      clear hfb4 hF4 Ht Ht2
      go_wp2_with fail
      refine Ht24.out.mono ?_
      rintro e w5 ⟨rfl, hfb5, hF5⟩
      have HF5 := Lib.hid (HF4.out.trans' hF5)
      have Hfb5 := Lib.hid hfb5
      clear hfb5 hF5 Ht24 HF4
      go_wp2_with fail
      refine (Hty.out _).mono ?_
      rintro e w6 ⟨rfl, hF6⟩
      have hfb6 := Hfb5.out.fr hF6
      obtain ⟨y1, y2, y3, y4, -, -, -, -, -, -, c6, fz, hlt, -⟩ := hfb6.cells
      obtain ⟨hFB, hFb⟩ := hfb6.setBad true
      have hFW : Fr NoB w (w6.setCell ⟨fb, 6, none⟩ (.bool true)) := (HF3.out.trans (HF5.out.trans' (hF6.mono (fun _ _ h => h.elim))) (fun k _ hm => .inr (by have := hm.1; omega))).trans hFb (fun k _ hm => .inr (by have := hm.1; omega))
      have hf2s : f2.j = .mk kk jn jt jl jp ∧ 0 ≤ f2.seen ∧ f2.seen ≤ 2 := by rw [hf2]; exact Hgs.out
      rw [← hf2] at hFB
      clear hF6 hFb hf2 HF3 HF5 Hgs Hfb5 hfb6 Hty
      go_upto_region 7 with (fail)
      change Code.wp _ _ _ _ (w6.setCell ⟨fb, 6, none⟩ (.bool true))
      obtain ⟨W, hW⟩ : ∃ W, w6.setCell ⟨fb, 6, none⟩ (.bool true) = W := ⟨_, rfl⟩
      rw [hW] at hFB hFW ⊢
      clear hW c6 fz hlt
      have hg5 := fget_c _ fb f2 sPredicate 5 W hFB (by rw [hf2s.1]; exact Hfit.out.1) ⟨hf2s.2.1, by omega⟩
      have hf3s := seen_next (nm := sPredicate) (k := 5) hf2s
      obtain ⟨f3, hf3⟩ : ∃ x, (fGet f2 sPredicate 5).2 = x := ⟨_, rfl⟩
      rw [hf3] at hg5 hf3s
      have hRx := HRF.out
      simp only [hf3] at hRx
      have hfit4 := (Fits.get (f := f3) (nm := sSubject) (k := 4) (by rw [hf3s.1]; exact Hfit.out)).1
      have hg6 := fun V (h : FB (fun k => w.heap.size ≤ k) fb f3 V) => fget_c _ fb f3 sSubject 4 V h (by rw [hf3s.1]; exact Hfit.out.1) ⟨hf3s.2.1, by omega⟩
      obtain ⟨G, hG⟩ : ∃ x, (fGet f3 sSubject 4).1 = x := ⟨_, rfl⟩
      obtain ⟨f4, hf4⟩ : ∃ x, (fGet f3 sSubject 4).2 = x := ⟨_, rfl⟩
      rw [hG] at hfit4
      simp only [hG, hf4] at hg6 hRx
      obtain ⟨gk, gn, gt, gl, gq⟩ := G
      have HRx := Lib.hid hRx
      have Hg5 := Lib.hid hg5
      have Hg6 := Lib.hid hg6
      have Hfit4 := Lib.hid hfit4
      have HFW := Lib.hid hFW
      clear hg5 hg6 hRx HRF hf3 hG hf4 hFB hfit4 hFW hf3s hf2s
      go_wp2_with fail
      refine Hg5.out.mono ?_
      rintro e w5 ⟨x5, rfl, -, hfb5, hF5⟩
      have HF5 := Lib.hid (HFW.out.trans hF5 (fun k _ hm => .inr (by have := hm.1; omega)))
      have Hg65 := Lib.hid (Hg6.out w5 hfb5)
      clear hfb5 hF5 Hg6 Hg5 HFW
      go_wp2_with fail
      refine Hg65.out.mono ?_
      rintro e w6 ⟨x6, rfl, hx6, hfb6, hF6⟩
      obtain ⟨u1, e1, u2, e2, rfl, hrow, -⟩ := hx6.open
      have hfd : ∀ V : World, (Instr.field 220 (.agg #[.int .i64 gk, .int .i64 gn, .string ⟨gt.toArray⟩, .slice u1 gl.length e1, .slice u2 gq.length e2]) 3).run Tryz.prog V = .ok (.slice u1 gl.length e1) V := fun _ => by kernel_rfl
      have HF6 := Lib.hid (HF5.out.trans hF6 (fun k _ hm => .inr (by have := hm.1; omega)))
      have Hrow := Lib.hid hrow
      have Hfb6 := Lib.hid hfb6
      have hfbk : fb < w6.heap.size := by obtain ⟨-, y1, y2, y3, y4, h5, -⟩ := hfb6; exact get_lt h5
      have hgl : gl.length ≤ 67108864 := (fits.open Hfit4.out.1).2.1
      clear hx6 hfb6 hF6 hrow Hg65 HF5
      go_wp2_with fail
      go_loopg [7, 44] (gl.length + 1) (fun g v7 vi wr => ∃ (i : Nat) (ao : Option Addr) (co : Nat), vi = .int .i64 i ∧ v7 = .slice ao i co ∧ i ≤ gl.length ∧ i + g = gl.length + 1 ∧ Hid (wr.ownsRow w6.heap.size 164 33 (.slice ao i co) i (subRows (gl.take i))) ∧ Hid (FB (fun k => w.heap.size ≤ k) fb { f4 with bad := f4.bad || anyBad (gl.take i) } wr) ∧ Hid (Fr (MFd fb) w6 wr))
      case atStart => exact ⟨0, none, 0, rfl, rfl, by omega, by omega, Lib.hid ⟨rfl, .inl ⟨rfl, rfl⟩⟩, Lib.hid (by simpa [anyBad] using Hfb6.out), Lib.hid Fr.refl⟩
      case round =>
       obtain ⟨i, ao, co, rfl, rfl, hile, hgk, Hown, HFBr, HFr⟩ := hrel
       rcases Nat.lt_or_ge i gl.length with hlt | hge
       ·obtain ⟨jx, hjx⟩ : ∃ x, gl[i]? = some x := ⟨_, List.getElem?_eq_getElem hlt⟩
        have hfbO : OldK.k ≤ fb := by omega
        obtain ⟨rb, ro, x0, x1, x2, x3, x4, rfl, hbl, r0, r1, r2, r3, r4, hrj⟩ := (Hrow.out.kp (Kp.fr HFr.out (fun _ h _ => h) (fun k o _ _ ht hm => mfd_not hfbO k o hm ht))).at hjx
        have hft := Hfit4.out.at (j := .mk gk gn gt gl gq) hjx
        have hB := anyBad_take hjx
        have hS := subRows_take hjx
        have hD32 := pSubject_len jx
        obtain ⟨jk, jn', jt', jl', jp'⟩ := jx
        obtain ⟨s1, m1, s2, m2, hval, -, -⟩ := hrj.open
        obtain ⟨rfl, rfl, rfl, rfl, rfl⟩ : x0 = .int .i64 jk ∧ x1 = .int .i64 jn' ∧ x2 = .string ⟨jt'.toArray⟩ ∧ x3 = .slice s1 jl'.length m1 ∧ x4 = .slice s2 jp'.length m2 := by simpa using hval
        have hFx : Fr NoB wr (wr.alloc (.cells #[.int .i64 jk, .int .i64 jn', .string ⟨jt'.toArray⟩, .slice s1 jl'.length m1, .slice s2 jp'.length m2] 220)) := Fr.refl.alloc _
        obtain ⟨g0, g1, g2, g3, g4, gz, glt⟩ := VB.at (heap_alloc_new wr (.cells #[.int .i64 jk, .int .i64 jn', .string ⟨jt'.toArray⟩, .slice s1 jl'.length m1, .slice s2 jp'.length m2] 220))
        have hwr : w6.heap.size ≤ wr.heap.size := HFr.out.size
        have hsub := subject_c _ _ _ _ (RJ.kp (Kp.ofFr hFx) _ _ hrj) hft (Nat.le_trans (Nat.le_trans hfbO (by omega : fb ≤ wr.heap.size)) hFx.size)
        obtain ⟨P, hP⟩ : ∃ P, pSubject (.mk jk jn' jt' jl' jp') = P := ⟨_, rfl⟩
        rw [hP] at hsub hB hS hD32
        obtain ⟨nm, D, ok⟩ := P
        simp only at hsub hB hS hD32
        have HB := Lib.hid hB
        have HS := Lib.hid hS
        have Hsub := Lib.hid hsub
        have HFx := Lib.hid hFx
        have Hbuilt := Lib.hid (built_subs nm D hD32)
        have HCl := Lib.hid (subCells_len (nm := nm) hD32)
        have HC1 := Lib.hid (subCells_one nm D)
        have HCm := Lib.hid (subCells_mem nm D)
        obtain ⟨CS, hCS⟩ : ∃ x, subCells nm D = x := ⟨_, rfl⟩
        rw [hCS] at Hsub HS Hbuilt HCl HC1 HCm
        clear hB hS hsub hFx hft hrj hval hP hCS hD32 gz glt
        go_wp2_with fail
        refine Hsub.out.mono ?_
        rintro e w7 ⟨rfl, hF7⟩
        have hN := heap_alloc_new w7 (.cells #[.string ⟨#[]⟩, .int .u8 0, .int .u8 0, .int .u8 0, .int .u8 0, .int .u8 0, .int .u8 0, .int .u8 0, .int .u8 0, .int .u8 0, .int .u8 0, .int .u8 0, .int .u8 0, .int .u8 0, .int .u8 0, .int .u8 0, .int .u8 0, .int .u8 0, .int .u8 0, .int .u8 0, .int .u8 0, .int .u8 0, .int .u8 0, .int .u8 0, .int .u8 0, .int .u8 0, .int .u8 0, .int .u8 0, .int .u8 0, .int .u8 0, .int .u8 0, .int .u8 0, .int .u8 0] 164)
        have HT4 := Lib.hid (there_block hN (n := CS.toArray.size) (by rw [List.size_toArray, HCl.out]; show 33 ≤ 33; omega))
        have hF8 : Fr NoB w7 ((w7.alloc (.cells #[.string ⟨#[]⟩, .int .u8 0, .int .u8 0, .int .u8 0, .int .u8 0, .int .u8 0, .int .u8 0, .int .u8 0, .int .u8 0, .int .u8 0, .int .u8 0, .int .u8 0, .int .u8 0, .int .u8 0, .int .u8 0, .int .u8 0, .int .u8 0, .int .u8 0, .int .u8 0, .int .u8 0, .int .u8 0, .int .u8 0, .int .u8 0, .int .u8 0, .int .u8 0, .int .u8 0, .int .u8 0, .int .u8 0, .int .u8 0, .int .u8 0, .int .u8 0, .int .u8 0, .int .u8 0] 164)).setCells w7.heap.size 0 CS) := ((Fr.refl (M := NoB)).alloc _).trans (setCells_fr _ _ _ _) (fun k _ hm => .inr (by omega))
        have hR8 := World.rangeAt_setCells_same (w7.alloc (.cells #[.string ⟨#[]⟩, .int .u8 0, .int .u8 0, .int .u8 0, .int .u8 0, .int .u8 0, .int .u8 0, .int .u8 0, .int .u8 0, .int .u8 0, .int .u8 0, .int .u8 0, .int .u8 0, .int .u8 0, .int .u8 0, .int .u8 0, .int .u8 0, .int .u8 0, .int .u8 0, .int .u8 0, .int .u8 0, .int .u8 0, .int .u8 0, .int .u8 0, .int .u8 0, .int .u8 0, .int .u8 0, .int .u8 0, .int .u8 0, .int .u8 0, .int .u8 0, .int .u8 0, .int .u8 0] 164)) w7.heap.size 0 CS (by simpa using HT4.out)
        have Hs1 : Hid ((Tryz.prog.info? 164).map (·.size) = some CS.toArray.size) := Lib.hid (by rw [Tryz.sizeSub, List.size_toArray, HCl.out])
        have Hs2 : Hid ((Tryz.prog.info? 164).map (·.size) = some CS.length) := Lib.hid (by rw [Tryz.sizeSub, HCl.out])
        obtain ⟨dS, hu, hd⟩ := Tryz.rowSub
        have Hu := Lib.hid hu
        have Hd := Lib.hid hd
        have hFr8 := (HFx.out.trans' hF7).trans' hF8
        have hp7 : w6.heap.size < w7.heap.size := Nat.lt_of_lt_of_le (by rw [World.size_alloc]; omega) hF7.size
        clear hF7 hF8 hN hu hd g0 g1 g2 g3 g4
        go_upto_region 13 with (with_reducible refine wpList_store_mid rfl 164 _ _ rfl w7.heap.size 0 CS.toArray rfl rfl HT4.out Hs1.out HC1.out ?_)
        change Code.wp _ _ _ _ ((w7.alloc (.cells #[.string ⟨#[]⟩, .int .u8 0, .int .u8 0, .int .u8 0, .int .u8 0, .int .u8 0, .int .u8 0, .int .u8 0, .int .u8 0, .int .u8 0, .int .u8 0, .int .u8 0, .int .u8 0, .int .u8 0, .int .u8 0, .int .u8 0, .int .u8 0, .int .u8 0, .int .u8 0, .int .u8 0, .int .u8 0, .int .u8 0, .int .u8 0, .int .u8 0, .int .u8 0, .int .u8 0, .int .u8 0, .int .u8 0, .int .u8 0, .int .u8 0, .int .u8 0, .int .u8 0, .int .u8 0] 164)).setCells w7.heap.size 0 CS)
        obtain ⟨w8, hw8⟩ : ∃ W, (w7.alloc (.cells #[.string ⟨#[]⟩, .int .u8 0, .int .u8 0, .int .u8 0, .int .u8 0, .int .u8 0, .int .u8 0, .int .u8 0, .int .u8 0, .int .u8 0, .int .u8 0, .int .u8 0, .int .u8 0, .int .u8 0, .int .u8 0, .int .u8 0, .int .u8 0, .int .u8 0, .int .u8 0, .int .u8 0, .int .u8 0, .int .u8 0, .int .u8 0, .int .u8 0, .int .u8 0, .int .u8 0, .int .u8 0, .int .u8 0, .int .u8 0, .int .u8 0, .int .u8 0, .int .u8 0, .int .u8 0] 164)).setCells w7.heap.size 0 CS = W := ⟨_, rfl⟩
        have hp4 : w7.heap.size < w8.heap.size := by
         rw [← hw8]
         exact Nat.lt_of_lt_of_le (by rw [World.size_alloc]; omega) (setCells_fr (w7.heap.size) CS 0 (w7.alloc _)).size
        rw [hw8] at hR8 hFr8 ⊢
        obtain ⟨p7, hp7e⟩ : ∃ p, w7.heap.size = p := ⟨_, rfl⟩
        rw [hp7e] at hR8 hp4 hp7
        rw [hp7e]
        clear hw8 HT4 hp7e
        have hFB8 := HFBr.out.fr hFr8
        obtain ⟨bdi, hbdi⟩ : ∃ b, (f4.bad || anyBad (gl.take i)) = b := ⟨_, rfl⟩
        rw [hbdi] at hFB8
        obtain ⟨y1, y2, y3, y4, -, -, -, -, -, -, c6, fz, hlt8, -⟩ := hFB8.cells
        obtain ⟨hFB9, hF9⟩ := hFB8.setBad (bdi || !ok)
        have Hbdi := Lib.hid hbdi
        have hR9 := Lib.hid (range_fr hR8 hF9 hp4 (fun _ h => by have := h.1; omega))
        have hFr9 := (hFr8.mono (M' := MFd fb) (fun _ _ h => h.elim)).trans' hF9
        have hOwn9 := Lib.hid (sub_row_fr Hown.out hFr9)
        have HFr9 := Lib.hid (HFr.out.trans' hFr9)
        have hFB9h := Lib.hid hFB9
        have hp9 : w6.heap.size < (w8.setCell ⟨fb, 6, none⟩ (.bool (bdi || !ok))).heap.size := Nat.lt_of_lt_of_le (by omega) hF9.size
        clear hR8 hFB8 hFB9 hF9 hFr9 hFr8 hbdi HFBr Hown HFr Hsub HFx r0 r1 r2 r3 r4
        have HBn : Hid ((f4.bad || anyBad (gl.take (i + 1))) = (bdi || !ok)) := Lib.hid (by rw [HB.out, ← Bool.or_assoc, Hbdi.out])
        have hO6 : OldK.k ≤ w6.heap.size := by omega
        clear Hbdi HB
        cases bdi
        all_goals
         simp only [Bool.false_or, Bool.true_or] at hR9 hOwn9 HFr9 hFB9h hp9 HBn
         go_upto_region 14 with (fail)
         first
          | (obtain ⟨W9, hW9⟩ : ∃ W, w8.setCell ⟨fb, 6, none⟩ (.bool true) = W := ⟨_, rfl⟩; rw [hW9] at hR9 hOwn9 HFr9 hFB9h hp9; change Code.wp _ _ _ _ (w8.setCell ⟨fb, 6, none⟩ (.bool true)); rw [hW9]; clear hW9)
          | (obtain ⟨W9, hW9⟩ : ∃ W, w8.setCell ⟨fb, 6, none⟩ (.bool (!ok)) = W := ⟨_, rfl⟩; rw [hW9] at hR9 hOwn9 HFr9 hFB9h hp9; change Code.wp _ _ _ _ (w8.setCell ⟨fb, 6, none⟩ (.bool (!ok))); rw [hW9]; clear hW9)
         clear c6 fz hlt8
         go_wp2_with (first
          | (with_reducible refine wpList_load_mid rfl 164 _ rfl p7 0 rfl CS dS hR9.out Hu.out Hd.out Hs2.out ?_)
          | ((with_reducible refine Great.wpList_buildSliceTo ?_ 160 164 1 _ rfl W9.heap.size rfl _ rfl Tryz.underlying160 CS.toArray ?_ ?_); rfl; (refine Eq.trans (congrArg (Tryz.prog.builtSlice 164 1) ?_) Hbuilt.out; kernel_rfl))
          | (at_builtin; (refine wpList_append_own_at _ rfl _ _ 160 rfl w6.heap.size 164 i0 (.agg #[.string ⟨#[]⟩, .int .u8 0, .int .u8 0, .int .u8 0, .int .u8 0, .int .u8 0, .int .u8 0, .int .u8 0, .int .u8 0, .int .u8 0, .int .u8 0, .int .u8 0, .int .u8 0, .int .u8 0, .int .u8 0, .int .u8 0, .int .u8 0, .int .u8 0, .int .u8 0, .int .u8 0, .int .u8 0, .int .u8 0, .int .u8 0, .int .u8 0, .int .u8 0, .int .u8 0, .int .u8 0, .int .u8 0, .int .u8 0, .int .u8 0, .int .u8 0, .int .u8 0, .int .u8 0]) 33 48 Tryz.underlying160 hi hz0 hz1 hz2 rfl (by decide) (.slice ao i co) i (subRows (gl.take i)) (by rfl) (hOwn9.out.alloc _) ⟨W9.heap.size, 0, none⟩ 1 1 CS (by rfl) (by rw [HCl.out]) (lit_cells W9 CS 164) HCm.out (by unfold maxLen; omega) (by omega) (by rw [World.size_alloc]; omega) ?_)))
         intro v' w10 hown10 hgr10 hne10 hat10
         have hFB10 := (hFB9h.out.fr (Fr.refl.alloc (.cells CS.toArray 164))).grown hgr10 (hOwn9.out.alloc _) hfbk hO6
         have hFr10 := (HFr9.out.alloc (.cells CS.toArray 164)).trans (Fr.ofGrown hgr10) (fun k _ hm => .inr (ownsRow_le hOwn9.out hm))
         rcases hown10.2 with ⟨rfl, h0⟩ | ⟨g, cp, cur, rfl, -⟩
         ·omega
         have Hown10 := Lib.hid hown10
         have HFB10 := Lib.hid hFB10
         have HFr10 := Lib.hid hFr10
         clear hown10 hgr10 hne10 hat10 hFB10 hFr10
         go_wp2_with fail
         go_roundg (gk - 1)
         case measure => omega
         case rel => exact ⟨i + 1, _, _, by simp, rfl, by omega, by omega, Lib.hid (by rw [HS.out]; exact Hown10.out), Lib.hid (by rw [HBn.out]; exact HFB10.out), HFr10⟩
       ·obtain rfl : i = gl.length := by omega
        have hdone := fdone_c _ fb _ wr HFBr.out
        obtain ⟨FD, hFD⟩ : ∃ x, fDone { f4 with bad := f4.bad || anyBad (gl.take gl.length) } = x := ⟨_, rfl⟩
        rw [hFD] at hdone
        rw [List.take_length] at hFD
        have hO := ownsRow_base Hown.out (Nat.le_trans hwp (by omega : fb ≤ w6.heap.size))
        rw [List.take_length] at hO
        have hRz := HRx.out
        have hab : (gl.map pSubject).any (fun x => !x.2.2) = anyBad gl := by
         unfold anyBad
         rw [List.any_map]
         rfl
        simp only [J.list, hab, hFD, List.length_map, List.map_map] at hRz
        have hrows : (gl.map ((fun x : Bs × Bs × Bool => (x.1, x.2.1)) ∘ pSubject)).flatMap (fun x => subCells x.1 x.2) = subRows gl := by
         unfold subRows
         rw [List.flatMap_map]
         rfl
        have hlenm : (gl.map ((fun x : Bs × Bs × Bool => (x.1, x.2.1)) ∘ pSubject)).length = gl.length := List.length_map _
        obtain ⟨LS, hLS⟩ : ∃ L, gl.map ((fun x : Bs × Bs × Bool => (x.1, x.2.1)) ∘ pSubject) = L := ⟨_, rfl⟩
        rw [hLS] at hRz hrows hlenm
        rw [← hrows] at hO
        have HO := Lib.hid hO
        have HFe := Lib.hid (HF6.out.trans HFr.out (fun k _ hm => .inr (by have := hm.1; omega)))
        have Hdone := Lib.hid hdone
        have Hrz := Lib.hid hRz
        have Hlm := Lib.hid hlenm
        clear hdone hO hRz hrows hlenm hLS hFD hab HRx HFBr Hown HFr HF6 Hrow Hfb6
        cases FD with
        | false =>
          obtain rfl : (none : Option (List (Bs × Bs))) = R := by simpa using Hrz.out
          go_wp2_with fail
          refine Hdone.out.mono ?_
          rintro e w7 ⟨rfl, hF7⟩
          have HF7 := Lib.hid (HFe.out.trans' hF7)
          clear hF7
          go_wp2_with fail
          go_ret2
          exact ⟨rfl, HF7.out⟩
        | true =>
          by_cases h1 : gl.length < 1
          ·have hc1 : decide ((gl.length : Int) < 1) = true := decide_eq_true (by omega)
           obtain rfl : (none : Option (List (Bs × Bs))) = R := by
            have := Hrz.out
            rw [show decide (1 ≤ gl.length) = false from decide_eq_false (by omega)] at this
            simpa using this
           clear h1
           go_wp2_with fail
           refine Hdone.out.mono ?_
           rintro e w7 ⟨rfl, hF7⟩
           have HF7 := Lib.hid (HFe.out.trans' hF7)
           clear hF7
           go_wp2_with fail
           go_ret2
           exact ⟨rfl, HF7.out⟩
          ·have hc1 : decide ((gl.length : Int) < 1) = false := decide_eq_false (by omega)
           by_cases h2 : 16 < gl.length
           ·have hc2 : decide ((16 : Int) < (gl.length : Int)) = true := decide_eq_true (by omega)
            obtain rfl : (none : Option (List (Bs × Bs))) = R := by
             have := Hrz.out
             rw [show decide (gl.length ≤ 16) = false from decide_eq_false (by omega)] at this
             simpa using this
            clear h1 h2
            go_wp2_with fail
            refine Hdone.out.mono ?_
            rintro e w7 ⟨rfl, hF7⟩
            have HF7 := Lib.hid (HFe.out.trans' hF7)
            clear hF7
            go_wp2_with fail
            go_ret2
            exact ⟨rfl, HF7.out⟩
           ·have hc2 : decide ((16 : Int) < (gl.length : Int)) = false := decide_eq_false (by omega)
            obtain rfl : some LS = R := by
             have := Hrz.out
             rw [show decide (gl.length ≤ 16) = true from decide_eq_true (by omega), show decide (1 ≤ gl.length) = true from decide_eq_true (by omega)] at this
             simpa using this
            clear h1 h2
            go_wp2_with fail
            refine Hdone.out.mono ?_
            rintro e w7 ⟨rfl, hF7⟩
            have HF7 := Lib.hid (HFe.out.trans' hF7)
            have HO7 := Lib.hid (ownsRow_fr HO.out hF7 (fun _ _ _ _ h => h))
            clear hF7
            go_wp2_with fail
            go_ret2
            refine ⟨⟨_, rfl, ?_⟩, HF7.out⟩
            rw [Hlm.out]
            exact HO7.out
  | false =>
    have hts : ¬ t1 = sStatement := by simpa using hbs
    have hR := HR.out
    simp only [if_neg hts] at hR
    obtain ⟨f2, hf2⟩ : ∃ f2 : Fd, f2 = { f1 with bad := true } := ⟨_, rfl⟩
    rw [← hf2] at hR
    have HRF := Lib.hid hR
    unfold sStatement at hbs
    clear hR HR hts
    go_wp2_with fail
    refine Ht.out.mono ?_
    rintro e w4 ⟨rfl, hfb4, hF4⟩
    obtain ⟨y1, y2, y3, y4, -, -, -, -, -, -, c6, fz, hlt, -⟩ := hfb4.cells
    obtain ⟨hFB, hFb⟩ := hfb4.setBad true
    have hFW : Fr NoB w (w4.setCell ⟨fb, 6, none⟩ (.bool true)) := HF3.out.trans (hF4.trans' hFb) (fun k _ hm => .inr (by have := hm.1; omega))
    have hf2s : f2.j = .mk kk jn jt jl jp ∧ 0 ≤ f2.seen ∧ f2.seen ≤ 2 := by rw [hf2]; exact ⟨hf1s.1, hf1s.2.1, by show f1.seen ≤ 2; omega⟩
    rw [← hf2] at hFB
    clear hfb4 hF4 hFb hf2 Ht HF3 hf1s
    go_upto_region 7 with (fail)
    change Code.wp _ _ _ _ (w4.setCell ⟨fb, 6, none⟩ (.bool true))
    obtain ⟨W, hW⟩ : ∃ W, w4.setCell ⟨fb, 6, none⟩ (.bool true) = W := ⟨_, rfl⟩
    rw [hW] at hFB hFW ⊢
    clear hW c6 fz hlt hbs
    have hg5 := fget_c _ fb f2 sPredicate 5 W hFB (by rw [hf2s.1]; exact Hfit.out.1) ⟨hf2s.2.1, by omega⟩
    have hf3s := seen_next (nm := sPredicate) (k := 5) hf2s
    obtain ⟨f3, hf3⟩ : ∃ x, (fGet f2 sPredicate 5).2 = x := ⟨_, rfl⟩
    rw [hf3] at hg5 hf3s
    have hRx := HRF.out
    simp only [hf3] at hRx
    have hfit4 := (Fits.get (f := f3) (nm := sSubject) (k := 4) (by rw [hf3s.1]; exact Hfit.out)).1
    have hg6 := fun V (h : FB (fun k => w.heap.size ≤ k) fb f3 V) => fget_c _ fb f3 sSubject 4 V h (by rw [hf3s.1]; exact Hfit.out.1) ⟨hf3s.2.1, by omega⟩
    obtain ⟨G, hG⟩ : ∃ x, (fGet f3 sSubject 4).1 = x := ⟨_, rfl⟩
    obtain ⟨f4, hf4⟩ : ∃ x, (fGet f3 sSubject 4).2 = x := ⟨_, rfl⟩
    rw [hG] at hfit4
    simp only [hG, hf4] at hg6 hRx
    obtain ⟨gk, gn, gt, gl, gq⟩ := G
    have HRx := Lib.hid hRx
    have Hg5 := Lib.hid hg5
    have Hg6 := Lib.hid hg6
    have Hfit4 := Lib.hid hfit4
    have HFW := Lib.hid hFW
    clear hg5 hg6 hRx HRF hf3 hG hf4 hFB hfit4 hFW hf3s hf2s
    go_wp2_with fail
    refine Hg5.out.mono ?_
    rintro e w5 ⟨x5, rfl, -, hfb5, hF5⟩
    have HF5 := Lib.hid (HFW.out.trans hF5 (fun k _ hm => .inr (by have := hm.1; omega)))
    have Hg65 := Lib.hid (Hg6.out w5 hfb5)
    clear hfb5 hF5 Hg6 Hg5 HFW
    go_wp2_with fail
    refine Hg65.out.mono ?_
    rintro e w6 ⟨x6, rfl, hx6, hfb6, hF6⟩
    obtain ⟨u1, e1, u2, e2, rfl, hrow, -⟩ := hx6.open
    have hfd : ∀ V : World, (Instr.field 220 (.agg #[.int .i64 gk, .int .i64 gn, .string ⟨gt.toArray⟩, .slice u1 gl.length e1, .slice u2 gq.length e2]) 3).run Tryz.prog V = .ok (.slice u1 gl.length e1) V := fun _ => by kernel_rfl
    have HF6 := Lib.hid (HF5.out.trans hF6 (fun k _ hm => .inr (by have := hm.1; omega)))
    have Hrow := Lib.hid hrow
    have Hfb6 := Lib.hid hfb6
    have hfbk : fb < w6.heap.size := by obtain ⟨-, y1, y2, y3, y4, h5, -⟩ := hfb6; exact get_lt h5
    have hgl : gl.length ≤ 67108864 := (fits.open Hfit4.out.1).2.1
    clear hx6 hfb6 hF6 hrow Hg65 HF5
    go_wp2_with fail
    go_loopg [7, 44] (gl.length + 1) (fun g v7 vi wr => ∃ (i : Nat) (ao : Option Addr) (co : Nat), vi = .int .i64 i ∧ v7 = .slice ao i co ∧ i ≤ gl.length ∧ i + g = gl.length + 1 ∧ Hid (wr.ownsRow w6.heap.size 164 33 (.slice ao i co) i (subRows (gl.take i))) ∧ Hid (FB (fun k => w.heap.size ≤ k) fb { f4 with bad := f4.bad || anyBad (gl.take i) } wr) ∧ Hid (Fr (MFd fb) w6 wr))
    case atStart => exact ⟨0, none, 0, rfl, rfl, by omega, by omega, Lib.hid ⟨rfl, .inl ⟨rfl, rfl⟩⟩, Lib.hid (by simpa [anyBad] using Hfb6.out), Lib.hid Fr.refl⟩
    case round =>
     obtain ⟨i, ao, co, rfl, rfl, hile, hgk, Hown, HFBr, HFr⟩ := hrel
     rcases Nat.lt_or_ge i gl.length with hlt | hge
     ·obtain ⟨jx, hjx⟩ : ∃ x, gl[i]? = some x := ⟨_, List.getElem?_eq_getElem hlt⟩
      have hfbO : OldK.k ≤ fb := by omega
      obtain ⟨rb, ro, x0, x1, x2, x3, x4, rfl, hbl, r0, r1, r2, r3, r4, hrj⟩ := (Hrow.out.kp (Kp.fr HFr.out (fun _ h _ => h) (fun k o _ _ ht hm => mfd_not hfbO k o hm ht))).at hjx
      have hft := Hfit4.out.at (j := .mk gk gn gt gl gq) hjx
      have hB := anyBad_take hjx
      have hS := subRows_take hjx
      have hD32 := pSubject_len jx
      obtain ⟨jk, jn', jt', jl', jp'⟩ := jx
      obtain ⟨s1, m1, s2, m2, hval, -, -⟩ := hrj.open
      obtain ⟨rfl, rfl, rfl, rfl, rfl⟩ : x0 = .int .i64 jk ∧ x1 = .int .i64 jn' ∧ x2 = .string ⟨jt'.toArray⟩ ∧ x3 = .slice s1 jl'.length m1 ∧ x4 = .slice s2 jp'.length m2 := by simpa using hval
      have hFx : Fr NoB wr (wr.alloc (.cells #[.int .i64 jk, .int .i64 jn', .string ⟨jt'.toArray⟩, .slice s1 jl'.length m1, .slice s2 jp'.length m2] 220)) := Fr.refl.alloc _
      obtain ⟨g0, g1, g2, g3, g4, gz, glt⟩ := VB.at (heap_alloc_new wr (.cells #[.int .i64 jk, .int .i64 jn', .string ⟨jt'.toArray⟩, .slice s1 jl'.length m1, .slice s2 jp'.length m2] 220))
      have hwr : w6.heap.size ≤ wr.heap.size := HFr.out.size
      have hsub := subject_c _ _ _ _ (RJ.kp (Kp.ofFr hFx) _ _ hrj) hft (Nat.le_trans (Nat.le_trans hfbO (by omega : fb ≤ wr.heap.size)) hFx.size)
      obtain ⟨P, hP⟩ : ∃ P, pSubject (.mk jk jn' jt' jl' jp') = P := ⟨_, rfl⟩
      rw [hP] at hsub hB hS hD32
      obtain ⟨nm, D, ok⟩ := P
      simp only at hsub hB hS hD32
      have HB := Lib.hid hB
      have HS := Lib.hid hS
      have Hsub := Lib.hid hsub
      have HFx := Lib.hid hFx
      have Hbuilt := Lib.hid (built_subs nm D hD32)
      have HCl := Lib.hid (subCells_len (nm := nm) hD32)
      have HC1 := Lib.hid (subCells_one nm D)
      have HCm := Lib.hid (subCells_mem nm D)
      obtain ⟨CS, hCS⟩ : ∃ x, subCells nm D = x := ⟨_, rfl⟩
      rw [hCS] at Hsub HS Hbuilt HCl HC1 HCm
      clear hB hS hsub hFx hft hrj hval hP hCS hD32 gz glt
      go_wp2_with fail
      refine Hsub.out.mono ?_
      rintro e w7 ⟨rfl, hF7⟩
      have hN := heap_alloc_new w7 (.cells #[.string ⟨#[]⟩, .int .u8 0, .int .u8 0, .int .u8 0, .int .u8 0, .int .u8 0, .int .u8 0, .int .u8 0, .int .u8 0, .int .u8 0, .int .u8 0, .int .u8 0, .int .u8 0, .int .u8 0, .int .u8 0, .int .u8 0, .int .u8 0, .int .u8 0, .int .u8 0, .int .u8 0, .int .u8 0, .int .u8 0, .int .u8 0, .int .u8 0, .int .u8 0, .int .u8 0, .int .u8 0, .int .u8 0, .int .u8 0, .int .u8 0, .int .u8 0, .int .u8 0, .int .u8 0] 164)
      have HT4 := Lib.hid (there_block hN (n := CS.toArray.size) (by rw [List.size_toArray, HCl.out]; show 33 ≤ 33; omega))
      have hF8 : Fr NoB w7 ((w7.alloc (.cells #[.string ⟨#[]⟩, .int .u8 0, .int .u8 0, .int .u8 0, .int .u8 0, .int .u8 0, .int .u8 0, .int .u8 0, .int .u8 0, .int .u8 0, .int .u8 0, .int .u8 0, .int .u8 0, .int .u8 0, .int .u8 0, .int .u8 0, .int .u8 0, .int .u8 0, .int .u8 0, .int .u8 0, .int .u8 0, .int .u8 0, .int .u8 0, .int .u8 0, .int .u8 0, .int .u8 0, .int .u8 0, .int .u8 0, .int .u8 0, .int .u8 0, .int .u8 0, .int .u8 0, .int .u8 0] 164)).setCells w7.heap.size 0 CS) := ((Fr.refl (M := NoB)).alloc _).trans (setCells_fr _ _ _ _) (fun k _ hm => .inr (by omega))
      have hR8 := World.rangeAt_setCells_same (w7.alloc (.cells #[.string ⟨#[]⟩, .int .u8 0, .int .u8 0, .int .u8 0, .int .u8 0, .int .u8 0, .int .u8 0, .int .u8 0, .int .u8 0, .int .u8 0, .int .u8 0, .int .u8 0, .int .u8 0, .int .u8 0, .int .u8 0, .int .u8 0, .int .u8 0, .int .u8 0, .int .u8 0, .int .u8 0, .int .u8 0, .int .u8 0, .int .u8 0, .int .u8 0, .int .u8 0, .int .u8 0, .int .u8 0, .int .u8 0, .int .u8 0, .int .u8 0, .int .u8 0, .int .u8 0, .int .u8 0] 164)) w7.heap.size 0 CS (by simpa using HT4.out)
      have Hs1 : Hid ((Tryz.prog.info? 164).map (·.size) = some CS.toArray.size) := Lib.hid (by rw [Tryz.sizeSub, List.size_toArray, HCl.out])
      have Hs2 : Hid ((Tryz.prog.info? 164).map (·.size) = some CS.length) := Lib.hid (by rw [Tryz.sizeSub, HCl.out])
      obtain ⟨dS, hu, hd⟩ := Tryz.rowSub
      have Hu := Lib.hid hu
      have Hd := Lib.hid hd
      have hFr8 := (HFx.out.trans' hF7).trans' hF8
      have hp7 : w6.heap.size < w7.heap.size := Nat.lt_of_lt_of_le (by rw [World.size_alloc]; omega) hF7.size
      clear hF7 hF8 hN hu hd g0 g1 g2 g3 g4
      go_upto_region 13 with (with_reducible refine wpList_store_mid rfl 164 _ _ rfl w7.heap.size 0 CS.toArray rfl rfl HT4.out Hs1.out HC1.out ?_)
      change Code.wp _ _ _ _ ((w7.alloc (.cells #[.string ⟨#[]⟩, .int .u8 0, .int .u8 0, .int .u8 0, .int .u8 0, .int .u8 0, .int .u8 0, .int .u8 0, .int .u8 0, .int .u8 0, .int .u8 0, .int .u8 0, .int .u8 0, .int .u8 0, .int .u8 0, .int .u8 0, .int .u8 0, .int .u8 0, .int .u8 0, .int .u8 0, .int .u8 0, .int .u8 0, .int .u8 0, .int .u8 0, .int .u8 0, .int .u8 0, .int .u8 0, .int .u8 0, .int .u8 0, .int .u8 0, .int .u8 0, .int .u8 0, .int .u8 0] 164)).setCells w7.heap.size 0 CS)
      obtain ⟨w8, hw8⟩ : ∃ W, (w7.alloc (.cells #[.string ⟨#[]⟩, .int .u8 0, .int .u8 0, .int .u8 0, .int .u8 0, .int .u8 0, .int .u8 0, .int .u8 0, .int .u8 0, .int .u8 0, .int .u8 0, .int .u8 0, .int .u8 0, .int .u8 0, .int .u8 0, .int .u8 0, .int .u8 0, .int .u8 0, .int .u8 0, .int .u8 0, .int .u8 0, .int .u8 0, .int .u8 0, .int .u8 0, .int .u8 0, .int .u8 0, .int .u8 0, .int .u8 0, .int .u8 0, .int .u8 0, .int .u8 0, .int .u8 0, .int .u8 0] 164)).setCells w7.heap.size 0 CS = W := ⟨_, rfl⟩
      have hp4 : w7.heap.size < w8.heap.size := by
       rw [← hw8]
       exact Nat.lt_of_lt_of_le (by rw [World.size_alloc]; omega) (setCells_fr (w7.heap.size) CS 0 (w7.alloc _)).size
      rw [hw8] at hR8 hFr8 ⊢
      obtain ⟨p7, hp7e⟩ : ∃ p, w7.heap.size = p := ⟨_, rfl⟩
      rw [hp7e] at hR8 hp4 hp7
      rw [hp7e]
      clear hw8 HT4 hp7e
      have hFB8 := HFBr.out.fr hFr8
      obtain ⟨bdi, hbdi⟩ : ∃ b, (f4.bad || anyBad (gl.take i)) = b := ⟨_, rfl⟩
      rw [hbdi] at hFB8
      obtain ⟨y1, y2, y3, y4, -, -, -, -, -, -, c6, fz, hlt8, -⟩ := hFB8.cells
      obtain ⟨hFB9, hF9⟩ := hFB8.setBad (bdi || !ok)
      have Hbdi := Lib.hid hbdi
      have hR9 := Lib.hid (range_fr hR8 hF9 hp4 (fun _ h => by have := h.1; omega))
      have hFr9 := (hFr8.mono (M' := MFd fb) (fun _ _ h => h.elim)).trans' hF9
      have hOwn9 := Lib.hid (sub_row_fr Hown.out hFr9)
      have HFr9 := Lib.hid (HFr.out.trans' hFr9)
      have hFB9h := Lib.hid hFB9
      have hp9 : w6.heap.size < (w8.setCell ⟨fb, 6, none⟩ (.bool (bdi || !ok))).heap.size := Nat.lt_of_lt_of_le (by omega) hF9.size
      clear hR8 hFB8 hFB9 hF9 hFr9 hFr8 hbdi HFBr Hown HFr Hsub HFx r0 r1 r2 r3 r4
      have HBn : Hid ((f4.bad || anyBad (gl.take (i + 1))) = (bdi || !ok)) := Lib.hid (by rw [HB.out, ← Bool.or_assoc, Hbdi.out])
      have hO6 : OldK.k ≤ w6.heap.size := by omega
      clear Hbdi HB
      cases bdi
      all_goals
       simp only [Bool.false_or, Bool.true_or] at hR9 hOwn9 HFr9 hFB9h hp9 HBn
       go_upto_region 14 with (fail)
       first
        | (obtain ⟨W9, hW9⟩ : ∃ W, w8.setCell ⟨fb, 6, none⟩ (.bool true) = W := ⟨_, rfl⟩; rw [hW9] at hR9 hOwn9 HFr9 hFB9h hp9; change Code.wp _ _ _ _ (w8.setCell ⟨fb, 6, none⟩ (.bool true)); rw [hW9]; clear hW9)
        | (obtain ⟨W9, hW9⟩ : ∃ W, w8.setCell ⟨fb, 6, none⟩ (.bool (!ok)) = W := ⟨_, rfl⟩; rw [hW9] at hR9 hOwn9 HFr9 hFB9h hp9; change Code.wp _ _ _ _ (w8.setCell ⟨fb, 6, none⟩ (.bool (!ok))); rw [hW9]; clear hW9)
       clear c6 fz hlt8
       go_wp2_with (first
        | (with_reducible refine wpList_load_mid rfl 164 _ rfl p7 0 rfl CS dS hR9.out Hu.out Hd.out Hs2.out ?_)
        | ((with_reducible refine Great.wpList_buildSliceTo ?_ 160 164 1 _ rfl W9.heap.size rfl _ rfl Tryz.underlying160 CS.toArray ?_ ?_); rfl; (refine Eq.trans (congrArg (Tryz.prog.builtSlice 164 1) ?_) Hbuilt.out; kernel_rfl))
        | (at_builtin; (refine wpList_append_own_at _ rfl _ _ 160 rfl w6.heap.size 164 i0 (.agg #[.string ⟨#[]⟩, .int .u8 0, .int .u8 0, .int .u8 0, .int .u8 0, .int .u8 0, .int .u8 0, .int .u8 0, .int .u8 0, .int .u8 0, .int .u8 0, .int .u8 0, .int .u8 0, .int .u8 0, .int .u8 0, .int .u8 0, .int .u8 0, .int .u8 0, .int .u8 0, .int .u8 0, .int .u8 0, .int .u8 0, .int .u8 0, .int .u8 0, .int .u8 0, .int .u8 0, .int .u8 0, .int .u8 0, .int .u8 0, .int .u8 0, .int .u8 0, .int .u8 0, .int .u8 0]) 33 48 Tryz.underlying160 hi hz0 hz1 hz2 rfl (by decide) (.slice ao i co) i (subRows (gl.take i)) (by rfl) (hOwn9.out.alloc _) ⟨W9.heap.size, 0, none⟩ 1 1 CS (by rfl) (by rw [HCl.out]) (lit_cells W9 CS 164) HCm.out (by unfold maxLen; omega) (by omega) (by rw [World.size_alloc]; omega) ?_)))
       intro v' w10 hown10 hgr10 hne10 hat10
       have hFB10 := (hFB9h.out.fr (Fr.refl.alloc (.cells CS.toArray 164))).grown hgr10 (hOwn9.out.alloc _) hfbk hO6
       have hFr10 := (HFr9.out.alloc (.cells CS.toArray 164)).trans (Fr.ofGrown hgr10) (fun k _ hm => .inr (ownsRow_le hOwn9.out hm))
       rcases hown10.2 with ⟨rfl, h0⟩ | ⟨g, cp, cur, rfl, -⟩
       ·omega
       have Hown10 := Lib.hid hown10
       have HFB10 := Lib.hid hFB10
       have HFr10 := Lib.hid hFr10
       clear hown10 hgr10 hne10 hat10 hFB10 hFr10
       go_wp2_with fail
       go_roundg (gk - 1)
       case measure => omega
       case rel => exact ⟨i + 1, _, _, by simp, rfl, by omega, by omega, Lib.hid (by rw [HS.out]; exact Hown10.out), Lib.hid (by rw [HBn.out]; exact HFB10.out), HFr10⟩
     ·obtain rfl : i = gl.length := by omega
      have hdone := fdone_c _ fb _ wr HFBr.out
      obtain ⟨FD, hFD⟩ : ∃ x, fDone { f4 with bad := f4.bad || anyBad (gl.take gl.length) } = x := ⟨_, rfl⟩
      rw [hFD] at hdone
      rw [List.take_length] at hFD
      have hO := ownsRow_base Hown.out (Nat.le_trans hwp (by omega : fb ≤ w6.heap.size))
      rw [List.take_length] at hO
      have hRz := HRx.out
      have hab : (gl.map pSubject).any (fun x => !x.2.2) = anyBad gl := by
       unfold anyBad
       rw [List.any_map]
       rfl
      simp only [J.list, hab, hFD, List.length_map, List.map_map] at hRz
      have hrows : (gl.map ((fun x : Bs × Bs × Bool => (x.1, x.2.1)) ∘ pSubject)).flatMap (fun x => subCells x.1 x.2) = subRows gl := by
       unfold subRows
       rw [List.flatMap_map]
       rfl
      have hlenm : (gl.map ((fun x : Bs × Bs × Bool => (x.1, x.2.1)) ∘ pSubject)).length = gl.length := List.length_map _
      obtain ⟨LS, hLS⟩ : ∃ L, gl.map ((fun x : Bs × Bs × Bool => (x.1, x.2.1)) ∘ pSubject) = L := ⟨_, rfl⟩
      rw [hLS] at hRz hrows hlenm
      rw [← hrows] at hO
      have HO := Lib.hid hO
      have HFe := Lib.hid (HF6.out.trans HFr.out (fun k _ hm => .inr (by have := hm.1; omega)))
      have Hdone := Lib.hid hdone
      have Hrz := Lib.hid hRz
      have Hlm := Lib.hid hlenm
      clear hdone hO hRz hrows hlenm hLS hFD hab HRx HFBr Hown HFr HF6 Hrow Hfb6
      cases FD with
      | false =>
        obtain rfl : (none : Option (List (Bs × Bs))) = R := by simpa using Hrz.out
        go_wp2_with fail
        refine Hdone.out.mono ?_
        rintro e w7 ⟨rfl, hF7⟩
        have HF7 := Lib.hid (HFe.out.trans' hF7)
        clear hF7
        go_wp2_with fail
        go_ret2
        exact ⟨rfl, HF7.out⟩
      | true =>
        by_cases h1 : gl.length < 1
        ·have hc1 : decide ((gl.length : Int) < 1) = true := decide_eq_true (by omega)
         obtain rfl : (none : Option (List (Bs × Bs))) = R := by
          have := Hrz.out
          rw [show decide (1 ≤ gl.length) = false from decide_eq_false (by omega)] at this
          simpa using this
         clear h1
         go_wp2_with fail
         refine Hdone.out.mono ?_
         rintro e w7 ⟨rfl, hF7⟩
         have HF7 := Lib.hid (HFe.out.trans' hF7)
         clear hF7
         go_wp2_with fail
         go_ret2
         exact ⟨rfl, HF7.out⟩
        ·have hc1 : decide ((gl.length : Int) < 1) = false := decide_eq_false (by omega)
         by_cases h2 : 16 < gl.length
         ·have hc2 : decide ((16 : Int) < (gl.length : Int)) = true := decide_eq_true (by omega)
          obtain rfl : (none : Option (List (Bs × Bs))) = R := by
           have := Hrz.out
           rw [show decide (gl.length ≤ 16) = false from decide_eq_false (by omega)] at this
           simpa using this
          clear h1 h2
          go_wp2_with fail
          refine Hdone.out.mono ?_
          rintro e w7 ⟨rfl, hF7⟩
          have HF7 := Lib.hid (HFe.out.trans' hF7)
          clear hF7
          go_wp2_with fail
          go_ret2
          exact ⟨rfl, HF7.out⟩
         ·have hc2 : decide ((16 : Int) < (gl.length : Int)) = false := decide_eq_false (by omega)
          obtain rfl : some LS = R := by
           have := Hrz.out
           rw [show decide (gl.length ≤ 16) = true from decide_eq_true (by omega), show decide (1 ≤ gl.length) = true from decide_eq_true (by omega)] at this
           simpa using this
          clear h1 h2
          go_wp2_with fail
          refine Hdone.out.mono ?_
          rintro e w7 ⟨rfl, hF7⟩
          have HF7 := Lib.hid (HFe.out.trans' hF7)
          have HO7 := Lib.hid (ownsRow_fr HO.out hF7 (fun _ _ _ _ h => h))
          clear hF7
          go_wp2_with fail
          go_ret2
          refine ⟨⟨_, rfl, ?_⟩, HF7.out⟩
          rw [Hlm.out]
          exact HO7.out
end Go.Proofs.YtcddlemkimbkcaaGreatDoor
