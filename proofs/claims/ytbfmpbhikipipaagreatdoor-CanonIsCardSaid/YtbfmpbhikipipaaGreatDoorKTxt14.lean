/-
  The reference's reader of texts: an object.
-/
import Derived.Test.YtbfmpbhikipipaaGreatDoorKTxt11
import Derived.Test.YtbfmpbhikipipaaGreatDoorKTxt7
import Derived.Test.YtbfmpbhikipipaaGreatDoorKTxt8
import Derived.Maps.AppendAt
namespace Go.Proofs.YtbfmpbhikipipaaGreatDoor
set_option linter.unusedVariables false
set_option linter.unusedSimpArgs false
set_option linter.unusedSectionVars false
open Go.RowKit
variable [OldK]
attribute [local irreducible] wpStill
theorem getL_has (nm : Bs) : ∀ p : List (Bs × J), (pGetL nm p).isSome = (p.map (·.1)).contains nm := by
  intro p
  induction p with
  | nil => rfl
  | cons q p ih =>
    obtain ⟨n, x⟩ := q
    rw [pGetL]
    by_cases h : n = nm
    · rw [if_pos h]; simp [h]
    · rw [if_neg h, ih]
      simp only [List.map_cons, List.contains_cons]
      rw [beq_eq_false_iff_ne.2 (fun e => h e.symm)]
      simp
/-- what stands behind a name -/
theorem colon_facts {L : Bs} {p2 : Nat} {st1 : St} {nm : Bs} {acc : List (Bs × J)} (hpos : st1.bad = false → L.drop p2 = st1.s ∧ p2 ≤ L.length) :
    ((pGetL nm acc).isSome = true ∨ st1.bad = true ∨ Lib.hasPrefix (L.drop (blk L p2)) [58] = false → (sColon (acc.map (·.1)) nm st1).bad = true) ∧
    ((pGetL nm acc).isSome = false → st1.bad = false → Lib.hasPrefix (L.drop (blk L p2)) [58] = true → sColon (acc.map (·.1)) nm st1 = ⟨L.drop (blk L p2 + 1), false⟩) := by
  have hd := drop_blk L p2
  rw [getL_has]
  unfold sColon
  constructor
  · intro h
    split
    · rfl
    · rename_i hc
      have hc2 : (acc.map (·.1)).contains nm = false := by simpa using hc
      rcases h with h | h | h
      · rw [hc2] at h; simp at h
      · cases sEat 58 st1.s with
        | none => rfl
        | some l => exact h
      · cases hb : st1.bad with
        | true => cases sEat 58 st1.s <;> rfl
        | false =>
          rw [hd, (hpos hb).1] at h
          rw [seat_no]
          rintro l hl
          rw [hl] at h
          simp [Lib.hasPrefix] at h
  · intro h1 h2 h3
    rw [if_neg (by rw [h1]; simp)]
    cases hl : L.drop (blk L p2) with
    | nil => rw [hl] at h3; simp [Lib.hasPrefix] at h3
    | cons x l =>
      rw [hl] at h3
      have hx : x = 58 := by
        simp [Lib.hasPrefix] at h3
        first | exact h3.symm | exact h3
      subst hx
      rw [hd, (hpos h2).1] at hl
      rw [seat_yes hl]
      simp only
      rw [← List.drop_drop, hd, (hpos h2).1, hl, h2]
      rfl
section
variable {b : Nat} {L : Bs} {v : Value} {w wr w1 : World} {c c' : Nat} {bd bd' : Bool} {cs : Array Value}
/-- a word, whatever the reader's state -/
theorem word_any {p : Bs} (h : if Lib.hasPrefix (L.drop c) p = true then TX b L v (c + p.length) bd wr ∧ c + p.length ≤ L.length else TX b L v c true wr) :
    ∃ c', TX b L v c' (bd || !Lib.hasPrefix (L.drop c) p) wr ∧ c' ≤ c + p.length ∧ (Lib.hasPrefix (L.drop c) p = true → c' = c + p.length ∧ c' ≤ L.length) := by
  by_cases hp : Lib.hasPrefix (L.drop c) p = true
  · rw [if_pos hp] at h
    rw [hp]
    exact ⟨_, by simpa using h.1, Nat.le_refl _, fun _ => ⟨rfl, h.2⟩⟩
  · rw [if_neg hp] at h
    have hp2 : Lib.hasPrefix (L.drop c) p = false := by simpa using hp
    rw [hp2]
    exact ⟨_, by simpa using h, by omega, fun h => by simp at h⟩
theorem LS.other (h : LS b L v w c bd cs wr) (hF : Fr (fun k _ => w.heap.size + 2 ≤ k) wr w1) : LS b L v w c bd cs w1 := by
  obtain ⟨g1, g2⟩ := h.tx.grow h.sb h.lt (hF.mono (M' := fun k _ => w.heap.size ≤ k) (fun k _ hm => by omega))
  exact ⟨g1, g2, hF.block _ _ h.ra (by omega), hF.block _ _ h.rb (by omega), h.fr.trans hF (fun k _ hm => .inr (by omega)), h.lt, h.old⟩
theorem QRow.val0 {l : List (Bs × J)} {lv : Value} {N : Nat} (h : QRow (fun _ => False) N l lv wr) :
    RJ (fun k => N ≤ k) wr (.mk 5 0 [] [] l) (.agg #[.int .i64 5, .int .i64 0, .string ⟨#[]⟩, .slice none 0 0, lv]) := by
  obtain ⟨a, e, rfl, hr⟩ := h.rowQ
  have h1 : RJ (fun k => (False ∨ N ≤ k) ∧ k < wr.heap.size) wr (.mk 5 0 [] [] l) (.agg #[.int .i64 5, .int .i64 0, .string ⟨#[]⟩, .slice none 0 0, .slice a l.length e]) := by
    unfold RJ
    exact ⟨none, 0, a, e, rfl, .inl rfl, hr⟩
  exact RJ.kp (fun q o hq ho _ => ⟨by rcases hq.1 with h | h; exact h.elim; omega, ho⟩) _ _ h1
theorem RP.low {S : Nat → Prop} {l : List (Bs × J)} {xs : List Value} (h : RP S wr l xs) : RP (fun k => S k ∧ k < wr.heap.size) wr l xs :=
  RP.kp (fun b o hs hb _ => ⟨⟨hs, get_lt hb⟩, hb⟩) l xs h
/-- a pair's value is written -/
def setP (b : Nat) (v0 v1 v2 v3 v4 : Value) (w : World) : World :=
  ((((w.setCell ⟨b, 1, none⟩ v0).setCell ⟨b, 2, none⟩ v1).setCell ⟨b, 3, none⟩ v2).setCell ⟨b, 4, none⟩ v3).setCell ⟨b, 5, none⟩ v4
theorem setP_fr (b : Nat) (v0 v1 v2 v3 v4 : Value) (w : World) : Fr (fun k _ => k = b) w (setP b v0 v1 v2 v3 v4 w) :=
  ((((Fr.refl.setCell _ _ (fun _ _ => rfl)).setCell _ _ (fun _ _ => rfl)).setCell _ _ (fun _ _ => rfl)).setCell _ _ (fun _ _ => rfl)).setCell _ _ (fun _ _ => rfl)
theorem setP_at {q0 q1 q2 q3 q4 q5 v0 v1 v2 v3 v4 : Value} {k : Nat} (h : wr.heap[k]? = some (.cells #[q0, q1, q2, q3, q4, q5] 62 (0, 0))) :
    (setP k v0 v1 v2 v3 v4 wr).heap[k]? = some (.cells #[q0, v0, v1, v2, v3, v4] 62 (0, 0)) := by
  unfold setP
  exact heap_setCell_eq (o := 5) _ (heap_setCell_eq (o := 4) _ (heap_setCell_eq (o := 3) _ (heap_setCell_eq (o := 2) _ (heap_setCell_eq (o := 1) _ h))))
theorem PB.at' {q0 q1 q2 q3 q4 q5 : Value} {k : Nat} (h : wr.heap[k]? = some (.cells #[q0, q1, q2, q3, q4, q5] 62 (0, 0))) :
    wr.cell? ⟨k, 0, none⟩ = some q0 ∧ wr.cell? ⟨k, 1, none⟩ = some q1 ∧ wr.cell? ⟨k, 2, none⟩ = some q2 ∧ wr.cell? ⟨k, 3, none⟩ = some q3 ∧ wr.cell? ⟨k, 4, none⟩ = some q4 ∧ wr.cell? ⟨k, 5, none⟩ = some q5 ∧ (∀ o, wr.frozen? ⟨k, o, none⟩ = false) ∧ k < wr.heap.size :=
  ⟨by simp [World.cell?, h], by simp [World.cell?, h], by simp [World.cell?, h], by simp [World.cell?, h], by simp [World.cell?, h], by simp [World.cell?, h], by simp [World.frozen?, h], get_lt h⟩
end
end Go.Proofs.YtbfmpbhikipipaaGreatDoor
namespace Go.Proofs.YtbfmpbhikipipaaGreatDoor
set_option linter.unusedVariables false
set_option linter.unusedSimpArgs false
set_option linter.unusedSectionVars false
open Go.RowKit
variable [OldK]
attribute [local irreducible] wpStill
theorem bw_true {x q : Bool} (h : (x || !q) = true) : x = true ∨ q = false := by cases x <;> cases q <;> simp at h ⊢
theorem bw_false {x q : Bool} (h : (x || !q) = false) : x = false ∧ q = true := by cases x <;> cases q <;> simp at h ⊢
set_option maxRecDepth 100000 in
set_option maxHeartbeats 8000000 in
theorem tobject_c (f b : Nat) (L : Bs) (v : Value) (hv : TValOk b L v f) (hL : L.length ≤ 4096) (d : Int) (hd0 : 1 ≤ d) (hdf : d + f = 10) (a : Nat) (w : World) (h : TX b L v a false w) (l : Bs) (hl : L.drop a = 123 :: l) :
    Calls Tryz.prog 64 #[.pointer (some ⟨b, 0, none⟩), .int .i64 d] w fun e w' => ∃ j x, e = .returned x ∧ RJ (fun k => w.heap.size ≤ k) w' j x ∧
      ((sEach (sPair (sValue f d)) 123 125 d ⟨123 :: l, false⟩ []).1.bad = false → j = .mk 5 0 [] [] (sEach (sPair (sValue f d)) 123 125 d ⟨123 :: l, false⟩ []).2) ∧
      RS b L v (L.length + 11 - d.toNat) (sEach (sPair (sValue f d)) 123 125 d ⟨123 :: l, false⟩ []).1 w' ∧ Fr (MT b) w w' := by
  obtain ⟨d1, d2, d3, d4⟩ := dropAt hl
  have HL0 := Lib.hid (LS.start h #[.int .i64 5, .int .i64 0, .string ⟨#[]⟩, .slice none 0 0, .slice none 0 0])
  obtain ⟨q, cap, rfl⟩ := h.2.1.form
  by_cases hd : 8 < d
  · have hb := each_deep (one := sPair (sValue f d)) (shut := 125) (op := 123) (d := d) (l := l) (a := []) (by decide) hd
    generalize sEach (sPair (sValue f d)) 123 125 d ⟨123 :: l, false⟩ [] = G at *
    have hdd : decide (8 < d) = true := decide_eq_true hd
    have Hb := Lib.hid hb
    obtain ⟨c0, c1, c2, fz, hlt1⟩ := h.cells
    have HH := Lib.hid h
    clear hv h hl d3 hb
    go_enter Tryz.func64, Tryz.ntmps64
    go_wp2_with fail
    refine bodyPost_ret (v := .agg #[.int .i64 5, .int .i64 0, .string ⟨#[]⟩, .slice none 0 0, .slice none 0 0]) (by simp [results, Tryz.results64, go_sem]) rfl ?_
    exact ⟨.mk 5 0 [] [] [], _, rfl, RJ.flat _ _ 5 0 [], fun h => by rw [Hb.out] at h; simp at h, ⟨a, by rw [Hb.out]; exact (HH.out.set2 true).frN ((Fr.refl.alloc _).alloc _), fun h => by rw [Hb.out] at h; simp at h, by omega⟩, ((HH.out.setF _ _).alloc _).alloc _⟩
  · have hdd : decide (8 < d) = false := decide_eq_false hd
    obtain ⟨e1, e2⟩ := each_start (one := sPair (sValue f d)) (shut := 125) (op := 123) (d := d) (l := l) (a := []) (by decide) (by omega)
    obtain ⟨G, hG⟩ : ∃ G, sEach (sPair (sValue f d)) 123 125 d ⟨123 :: l, false⟩ [] = G := ⟨_, rfl⟩
    rw [hG] at e1 e2 ⊢
    have hbk := blk_le L (a + 1)
    have hdb := drop_blk L (a + 1)
    rw [d3] at hdb
    obtain ⟨p1, hc1⟩ : ∃ p1, blk L (a + 1) = p1 := ⟨_, rfl⟩
    have hbl := fun W hW => tblanks_c b L (.slice q L.length cap) (a + 1) false W hW hL (by omega)
    rw [hc1] at hbk hdb hbl
    have Hbl := Lib.hid hbl
    have hnx := fun W hW => next_c b L (.slice q L.length cap) p1 false W hW hL (by omega)
    rw [hdb] at hnx
    have Hnx := Lib.hid hnx
    have hc1L : p1 ≤ L.length := by omega
    have hac : a + 1 ≤ p1 := hbk.1
    have Hdb := Lib.hid hdb
    have wa : IntKind.i64.wrap ((a : Int) + 1) = (a : Int) + 1 := by rw [IntKind.wrap_i64]; omega
    have wc1 : IntKind.i64.wrap ((p1 : Int) + 1) = (p1 : Int) + 1 := by rw [IntKind.wrap_i64]; omega
    clear hG hbk hbl hc1 h hl hnx
    by_cases hm : nx (sBlanks l) = 125
    · obtain ⟨m, hm2⟩ := nx_cons (t := sBlanks l) (x := 125) (by decide) hm
      have hGm := e1 m hm2
      rw [hm2] at hdb
      obtain ⟨f1, f2, f3, f4⟩ := dropAt hdb
      have hq : (nx (sBlanks l) == 125) = true := by rw [beq_iff_eq]; exact hm
      generalize nx (sBlanks l) = m0 at *
      subst hGm
      have F3 := Lib.hid f3
      clear hv e1 e2 hm2 hdb f2 f3 hm d3 Hdb
      obtain ⟨c0, c1, c2, fz, hlt1⟩ := HL0.out.tx.cells
      obtain ⟨r0, r1, r2, r3, r4, rz, rlt⟩ := VB.at HL0.out.ra
      obtain ⟨v0, v1, v2, v3, v4, vz, vlt⟩ := VB.at HL0.out.rb
      go_enter Tryz.func64, Tryz.ntmps64
      go_wp2_with fail
      clear c0 c1 c2 fz hlt1 r0 r1 r2 r3 r4 rz rlt v0 v1 v2 v3 v4 vz vlt
      have HL1 := Lib.hid (HL0.out.put1 ((a : Int) + 1) (a + 1) rfl)
      refine (Hbl.out _ HL1.out.tx).mono ?_
      rintro e w2 ⟨rfl, h2, hF2⟩
      have HL2 := Lib.hid (HL1.out.call h2 hF2)
      clear h2 hF2
      go_wp2_with fail
      refine (Hnx.out _ HL2.out.tx).mono ?_
      rintro e w3 ⟨rfl, h2, hF2⟩
      have HL3 := Lib.hid (HL2.out.call h2 (hF2.mono (fun _ _ h => h.elim)))
      have HFc := Lib.hid (hF2.mono (M' := MT b) (fun _ _ h => h.elim))
      clear h2 hF2
      obtain ⟨c0, c1, c2, fz, hlt1⟩ := HL3.out.tx.cells
      obtain ⟨r0, r1, r2, r3, r4, rz, rlt⟩ := VB.at HL3.out.ra
      obtain ⟨v0, v1, v2, v3, v4, vz, vlt⟩ := VB.at HL3.out.rb
      have hltw := HL3.out.lt
      go_wp2_with fail
      refine bodyPost_ret (v := .agg #[.int .i64 5, .int .i64 0, .string ⟨#[]⟩, .slice none 0 0, .slice none 0 0]) (by simp [results, Tryz.results64, go_sem, r0, r1, r2, r3, r4]) rfl ?_
      obtain ⟨t1, t2⟩ := (HL3.out.put1 ((p1 : Int) + 1) (p1 + 1) rfl).tset (.int .i64 5) (.int .i64 0) (.string ⟨#[]⟩) (.slice none 0 0) (.slice none 0 0)
      exact ⟨.mk 5 0 [] [] [], _, rfl, RJ.flat _ _ 5 0 [], fun _ => rfl, ⟨p1 + 1, t1, fun _ => ⟨F3.out, by omega⟩, by omega⟩, t2⟩
    · have hq : (nx (sBlanks l) == 125) = false := by rw [beq_eq_false_iff_ne]; exact hm
      have hGm := e2 (nx_ne (x := 125) hm)
      rw [← Hdb.out] at hGm
      have hk0 : (L.drop p1).length + 1 ≤ l.length + 2 := by rw [List.length_drop]; omega
      generalize l.length + 2 = k0 at hGm hk0
      have HGm := Lib.hid hGm.symm
      generalize nx (sBlanks l) = m0 at *
      obtain ⟨i0, hi, hz0, hz1, hz2⟩ := info_parts Tryz.infoP
      clear e1 e2 hdb hm d3 Hdb hGm
      obtain ⟨c0, c1, c2, fz, hlt1⟩ := HL0.out.tx.cells
      obtain ⟨r0, r1, r2, r3, r4, rz, rlt⟩ := VB.at HL0.out.ra
      obtain ⟨v0, v1, v2, v3, v4, vz, vlt⟩ := VB.at HL0.out.rb
      go_enter Tryz.func64, Tryz.ntmps64
      go_wp2_with fail
      clear c0 c1 c2 fz hlt1 r0 r1 r2 r3 r4 rz rlt v0 v1 v2 v3 v4 vz vlt
      have HL1 := Lib.hid (HL0.out.put1 ((a : Int) + 1) (a + 1) rfl)
      refine (Hbl.out _ HL1.out.tx).mono ?_
      rintro e w2 ⟨rfl, h2, hF2⟩
      have HL2 := Lib.hid (HL1.out.call h2 hF2)
      clear h2 hF2
      go_wp2_with fail
      refine (Hnx.out _ HL2.out.tx).mono ?_
      rintro e w3 ⟨rfl, h2, hF2⟩
      have HL3 := Lib.hid (HL2.out.call h2 (hF2.mono (fun _ _ h => h.elim)))
      have HFc := Lib.hid (hF2.mono (M' := MT b) (fun _ _ h => h.elim))
      clear h2 hF2
      go_wp2_with fail
      clear HL0 HL1 HL2 Hbl Hnx wa wc1 hq
      go_loopg [] (k0 + 1) (fun g wr => ∃ (acc : List (Bs × J)) (lv : Value) (c k : Nat) (bd : Bool), Hid (LS b L (.slice q L.length cap) w c bd #[.int .i64 5, .int .i64 0, .string ⟨#[]⟩, .slice none 0 0, lv] wr) ∧ Hid (QRow (fun _ => False) (w.heap.size + 2) acc lv wr) ∧
        c ≤ L.length + 11 - d.toNat ∧ (bd = false → acc.length ≤ c) ∧ k + 1 = g ∧
        Hid (bd = false → c ≤ L.length ∧ (L.drop c).length + 1 ≤ k ∧ sLoop (sPair (sValue f d)) 125 k ⟨L.drop c, false⟩ acc = G) ∧ Hid (bd = true → G.1.bad = true))
      case atStart => exact ⟨[], .slice none 0 0, p1, k0, false, HL3, Lib.hid (QRow.nil _ _ _), by omega, fun _ => by simp, rfl, Lib.hid (fun _ => ⟨hc1L, hk0, HGm.out⟩), Lib.hid (fun h => by simp at h)⟩
      case round =>
        clear HL3 HGm
        obtain ⟨acc, lv, c, k, bd, H, HR, hcK, hacc, hkg, HA, HB⟩ := hrel
        cases bd with
        | true =>
          have HG := Lib.hid (HB.out rfl)
          obtain ⟨al, cl, rfl⟩ := own_form HR.out.choose_spec.1
          clear HA HB hacc
          obtain ⟨c0, c1, c2, fz, hlt1⟩ := H.out.tx.cells
          obtain ⟨r0, r1, r2, r3, r4, rz, rlt⟩ := VB.at H.out.ra
          obtain ⟨v0, v1, v2, v3, v4, vz, vlt⟩ := VB.at H.out.rb
          go_wp2_with fail
          refine bodyPost_ret (v := .agg #[.int .i64 5, .int .i64 0, .string ⟨#[]⟩, .slice none 0 0, .slice al acc.length cl]) (by simp [results, Tryz.results64, go_sem, r0, r1, r2, r3, r4]) rfl ?_
          obtain ⟨t1, t2⟩ := H.out.tset (.int .i64 5) (.int .i64 0) (.string ⟨#[]⟩) (.slice none 0 0) (.slice al acc.length cl)
          exact ⟨.mk 5 0 [] [] acc, _, rfl, HR.out.val _ _ _ _ _, fun h => by rw [HG.out] at h; simp at h, ⟨c, by rw [HG.out]; exact t1, fun h => by rw [HG.out] at h; simp at h, hcK⟩, t2⟩
        | false =>
          have hacc := hacc rfl
          obtain ⟨k0', k1, k2⟩ := HA.out rfl
          obtain ⟨k, rfl⟩ : ∃ k', k = k' + 1 := ⟨k - 1, by omega⟩
          have hbk1 := blk_le L c
          have hdb1 := drop_blk L c
          have hbl := fun W hW => tblanks_c b L (.slice q L.length cap) c false W hW hL (by omega)
          obtain ⟨pn, hpn⟩ : ∃ pn, blk L c = pn := ⟨_, rfl⟩
          rw [hpn] at hbk1 hdb1 hbl
          have hpnL : pn ≤ L.length := by omega
          have hquo := fun W hW => tquoted_c b L (.slice q L.length cap) pn W hW hL hpnL
          obtain ⟨⟨nm, st1⟩, hQ⟩ : ∃ Q, sText ⟨L.drop pn, false⟩ = Q := ⟨_, rfl⟩
          have hone : sPair (sValue f d) ⟨L.drop c, false⟩ acc = ((sValue f d (sColon (acc.map (·.1)) nm st1)).2, acc ++ [(nm, (sValue f d (sColon (acc.map (·.1)) nm st1)).1)]) := by
            simp only [sPair]
            rw [← hdb1, hQ]
          simp only [hQ] at hquo
          have hle := pair_le (value_le f d) ⟨L.drop c, false⟩ acc
          rw [hone] at hle
          simp only at hle
          obtain ⟨ok, hok⟩ : ∃ ok, (pGetL nm acc).isSome = ok := ⟨_, rfl⟩
          have HA1 := Lib.hid (fun p2 (hpos : st1.bad = false → L.drop p2 = st1.s ∧ p2 ≤ L.length) (hb : ok = true ∨ st1.bad = true ∨ Lib.hasPrefix (L.drop (blk L p2)) [58] = false) => (by
            have h1 := (colon_facts (nm := nm) (acc := acc) hpos).1 (by rw [hok]; exact hb)
            have h2 : (sValue f d (sColon (acc.map (·.1)) nm st1)).2.bad = true := by
              generalize sColon (acc.map (·.1)) nm st1 = s3 at h1 ⊢
              obtain ⟨s, bd⟩ := s3
              simp only at h1
              subst h1
              exact value_stays f d s
            have h3 := (loop_step (one := sPair (sValue f d)) (shut := 125) (k := k) hone).1 h2
            rw [← k2, h3]
            exact h2 : G.1.bad = true))
          have HB1 := Lib.hid (fun p2 (hpos : st1.bad = false → L.drop p2 = st1.s ∧ p2 ≤ L.length) (h1 : ok = false) (h2 : st1.bad = false) (h3 : Lib.hasPrefix (L.drop (blk L p2)) [58] = true) jv st2 (hV : sValue f d ⟨L.drop (blk L p2 + 1), false⟩ = (jv, st2)) => (by
            have h4 := (colon_facts (nm := nm) (acc := acc) hpos).2 (by rw [hok]; exact h1) h2 h3
            rw [h4, hV] at hone hle
            exact ⟨hone, hle⟩ : sPair (sValue f d) ⟨L.drop c, false⟩ acc = (st2, acc ++ [(nm, jv)]) ∧ st2.s.length ≤ (L.drop c).length))
          have HK2 := Lib.hid k2
          obtain ⟨xs, hown, hrc⟩ := HR.out
          obtain ⟨ao, co, rfl⟩ := own_form hown
          have Hown := Lib.hid hown
          have Hrc := Lib.hid hrc
          have Hbl := Lib.hid hbl
          have Hquo := Lib.hid hquo
          have Hok := Lib.hid hok
          have hwN : w.heap.size + 1 < wr.heap.size := get_lt H.out.rb
          clear HA HB hle hone k2 hown hrc HR hbl hquo hok hQ hdb1 hpn hbk1
          obtain ⟨c0, c1, c2, fz, hlt1⟩ := H.out.tx.cells
          obtain ⟨r0, r1, r2, r3, r4, rz, rlt⟩ := VB.at H.out.ra
          obtain ⟨v0, v1, v2, v3, v4, vz, vlt⟩ := VB.at H.out.rb
          go_wp2_with fail
          refine (Hbl.out _ H.out.tx).mono ?_
          rintro e w1 ⟨rfl, h2, hF2⟩
          have H1 := Lib.hid (H.out.call h2 hF2)
          have HFc := Lib.hid hF2
          clear h2 hF2
          have HFa := HFc
          clear c0 c1 c2 fz hlt1 r0 r1 r2 r3 r4 rz rlt v0 v1 v2 v3 v4 vz vlt
          go_wp2_with fail
          refine (Hquo.out _ H1.out.tx).mono ?_
          rintro e w2 ⟨rfl, ⟨p2, hT2, hpos2, hK2⟩, hF2⟩
          have H2 := Lib.hid (H1.out.call hT2 hF2)
          have HFa := Lib.hid (HFa.out.trans' hF2)
          have Hown2 := Lib.hid (own_mtP Hown.out HFa.out)
          have Hrc2 := Lib.hid ((RP.mt Hrc.out H.out.old HFa.out).low)
          have Hpos2 := Lib.hid hpos2
          have H3 := Lib.hid (H2.out.callN ((Fr.refl (M := NoB)).alloc (.cells #[.string ⟨nm.toArray⟩, .int .i64 0, .int .i64 0, .string ⟨#[]⟩, .slice none 0 0, .slice none 0 0] 62)))
          have HPB := Lib.hid (heap_alloc_new w2 (.cells #[.string ⟨nm.toArray⟩, .int .i64 0, .int .i64 0, .string ⟨#[]⟩, .slice none 0 0, .slice none 0 0] 62))
          have hN2 : w.heap.size + 1 < w2.heap.size := get_lt H2.out.rb
          clear hT2 hF2 hpos2 Hown Hrc
          have Hbl3 := Lib.hid (fun W hW => tblanks_c b L (.slice q L.length cap) p2 st1.bad W hW hL (by omega))
          have hbk3 := blk_le L p2
          obtain ⟨p3, hp3⟩ : ∃ p3, blk L p2 = p3 := ⟨_, rfl⟩
          rw [hp3] at Hbl3 hbk3
          have Ha1 := HA1.out p2 Hpos2.out
          have Hb1 := HB1.out p2 Hpos2.out
          rw [hp3] at Ha1 Hb1
          have hp3L : p3 ≤ L.length + 1 := by omega
          have Hw5 := Lib.hid (fun W hW => word_c [58] b L (.slice q L.length cap) p3 st1.bad W hW hL (by omega) (by decide) (by decide))
          have HA1 := Lib.hid Ha1
          have HB1 := Lib.hid Hb1
          clear Ha1 Hb1 hp3 hbk3
          go_wp2_with fail
          refine (Hbl3.out _ H3.out.tx).mono ?_
          rintro e w4 ⟨rfl, h2, hF2⟩
          have H4 := Lib.hid (H3.out.call h2 hF2)
          have HPB4 := Lib.hid (hF2.block _ _ HPB.out MT_pair)
          have HFb := Lib.hid (((Fr.refl (M := MT b)).alloc (w := w2) (.cells #[.string ⟨nm.toArray⟩, .int .i64 0, .int .i64 0, .string ⟨#[]⟩, .slice none 0 0, .slice none 0 0] 62)).trans' hF2)
          clear h2 hF2 HPB H3
          go_wp2_with fail
          refine (Hw5.out _ H4.out.tx).mono ?_
          rintro e w5 ⟨rfl, hT5', hF5⟩
          obtain ⟨p4, hT5, hp4, hp4q⟩ := word_any hT5'
          have H5 := Lib.hid (H4.out.call hT5 hF5)
          have HPB5 := Lib.hid (hF5.block _ _ HPB4.out MT_pair)
          have HFb := Lib.hid (HFb.out.trans' hF5)
          have hp4L : p4 ≤ L.length + 2 := by simp at hp4; omega
          obtain ⟨qq, hqq⟩ : ∃ qq, Lib.hasPrefix (L.drop p3) [58] = qq := ⟨_, rfl⟩
          rw [hqq] at H5 hp4q HA1 HB1
          obtain ⟨bw, hbw⟩ : ∃ bw, (st1.bad || !qq) = bw := ⟨_, rfl⟩
          rw [hbw] at H5
          have Hbw := Lib.hid hbw
          have Hp4q := Lib.hid hp4q
          clear hT5' hT5 hF5 hp4 hqq hbw hp4q Hw5 H4 HPB4 Hbl3 H2
          have HQ5 : Hid (QRow (fun _ => False) (w.heap.size + 2) acc (.slice ao acc.length co) w5) := Lib.hid ⟨xs, own_mtP Hown2.out HFb.out, RP.mt (RP.kp (fun b o hs hb _ => ⟨hs.1, hb⟩) _ _ Hrc2.out) H.out.old HFb.out⟩
          have hget := tget_c (fun k => w.heap.size + 2 ≤ k) (.mk 5 0 [] [] acc) _ nm w5 HQ5.out.val0 (by simp only [J.pairs]; omega)
          rw [pGet_obj, Hok.out] at hget
          obtain ⟨⟨gk', gn, gt, gl, gp⟩, hgj⟩ : ∃ g, (pGetL nm acc).getD J.zero = g := ⟨_, rfl⟩
          rw [hgj] at hget
          have Hget := Lib.hid hget
          clear hget hgj Hok
          obtain ⟨c0, c1, c2, fz, hlt1⟩ := H5.out.tx.cells
          obtain ⟨r0, r1, r2, r3, r4, rz, rlt⟩ := VB.at H5.out.ra
          obtain ⟨v0, v1, v2, v3, v4, vz, vlt⟩ := VB.at H5.out.rb
          obtain ⟨q0, q1, q2, q3, q4, q5, qz, qlt⟩ := PB.at' HPB5.out
          go_wp2_with fail
          refine Hget.out.mono ?_
          rintro e w6 ⟨x, rfl, hx, hF6⟩
          obtain ⟨y1, m1, y2, m2, rfl, _, _⟩ := hx.open
          have H6 := Lib.hid (H5.out.callN hF6)
          have HPB6 := Lib.hid (hF6.block _ _ HPB5.out (fun h => h))
          have H7 := Lib.hid (H6.out.callN ((Fr.refl (M := NoB)).alloc (.cells #[.int .i64 gk', .int .i64 gn, .string ⟨gt.toArray⟩, .slice y1 gl.length m1, .slice y2 gp.length m2] 25)))
          have HPB7 := Lib.hid (alloc_keep (.cells #[.int .i64 gk', .int .i64 gn, .string ⟨gt.toArray⟩, .slice y1 gl.length m1, .slice y2 gp.length m2] 25) HPB6.out)
          have HF57 := Lib.hid ((hF6.mono (M' := MT b) (fun _ _ h => h.elim)).alloc (.cells #[.int .i64 gk', .int .i64 gn, .string ⟨gt.toArray⟩, .slice y1 gl.length m1, .slice y2 gp.length m2] 25))
          clear hx hF6 HPB6 H6 HPB5 Hget q0 q1 q2 q3 q4 q5 qz qlt
          clear c0 c1 c2 fz hlt1 r0 r1 r2 r3 r4 rz rlt v0 v1 v2 v3 v4 vz vlt
          cases ok with
          | true =>
            have HG := Lib.hid (HA1.out (.inl rfl))
            have H8 := Lib.hid (H7.out.set2 true)
            have HQ8 := Lib.hid (HQ5.out.mt H.out.old (HF57.out.trans' (H7.out.tx.setF 2 (.bool true))))
            obtain ⟨c0, c1, c2, fz, hlt1⟩ := H7.out.tx.cells
            obtain ⟨r0, r1, r2, r3, r4, rz, rlt⟩ := VB.at H7.out.ra
            obtain ⟨v0, v1, v2, v3, v4, vz, vlt⟩ := VB.at H7.out.rb
            clear r0 r1 r2 r3 r4 rz rlt
            obtain ⟨r0, r1, r2, r3, r4, rz, rlt⟩ := VB.at H8.out.ra
            obtain ⟨v0', v1', v2', v3', v4', vz', vlt'⟩ := VB.at H8.out.rb
            clear Hbw Hp4q HB1 HA1 HPB7 HFb HF57 HQ5
            go_wp2_with fail
            refine bodyPost_ret (v := .agg #[.int .i64 5, .int .i64 0, .string ⟨#[]⟩, .slice none 0 0, .slice ao acc.length co]) (by simp [results, Tryz.results64, go_sem, r0, r1, r2, r3, r4]) rfl ?_
            obtain ⟨t1, t2⟩ := H8.out.tset (.int .i64 5) (.int .i64 0) (.string ⟨#[]⟩) (.slice none 0 0) (.slice ao acc.length co)
            exact ⟨.mk 5 0 [] [] acc, _, rfl, HQ8.out.val (.int .i64 5) (.int .i64 0) (.string ⟨#[]⟩) (.slice none 0 0) (.slice ao acc.length co), fun h => by rw [HG.out] at h; simp at h, ⟨p4, by rw [HG.out]; exact t1, fun h => by rw [HG.out] at h; simp at h, by omega⟩, t2⟩
          | false =>
            cases bw with
            | true =>
              have HG := Lib.hid (HA1.out (.inr (bw_true Hbw.out)))
              have HQ7 := Lib.hid (HQ5.out.mt H.out.old HF57.out)
              obtain ⟨c0, c1, c2, fz, hlt1⟩ := H7.out.tx.cells
              obtain ⟨r0, r1, r2, r3, r4, rz, rlt⟩ := VB.at H7.out.ra
              obtain ⟨v0, v1, v2, v3, v4, vz, vlt⟩ := VB.at H7.out.rb
              clear Hbw Hp4q HB1 HA1 HPB7 HFb HF57 HQ5
              go_wp2_with fail
              refine bodyPost_ret (v := .agg #[.int .i64 5, .int .i64 0, .string ⟨#[]⟩, .slice none 0 0, .slice ao acc.length co]) (by simp [results, Tryz.results64, go_sem, r0, r1, r2, r3, r4]) rfl ?_
              obtain ⟨t1, t2⟩ := H7.out.tset (.int .i64 5) (.int .i64 0) (.string ⟨#[]⟩) (.slice none 0 0) (.slice ao acc.length co)
              exact ⟨.mk 5 0 [] [] acc, _, rfl, HQ7.out.val (.int .i64 5) (.int .i64 0) (.string ⟨#[]⟩) (.slice none 0 0) (.slice ao acc.length co), fun h => by rw [HG.out] at h; simp at h, ⟨p4, by rw [HG.out]; exact t1, fun h => by rw [HG.out] at h; simp at h, by omega⟩, t2⟩
            | false =>
              obtain ⟨hb1, hb2⟩ := bw_false Hbw.out
              obtain ⟨hp5, hp5L⟩ := Hp4q.out hb2
              have HB2 := Lib.hid (HB1.out rfl hb1 hb2)
              have hval := fun W hW => hv d p4 W hW hp5L (by omega) (by omega) hdf
              obtain ⟨⟨jv, st2⟩, hV⟩ : ∃ V, sValue f d ⟨L.drop p4, false⟩ = V := ⟨_, rfl⟩
              obtain ⟨hone, hle⟩ := HB2.out jv st2 (by rw [← hV, hp5]; rfl)
              simp only [hV] at hval
              have Hround := Lib.hid (fun a' hpos hK => round_facts (K := L.length + 11 - d.toNat) (a' := a') (shut := 125) (by decide) (by decide) hone hle k0' k1 HK2.out hpos hK (by omega))
              have Hval := Lib.hid hval
              clear hb1 hb2 HA1 HB1 Hbw Hp4q HB2 hone hle hV hval hp5 HK2 hv
              obtain ⟨c0, c1, c2, fz, hlt1⟩ := H7.out.tx.cells
              obtain ⟨r0, r1, r2, r3, r4, rz, rlt⟩ := VB.at H7.out.ra
              obtain ⟨v0, v1, v2, v3, v4, vz, vlt⟩ := VB.at H7.out.rb
              obtain ⟨q0, q1, q2, q3, q4, q5, qz, qlt⟩ := PB.at' HPB7.out
              go_wp2_with fail
              refine (Hval.out _ H7.out.tx).mono ?_
              rintro e w8 ⟨⟨jk', jn', jt', jl', jp'⟩, y, rfl, hy, hjs, ⟨a', hT8, hpos, hK⟩, hF8⟩
              obtain ⟨z1, n1, z2, n2, rfl, _, _⟩ := hy.open
              have H8 := Lib.hid (H7.out.call hT8 hF8)
              have HPB8 := Lib.hid (hF8.block _ _ HPB7.out MT_pair)
              have HFb8 := Lib.hid (HFb.out.trans' (HF57.out.trans' hF8))
              have HS8 := Lib.hid hF8.size
              obtain ⟨M7, hM7⟩ : ∃ M7, (w6.alloc (.cells #[.int .i64 gk', .int .i64 gn, .string ⟨gt.toArray⟩, .slice y1 gl.length m1, .slice y2 gp.length m2] 25)).heap.size = M7 := ⟨_, rfl⟩
              rw [hM7] at hy
              have hPM : w2.heap.size < M7 := by rw [← hM7]; exact get_lt HPB7.out
              clear hM7
              have Hy := Lib.hid hy
              have Hjs := Lib.hid hjs
              have Hpos := Lib.hid hpos
              clear hy hjs hpos hF8 hT8 H7 HPB7 HF57 HFb HQ5 Hval q0 q1 q2 q3 q4 q5 qz qlt
              clear c0 c1 c2 fz hlt1 r0 r1 r2 r3 r4 rz rlt v0 v1 v2 v3 v4 vz vlt
              obtain ⟨c0, c1, c2, fz, hlt1⟩ := H8.out.tx.cells
              obtain ⟨r0, r1, r2, r3, r4, rz, rlt⟩ := VB.at H8.out.ra
              obtain ⟨v0, v1, v2, v3, v4, vz, vlt⟩ := VB.at H8.out.rb
              obtain ⟨q0, q1, q2, q3, q4, q5, qz, qlt⟩ := PB.at' HPB8.out
              go_upto_region 20 with (fail)
              obtain ⟨w9, hw9⟩ : ∃ w9, setP w2.heap.size (.int .i64 jk') (.int .i64 jn') (.string ⟨jt'.toArray⟩) (.slice z1 jl'.length n1) (.slice z2 jp'.length n2) w8 = w9 := ⟨_, rfl⟩
              change Code.wp _ _ _ _ (setP w2.heap.size (.int .i64 jk') (.int .i64 jn') (.string ⟨jt'.toArray⟩) (.slice z1 jl'.length n1) (.slice z2 jp'.length n2) w8)
              rw [hw9]
              have hlw : ∀ k, (Value.slice ao acc.length co).ownBlock = some k → w.heap.size + 2 ≤ k ∧ k < w2.heap.size := fun k hk => by
                obtain ⟨h1, o', ho, _⟩ := own_ty Hown2.out k hk
                exact ⟨h1, get_lt ho⟩
              have hF9 : Fr (fun k _ => k = w2.heap.size) w8 w9 := by rw [← hw9]; exact setP_fr _ _ _ _ _ _ _
              have H9 := Lib.hid (H8.out.other (hF9.mono (fun k _ hm => by omega)))
              have hPB9 := setP_at (v0 := .int .i64 jk') (v1 := .int .i64 jn') (v2 := .string ⟨jt'.toArray⟩) (v3 := .slice z1 jl'.length n1) (v4 := .slice z2 jp'.length n2) HPB8.out
              rw [hw9] at hPB9
              have Hown9 := Lib.hid (own_fr (own_mtP Hown2.out HFb8.out) hF9 (fun k o hk _ _ hm => by have := (hlw k hk).2; omega))
              have Hrc9 := Lib.hid (RP.kp (S' := fun k => (False ∨ w.heap.size + 2 ≤ k) ∧ (Value.slice ao acc.length co).ownBlock ≠ some k) (w' := w9) (fun q o hq ho _ => ⟨hq.1, hF9.block q o ho (by have := hq.2; omega)⟩) _ _ (RP.mt Hrc2.out H.out.old HFb8.out))
              have Hy9 := Lib.hid (RJ.kp (S' := fun k => False ∨ M7 ≤ k) (w' := w9) (fun q o hq ho _ => ⟨.inr hq, hF9.block q o ho (by omega)⟩) _ _ Hy.out)
              have Hlw := Lib.hid hlw
              have hac2 : acc.length ≤ 4096 := by omega
              clear c0 c1 c2 fz hlt1 r0 r1 r2 r3 r4 rz rlt v0 v1 v2 v3 v4 vz vlt
              clear q0 q1 q2 q3 q4 q5 qz qlt hF9 hw9 hlw Hy HPB8 HS8
              obtain ⟨q0, q1, q2, q3, q4, q5, qz, qlt⟩ := PB.at' hPB9
              obtain ⟨c0, c1, c2, fz, hlt1⟩ := H9.out.tx.cells
              obtain ⟨r0, r1, r2, r3, r4, rz, rlt⟩ := VB.at H9.out.ra
              obtain ⟨v0, v1, v2, v3, v4, vz, vlt⟩ := VB.at H9.out.rb
              have Hp9 := Lib.hid hPB9
              clear hPB9
              go_wp2_with (at_builtin; (refine wpList_append_own_at _ rfl _ _ 23 rfl (w.heap.size + 2) 62 i0 (.agg #[.string ⟨#[]⟩, .int .i64 0, .int .i64 0, .string ⟨#[]⟩, .slice none 0 0, .slice none 0 0]) 6 96 Tryz.underlying23 hi hz0 hz1 hz2 rfl (by decide) (.slice ao acc.length co) acc.length xs (by rfl) (Hown9.out.alloc _) ⟨w9.heap.size, 0, none⟩ 1 1 [.string ⟨nm.toArray⟩, .int .i64 jk', .int .i64 jn', .string ⟨jt'.toArray⟩, .slice z1 jl'.length n1, .slice z2 jp'.length n2] (by rfl) (by rfl) ?c1 ?c2 ?c3 ?c4 ?c5 ?_))
              case c1 => exact cells_at w9 _ _ _ rfl
              case c2 => simp [Value.oneCell']
              case c3 => unfold maxLen; omega
              case c4 => omega
              case c5 => simp; omega
              intro v' w10 hown10 hgr10 hne10 hat10
              rcases hown10.2 with ⟨rfl, h0⟩ | ⟨g, cp, cur, rfl, hBg, hg10, _⟩
              · omega
              · have hg2 : (Value.slice ao acc.length co).ownBlock = some g ∨ w9.heap.size + 1 ≤ g := by
                  rcases hat10 with h | h
                  · exact .inl h.symm
                  · right
                    try simp only [World.size_alloc] at h
                    have : g = w9.heap.size + 1 := by simpa [Value.ownBlock] using h
                    omega
                have H3 : Hid (LS b L (.slice q L.length cap) w a' st2.bad #[.int .i64 5, .int .i64 0, .string ⟨#[]⟩, .slice none 0 0, .slice (some ⟨g, 0, none⟩) (acc.length + 1) cp] (w10.setCell ⟨w.heap.size + 1, 4, none⟩ (.slice (some ⟨g, 0, none⟩) (acc.length + 1) cp))) :=
                  Lib.hid (H9.out.push (lv := .slice ao acc.length co) (o := 4) hgr10 (fun k hk => (Hlw.out k hk).1))
                have HR3 : Hid (QRow (fun _ => False) (w.heap.size + 2) (acc ++ [(nm, J.mk jk' jn' jt' jl' jp')]) (.slice (some ⟨g, 0, none⟩) (acc.length + 1) cp) (w10.setCell ⟨w.heap.size + 1, 4, none⟩ (.slice (some ⟨g, 0, none⟩) (acc.length + 1) cp))) :=
                  Lib.hid (QRow.push (S := fun _ => False) (N := w.heap.size + 2) (M := M7) (bv := w.heap.size + 1) Hown9.out Hrc9.out (fun _ h => h.elim) Hy9.out (by omega) (fun k hk => by have := (Hlw.out k hk).2; omega) hgr10 hg2 hown10 (by omega) (fun h => h) hBg 4)
                have hb10 := grown_keep hgr10 (alloc_keep _ H9.out.rb) (fun e => by have := (Hlw.out _ e).1; omega)
                clear c0 c1 c2 fz hlt1 r0 r1 r2 r3 r4 rz rlt v0 v1 v2 v3 v4 vz vlt
                clear q0 q1 q2 q3 q4 q5 qz qlt hown10 hgr10 hne10 hat10 hBg hg10 hg2 Hy9 Hrc9 Hown9 Hlw
                obtain ⟨v0, v1, v2, v3, v4, vz, vlt⟩ := VB.at hb10
                clear hb10
                go_upto_region 21 with (fail)
                have ha9 : a' ≤ 5000 := by omega
                have hbl := fun W hW => tblanks_c b L (.slice q L.length cap) a' st2.bad W hW hL (by omega)
                obtain ⟨ra, rb', rc, rd⟩ := Hround.out a' Hpos.out (by omega)
                obtain ⟨a2, ha2⟩ : ∃ a2, blk L a' = a2 := ⟨_, rfl⟩
                rw [ha2] at ra rb' rc rd hbl
                have hnx := fun W hW => next_c b L (.slice q L.length cap) a2 st2.bad W hW hL (by omega)
                obtain ⟨m0, hm0⟩ : ∃ m0, nx (L.drop a2) = m0 := ⟨_, rfl⟩
                rw [hm0] at hnx rb' rc rd
                have Hbl := Lib.hid hbl
                have Hnx := Lib.hid hnx
                have Hrb := Lib.hid rb'
                have Hrc2 := Lib.hid rc
                have Hrd := Lib.hid rd
                have wa2 : IntKind.i64.wrap ((a2 : Int) + 1) = (a2 : Int) + 1 := by rw [IntKind.wrap_i64]; omega
                clear hbl hnx rb' rc rd ha2 hm0 H Hround Hpos
                have hltw := H3.out.lt
                by_cases h93 : m0 = 125
                · obtain ⟨g1, g2⟩ := Hrb.out h93
                  have hq : (m0 == 125) = true := by rw [beq_iff_eq]; exact h93
                  have Hg1 := Lib.hid g1
                  have Hg2' := Lib.hid g2
                  clear h93 g1 g2 Hrb Hrc2 Hrd
                  go_wp2_with fail
                  refine (Hbl.out _ H3.out.tx).mono ?_
                  rintro e w4 ⟨rfl, h2, hF2⟩
                  have H4 := Lib.hid (H3.out.call h2 hF2)
                  have HFc := Lib.hid hF2
                  clear h2 hF2
                  have HR4 := Lib.hid (HR3.out.mt H3.out.old HFc.out)
                  go_wp2_with fail
                  refine (Hnx.out _ H4.out.tx).mono ?_
                  rintro e w5 ⟨rfl, h2, hF2⟩
                  have H5 := Lib.hid (H4.out.call h2 (hF2.mono (fun _ _ h => h.elim)))
                  have HFc := Lib.hid (hF2.mono (M' := MT b) (fun _ _ h => h.elim))
                  clear h2 hF2
                  have HR5 := Lib.hid (HR4.out.mt H3.out.old HFc.out)
                  have H6 := Lib.hid (H5.out.put1 ((a2 : Int) + 1) (a2 + 1) rfl)
                  have HR6 := Lib.hid (HR5.out.mt H3.out.old (H5.out.tx.setF 1 (.int .i64 ((a2 : Int) + 1))))
                  obtain ⟨c0, c1, c2, fz, hlt1⟩ := H5.out.tx.cells
                  obtain ⟨r0, r1, r2, r3, r4, rz, rlt⟩ := VB.at H5.out.ra
                  obtain ⟨v0, v1, v2, v3, v4, vz, vlt⟩ := VB.at H5.out.rb
                  go_wp2_with fail
                  refine bodyPost_ret (v := .agg #[.int .i64 5, .int .i64 0, .string ⟨#[]⟩, .slice none 0 0, .slice (some ⟨g, 0, none⟩) (acc.length + 1) cp]) (by simp [results, Tryz.results64, go_sem, r0, r1, r2, r3, r4]) rfl ?_
                  obtain ⟨t1, t2⟩ := H6.out.tset (.int .i64 5) (.int .i64 0) (.string ⟨#[]⟩) (.slice none 0 0) (.slice (some ⟨g, 0, none⟩) (acc.length + 1) cp)
                  exact ⟨.mk 5 0 [] [] (acc ++ [(nm, J.mk jk' jn' jt' jl' jp')]), _, rfl, HR6.out.val (.int .i64 5) (.int .i64 0) (.string ⟨#[]⟩) (.slice none 0 0) (.slice (some ⟨g, 0, none⟩) (acc.length + 1) cp), fun h => by obtain ⟨q1, q2⟩ := Hg1.out h; rw [q2, Hjs.out q1], Hg2'.out _ _ _ t1, t2⟩
                · have hq : (m0 == 125) = false := by rw [beq_eq_false_iff_ne]; exact h93
                  by_cases h44 : m0 = 44
                  · obtain ⟨g1, g2⟩ := Hrc2.out h44
                    have hq2 : (m0 == 44) = true := by rw [beq_iff_eq]; exact h44
                    have hq3 : (m0 != 44) = false := by rw [bne, hq2]; rfl
                    have Hg1 := Lib.hid g1
                    have Hg2' := Lib.hid g2
                    clear h93 h44 g1 g2 Hrb Hrc2 Hrd
                    go_wp2_with fail
                    refine (Hbl.out _ H3.out.tx).mono ?_
                    rintro e w4 ⟨rfl, h2, hF2⟩
                    have H4 := Lib.hid (H3.out.call h2 hF2)
                    have HFc := Lib.hid hF2
                    clear h2 hF2
                    have HR4 := Lib.hid (HR3.out.mt H3.out.old HFc.out)
                    go_wp2_with fail
                    refine (Hnx.out _ H4.out.tx).mono ?_
                    rintro e w5 ⟨rfl, h2, hF2⟩
                    have H5 := Lib.hid (H4.out.call h2 (hF2.mono (fun _ _ h => h.elim)))
                    have HFc := Lib.hid (hF2.mono (M' := MT b) (fun _ _ h => h.elim))
                    clear h2 hF2
                    have HR5 := Lib.hid (HR4.out.mt H3.out.old HFc.out)
                    have H6 := Lib.hid (H5.out.put1 ((a2 : Int) + 1) (a2 + 1) rfl)
                    have HR6 := Lib.hid (HR5.out.mt H3.out.old (H5.out.tx.setF 1 (.int .i64 ((a2 : Int) + 1))))
                    obtain ⟨c0, c1, c2, fz, hlt1⟩ := H5.out.tx.cells
                    obtain ⟨r0, r1, r2, r3, r4, rz, rlt⟩ := VB.at H5.out.ra
                    obtain ⟨v0, v1, v2, v3, v4, vz, vlt⟩ := VB.at H5.out.rb
                    go_wp2_with fail
                    go_roundg (gk - 1)
                    case measure => omega
                    case rel =>
                      refine ⟨acc ++ [(nm, J.mk jk' jn' jt' jl' jp')], _, a2 + 1, k, st2.bad, H6, HR6, ra, fun hb => ?_, by omega, Lib.hid (fun hb => ?_), Hg1⟩
                      · have := (Hg2'.out hb).1
                        rw [List.length_append]
                        simp only [List.length_cons, List.length_nil]
                        omega
                      · obtain ⟨-, x2, x3, x4⟩ := Hg2'.out hb
                        exact ⟨x2, x3, by rw [Hjs.out hb]; exact x4⟩
                  · have hq2 : (m0 == 44) = false := by rw [beq_eq_false_iff_ne]; exact h44
                    have hq3 : (m0 != 44) = true := by rw [bne, hq2]; rfl
                    have Hg1 := Lib.hid (Hrd.out h93 h44)
                    clear h93 h44 Hrb Hrc2 Hrd
                    go_wp2_with fail
                    refine (Hbl.out _ H3.out.tx).mono ?_
                    rintro e w4 ⟨rfl, h2, hF2⟩
                    have H4 := Lib.hid (H3.out.call h2 hF2)
                    have HFc := Lib.hid hF2
                    clear h2 hF2
                    have HR4 := Lib.hid (HR3.out.mt H3.out.old HFc.out)
                    go_wp2_with fail
                    refine (Hnx.out _ H4.out.tx).mono ?_
                    rintro e w5 ⟨rfl, h2, hF2⟩
                    have H5 := Lib.hid (H4.out.call h2 (hF2.mono (fun _ _ h => h.elim)))
                    have HFc := Lib.hid (hF2.mono (M' := MT b) (fun _ _ h => h.elim))
                    clear h2 hF2
                    have HR5 := Lib.hid (HR4.out.mt H3.out.old HFc.out)
                    have H6 := Lib.hid (H5.out.put1 ((a2 : Int) + 1) (a2 + 1) rfl)
                    have HR6 := Lib.hid (HR5.out.mt H3.out.old (H5.out.tx.setF 1 (.int .i64 ((a2 : Int) + 1))))
                    have H7 := Lib.hid (H6.out.set2 true)
                    have HR7 := Lib.hid (HR6.out.mt H3.out.old (H6.out.tx.setF 2 (.bool true)))
                    obtain ⟨c0, c1, c2, fz, hlt1⟩ := H5.out.tx.cells
                    obtain ⟨r0, r1, r2, r3, r4, rz, rlt⟩ := VB.at H5.out.ra
                    obtain ⟨v0, v1, v2, v3, v4, vz, vlt⟩ := VB.at H5.out.rb
                    go_wp2_with fail
                    go_roundg (gk - 1)
                    case measure => omega
                    case rel =>
                      exact ⟨acc ++ [(nm, J.mk jk' jn' jt' jl' jp')], _, a2 + 1, k, true, H7, HR7, ra, fun hb => by simp at hb, by omega, Lib.hid (fun hb => by simp at hb), Lib.hid (fun _ => Hg1.out)⟩
end Go.Proofs.YtbfmpbhikipipaaGreatDoor
