/-
 The walk of entry.signed.
-/
import Derived.Test.YtcddlemkimbkcaaGreatDoorKEnAt
import Derived.Test.YtcddlemkimbkcaaGreatDoorKSpecCheck
import Derived.Deep.MidRow
import Derived.Deep.RegionHeld3
import Derived.Deep.LoopGhost
import Derived.OrdersHeld
namespace Go.Proofs.YtcddlemkimbkcaaGreatDoor
set_option linter.unusedVariables false
set_option linter.unusedSimpArgs false
set_option linter.unusedSectionVars false
open Go.RowKit
variable [OldK]
theorem Tryz.anySig : ((Tryz.prog.underlying 54).any (·.isRow)) = true := by kernel_rfl
theorem Tryz.rowSig : ∃ d, Tryz.prog.underlying 54 = some d ∧ d.isRow = true := by
 have h := Tryz.anySig
 cases hq : Tryz.prog.underlying 54 with
 | none => rw [hq] at h; simp at h
 | some d => rw [hq] at h; exact ⟨d, rfl, by simpa using h⟩
theorem range_fr {M : Nat → Obj → Prop} {w w' : World} {b o : Nat} {cs : List Value} (h : w.rangeAt b o cs) (hF : Fr M w w') (hb : b < w.heap.size) (hM : ∀ ob, ¬ M b ob) : w'.rangeAt b o cs := by
 obtain ⟨ob, hob⟩ : ∃ ob, w.heap[b]? = some ob := ⟨_, Array.getElem?_eq_getElem hb⟩
 exact range_same h ((hF.block _ _ hob (hM _)).trans hob.symm)
theorem there_fr {M : Nat → Obj → Prop} {w w' : World} {b o n : Nat} (h : w.there b o n) (hF : Fr M w w') (hb : b < w.heap.size) (hM : ∀ ob, ¬ M b ob) : w'.there b o n := by
 obtain ⟨ob, hob⟩ : ∃ ob, w.heap[b]? = some ob := ⟨_, Array.getElem?_eq_getElem hb⟩
 exact there_same h ((hF.block _ _ hob (hM _)).trans hob.symm)
theorem Sg.one (s : Sg) : s.cells.all (·.oneCell') = true := by
 unfold Sg.cells
 rw [Array.all_append, Array.all_append]
 have h : ∀ l : Bs, ((Lib.byteCells l).toArray.all (·.oneCell')) = true := fun l => all_oneCell_toArray (fun v hv => by
  unfold Lib.byteCells at hv
  rw [List.mem_map] at hv
  obtain ⟨x, _, rfl⟩ := hv
  rfl)
 rw [h, h]
 simp [Value.oneCell']
theorem Sg.list (s : Sg) : s.cells.toList = [.string ⟨s.id.toArray⟩] ++ (Lib.byteCells s.key ++ Lib.byteCells s.sig) := by simp [Sg.cells]
set_option maxRecDepth 100000 in
set_option maxHeartbeats 2000000 in
theorem signed_c (l : List Sg) (b o cap : Nat) (w : World) (hl : l.length ≤ 1000) (hc : l.length ≤ cap) (hb : b < w.heap.size)
 (hr : ∀ i (hi : i < l.length), w.rangeAt b (o + i * 97) l[i].cells.toList) (hok : ∀ s ∈ l, s.ok ∧ s.id.length ≤ 1000000) :
 Calls Tryz.prog 107 #[.slice (some ⟨b, o, none⟩) l.length cap] w fun e w' => e = .returned (.bool (pSigned l)) ∧ Fr NoB w w' := by
 obtain ⟨P, hP⟩ : ∃ P, pSigned l = P := ⟨_, rfl⟩
 rw [hP]
 have Hr := Lib.hid hr
 have Hok := Lib.hid hok
 have HP := Lib.hid hP
 clear hr hok hP
 go_enter Tryz.func107, Tryz.ntmps107
 go_wp2_with fail
 go_loopg [3, 9] (l.length + 1) (fun gf v3 vi wx => ∃ i : Nat, vi = .int .i64 i ∧ i ≤ l.length ∧ i + gf = l.length + 1 ∧ ∃ last : Bs, v3 = .string ⟨last.toArray⟩ ∧ Fr NoB w wx ∧ Hid ((signedFrom last (l.drop i) && (decide (1 ≤ l.length) && decide (l.length ≤ 8))) = P))
 case atStart => exact ⟨0, rfl, by omega, by omega, [], rfl, Fr.refl, Lib.hid HP.out⟩
 case round =>
  obtain ⟨i, rfl, hi, hig, last, rfl, hF, HG⟩ := hrel
  have HF := Lib.hid hF
  clear hF
  by_cases hlt : i < l.length
  ·have hlti : decide ((i : Int) < l.length) = true := decide_eq_true (by omega)
   have hso := Hok.out _ (List.getElem_mem hlt)
   have hR := Hr.out i hlt
   have hdr := List.drop_eq_getElem_cons hlt
   obtain ⟨s, hs⟩ : ∃ s, l[i] = s := ⟨_, rfl⟩
   rw [hs] at hso hR hdr
   have hG := HG.out
   rw [hdr, signedFrom] at hG
   have hsz := Sg.size hso.1
   have hB : wr.rangeAt b (o + i * 97) s.cells.toList := range_fr hR HF.out hb (fun _ h => h)
   have HB := Lib.hid hB
   obtain ⟨d, hu, hd⟩ := Tryz.rowSig
   have Hu := Lib.hid hu
   have Hd := Lib.hid hd
   have Hz := Lib.hid (show (Tryz.prog.info? 54).map (·.size) = some s.cells.toList.length by rw [Tryz.sizeSig]; simp [hsz])
   have Hz2 := Lib.hid (show (Tryz.prog.info? 54).map (·.size) = some s.cells.size by rw [Tryz.sizeSig, hsz])
   have H1 := Lib.hid (Sg.one s)
   have HT := Lib.hid (show ∀ z : Array Value, z.size = 97 → (wr.alloc (.cells z 54)).there wr.heap.size 0 s.cells.size from fun z hz => there_block (heap_alloc_new wr _) (by rw [hsz, hz]; exact Nat.le_refl _))
   have hsg := fun W => signer_c s W hso.1 hso.2
   have Hsg := Lib.hid hsg
   have Hso := Lib.hid hso
   have HG2 := Lib.hid hG
   have Hsz := Lib.hid hsz
   obtain ⟨cs, hcs⟩ : ∃ cs, s.cells = cs := ⟨_, rfl⟩
   rw [hcs] at HB Hz Hz2 H1 HT Hsg Hsz
   have Hs := Lib.hid hs
   have Hcs := Lib.hid hcs
   clear hB hu hd hR hs hcs hso hdr hG hsz hsg HG
   go_wp2_with (first | (refine wpList_load_mid rfl 54 _ rfl b (o + i * 97) rfl cs.toList d HB.out Hu.out Hd.out Hz.out ?_) | (refine wpList_store_mid rfl 54 _ _ rfl wr.heap.size 0 cs rfl rfl (HT.out _ rfl) Hz2.out H1.out ?_) | (refine wpList_load_mid rfl 54 _ rfl wr.heap.size 0 rfl cs.toList d (World.rangeAt_setCells_same _ wr.heap.size 0 cs.toList (by simpa using HT.out _ rfl)) Hu.out Hd.out Hz.out ?_))
   refine (Hsg.out _).mono ?_
   rintro e w2 ⟨rfl, hF2⟩
   have hR1 := World.rangeAt_setCells_same (wr.alloc (.cells Tryz.zeroCells54 54)) wr.heap.size 0 cs.toList (by simpa using HT.out _ rfl)
   have hS1 : wr.heap.size < ((wr.alloc (.cells Tryz.zeroCells54 54)).setCells wr.heap.size 0 cs.toList).heap.size := by have := (setCells_fr wr.heap.size cs.toList 0 (wr.alloc (.cells Tryz.zeroCells54 54))).size; simp at this; omega
   have hR2 := range_fr hR1 hF2 hS1 (fun _ h => h)
   have hF3 : Fr NoB w w2 := ((HF.out.alloc (.cells Tryz.zeroCells54 54)).trans (setCells_fr _ _ _ _) (fun k _ hm => .inr (by have := HF.out.size; omega))).trans' hF2
   have hS2 := hF2.size
   rw [← Hcs.out, Sg.list, range_append, range_append, range_one] at hR2
   obtain ⟨c0, cK, -⟩ := hR2
   obtain ⟨bn, hbn⟩ : ∃ bn, wr.heap.size = bn := ⟨_, rfl⟩
   have hbs : w.heap.size ≤ bn := by rw [← hbn]; exact HF.out.size
   have hS3 : bn < w2.heap.size := by omega
   rw [hbn] at c0 cK ⊢
   have hG := HG2.out
   unfold sgBad at hG
   obtain ⟨hkl, -⟩ := Hso.out.1
   have hil := Hso.out.2
   obtain ⟨B, hB⟩ : ∃ B, pSigner s = B := ⟨_, rfl⟩
   obtain ⟨x1, hx1⟩ : ∃ x, Op.bytesLess B last = x := ⟨_, rfl⟩
   obtain ⟨x2, hx2⟩ : ∃ x, (B == last) = x := ⟨_, rfl⟩
   obtain ⟨id, hid⟩ : ∃ x, s.id = x := ⟨_, rfl⟩
   obtain ⟨key, hkey⟩ : ∃ x, s.key = x := ⟨_, rfl⟩
   rw [hB, hx1, hx2, hid, hkey] at hG
   rw [hid] at c0 hil cK
   rw [hkey] at cK hkl
   rw [hB]
   have cK' : w2.rangeAt bn 1 (Lib.byteCells key) := cK
   have HG3 := Lib.hid hG
   have HF3 := Lib.hid hF3
   have HcK := Lib.hid cK'
   have Hkl := Lib.hid hkl
   have Hnm := Lib.hid (fun W => named_c id W (by omega))
   have Hx := Lib.hid hbs
   clear hF2 hR1 hS1 hF3 hS2 cK cK' hbn hB hid hkey hG hkl hbs HG2 HB Hz2 H1 HT Hsg HF Hs Hcs
   cases x1 with
   | true =>
     go_wp2_with fail
     go_ret
     exact ⟨ret_bool (by simpa using HG3.out), HF3.out⟩
   | false =>
     cases x2 with
     | true =>
       go_wp2_with fail
       go_ret
       exact ⟨ret_bool (by simpa using HG3.out), HF3.out⟩
     | false =>
       cases id with
       | nil =>
         have hP := HG3.out
         simp only [List.isEmpty_nil, Bool.not_true, Bool.false_and, Bool.or_false, Bool.false_eq_true, if_false] at hP
         have HP3 := Lib.hid hP
         clear hP
         go_wp2_with fail
         go_roundg (gk - 1)
         case measure => omega
         case rel => exact ⟨i + 1, by simp, by omega, by omega, _, rfl, HF3.out, HP3⟩
       | cons c r =>
         have hne : (c :: r : Bs).isEmpty = false := rfl
         obtain ⟨id, hid⟩ : ∃ l, (c :: r : Bs) = l := ⟨_, rfl⟩
         rw [hid] at hne c0 HG3 Hnm hil
         clear hid
         obtain ⟨bm, hbm⟩ : ∃ x, pNamed id = x := ⟨_, rfl⟩
         have hG := HG3.out
         have hnm := Hnm.out
         rw [hbm] at hnm hG
         rw [hne] at hG
         have Hnm2 := Lib.hid hnm
         have HG4 := Lib.hid hG
         clear hbm hG HG3 hnm Hnm
         cases bm with
         | false =>
           go_wp2_with fail
           refine (Hnm2.out _).mono ?_
           rintro e w3 ⟨rfl, hF4⟩
           have HF4 := Lib.hid (HF3.out.trans' hF4)
           clear hF4
           go_wp2_with fail
           go_ret
           exact ⟨ret_bool (by simpa using HG4.out), HF4.out⟩
         | true =>
           obtain ⟨bk, hbk⟩ : ∃ x, (key == zero32) = x := ⟨_, rfl⟩
           have hG := HG4.out
           rw [bne, hbk] at hG
           have hne2 := eqz_key key Hkl.out
           rw [hbk] at hne2
           have HG5 := Lib.hid hG
           clear hbk hG HG4
           go_wp2_with fail
           refine (Hnm2.out _).mono ?_
           rintro e w3 ⟨rfl, hF4⟩
           have HF4 := Lib.hid (HF3.out.trans' hF4)
           have HcK3 := range_fr HcK.out hF4 hS3 (fun _ h => h)
           have HsK := Lib.hid (show (Tryz.prog.info? 24).map (·.size) = some (Lib.byteCells key).length by rw [Tryz.sizeKey]; simp [Lib.byteCells, Hkl.out])
           have HcK4 := Lib.hid HcK3
           clear hF4 HcK3
           cases bk
           all_goals
            go_wp2_with (refine wpList_load_g 24 _ rfl bn 1 rfl (Lib.byteCells key) _ HcK4.out Tryz.underKey rfl HsK.out rfl ?_)
            first
            | (go_ret
               exact ⟨ret_bool (by simpa using HG5.out), HF4.out⟩)
            | (go_roundg (gk - 1)
               case measure => omega
               case rel => exact ⟨i + 1, by simp, by omega, by omega, _, rfl, HF4.out, Lib.hid (by simpa using HG5.out)⟩)
  ·obtain rfl : i = l.length := by omega
   have hG := HG.out
   rw [List.drop_of_length_le (Nat.le_refl _), signedFrom, Bool.true_and] at hG
   have HG2 := Lib.hid hG
   have hlti : decide ((l.length : Int) < l.length) = false := by simp
   obtain ⟨n, hn⟩ : ∃ n, l.length = n := ⟨_, rfl⟩
   rw [hn] at HG2 hlti ⊢
   clear hG HG hn
   obtain ⟨b1, hb1⟩ : ∃ b, decide ((1 : Int) ≤ (n : Int)) = b := ⟨_, rfl⟩
   obtain ⟨b2, hb2⟩ : ∃ b, decide ((n : Int) ≤ 8) = b := ⟨_, rfl⟩
   have e1 : decide (1 ≤ n) = b1 := by rw [← hb1]; exact decide_eq_decide.2 (by omega)
   have e2 : decide (n ≤ 8) = b2 := by rw [← hb2]; exact decide_eq_decide.2 (by omega)
   have hG := HG2.out
   rw [e1, e2] at hG
   have HG3 := Lib.hid hG
   clear e1 e2 hG HG2
   cases b1 <;> cases b2
   all_goals
    go_wp2_with fail
    go_ret
    exact ⟨ret_bool (by simpa using HG3.out), HF.out⟩
set_option maxRecDepth 100000 in
theorem signed_nil (a : Option Addr) (cap : Nat) (w : World) :
 Calls Tryz.prog 107 #[.slice a 0 cap] w fun e w' => e = .returned (.bool false) ∧ Fr NoB w w' := by
 go_enter Tryz.func107, Tryz.ntmps107
 go_wp2_with fail
 go_loopg [3, 9] 0 (fun gf v3 vi wx => vi = .int .i64 0 ∧ w = wx)
 case atStart => exact ⟨rfl, rfl⟩
 case round =>
  obtain ⟨rfl, rfl⟩ := hrel
  go_wp2_with fail
  go_ret
  exact ⟨rfl, Fr.refl⟩
theorem signed_gs {S : Nat → Prop} {l : List Sg} {v : Value} {w : World} (h : GS S l v w) (hl : l.length ≤ 1000) (hok : ∀ s ∈ l, s.ok ∧ s.id.length ≤ 1000000) :
 Calls Tryz.prog 107 #[v] w fun e w' => e = .returned (.bool (pSigned l)) ∧ Fr NoB w w' := by
 obtain ⟨a, cap, rfl, hc, rfl | ⟨b, o, rfl, hS, hb, hr⟩⟩ := h
 ·exact signed_nil a cap w
 ·exact signed_c l b o cap w hl hc hb hr hok
end Go.Proofs.YtcddlemkimbkcaaGreatDoor
namespace Go.Proofs.YtcddlemkimbkcaaGreatDoor
set_option linter.unusedVariables false
set_option linter.unusedSimpArgs false
set_option linter.unusedSectionVars false
open Go.RowKit
variable [OldK]
theorem Tryz.structSig : Tryz.prog.underlying 54 = some (.struct (Tryz.prog.fieldsOf 54)) := by kernel_rfl
theorem Tryz.heldSig : Tryz.prog.stoodInHeld 54 = false := by kernel_rfl
theorem Tryz.fieldsSig : (Tryz.prog.fieldsOf 54).toList.map (fun f => (f.name == "_", f.type, f.offset)) = [(false, 9, 0), (false, 24, 1), (false, 52, 33)] := by kernel_rfl
theorem run_part_arr {P : Program} (w : World) {t e : TypeId} {n : Nat} (hu : P.underlying t = some (.array n e)) (hi : (P.info? t).map (·.size) = some n) (xs : Array Value) (off : Nat) : (part t xs off).run P w = .ok (.agg (xs.extract off (off + n))) w := by
 cases hq : P.info? t with
 | none => simp [hq] at hi
 | some i =>
   have hs : i.size = n := by simpa [hq] using hi
   have hagg : (isAgg t).run P w = .ok true w := by
    unfold isAgg
    rw [Sem.run_bind, run_underlying hu w]
    simp
   simp [part, Sem.run_bind, hagg, sizeOf, typeInfo, hq, hs]
theorem run_part_str {P : Program} (w : World) {t : TypeId} (hu : P.underlying t = some .string) (xs : Array Value) (off : Nat) (v : Value) (hv : xs[off]? = some v) : (part t xs off).run P w = .ok v w := by
 have hagg : (isAgg t).run P w = .ok false w := by
  unfold isAgg
  rw [Sem.run_bind, run_underlying hu w]
  simp
 simp [part, Sem.run_bind, hagg, hv]
theorem Sg.ext1 {s : Sg} (h : s.ok) : s.cells.extract 1 33 = (Lib.byteCells s.key).toArray := by
 apply Array.toList_inj.1
 have h1 : (Lib.byteCells s.key).length = 32 := by simp [Lib.byteCells, h.1]
 rw [Array.toList_extract, Sg.list]
 simp only [List.extract_eq_take_drop, List.singleton_append, List.drop_succ_cons, List.drop_zero, Nat.reduceSub]
 rw [List.take_append_of_le_length (by omega), List.take_of_length_le (by omega)]
theorem Sg.ext2 {s : Sg} (h : s.ok) : s.cells.extract 33 97 = (Lib.byteCells s.sig).toArray := by
 apply Array.toList_inj.1
 have h1 : (Lib.byteCells s.key).length = 32 := by simp [Lib.byteCells, h.1]
 have h2 : (Lib.byteCells s.sig).length = 64 := by simp [Lib.byteCells, h.2]
 rw [Array.toList_extract, Sg.list]
 simp only [List.extract_eq_take_drop, List.singleton_append, List.drop_succ_cons, Nat.reduceSub]
 rw [show 32 = (Lib.byteCells s.key).length from h1.symm, List.drop_left, List.take_of_length_le (by omega)]
theorem eqFields_step {P : Program} (w : World) (d : Nat) (xs ys : Array Value) (f : Field) (fs : List Field) (A B : Value) (r : Bool) (hn : f.name ≠ "_") (ha : (part f.type xs f.offset).run P w = .ok A w) (hb : (part f.type ys f.offset).run P w = .ok B w)
 (hr : (Op.equalIn d f.type A B).run P w = .ok r w) : (Op.eqFields d xs ys (f :: fs)).run P w = if r = true then (Op.eqFields d xs ys fs).run P w else .ok false w := by
 simp only [Op.eqFields, hn, ne_eq, not_false_eq_true, if_true, Sem.run_bind, Result.andThen_ok, ha, hb, hr]
 cases r <;> simp
theorem eqIn_sig {a b : Sg} (ha : a.ok) (hb : b.ok) (w : World) :
 (Op.equalIn 10000 54 (.agg a.cells) (.agg b.cells)).run Tryz.prog w = .ok (sgEq a b) w := by
 rw [run_equalIn_struct w 9999 _ _ _ Tryz.structSig Tryz.heldSig]
 have hf := Tryz.fieldsSig
 generalize (Tryz.prog.fieldsOf 54).toList = fs at hf
 obtain ⟨f1, f2, f3, rfl⟩ : ∃ f1 f2 f3, fs = [f1, f2, f3] := by
  rcases fs with _ | ⟨f1, _ | ⟨f2, _ | ⟨f3, _ | ⟨f4, r⟩⟩⟩⟩ <;> simp at hf
  exact ⟨f1, f2, f3, rfl⟩
 simp only [List.map_cons, List.map_nil, List.cons.injEq, Prod.mk.injEq, beq_eq_false_iff_ne, and_true] at hf
 obtain ⟨⟨n1, t1, o1⟩, ⟨n2, t2, o2⟩, n3, t3, o3⟩ := hf
 have p1 := run_part_str (P := Tryz.prog) w Tryz.underlying9 a.cells 0 _ (Sg.cell0 a)
 have q1 := run_part_str (P := Tryz.prog) w Tryz.underlying9 b.cells 0 _ (Sg.cell0 b)
 have p2 := run_part_arr (P := Tryz.prog) w Tryz.underKey Tryz.sizeKey a.cells 1
 have q2 := run_part_arr (P := Tryz.prog) w Tryz.underKey Tryz.sizeKey b.cells 1
 have p3 := run_part_arr (P := Tryz.prog) w Tryz.underWide Tryz.sizeWide a.cells 33
 have q3 := run_part_arr (P := Tryz.prog) w Tryz.underWide Tryz.sizeWide b.cells 33
 simp only [Nat.reduceAdd] at p2 q2 p3 q3
 rw [Sg.ext1 ha] at p2
 rw [Sg.ext1 hb] at q2
 rw [Sg.ext2 ha] at p3
 rw [Sg.ext2 hb] at q3
 have e1 : (Op.equalIn 9999 9 (.string ⟨a.id.toArray⟩) (.string ⟨b.id.toArray⟩)).run Tryz.prog w = .ok (a.id == b.id) w := by
  have := run_equalIn_string (P := Tryz.prog) w 9998 9 ⟨a.id.toArray⟩ ⟨b.id.toArray⟩ Tryz.underlying9
  rwa [show (ByteArray.mk a.id.toArray).toList = a.id by simp [ByteArray.toList_eq], show (ByteArray.mk b.id.toArray).toList = b.id by simp [ByteArray.toList_eq]] at this
 have e2 : (Op.equalIn 9999 24 (.agg (Lib.byteCells a.key).toArray) (.agg (Lib.byteCells b.key).toArray)).run Tryz.prog w = .ok (a.key == b.key) w :=
  run_equalIn_bytes (P := Tryz.prog) w 9997 24 5 32 Tryz.underKey Tryz.underlying5 Tryz.u8size a.key b.key ha.1 hb.1
 have e3 : (Op.equalIn 9999 52 (.agg (Lib.byteCells a.sig).toArray) (.agg (Lib.byteCells b.sig).toArray)).run Tryz.prog w = .ok (a.sig == b.sig) w :=
  run_equalIn_bytes (P := Tryz.prog) w 9997 52 5 64 Tryz.underWide Tryz.underlying5 Tryz.u8size a.sig b.sig ha.2 hb.2
 unfold sgEq
 generalize (a.id == b.id) = x at e1
 generalize (a.key == b.key) = y at e2
 generalize (a.sig == b.sig) = z at e3
 rw [eqFields_step w 9999 _ _ f1 _ _ _ x n1 (by rw [t1, o1]; exact p1) (by rw [t1, o1]; exact q1) (by rw [t1]; exact e1),
  eqFields_step w 9999 _ _ f2 _ _ _ y n2 (by rw [t2, o2]; exact p2) (by rw [t2, o2]; exact q2) (by rw [t2]; exact e2),
  eqFields_step w 9999 _ _ f3 _ _ _ z n3 (by rw [t3, o3]; exact p3) (by rw [t3, o3]; exact q3) (by rw [t3]; exact e3)]
 cases x <;> cases y <;> cases z <;> rfl
set_option maxRecDepth 100000 in
set_option maxHeartbeats 1000000 in
theorem sgs_equal_c (l m : List Sg) (b1 o1 c1 b2 o2 c2 : Nat) (w : World) (hlm : l.length = m.length) (hl : l.length ≤ 1000) (hc1 : l.length ≤ c1) (hc2 : m.length ≤ c2) (hb1 : b1 < w.heap.size) (hb2 : b2 < w.heap.size)
 (hr1 : ∀ i (hi : i < l.length), w.rangeAt b1 (o1 + i * 97) l[i].cells.toList) (hr2 : ∀ i (hi : i < m.length), w.rangeAt b2 (o2 + i * 97) m[i].cells.toList) (hok1 : ∀ s ∈ l, s.ok) (hok2 : ∀ s ∈ m, s.ok) :
 Calls Tryz.prog 162 #[.slice (some ⟨b1, o1, none⟩) l.length c1, .slice (some ⟨b2, o2, none⟩) m.length c2] w fun e w' => e = .returned (.bool (sgsEq l m)) ∧ Fr NoB w w' := by
 obtain ⟨R, hR⟩ : ∃ R, sgsEq l m = R := ⟨_, rfl⟩
 rw [hR]
 have HR := Lib.hid hR
 have Hlm := Lib.hid hlm
 have Hr1 := Lib.hid hr1
 have Hr2 := Lib.hid hr2
 have Hok1 := Lib.hid hok1
 have Hok2 := Lib.hid hok2
 rw [← hlm] at hc2 ⊢
 clear hR hlm hr1 hr2 hok1 hok2
 go_enter Tryz.func162, Tryz.ntmps162
 go_wp2_with fail
 go_loopg [13] (l.length + 1) (fun g vi wr => ∃ (i : Nat), vi = .int .i64 i ∧ i ≤ l.length ∧ i + g = l.length + 1 ∧ Fr NoB w wr ∧ Hid (sgsEq (l.drop i) (m.drop i) = R))
 case atStart => exact ⟨0, rfl, by omega, by omega, Fr.refl, HR⟩
 case round =>
  obtain ⟨i, rfl, hi, hgk, hF, HS⟩ := hrel
  have HF := Lib.hid hF
  clear hF
  rcases Nat.lt_or_ge i l.length with hlt | hge
  ·have hlt2 : i < m.length := by have := Hlm.out; omega
   have hS := HS.out
   rw [sgsEq_at l m Hlm.out i hlt hlt2] at hS
   have g1 := range_fr (Hr1.out i hlt) HF.out hb1 (fun _ h => h)
   have g2 := range_fr (Hr2.out i hlt2) HF.out hb2 (fun _ h => h)
   have k1 := Hok1.out _ (List.getElem_mem hlt)
   have k2 := Hok2.out _ (List.getElem_mem hlt2)
   have hq : ∀ W, _ := eqIn_sig k1 k2
   have z1 := Sg.size k1
   have z2 := Sg.size k2
   obtain ⟨d, hu, hd⟩ := Tryz.rowSig
   have hz1 : (Tryz.prog.info? 54).map (·.size) = some l[i].cells.toList.length := by rw [Tryz.sizeSig]; simp [z1]
   have hz2 : (Tryz.prog.info? 54).map (·.size) = some m[i].cells.toList.length := by rw [Tryz.sizeSig]; simp [z2]
   obtain ⟨r, hr⟩ : ∃ r, sgEq l[i] m[i] = r := ⟨_, rfl⟩
   obtain ⟨C1, hC1⟩ : ∃ C, l[i].cells = C := ⟨_, rfl⟩
   obtain ⟨C2, hC2⟩ : ∃ C, m[i].cells = C := ⟨_, rfl⟩
   rw [hr] at hS
   rw [hr, hC1, hC2] at hq
   rw [hC1] at g1 hz1
   rw [hC2] at g2 hz2
   have HS2 := Lib.hid hS
   have Hz1 := Lib.hid hz1
   have Hz2 := Lib.hid hz2
   have Hu := Lib.hid hu
   have Hd := Lib.hid hd
   have G1 := Lib.hid g1
   have G2 := Lib.hid g2
   clear hS HS k1 k2 z1 z2 hC1 hC2 hr hz1 hz2 hu hd g1 g2
   cases r
   all_goals
    go_upto_region 6 with (fail)
    refine wp_region_held_drew (S := fun W => W.rangeAt b1 (o1 + i * 97) C1.toList ∧ W.rangeAt b2 (o2 + i * 97) C2.toList) (by kernel_rfl) ⟨G1.out, G2.out⟩ (fun hHeld => ?_)
    simp only [qL, qL1, qL0, qR, qR1, qR0]
    iterate 3
     refine qt (v := ?_) rfl (Or.inl ⟨by rfl, ?_⟩) hHeld ?_
     rotate_left
     ·intro W hSw
      try simp only [qG, qG0, qG1]
      go_simp
      try rw [if_neg (by omega)]
      try with_reducible rfl
     try simp only [Act.put, qS, qS0, qS1, qG, qG0, qG1, qM0, qM1]
    refine qi (i := 3) rfl (yieldsIf_load_mid (by rfl) 54 _ rfl b1 (o1 + i * 97) rfl C1.toList d (fun _ h => h.1) Hu.out Hd.out Hz1.out) hHeld ?_
    try simp only [Act.put, qS, qS0, qS1, qG, qG0, qG1, qM0, qM1]
    iterate 3
     refine qt (v := ?_) rfl (Or.inl ⟨by rfl, ?_⟩) hHeld ?_
     rotate_left
     ·intro W hSw
      try simp only [qG, qG0, qG1]
      go_simp
      try rw [if_neg (by omega)]
      try with_reducible rfl
     try simp only [Act.put, qS, qS0, qS1, qG, qG0, qG1, qM0, qM1]
    refine qi (i := 7) rfl (yieldsIf_load_mid (by rfl) 54 _ rfl b2 (o2 + i * 97) rfl C2.toList d (fun _ h => h.2) Hu.out Hd.out Hz2.out) hHeld ?_
    try simp only [Act.put, qS, qS0, qS1, qG, qG0, qG1, qM0, qM1]
    simp only [Array.toArray_toList]
    refine qt (v := ?_) rfl (Or.inl ⟨by rfl, ?_⟩) hHeld ?_
    rotate_left
    ·intro W hSw
     try simp only [qG, qG0, qG1]
     go_simp
     try rw [if_neg (by omega)]
     try with_reducible rfl
    try simp only [Act.put, qS, qS0, qS1, qG, qG0, qG1, qM0, qM1]
    refine wpAnyH_done (by kernel_rfl) ?_ _
    go_wp2_with fail
    first
    | (go_ret
       exact ⟨ret_bool (by simpa using HS2.out), HF.out.drew⟩)
    | (go_roundg (gk - 1)
       case measure => omega
       case rel => exact ⟨i + 1, by simp, by omega, by omega, HF.out.drew, Lib.hid (by simpa using HS2.out)⟩)
  ·obtain rfl : i = l.length := by omega
   have hS := HS.out
   rw [List.drop_length, Hlm.out, List.drop_length] at hS
   have HS2 := Lib.hid hS
   clear hS HS
   go_wp2_with fail
   go_ret
   exact ⟨ret_bool (by simpa [sgsEq] using HS2.out), HF.out⟩
set_option maxRecDepth 100000 in
theorem sgs_unlike_c (n m c1 c2 : Nat) (a1 a2 : Option Addr) (w : World) (h : n ≠ m) :
 Calls Tryz.prog 162 #[.slice a1 n c1, .slice a2 m c2] w fun e w' => e = .returned (.bool false) ∧ Fr NoB w w' := by
 have hln : ((n : Int) != (m : Int)) = true := by
  rw [bne_iff_ne]
  omega
 clear h
 go_enter Tryz.func162, Tryz.ntmps162
 go_wp2_with fail
 go_ret
 exact ⟨rfl, Fr.refl⟩
set_option maxRecDepth 100000 in
theorem sgs_nil_c (c1 c2 : Nat) (a1 a2 : Option Addr) (w : World) :
 Calls Tryz.prog 162 #[.slice a1 0 c1, .slice a2 0 c2] w fun e w' => e = .returned (.bool true) ∧ Fr NoB w w' := by
 go_enter Tryz.func162, Tryz.ntmps162
 go_wp2_with fail
 go_loopg [13] 0 (fun g vi wr => vi = .int .i64 0 ∧ w = wr)
 case atStart => exact ⟨rfl, rfl⟩
 case round =>
  obtain ⟨rfl, rfl⟩ := hrel
  go_wp2_with fail
  go_ret
  exact ⟨rfl, Fr.refl⟩
/-- slices.Equal at signatures -/
theorem sgs_gs_c {S S' : Nat → Prop} {l m : List Sg} {v u : Value} {w : World} (hv : GS S l v w) (hu : GS S' m u w) (hl : l.length ≤ 1000) (hok1 : ∀ s ∈ l, s.ok) (hok2 : ∀ s ∈ m, s.ok) :
 Calls Tryz.prog 162 #[v, u] w fun e w' => e = .returned (.bool (sgsEq l m)) ∧ Fr NoB w w' := by
 obtain ⟨a1, c1, rfl, hc1, h1⟩ := hv
 obtain ⟨a2, c2, rfl, hc2, h2⟩ := hu
 by_cases hlm : l.length = m.length
 ·rcases h1 with rfl | ⟨b1, o1, rfl, hS1, hb1, hr1⟩
  ·obtain rfl : m = [] := List.length_eq_zero_iff.1 hlm.symm
   exact sgs_nil_c c1 c2 a1 a2 w
  ·rcases h2 with rfl | ⟨b2, o2, rfl, hS2, hb2, hr2⟩
   ·obtain rfl : l = [] := List.length_eq_zero_iff.1 hlm
    exact sgs_nil_c c1 c2 _ a2 w
   ·exact sgs_equal_c l m b1 o1 c1 b2 o2 c2 w hlm hl hc1 hc2 hb1 hb2 hr1 hr2 hok1 hok2
 ·rw [sgsEq_len l m hlm]
  exact sgs_unlike_c _ _ c1 c2 a1 a2 w hlm
end Go.Proofs.YtcddlemkimbkcaaGreatDoor
