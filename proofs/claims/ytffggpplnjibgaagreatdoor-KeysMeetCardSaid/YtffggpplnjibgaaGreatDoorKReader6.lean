/-
 The walks of json's reader,further: what stands between two signs,one behind the other.
-/
import Derived.Test.YtffggpplnjibgaaGreatDoorKReader4
import Derived.Defers
import Derived.Test.YtffggpplnjibgaaGreatDoorKStore
open Go.Lib renaming hid→zi
open Go.Proofs.Tryz renaming prog→zl
open Option.some renaming inj→je
namespace Go.Proofs.YtffggpplnjibgaaGreatDoor
set_option linter.unusedVariables false
set_option linter.unusedSimpArgs false
set_option linter.unusedSectionVars false
set_option maxRecDepth 100000
set_option maxHeartbeats 4000000
section
open Go.RowKit
attribute [local instance] zb3

theorem zb4 (s:Bs):(jq s).length≤s.length:=by
 unfold jq Lib.trimLeftS;exact List.Sublist.length_le (List.dropWhile_sublist _)
theorem znt {c:UInt8}{s l:Bs}(h:zel c s=some l):l.length+1≤s.length:=by
 unfold zel at h;have hb:=zb4 s;split at h
 ·simp at h
 rename_i x l' hx
 rw[hx]at hb;split at h
 ·simp at h;subst h;simpa using hb
 simp at h
def ML (r B:Nat):Nat→Obj→Prop:=fun k o=>MR r k o∨(B≤k∧¬ OfTy 177 o)
def Bx (q r:Nat) (w:World):Prop:=w.heap[q]? = some (.cells #[.pointer (some ⟨r,0,none⟩)] 177 (0,0))
theorem Bx.cell {q r:Nat}{w:World}(h:Bx q r w):w.cell? ⟨q,0,none⟩=some (.pointer (some ⟨r,0,none⟩)):=by unfold Bx at h;simp[World.cell?,h]
theorem Bx.rd {q r:Nat} {w w':World} (h:Bx q r w) (hF:Fr (MR r) w w'):Bx q r w' :=
 hF.block _ _ h (fun hm=>by
  obtain⟨_,c,f,h1⟩:=hm
  simp at h1)
theorem Bx.ml {q r B:Nat} {w w':World} (h:Bx q r w) (hF:Fr (ML r B) w w'):Bx q r w' :=
 hF.block _ _ h (fun hm=>by
  rcases hm with⟨_,c,f,h1⟩ | ⟨_,h1⟩
  ·simp at h1
  exact h1 ⟨_,_,rfl⟩)
theorem Gl.ml {r B:Nat} {w w':World} (h:Gl w) (hr:2≤r) (hB:2≤B) (hF:Fr (ML r B) w w'):Gl w' :=
 h.fr hF (fun k o _ hm=>by
  rcases hm with⟨rfl,_⟩ | ⟨h1,_⟩
  ·exact hr
  exact Nat.le_trans hB h1)
theorem zp6 (u:FrameMode)(q r:Nat)(s:Bs)(bad:Bool)(d:Int)(w:World)(hq:Bx q r w)(h:Rd r s bad d w)(h0 : -1000≤d)(h1:d≤1000) :
 CallsD zl 280 #[.pointer (some ⟨q,0,none⟩)] u w fun e u' w'=>u'=u∧e = .returned (.tuple #[])∧Rd r s bad (d - 1) w'∧Fr (MR r) w w':=by
 have cq:=hq.cell;obtain⟨c0,c1,c2,f1,hr1⟩:=h.cells
 go_enter_d Tryz.func280,Tryz.ntmps280
 go_wp2
 go_end0
 exact⟨rfl,h.set2 _,Fr.refl.setCell _ _ h.one⟩
section
variable {α:Type} (g:FuncId) (lb:Array Value) (one:St→α→St × α) (I:α→World→Prop) (sz:α→Nat) (r B N:Nat) (d:Int)
structure OneOk:Prop where
 enters:∀ args w,(callFunc g args).run zl w = .ok (.enter g args) w
 keeps:∀ a w w',I a w→Fr (MR r) w w'→I a w'
 boxes:∀ a w o,I a w→I a (w.alloc o)
 shrinks:∀ (st:St) (a:α),st.bad=false→(one st a).1.s.length≤st.s.length∧sz (one st a).2=sz a+1
 does:∀ (s:Bs) (a:α) (w:World),Rd r s false (d+1) w→d+1≤8→I a w→Gl w→B≤w.heap.size→sz a+s.length≤N →
  Calls zl g lb w fun e w'=>e = .returned (.tuple #[])∧Rd r (one ⟨s,false⟩ a).1.s (one ⟨s,false⟩ a).1.bad (d+1) w'∧I (one ⟨s,false⟩ a).2 w'∧Fr (ML r B) w w'
def zs1 (q:Nat) (w:World) (G:St × α) (shut:UInt8) (k:Nat) (wr:World):Prop :=
 ∃ (st:St) (a:α),zbz one shut k st a=G∧Rd r st.s st.bad (d+1) wr∧I a wr∧Gl wr∧Bx q r wr∧Fr (ML r B) w wr∧1≤k∧(st.bad=false→st.s.length+2≤k∧d+1≤8∧sz a+st.s.length≤N)
variable {g lb one I sz r B N d}
theorem zdq:∀ k o,MR r k o→ML r B k o:=fun _ _ h => .inl h
theorem zve (ok:OneOk g lb one I sz r B N d) (op shut:UInt8) (s:Bs) (bad:Bool) (a:α) (w:World) (h:Rd r s bad d w) (ha:I a w) (hg:Gl w) (hB:B≤w.heap.size) (hBn:2≤B)
 (hd0:0≤d) (hd1:d≤100) (hsz:sz a+s.length≤N) :
 Calls zl 258 #[.pointer (some ⟨r,0,none⟩),.int .u8 op.toNat,.int .u8 shut.toNat,.func (.func g) #[] lb] w fun e w' =>
  e = .returned (.tuple #[])∧Rd r (zaj one op shut (d+1) ⟨s,bad⟩ a).1.s (zaj one op shut (d+1) ⟨s,bad⟩ a).1.bad d w'∧I (zaj one op shut (d+1) ⟨s,bad⟩ a).2 w'∧Fr (ML r B) w w':=by
 obtain⟨c0,c1,c2,f1,hU⟩:=h.cells;have AF:=h.1
 -- what holds when the box is made and the depth raised
 have hW:∀ W,W=(w.setCell ⟨r,2,none⟩ (.int .i64 (d+1))).alloc (.cells #[.pointer (some ⟨r,0,none⟩)] 177) →
  Rd r s bad (d+1) W∧I a W∧Gl W∧Bx w.heap.size r W∧Fr (ML r B) w W:=by
  rintro W rfl;have hF:Fr (MR r) w (w.setCell ⟨r,2,none⟩ (.int .i64 (d+1))):=Fr.refl.setCell _ _ h.one;refine⟨(h.set2 _).alloc _,ok.boxes _ _ _ (ok.keeps _ _ _ ha hF),(hg.rd h hF).alloc _,?_,(hF.alloc _).mono zdq⟩;have:=heap_alloc_new (w.setCell ⟨r,2,none⟩ (.int .i64 (d+1))) (.cells #[.pointer (some ⟨r,0,none⟩)] 177);rw[World.size_setCell]at this;exact this
 obtain⟨hh,hw,hv,hr,hx⟩:=hW _ rfl;clear hW;generalize hG:zaj one op shut (d+1) ⟨s,bad⟩ a=G;have HG:=zi hG;clear hG
 -- the ht: the depth is taken back
 have ht:∀ (u:FrameMode) (w':World),Rd r G.1.s G.1.bad (d+1) w'→Bx w.heap.size r w'→I G.2 w'→Fr (ML r B) w w' →
  CallsD zl 280 #[.pointer (some ⟨w.heap.size,0,none⟩)] u w' fun e u' hX=>u'=u∧e = .returned (.tuple #[])∧Rd r G.1.s G.1.bad d hX∧I G.2 hX∧Fr (ML r B) w hX:=by
  intro u w' hR hq hI hF;refine(zp6 u _ r _ _ (d+1) w' hq hR (by omega) (by omega)).mono ?_;rintro e u' hX ⟨rfl,rfl,AD,AE⟩;rw[show d+1 - 1=d by omega]at AD;exact⟨rfl,rfl,AD,ok.keeps _ _ _ hI AE,hF.trans' (AE.mono zdq)⟩
 have Door:=zi ht;clear ht
 have h6:(zcf op (d+1) ⟨s,bad⟩).s.length≤s.length∧((zcf op (d+1) ⟨s,bad⟩).bad=false→d+1≤8):=by
  unfold zcf;cases he:zel op s with
  | none=>exact⟨zb4 s,by simp⟩
  | some l=>exact⟨by have:=znt he;simp only;omega,by simp⟩
 have hE:=HG.out;unfold zaj at hE;have HE:=zi hE;clear hE HG
 have hc:(∃ l,zel op s=some l∧d+1≤8)∨(∃ l,zel op s=some l∧8<d+1)∨zel op s=none:=by
  cases zel op s with
  | none=>exact .inr (.inr rfl)
  | some l =>
    by_cases h1:d+1≤8
    ·exact .inl ⟨l,rfl,h1⟩
    exact .inr (.inl ⟨l,rfl,by omega⟩)
 have cq:=hr.cell;obtain⟨o2,h7⟩:∃ o2,zcf op (d+1) ⟨s,bad⟩=o2:=⟨_,rfl⟩;obtain⟨s2,b2⟩:=o2;have hm:=zi h7;rw[h7]at h6;clear h7;simp only at h6;obtain⟨hol1,hz⟩:=h6;rcases hc with⟨l,he,h8⟩ | hc
 ·have hn : zcf op (d+1) ⟨s,bad⟩=⟨l,bad⟩:=by simp only[zcf,he];congr 1;simp;omega
  obtain⟨e1,e2⟩:l=s2∧bad=b2:=by have:=hm.out;rw[hn]at this;simpa using this
  have AJ:decide ((8:Int)<d+1)=false:=by simp only[decide_eq_false_iff_not];omega
  have He:=zi he;have E:=zi (And.intro e1 e2);clear hn he e1 e2
  go_enter_defers Tryz.func258,Tryz.ntmps258
  go_wp2_with fail
  refine(zex r s l bad (d+1) op _ hh He.out).mono ?_;rintro e w2 ⟨rfl,hK,hM⟩;have hj:=ok.keeps _ _ _ hw hM;have ho:=hv.rd hh hM;have hZ:=hr.rd hM;have hJ:=hx.trans' (hM.mono zdq);rw[E.out.1,E.out.2]at hK;clear hh hw hv hr hx hM c0 c1 c2 f1 hU cq;obtain⟨c0,c1,c2,f1,hU⟩:=hK.cells;have cq:=hZ.cell;cases hD:zel shut s2 with
  | some l2 =>
    have hG:G=(⟨l2,b2⟩,a):=by have:=HE.out;rw[hm.out]at this;simp only[hD]at this;exact this.symm
    have Hsh:=zi hD;have HG:=zi hG;clear hD hG
    go_wp2_with fail
    refine(zex r s2 l2 b2 (d+1) shut _ hK Hsh.out).mono ?_;rintro e w3 ⟨rfl,hN,hC⟩
    go_wp2_with fail
    have hG:=HG.out;refine leaves_cons (f:=280) (args:=#[.pointer (some ⟨w.heap.size,0,none⟩)]) (by simp) (by simp[go_sem]) ?_;refine(Door.out _ _ (by rw[hG];exact hN) (hZ.rd hC) (by rw[hG];exact ok.keeps _ _ _ hj hC) (hJ.trans' (hC.mono zdq))).mono ?_;rintro e u' hX ⟨rfl,rfl,hP,hQ,hT⟩;exact⟨_,results_none rfl _ _ _,rfl,hP,hQ,hT⟩
  | none =>
    have hl:Hid (zbz one shut (s2.length+2) ⟨jq s2,b2⟩ a=G):=by
     have:=HE.out;rw[hm.out]at this;simp only[hD]at this;exact this
    have Hsh:=zi hD;clear hD
    go_wp2_with fail
    refine(zg9 r s2 b2 (d+1) shut _ hK Hsh.out).mono ?_;rintro e w3 ⟨rfl,hN,hC⟩;have AG:=zb4 s2
    have AB:zs1 one I sz r B N d w.heap.size w G shut (s2.length+2) w3 :=
     ⟨⟨jq s2,b2⟩,a,hl.out,hN,ok.keeps _ _ _ hj hC,ho.rd hK hC,hZ.rd hC,hJ.trans' (hC.mono zdq),by omega,fun hb=>⟨by simp only;omega,hz hb,by simp only;omega⟩⟩
    clear hK hj ho hZ hJ hN hC c0 c1 c2 f1 hU cq AG hl hz;have henters:=ok.enters
    go_wp2_with fail
    go_loopg [] (s2.length+2) (fun k wr=>zs1 one I sz r B N d w.heap.size w G shut k wr)
    case atStart=>exact AB
    case round =>
     clear AB;obtain⟨⟨s3,b3⟩,a3,hS,hN,hi,h0,hY,hC,hk1,h2⟩:=hrel;simp only at h2 hN;obtain⟨k',rfl⟩:∃ k',gk=k'+1:=⟨gk - 1,by omega⟩;obtain⟨c0,c1,c2,f1,hU⟩:=hN.cells;have cq:=hY.cell;simp only[zbz]at hS;cases b3 with
     | true =>
       simp only[if_true]at hS;have HS:=zi hS;clear hS h2
       go_wp2_with fail
       have hS:=HS.out;subst hS;refine leaves_cons (f:=280) (args:=#[.pointer (some ⟨w.heap.size,0,none⟩)]) (by simp) (by simp[go_sem]) ?_;refine(Door.out _ _ hN hY hi hC).mono ?_;rintro e u' hX ⟨rfl,rfl,hP,hQ,hT⟩;exact⟨_,results_none rfl _ _ _,rfl,hP,hQ,hT⟩
     | false =>
       simp only[Bool.false_eq_true,if_false]at hS;obtain⟨h2,h8,AI⟩:=h2 rfl;have hD:=ok.shrinks ⟨s3,false⟩ a3 rfl;have h9:=ok.does s3 a3 wr hN h8 hi h0 (Nat.le_trans hB hC.size) AI;generalize one ⟨s3,false⟩ a3=O at *;obtain⟨⟨s4,b4⟩,a4⟩:=O;simp only at hD h9 hS;have HS:=zi hS;have Hdo:=zi h9;clear hS h9
       go_wp2_with fail
       refine Hdo.out.mono ?_;rintro e w4 ⟨rfl,hL,h4,hH⟩;have AC:=h0.ml AF hBn hH;have hV:=hY.ml hH;have hk:=hC.trans' hH;clear hN hi h0 hY hC c0 c1 c2 f1 hU cq;obtain⟨c0,c1,c2,f1,hU⟩:=hL.cells;have cq:=hV.cell;cases b4 with
       | true =>
         go_wp2_with fail
         have hS:=HS.out;simp only[if_true]at hS;subst hS;refine leaves_cons (f:=280) (args:=#[.pointer (some ⟨w.heap.size,0,none⟩)]) (by simp) (by simp[go_sem]) ?_;refine(Door.out _ _ hL hV h4 hk).mono ?_;rintro e u' hX ⟨rfl,rfl,hP,hQ,hT⟩;exact⟨_,results_none rfl _ _ _,rfl,hP,hQ,hT⟩
       | false =>
         have hS:=HS.out;simp only[Bool.false_eq_true,if_false]at hS;cases hu:zel shut s4 with
         | some l5 =>
           simp only[hu]at hS;have hy:=zi hS;have H4:=zi hu;clear hS HS hu
           go_wp2_with fail
           refine(zex r s4 l5 false (d+1) shut _ hL H4.out).mono ?_;rintro e w5 ⟨rfl,hs,hO⟩
           go_wp2_with fail
           have hS:=hy.out;subst hS;refine leaves_cons (f:=280) (args:=#[.pointer (some ⟨w.heap.size,0,none⟩)]) (by simp) (by simp[go_sem]) ?_;refine(Door.out _ _ hs (hV.rd hO) (ok.keeps _ _ _ h4 hO) (hk.trans' (hO.mono zdq))).mono ?_;rintro e u' hX ⟨rfl,rfl,hP,hQ,hT⟩;exact⟨_,results_none rfl _ _ _,rfl,hP,hQ,hT⟩
         | none =>
           simp only[hu]at hS;have H4:=zi hu;have hy:=zi hS;clear hS HS hu;have hb4:=zb4 s4;have hb5:=zb4 (jq s4);cases hp:zel 44 (jq s4) with
           | some l6 =>
             have hS:=hy.out;simp only[hp]at hS;have AA:=zi hS;have H5:=zi hp;have hel:=znt hp;clear hS hp hy
             go_wp2_with fail
             refine(zg9 r s4 false (d+1) shut _ hL H4.out).mono ?_;rintro e w5 ⟨rfl,hs,hO⟩;have AK:=(hV.rd hO).cell
             go_wp2_with fail
             refine(zex r (jq s4) l6 false (d+1) 44 _ hs H5.out).mono ?_;rintro e w6 ⟨rfl,h3,hf⟩
             go_wp2_with fail
             go_roundg k'
             case measure=>omega
             case rel=>exact⟨⟨l6,false⟩,a4,AA.out,h3,ok.keeps _ _ _ (ok.keeps _ _ _ h4 hO) hf,(AC.rd hL hO).rd hs hf,(hV.rd hO).rd hf,(hk.trans' (hO.mono zdq)).trans' (hf.mono zdq),by omega,fun _=>⟨by simp only;omega,h8,by simp only;omega⟩⟩
           | none =>
             have hS:=hy.out;simp only[hp]at hS;have AA:=zi hS;have H5:=zi hp;clear hS hp hy
             go_wp2_with fail
             refine(zg9 r s4 false (d+1) shut _ hL H4.out).mono ?_;rintro e w5 ⟨rfl,hs,hO⟩;have AK:=(hV.rd hO).cell
             go_wp2_with fail
             refine(zg9 r (jq s4) false (d+1) 44 _ hs H5.out).mono ?_;rintro e w6 ⟨rfl,h3,hf⟩;have cq6:=((hV.rd hO).rd hf).cell
             go_wp2_with fail
             refine(zby r _ _ (d+1) _ h3).mono ?_;rintro e w7 ⟨rfl,AH,h5⟩
             go_wp2_with fail
             go_roundg k'
             case measure=>omega
             case rel=>exact⟨⟨_,true⟩,a4,AA.out,AH,ok.keeps _ _ _ (ok.keeps _ _ _ (ok.keeps _ _ _ h4 hO) hf) h5,((AC.rd hL hO).rd hs hf).rd h3 h5,((hV.rd hO).rd hf).rd h5,((hk.trans' (hO.mono zdq)).trans' (hf.mono zdq)).trans' (h5.mono zdq),by omega,by simp⟩
 rcases hc with⟨l,he,h8⟩ | he
 ·have hn:zcf op (d+1) ⟨s,bad⟩=⟨l,true⟩:=by simp only[zcf,he];congr 1;simp;omega
  obtain⟨e1,rfl⟩:l=s2∧b2=true:=by have:=hm.out;rw[hn]at this;simp at this;exact this
  have AJ:decide ((8:Int)<d+1)=true:=by simp only[decide_eq_true_eq];omega
  have He:=zi he;have E:=zi e1;clear hn he e1 h8
  go_enter_defers Tryz.func258,Tryz.ntmps258
  go_wp2_with fail
  refine(zex r s l bad (d+1) op _ hh He.out).mono ?_;rintro e w2 ⟨rfl,hK,hM⟩;have hj:=ok.keeps _ _ _ hw hM;have ho:=hv.rd hh hM;have hZ:=hr.rd hM;have hJ:=hx.trans' (hM.mono zdq);rw[E.out]at hK;clear hh hw hv hr hx hM c0 c1 c2 f1 hU cq;obtain⟨c0,c1,c2,f1,hU⟩:=hK.cells;have cq:=hZ.cell
  go_wp2_with fail
  refine(zby r _ _ (d+1) _ hK).mono ?_;rintro e w3 ⟨rfl,hN,hC⟩;have hi:=ok.keeps _ _ _ hj hC;have h0:=ho.rd hK hC;have hY:=hZ.rd hC;have hd:=hJ.trans' (hC.mono zdq);clear hK hj ho hZ hJ hC c0 c1 c2 f1 hU cq;have cq:=hY.cell;cases hD:zel shut s2 with
  | some l2 =>
    have hG:G=(⟨l2,true⟩,a):=by have:=HE.out;rw[hm.out]at this;simp only[hD]at this;exact this.symm
    have Hsh:=zi hD;have HG:=zi hG;clear hD hG
    go_wp2_with fail
    refine(zex r s2 l2 true (d+1) shut _ hN Hsh.out).mono ?_;rintro e w4 ⟨rfl,hL,hH⟩
    go_wp2_with fail
    have hG:=HG.out;refine leaves_cons (f:=280) (args:=#[.pointer (some ⟨w.heap.size,0,none⟩)]) (by simp) (by simp[go_sem]) ?_;refine(Door.out _ _ (by rw[hG];exact hL) (hY.rd hH) (by rw[hG];exact ok.keeps _ _ _ hi hH) (hd.trans' (hH.mono zdq))).mono ?_;rintro e u' hX ⟨rfl,rfl,hP,hQ,hT⟩;exact⟨_,results_none rfl _ _ _,rfl,hP,hQ,hT⟩
  | none =>
    have hG:G=(⟨jq s2,true⟩,a):=by have:=HE.out;rw[hm.out]at this;simp only[hD,zbz,if_true]at this;exact this.symm
    have Hsh:=zi hD;have HG:=zi hG;clear hD hG
    go_wp2_with fail
    refine(zg9 r s2 true (d+1) shut _ hN Hsh.out).mono ?_;rintro e w4 ⟨rfl,hL,hH⟩;have hV:=hY.rd hH;obtain⟨c0,c1,c2,f1,hU⟩:=hL.cells;have AL:=hV.cell
    go_wp2_with fail
    refine wp_loop_rounds 1 ?_;rw[rounds_succ]
    go_wp2_with fail
    have hG:=HG.out;refine leaves_cons (f:=280) (args:=#[.pointer (some ⟨w.heap.size,0,none⟩)]) (by simp) (by simp[go_sem]) ?_;refine(Door.out _ _ (by rw[hG];exact hL) hV (by rw[hG];exact ok.keeps _ _ _ hi hH) (hd.trans' (hH.mono zdq))).mono ?_;rintro e u' hX ⟨rfl,rfl,hP,hQ,hT⟩;exact⟨_,results_none rfl _ _ _,rfl,hP,hQ,hT⟩
 have hn:zcf op (d+1) ⟨s,bad⟩=⟨jq s,true⟩:=by simp only[zcf,he]
 obtain⟨e1,rfl⟩:jq s=s2∧b2=true:=by have:=hm.out;rw[hn]at this;simp at this;exact this
 have He:=zi he;have E:=zi e1;clear hn he e1
 go_enter_defers Tryz.func258,Tryz.ntmps258
 go_wp2_with fail
 refine(zg9 r s bad (d+1) op _ hh He.out).mono ?_;rintro e w2 ⟨rfl,hK,hM⟩;have hj:=ok.keeps _ _ _ hw hM;have ho:=hv.rd hh hM;have hZ:=hr.rd hM;have hJ:=hx.trans' (hM.mono zdq);rw[E.out]at hK;clear hh hw hv hr hx hM c0 c1 c2 f1 hU cq;obtain⟨c0,c1,c2,f1,hU⟩:=hK.cells;have cq:=hZ.cell
 go_wp2_with fail
 refine(zby r _ _ (d+1) _ hK).mono ?_;rintro e w3 ⟨rfl,hN,hC⟩;have hi:=ok.keeps _ _ _ hj hC;have h0:=ho.rd hK hC;have hY:=hZ.rd hC;have hd:=hJ.trans' (hC.mono zdq);clear hK hj ho hZ hJ hC c0 c1 c2 f1 hU cq;have cq:=hY.cell;cases hD:zel shut s2 with
 | some l2 =>
   have hG:G=(⟨l2,true⟩,a):=by have:=HE.out;rw[hm.out]at this;simp only[hD]at this;exact this.symm
   have Hsh:=zi hD;have HG:=zi hG;clear hD hG
   go_wp2_with fail
   refine(zex r s2 l2 true (d+1) shut _ hN Hsh.out).mono ?_;rintro e w4 ⟨rfl,hL,hH⟩
   go_wp2_with fail
   have hG:=HG.out;refine leaves_cons (f:=280) (args:=#[.pointer (some ⟨w.heap.size,0,none⟩)]) (by simp) (by simp[go_sem]) ?_;refine(Door.out _ _ (by rw[hG];exact hL) (hY.rd hH) (by rw[hG];exact ok.keeps _ _ _ hi hH) (hd.trans' (hH.mono zdq))).mono ?_;rintro e u' hX ⟨rfl,rfl,hP,hQ,hT⟩;exact⟨_,results_none rfl _ _ _,rfl,hP,hQ,hT⟩
 | none =>
   have hG:G=(⟨jq s2,true⟩,a):=by have:=HE.out;rw[hm.out]at this;simp only[hD,zbz,if_true]at this;exact this.symm
   have Hsh:=zi hD;have HG:=zi hG;clear hD hG
   go_wp2_with fail
   refine(zg9 r s2 true (d+1) shut _ hN Hsh.out).mono ?_;rintro e w4 ⟨rfl,hL,hH⟩;have hV:=hY.rd hH;obtain⟨c0,c1,c2,f1,hU⟩:=hL.cells;have AL:=hV.cell
   go_wp2_with fail
   refine wp_loop_rounds 1 ?_;rw[rounds_succ]
   go_wp2_with fail
   have hG:=HG.out;refine leaves_cons (f:=280) (args:=#[.pointer (some ⟨w.heap.size,0,none⟩)]) (by simp) (by simp[go_sem]) ?_;refine(Door.out _ _ (by rw[hG];exact hL) hV (by rw[hG];exact ok.keeps _ _ _ hi hH) (hd.trans' (hH.mono zdq))).mono ?_;rintro e u' hX ⟨rfl,rfl,hP,hQ,hT⟩;exact⟨_,results_none rfl _ _ _,rfl,hP,hQ,hT⟩
end
end
section
open Go.RowKit
attribute [local instance] zb3

theorem zj4:(Tryz.prog.info? 65).map (fun i=>(i.zero,i.size,i.bytes))=some (some (.agg #[.int .i64 0,.int .i64 0,.string ⟨#[]⟩,.slice none 0 0,.slice none 0 0]),5,80):=by kernel_rfl
def zmg (f:Nat):Prop:=∀ (d:Int) (r:Nat) (s:Bs) (bad:Bool) (w:World),Rd r s bad d w→Gl w→s.length≤67108864→0≤d→d≤8→d+f=10 →
 Calls zl 129 #[.pointer (some ⟨r,0,none⟩)] w fun e w'=>∃ v,e = .returned v∧RJ (fun k=>w.heap.size≤k) w' (jy f d ⟨s,bad⟩).1 v∧Rd r (jy f d ⟨s,bad⟩).2.s (jy f d ⟨s,bad⟩).2.bad d w'∧Fr (MR r) w w'
def ListInv (r q bv:Nat) (l:List J) (w:World):Prop :=
 Bx q r w∧q<bv∧∃ lv xs,w.heap[bv]? = some (.cells #[.int .i64 4,.int .i64 0,.string ⟨#[]⟩,lv,.slice none 0 0] 65 (0,0)) ∧
  w.ownsRow (bv+1) 65 5 lv l.length xs∧RC (fun k=>bv<k∧lv.ownBlock≠some k) w l xs
theorem ListInv.fr {M:Nat→Obj→Prop}{r q bv:Nat}{l:List J}{w w':World}(h:ListInv r q bv l w)(hF:Fr M w w')
 (hM:∀ k o,q≤k→(OfTy 177 o∨OfTy 65 o∨OfTy 116 o)→¬ M k o):ListInv r q bv l w':=by
 obtain⟨hq,hC,lv,xs,hb,hB,hD⟩:=h;refine⟨hF.block _ _ hq (hM _ _ (Nat.le_refl _) (.inl ⟨_,_,rfl⟩)),hC,lv,xs,hF.block _ _ hb (hM _ _ (Nat.le_of_lt hC) (.inr (.inl ⟨_,_,rfl⟩))),?_,?_⟩
 ·exact zc0 hB hF (fun k o _ hk ht=>hM k o (by omega) (.inr (.inl ht)))
 exact RC.kp (Kp.fr hF (fun b hb _=>hb) (fun b o hs _ ht=>hM b o (by omega) (.inr (zmy ht)))) l xs hD
theorem zsy {r k:Nat}{o:Obj}(h:OfTy 177 o∨OfTy 65 o∨OfTy 116 o):¬ MR r k o:=by
 rintro⟨_,c,f,rfl⟩;rcases h with⟨_,_,h⟩ | ⟨_,_,h⟩ | ⟨_,_,h⟩<;>simp at h
theorem zom {r q bv B g cap:Nat} {l:List J} {j:J} {d:Int} {s:Bs} {bad:Bool} {w w1 w2 w3:World} {X Z:Obj} {lv v0 v1 v2 v3 v4:Value} {xs:List Value}
 (hqB:B≤bv) (hR:Rd r s bad d w1) (hF:Fr (MR r) w w1) (hbw:bv<w.heap.size) (hq:Bx q r w1) (hqb:q<bv)
 (hown:w1.ownsRow (bv+1) 65 5 lv l.length xs) (hrc:RC (fun k=>bv<k∧lv.ownBlock≠some k) w1 l xs)
 (hb:w1.heap[bv]? = some (.cells #[.int .i64 4,.int .i64 0,.string ⟨#[]⟩,lv,.slice none 0 0] 65 (0,0)))
 (hlw:∀ k,lv.ownBlock=some k→k<w.heap.size)
 (hj:RJ (fun k=>w.heap.size≤k) w1 j (.agg #[v0,v1,v2,v3,v4]))
 (hgr:((w1.alloc X).alloc Z).drew.grownBy w2 lv.ownBlock) (hg2:lv.ownBlock=some g∨w1.heap.size+2≤g)
 (hown3:w3.ownsRow (bv+1) 65 5 (.slice (some ⟨g,0,none⟩) (l.length+1) cap) (l.length+1) (xs++[v0,v1,v2,v3,v4]))
 (hb3:w3.heap[bv]? = some (.cells #[.int .i64 4,.int .i64 0,.string ⟨#[]⟩,.slice (some ⟨g,0,none⟩) (l.length+1) cap,.slice none 0 0] 65 (0,0)))
 (h3:But2 g bv w2 w3):Rd r s bad d w3∧ListInv r q bv (l++[j]) w3∧Fr (ML r B) w w3:=by
 have hC:Fr (fun k _=>lv.ownBlock=some k∨k=g∨k=bv) w1 w3 :=
  ((zlh hgr).mono (fun _ _ h => .inl h)).trans h3.fr (fun _ _ h => .inl (.inr h))
 have hD:=zcj hown
 have hJ:∀ o,w1.heap[g]? = some o→OfTy 65 o∧bv<g:=by
  intro o ho;rcases hg2 with hg | hg
  ·obtain⟨h1,o',h2,h3⟩:=hD g hg;rw[ho]at h2;exact⟨(je h2)▸h3,h1⟩
  have:=ju ho;omega
 have hK:∀ k,OfTy 65 k→¬ OfTy 179 k:=by
  rintro k ⟨_,_,rfl⟩ ⟨_,_,h⟩;simp at h
 have hI:∀ k,OfTy 65 k→¬ OfTy 177 k:=by
  rintro k ⟨_,_,rfl⟩ ⟨_,_,h⟩;simp at h
 have hB:∀ k,(lv.ownBlock=some k∨k=g∨k=bv)→∀ o,w1.heap[k]? = some o→OfTy 65 o∧B≤k:=by
  rintro k hk o ho;rcases hk with hk | rfl | rfl
  ·obtain⟨h1,o',h2,h3⟩:=hD k hk;rw[ho]at h2;exact⟨(je h2)▸h3,by omega⟩
  ·exact⟨(hJ o ho).1,by have:=(hJ o ho).2;omega⟩
  rw[hb]at ho;exact⟨⟨_,_,(je ho).symm⟩,by omega⟩
 refine⟨⟨hR.1,hC.block _ _ hR.2 (fun hm=>hK _ (hB _ hm _ hR.2).1 ⟨_,_,rfl⟩)⟩,⟨hC.block _ _ hq (fun hm=>hI _ (hB _ hm _ hq).1 ⟨_,_,rfl⟩),hqb,_,_,hb3,by simpa using hown3,?_⟩,?_⟩
 ·have hG:(Value.slice (some ⟨g,0,none⟩) (l.length+1) cap).ownBlock=some g:=rfl;rw[hG];refine RC.append l xs [j] _ (RC.kp ?_ l xs hrc) (RC.one (RJ.kp ?_ j _ hj))
  ·intro b o hs ho _
   have hE:b≠g:=by
    rintro rfl;rcases hg2 with hg | hg
    ·exact hs.2 hg
    have:=ju ho;omega
   exact ⟨⟨hs.1,fun e=>hE (by simpa using e.symm)⟩,hC.block b o ho (fun hm=>by
    rcases hm with hm | hm | hm
    ·exact hs.2 hm
    ·exact hE hm
    omega)⟩
  intro b o hs ho _
  have hE:b≠g:=by
   rintro rfl;rcases hg2 with hg | hg
   ·have:=hlw _ hg;omega
   have:=ju ho;omega
  exact ⟨⟨by omega,fun e=>hE (by simpa using e.symm)⟩,hC.block b o ho (fun hm=>by
   rcases hm with hm | hm | hm
   ·have:=hlw _ hm;omega
   ·exact hE hm
   omega)⟩
 refine⟨hC.os.trans hF.os,hC.tape.trans hF.tape,hC.output.trans hF.output,Nat.le_trans hF.size hC.size,fun k o hk hn=>?_⟩;have hH:=hF.block k o hk (fun hm=>hn (.inl hm));exact hC.block k o hH (fun hm=>hn (.inr ⟨(hB k hm o hH).2,hI _ (hB k hm o hH).1⟩))
theorem zr1 {r q bv B g cap:Nat} {l:List J} {j:J} {d:Int} {s:Bs} {bad:Bool} {w w1 w2:World} {X Z:Obj} {lv v0 v1 v2 v3 v4 z0 z1 z2 z3 z4:Value} {xs:List Value}
 (hqB:B≤bv) (hR:Rd r s bad d w1) (hF:Fr (MR r) w w1) (hbw:bv<w.heap.size) (hq:Bx q r w1) (hqb:q<bv)
 (hown:w1.ownsRow (bv+1) 65 5 lv l.length xs) (hrc:RC (fun k=>bv<k∧lv.ownBlock≠some k) w1 l xs)
 (hb:w1.heap[bv]? = some (.cells #[.int .i64 4,.int .i64 0,.string ⟨#[]⟩,lv,.slice none 0 0] 65 (0,0)))
 (hlw:∀ k,lv.ownBlock=some k→k<w.heap.size)
 (hj:RJ (fun k=>w.heap.size≤k) w1 j (.agg #[v0,v1,v2,v3,v4]))
 (hgr:((w1.alloc X).alloc Z).drew.grownBy w2 lv.ownBlock) (hg2:lv.ownBlock=some g∨w1.heap.size+2≤g) (hgb:¬ g=bv)
 (hown2:w2.ownsRow (bv+1) 65 5 (.slice (some ⟨g,0,none⟩) (l.length+1) cap) (l.length+1) (xs++[z0,z1,z2,z3,z4]))
 (hb2:w2.heap[bv]? = some (.cells #[.int .i64 4,.int .i64 0,.string ⟨#[]⟩,lv,.slice none 0 0] 65 (0,0))) (w3:World)
 (h3:w3=(put5 g (l.length * 5) v0 v1 v2 v3 v4 w2).setCell ⟨bv,3,none⟩ (.slice (some ⟨g,0,none⟩) (l.length+1) cap) ∨
   w3=put5 g (l.length * 5) v0 v1 v2 v3 v4 (w2.setCell ⟨bv,3,none⟩ (.slice (some ⟨g,0,none⟩) (l.length+1) cap))) :
 Rd r s bad d w3∧ListInv r q bv (l++[j]) w3∧Fr (ML r B) w w3:=by
 have hC:xs.length=l.length * 5:=by have:=RC.length l xs hrc;omega
 have hB:bv≠g:=fun e=>hgb e.symm
 have hown2':=hown2;rcases h3 with rfl | rfl
 ·refine zom hqB hR hF hbw hq hqb hown hrc hb hlw hj hgr hg2 (zdc (zoj hown2 hC v0 v1 v2 v3 v4) (fun k hk=>?_)) ?_ (But2.put5 _ _ _ _ _ _ _ _ _ _ _)
  ·have:k=g:=by simpa[Value.ownBlock] using hk.symm
   subst this;exact Below.heap_setCell _ _ _ _ hgb
  exact jh (o:=3) _ ((zdu hB).trans hb2)
 refine zom hqB hR hF hbw hq hqb hown hrc hb hlw hj hgr hg2 (zoj (zdc hown2 (fun k hk=>?_)) hC v0 v1 v2 v3 v4) ?_ (But2.put5' _ _ _ _ _ _ _ _ _ _ _)
 ·have:k=g:=by simpa[Value.ownBlock] using hk.symm
  subst this;exact Below.heap_setCell _ _ _ _ hgb
 exact(zdu hB).trans (jh (o:=3) _ hb2)
theorem zwr (f:Nat) (hv:zmg f) (d:Int) (hd0:0≤d) (hd1:d≤8) (hdf:d+f=10) (r q bv B N:Nat) (hqB:B≤bv) (hN:N≤67108864) (s:Bs) (l:List J) (w:World)
 (h:Rd r s false d w) (hI:ListInv r q bv l w) (hg:Gl w) (hB:B≤w.heap.size) (hsz:l.length+s.length≤N) :
 Calls zl 259 #[.pointer (some ⟨q,0,none⟩),.pointer (some ⟨bv,0,none⟩)] w fun e w'=>e = .returned (.tuple #[]) ∧
  Rd r (zbq (jy f d) ⟨s,false⟩ l).1.s (zbq (jy f d) ⟨s,false⟩ l).1.bad d w'∧ListInv r q bv (zbq (jy f d) ⟨s,false⟩ l).2 w'∧Fr (ML r B) w w':=by
 have hF:=hv d r s false w h hg (by omega) hd0 hd1 hdf;obtain⟨ho,hD⟩:bv<w.heap.size∧True:=⟨by obtain⟨_,_,lv,xs,hb,_⟩:=hI;exact ju hb,trivial⟩;clear hD;simp only[zbq];generalize jy f d ⟨s,false⟩=V at *;obtain⟨j,st⟩:=V;simp only at hF ⊢;have Hval:=zi hF;have cq:=hI.1.cell;obtain⟨i0,hi,hh,hf,he⟩:=info_parts zj4;have hlen:l.length≤67108864:=by omega
 clear hF hv;go_enter Tryz.func259,Tryz.ntmps259
 go_wp2_with fail
 refine Hval.out.mono ?_;rintro e w1 ⟨v,rfl,hj,hq,hT⟩;have hr:ListInv r q bv l w1:=hI.fr hT (fun _ _ _ ht=>zsy ht)
 have hU:∃ lv,w.heap[bv]? = some (.cells #[.int .i64 4,.int .i64 0,.string ⟨#[]⟩,lv,.slice none 0 0] 65 (0,0))∧(∀ k,lv.ownBlock=some k→k<w.heap.size):=by
  obtain⟨_,_,lv,xs,hb,hC,_⟩:=hI;exact⟨lv,hb,fun k hk=>(hC.lt k hk).2⟩
 obtain⟨lw,hQ,hD⟩:=hU;have hH:=hT.block _ _ hQ (fun hm=>zsy (.inr (.inl ⟨_,_,rfl⟩)) hm);have hsz1:w.heap.size≤w1.heap.size:=hT.size;obtain⟨jk,jn,jt,jl,jp⟩:=j;have hc:=hj;unfold RJ at hc;obtain⟨a1,c1,a2,c2,rfl,_,_⟩:=hc;obtain⟨ha,hl,lv,xs,hb,hC,hS⟩:=hr;obtain⟨a0,c0,hK⟩:=zaw hC;have hp:bv<w1.heap.size:=ju hb;obtain rfl:lw=lv:=by rw[hb]at hH;simpa using hH.symm
 have hX:=zi hD;have Hlw:Hid (∀ k,(Value.slice a0 l.length c0).ownBlock=some k→k<w.heap.size):=by rw[← hK];exact hX
 clear hD hH hQ;have v3:w1.cell? ⟨bv,3,none⟩=some (.slice a0 l.length c0):=by simp[World.cell?,hb,hK]
 have f3:w1.frozen? ⟨bv,3,none⟩=false:=by simp[World.frozen?,hb]
 have cq1:=ha.cell;have hnn:(l.length:Int)<l.length+1:=by omega
 -- what the row was: it lies behind bv
 have hM:∀ g,(Value.slice a0 l.length c0).ownBlock=some g∨w1.heap.size+2≤g→¬ g=bv∧¬ bv=g:=by
  intro g hg;rw[← hK]at hg;rcases hg with hg | hg
  ·have:=(zcj hC g hg).1;omega
  omega
 have hZ:=RC.length l xs hS;rw[hK]at hC hS;have Hown:=zi hC;have Hrow:=zi hM;have Hrc:=zi hS;have Hb:=zi hb;have Hxl:=zi hZ;have Hj:=zi hj;have Hlv:=zi hK;clear hC hM hS hb hZ hj hK
 go_wp2_with fail
 have hP:(l.length+1) * 80≤140737488355328:=by omega
 have hO:l.length+1≤maxLen:=by unfold maxLen;omega
 go_region_law (refine zcu rfl (.tmp 6) (.tmp 9) 62 rfl (bv+1) 65 i0 (.agg #[.int .i64 0,.int .i64 0,.string ⟨#[]⟩,.slice none 0 0,.slice none 0 0]) 5 80 Tryz.underlying62 hi hh hf he rfl (by decide) (.slice a0 l.length c0) l.length xs rfl (by exact(Hown.out.alloc _).alloc _) ⟨w1.heap.size+1,0,none⟩ 1 [.int .i64 0,.int .i64 0,.string ⟨#[]⟩,.slice none 0 0,.slice none 0 0] rfl rfl (by exact q6 (w1.alloc _) _ _ _ (by simp)) (by simp[Value.oneCell']) hO hP (by simp;omega) ?_;intro g cap w2 hE hG hW hL hf2;have hR:=zi hE;clear hE;have k0:=hL 0 _ rfl;have k1:=hL 1 _ rfl;have k2:=hL 2 _ rfl;have k3:=hL 3 _ rfl;have k4:=hL 4 _ rfl;rw[Nat.add_zero]at k0;clear hL;obtain⟨hn,hg4⟩:=Hrow.out g (by simpa using hW);have hJ:=(zfn hG hp (fun e=>(Hrow.out bv (.inl e)).1 rfl)).trans Hb.out;have b1:w2.cell? ⟨bv,3,none⟩=some (.slice a0 l.length c0):=(by simp[World.cell?,hJ,Hlv.out]);have b2:w2.frozen? ⟨bv,3,none⟩=false:=(by simp[World.frozen?,hJ]);have hs:=zi hW;have hu:=zi hJ;have hY:=zi hG;clear hW hJ hG)
 all_goals
  go_wp2_with fail
  go_end0
  refine⟨rfl,?_⟩;have hd:=Hb.out;have hJ:=hu.out;rw[Hlv.out]at hd hJ;have hV:(Value.slice a0 l.length c0).ownBlock=some g∨w1.heap.size+2≤g:=by have:=hs.out;simp only[World.size_drew,World.size_alloc]at this;exact this
  refine zr1 hqB hq hT ho ha hl Hown.out Hrc.out hd Hlw.out Hj.out hY.out hV hn hR.out hJ _ ?_;simp only[put5,true_or,or_true]
end
end Go.Proofs.YtffggpplnjibgaaGreatDoor
