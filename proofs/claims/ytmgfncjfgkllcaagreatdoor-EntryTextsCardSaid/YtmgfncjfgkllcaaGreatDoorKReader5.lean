/-
 The walks of json's reader,further: what stands between two signs,one behind the other.
-/
import Derived.Test.YtmgfncjfgkllcaaGreatDoorKCellRows
import Derived.Defers
open Go.Lib renaming hid→za
namespace Go.Proofs.YtmgfncjfgkllcaaGreatDoor
set_option linter.unusedVariables false
set_option linter.unusedSimpArgs false
set_option linter.unusedSectionVars false
set_option maxRecDepth 100000
set_option maxHeartbeats 4000000
open Go.RowKit
attribute [local instance] zbb

theorem zbi (s:Bs):(jg s).length≤s.length:=by
 unfold jg Lib.trimLeftS;exact List.Sublist.length_le (List.dropWhile_sublist _)
theorem zmy {c:UInt8}{s l:Bs}(h:zc2 c s=some l):l.length+1≤s.length:=by
 unfold zc2 at h;have hb:=zbi s;split at h
 ·simp at h
 rename_i x l' hx
 rw[hx]at hb;split at h
 ·simp at h;subst h;simpa using hb
 simp at h
def ML (r B:Nat):Nat→Obj→Prop:=fun k o=>MR r k o∨(B≤k∧¬ zav 201 o)
def Bx (q r:Nat) (w:World):Prop:=w.heap[q]? = some (.cells #[.pointer (some ⟨r,0,none⟩)] 201 (0,0))
theorem Bx.cell {q r:Nat}{w:World}(h:Bx q r w):w.cell? ⟨q,0,none⟩=some (.pointer (some ⟨r,0,none⟩)):=by unfold Bx at h;simp[World.cell?,h]
theorem Bx.rd {q r:Nat} {w w':World} (h:Bx q r w) (hF:Fr (MR r) w w'):Bx q r w' :=
 hF.block _ _ h (fun hm=>by
  obtain⟨_,c,f,h1⟩:=hm
  simp at h1)
theorem Bx.ml {q r B:Nat} {w w':World} (h:Bx q r w) (hF:Fr (ML r B) w w'):Bx q r w' :=
 hF.block _ _ h (fun hm=>by
  rcases hm with⟨_,c,f,h1⟩ | ⟨_,h1⟩
  ·simp at h1
  exact h1 ⟨_,_,rfl⟩)
theorem Gl.ml {r B:Nat} {w w':World} (h:Gl w) (hr:6≤r) (hB:6≤B) (hF:Fr (ML r B) w w'):Gl w' :=
 h.fr hF (fun k o _ hm=>by
  rcases hm with⟨rfl,_⟩ | ⟨h1,_⟩
  ·exact hr
  exact Nat.le_trans hB h1)
theorem zp5 (u:FrameMode)(q r:Nat)(s:Bs)(bad:Bool)(d:Int)(w:World)(hq:Bx q r w)(h:Rd r s bad d w)(h0 : -1000≤d)(h1:d≤1000) :
 CallsD Tryz.prog 329 #[.pointer (some ⟨q,0,none⟩)] u w fun e u' w'=>u'=u∧e = .returned (.tuple #[])∧Rd r s bad (d - 1) w'∧Fr (MR r) w w':=by
 have cq:=hq.cell;obtain⟨c0,c1,c2,f1,hr1⟩:=h.cells
 go_enter_d Tryz.func329,Tryz.ntmps329
 go_wp2
 go_end0
 exact⟨rfl,h.set2 _,Fr.refl.setCell _ _ h.one⟩
section
variable {α:Type} (g:FuncId) (lb:Array Value) (one:St→α→St × α) (I:α→World→Prop) (sz:α→Nat) (r B N:Nat) (d:Int)
structure OneOk:Prop where
 enters:∀ args w,(callFunc g args).run Tryz.prog w = .ok (.enter g args) w
 keeps:∀ a w w',I a w→Fr (MR r) w w'→I a w'
 boxes:∀ a w o,I a w→I a (w.alloc o)
 shrinks:∀ (st:St) (a:α),st.bad=false→(one st a).1.s.length≤st.s.length∧sz (one st a).2=sz a+1
 does:∀ (s:Bs) (a:α) (w:World),Rd r s false (d+1) w→d+1≤8→I a w→Gl w→B≤w.heap.size→sz a+s.length≤N →
  Calls Tryz.prog g lb w fun e w'=>e = .returned (.tuple #[])∧Rd r (one ⟨s,false⟩ a).1.s (one ⟨s,false⟩ a).1.bad (d+1) w'∧I (one ⟨s,false⟩ a).2 w'∧Fr (ML r B) w w'
def zsx (q:Nat) (w:World) (G:St × α) (shut:UInt8) (k:Nat) (wr:World):Prop :=
 ∃ (st:St) (a:α),zb3 one shut k st a=G∧Rd r st.s st.bad (d+1) wr∧I a wr∧Gl wr∧Bx q r wr∧Fr (ML r B) w wr∧1≤k∧(st.bad=false→st.s.length+2≤k∧d+1≤8∧sz a+st.s.length≤N)
variable {g lb one I sz r B N d}
theorem zcu:∀ k o,MR r k o→ML r B k o:=fun _ _ h => .inl h
theorem zu9 (ok:OneOk g lb one I sz r B N d) (op shut:UInt8) (s:Bs) (bad:Bool) (a:α) (w:World) (h:Rd r s bad d w) (ha:I a w) (hg:Gl w) (hB:B≤w.heap.size) (hBn:6≤B)
 (hd0:0≤d) (hd1:d≤100) (hsz:sz a+s.length≤N) :
 Calls Tryz.prog 300 #[.pointer (some ⟨r,0,none⟩),.int .u8 op.toNat,.int .u8 shut.toNat,.func (.func g) #[] lb] w fun e w' =>
  e = .returned (.tuple #[])∧Rd r (za7 one op shut (d+1) ⟨s,bad⟩ a).1.s (za7 one op shut (d+1) ⟨s,bad⟩ a).1.bad d w'∧I (za7 one op shut (d+1) ⟨s,bad⟩ a).2 w'∧Fr (ML r B) w w':=by
 obtain⟨c0,c1,c2,f1,hT⟩:=h.cells;have AE:=h.1
 -- what holds when the box is made and the depth raised
 have hW:∀ W,W=(w.setCell ⟨r,2,none⟩ (.int .i64 (d+1))).alloc (.cells #[.pointer (some ⟨r,0,none⟩)] 201) →
  Rd r s bad (d+1) W∧I a W∧Gl W∧Bx w.heap.size r W∧Fr (ML r B) w W:=by
  rintro W rfl;have hF:Fr (MR r) w (w.setCell ⟨r,2,none⟩ (.int .i64 (d+1))):=Fr.refl.setCell _ _ h.one;refine⟨(h.set2 _).alloc _,ok.boxes _ _ _ (ok.keeps _ _ _ ha hF),(hg.rd h hF).alloc _,?_,(hF.alloc _).mono zcu⟩;have:=heap_alloc_new (w.setCell ⟨r,2,none⟩ (.int .i64 (d+1))) (.cells #[.pointer (some ⟨r,0,none⟩)] 201);rw[World.size_setCell]at this;exact this
 obtain⟨hf,hv,hu,hp,hw⟩:=hW _ rfl;clear hW;generalize hG:za7 one op shut (d+1) ⟨s,bad⟩ a=G;have HG:=za hG;clear hG
 -- the hs: the depth is taken back
 have hs:∀ (u:FrameMode) (w':World),Rd r G.1.s G.1.bad (d+1) w'→Bx w.heap.size r w'→I G.2 w'→Fr (ML r B) w w' →
  CallsD Tryz.prog 329 #[.pointer (some ⟨w.heap.size,0,none⟩)] u w' fun e u' hV=>u'=u∧e = .returned (.tuple #[])∧Rd r G.1.s G.1.bad d hV∧I G.2 hV∧Fr (ML r B) w hV:=by
  intro u w' hR hq hI hF;refine(zp5 u _ r _ _ (d+1) w' hq hR (by omega) (by omega)).mono ?_;rintro e u' hV ⟨rfl,rfl,AC,AD⟩;rw[show d+1 - 1=d by omega]at AC;exact⟨rfl,rfl,AC,ok.keeps _ _ _ hI AD,hF.trans' (AD.mono zcu)⟩
 have Door:=za hs;clear hs
 have h5:(zbp op (d+1) ⟨s,bad⟩).s.length≤s.length∧((zbp op (d+1) ⟨s,bad⟩).bad=false→d+1≤8):=by
  unfold zbp;cases he:zc2 op s with
  | none=>exact⟨zbi s,by simp⟩
  | some l=>exact⟨by have:=zmy he;simp only;omega,by simp⟩
 have hE:=HG.out;unfold za7 at hE;have HE:=za hE;clear hE HG
 have hZ:(∃ l,zc2 op s=some l∧d+1≤8)∨(∃ l,zc2 op s=some l∧8<d+1)∨zc2 op s=none:=by
  cases zc2 op s with
  | none=>exact .inr (.inr rfl)
  | some l =>
    by_cases h1:d+1≤8
    ·exact .inl ⟨l,rfl,h1⟩
    exact .inr (.inl ⟨l,rfl,by omega⟩)
 have cq:=hp.cell;obtain⟨o2,h6⟩:∃ o2,zbp op (d+1) ⟨s,bad⟩=o2:=⟨_,rfl⟩;obtain⟨s2,b2⟩:=o2;have hk:=za h6;rw[h6]at h5;clear h6;simp only at h5;obtain⟨hol1,hy⟩:=h5;rcases hZ with⟨l,he,h8⟩ | hZ
 ·have hm : zbp op (d+1) ⟨s,bad⟩=⟨l,bad⟩:=by simp only[zbp,he];congr 1;simp;omega
  obtain⟨e1,e2⟩:l=s2∧bad=b2:=by have:=hk.out;rw[hm]at this;simpa using this
  have AI:decide ((8:Int)<d+1)=false:=by simp only[decide_eq_false_iff_not];omega
  have He:=za he;have E:=za (And.intro e1 e2);clear hm he e1 e2
  go_enter_defers Tryz.func300,Tryz.ntmps300
  go_wp2_with fail
  refine(zd8 r s l bad (d+1) op _ hf He.out).mono ?_;rintro e w2 ⟨rfl,hJ,hL⟩;have hi:=ok.keeps _ _ _ hv hL;have hn:=hu.rd hf hL;have hY:=hp.rd hL;have hH:=hw.trans' (hL.mono zcu);rw[E.out.1,E.out.2]at hJ;clear hf hv hu hp hw hL c0 c1 c2 f1 hT cq;obtain⟨c0,c1,c2,f1,hT⟩:=hJ.cells;have cq:=hY.cell;cases hC:zc2 shut s2 with
  | some l2 =>
    have hG:G=(⟨l2,b2⟩,a):=by have:=HE.out;rw[hk.out]at this;simp only[hC]at this;exact this.symm
    have Hsh:=za hC;have HG:=za hG;clear hC hG
    go_wp2_with fail
    refine(zd8 r s2 l2 b2 (d+1) shut _ hJ Hsh.out).mono ?_;rintro e w3 ⟨rfl,hM,hA⟩
    go_wp2_with fail
    have hG:=HG.out;refine leaves_cons (f:=329) (args:=#[.pointer (some ⟨w.heap.size,0,none⟩)]) (by simp) (by simp[go_sem]) ?_;refine(Door.out _ _ (by rw[hG];exact hM) (hY.rd hA) (by rw[hG];exact ok.keeps _ _ _ hi hA) (hH.trans' (hA.mono zcu))).mono ?_;rintro e u' hV ⟨rfl,rfl,hO,hP,hQ⟩;exact⟨_,results_none rfl _ _ _,rfl,hO,hP,hQ⟩
  | none =>
    have hl:Hid (zb3 one shut (s2.length+2) ⟨jg s2,b2⟩ a=G):=by
     have:=HE.out;rw[hk.out]at this;simp only[hC]at this;exact this
    have Hsh:=za hC;clear hC
    go_wp2_with fail
    refine(zf9 r s2 b2 (d+1) shut _ hJ Hsh.out).mono ?_;rintro e w3 ⟨rfl,hM,hA⟩;have AF:=zbi s2
    have AA:zsx one I sz r B N d w.heap.size w G shut (s2.length+2) w3 :=
     ⟨⟨jg s2,b2⟩,a,hl.out,hM,ok.keeps _ _ _ hi hA,hn.rd hJ hA,hY.rd hA,hH.trans' (hA.mono zcu),by omega,fun hb=>⟨by simp only;omega,hy hb,by simp only;omega⟩⟩
    clear hJ hi hn hY hH hM hA c0 c1 c2 f1 hT cq AF hl hy;have henters:=ok.enters
    go_wp2_with fail
    go_loopg [] (s2.length+2) (fun k wr=>zsx one I sz r B N d w.heap.size w G shut k wr)
    case atStart=>exact AA
    case round =>
     clear AA;obtain⟨⟨s3,b3⟩,a3,hS,hM,hh,hz,hX,hA,hk1,h0⟩:=hrel;simp only at h0 hM;obtain⟨k',rfl⟩:∃ k',gk=k'+1:=⟨gk - 1,by omega⟩;obtain⟨c0,c1,c2,f1,hT⟩:=hM.cells;have cq:=hX.cell;simp only[zb3]at hS;cases b3 with
     | true =>
       simp only[if_true]at hS;have HS:=za hS;clear hS h0
       go_wp2_with fail
       have hS:=HS.out;subst hS;refine leaves_cons (f:=329) (args:=#[.pointer (some ⟨w.heap.size,0,none⟩)]) (by simp) (by simp[go_sem]) ?_;refine(Door.out _ _ hM hX hh hA).mono ?_;rintro e u' hV ⟨rfl,rfl,hO,hP,hQ⟩;exact⟨_,results_none rfl _ _ _,rfl,hO,hP,hQ⟩
     | false =>
       simp only[Bool.false_eq_true,if_false]at hS;obtain⟨h0,h8,AH⟩:=h0 rfl;have hC:=ok.shrinks ⟨s3,false⟩ a3 rfl;have h7:=ok.does s3 a3 wr hM h8 hh hz (Nat.le_trans hB hA.size) AH;generalize one ⟨s3,false⟩ a3=O at *;obtain⟨⟨s4,b4⟩,a4⟩:=O;simp only at hC h7 hS;have HS:=za hS;have Hdo:=za h7;clear hS h7
       go_wp2_with fail
       refine Hdo.out.mono ?_;rintro e w4 ⟨rfl,hK,h3,hD⟩;have AB:=hz.ml AE hBn hD;have hU:=hX.ml hD;have hj:=hA.trans' hD;clear hM hh hz hX hA c0 c1 c2 f1 hT cq;obtain⟨c0,c1,c2,f1,hT⟩:=hK.cells;have cq:=hU.cell;cases b4 with
       | true =>
         go_wp2_with fail
         have hS:=HS.out;simp only[if_true]at hS;subst hS;refine leaves_cons (f:=329) (args:=#[.pointer (some ⟨w.heap.size,0,none⟩)]) (by simp) (by simp[go_sem]) ?_;refine(Door.out _ _ hK hU h3 hj).mono ?_;rintro e u' hV ⟨rfl,rfl,hO,hP,hQ⟩;exact⟨_,results_none rfl _ _ _,rfl,hO,hP,hQ⟩
       | false =>
         have hS:=HS.out;simp only[Bool.false_eq_true,if_false]at hS;cases ht:zc2 shut s4 with
         | some l5 =>
           simp only[ht]at hS;have hx:=za hS;have H4:=za ht;clear hS HS ht
           go_wp2_with fail
           refine(zd8 r s4 l5 false (d+1) shut _ hK H4.out).mono ?_;rintro e w5 ⟨rfl,hr,hN⟩
           go_wp2_with fail
           have hS:=hx.out;subst hS;refine leaves_cons (f:=329) (args:=#[.pointer (some ⟨w.heap.size,0,none⟩)]) (by simp) (by simp[go_sem]) ?_;refine(Door.out _ _ hr (hU.rd hN) (ok.keeps _ _ _ h3 hN) (hj.trans' (hN.mono zcu))).mono ?_;rintro e u' hV ⟨rfl,rfl,hO,hP,hQ⟩;exact⟨_,results_none rfl _ _ _,rfl,hO,hP,hQ⟩
         | none =>
           simp only[ht]at hS;have H4:=za ht;have hx:=za hS;clear hS HS ht;have hb4:=zbi s4;have hb5:=zbi (jg s4);cases ho:zc2 44 (jg s4) with
           | some l6 =>
             have hS:=hx.out;simp only[ho]at hS;have h9:=za hS;have H5:=za ho;have hel:=zmy ho;clear hS ho hx
             go_wp2_with fail
             refine(zf9 r s4 false (d+1) shut _ hK H4.out).mono ?_;rintro e w5 ⟨rfl,hr,hN⟩;have AJ:=(hU.rd hN).cell
             go_wp2_with fail
             refine(zd8 r (jg s4) l6 false (d+1) 44 _ hr H5.out).mono ?_;rintro e w6 ⟨rfl,h2,hd⟩
             go_wp2_with fail
             go_roundg k'
             case measure=>omega
             case rel=>exact⟨⟨l6,false⟩,a4,h9.out,h2,ok.keeps _ _ _ (ok.keeps _ _ _ h3 hN) hd,(AB.rd hK hN).rd hr hd,(hU.rd hN).rd hd,(hj.trans' (hN.mono zcu)).trans' (hd.mono zcu),by omega,fun _=>⟨by simp only;omega,h8,by simp only;omega⟩⟩
           | none =>
             have hS:=hx.out;simp only[ho]at hS;have h9:=za hS;have H5:=za ho;clear hS ho hx
             go_wp2_with fail
             refine(zf9 r s4 false (d+1) shut _ hK H4.out).mono ?_;rintro e w5 ⟨rfl,hr,hN⟩;have AJ:=(hU.rd hN).cell
             go_wp2_with fail
             refine(zf9 r (jg s4) false (d+1) 44 _ hr H5.out).mono ?_;rintro e w6 ⟨rfl,h2,hd⟩;have cq6:=((hU.rd hN).rd hd).cell
             go_wp2_with fail
             refine(zbd r _ _ (d+1) _ h2).mono ?_;rintro e w7 ⟨rfl,AG,h4⟩
             go_wp2_with fail
             go_roundg k'
             case measure=>omega
             case rel=>exact⟨⟨_,true⟩,a4,h9.out,AG,ok.keeps _ _ _ (ok.keeps _ _ _ (ok.keeps _ _ _ h3 hN) hd) h4,((AB.rd hK hN).rd hr hd).rd h2 h4,((hU.rd hN).rd hd).rd h4,((hj.trans' (hN.mono zcu)).trans' (hd.mono zcu)).trans' (h4.mono zcu),by omega,by simp⟩
 rcases hZ with⟨l,he,h8⟩ | he
 ·have hm:zbp op (d+1) ⟨s,bad⟩=⟨l,true⟩:=by simp only[zbp,he];congr 1;simp;omega
  obtain⟨e1,rfl⟩:l=s2∧b2=true:=by have:=hk.out;rw[hm]at this;simp at this;exact this
  have AI:decide ((8:Int)<d+1)=true:=by simp only[decide_eq_true_eq];omega
  have He:=za he;have E:=za e1;clear hm he e1 h8
  go_enter_defers Tryz.func300,Tryz.ntmps300
  go_wp2_with fail
  refine(zd8 r s l bad (d+1) op _ hf He.out).mono ?_;rintro e w2 ⟨rfl,hJ,hL⟩;have hi:=ok.keeps _ _ _ hv hL;have hn:=hu.rd hf hL;have hY:=hp.rd hL;have hH:=hw.trans' (hL.mono zcu);rw[E.out]at hJ;clear hf hv hu hp hw hL c0 c1 c2 f1 hT cq;obtain⟨c0,c1,c2,f1,hT⟩:=hJ.cells;have cq:=hY.cell
  go_wp2_with fail
  refine(zbd r _ _ (d+1) _ hJ).mono ?_;rintro e w3 ⟨rfl,hM,hA⟩;have hh:=ok.keeps _ _ _ hi hA;have hz:=hn.rd hJ hA;have hX:=hY.rd hA;have hc:=hH.trans' (hA.mono zcu);clear hJ hi hn hY hH hA c0 c1 c2 f1 hT cq;have cq:=hX.cell;cases hC:zc2 shut s2 with
  | some l2 =>
    have hG:G=(⟨l2,true⟩,a):=by have:=HE.out;rw[hk.out]at this;simp only[hC]at this;exact this.symm
    have Hsh:=za hC;have HG:=za hG;clear hC hG
    go_wp2_with fail
    refine(zd8 r s2 l2 true (d+1) shut _ hM Hsh.out).mono ?_;rintro e w4 ⟨rfl,hK,hD⟩
    go_wp2_with fail
    have hG:=HG.out;refine leaves_cons (f:=329) (args:=#[.pointer (some ⟨w.heap.size,0,none⟩)]) (by simp) (by simp[go_sem]) ?_;refine(Door.out _ _ (by rw[hG];exact hK) (hX.rd hD) (by rw[hG];exact ok.keeps _ _ _ hh hD) (hc.trans' (hD.mono zcu))).mono ?_;rintro e u' hV ⟨rfl,rfl,hO,hP,hQ⟩;exact⟨_,results_none rfl _ _ _,rfl,hO,hP,hQ⟩
  | none =>
    have hG:G=(⟨jg s2,true⟩,a):=by have:=HE.out;rw[hk.out]at this;simp only[hC,zb3,if_true]at this;exact this.symm
    have Hsh:=za hC;have HG:=za hG;clear hC hG
    go_wp2_with fail
    refine(zf9 r s2 true (d+1) shut _ hM Hsh.out).mono ?_;rintro e w4 ⟨rfl,hK,hD⟩;have hU:=hX.rd hD;obtain⟨c0,c1,c2,f1,hT⟩:=hK.cells;have AK:=hU.cell
    go_wp2_with fail
    refine wp_loop_rounds 1 ?_;rw[rounds_succ]
    go_wp2_with fail
    have hG:=HG.out;refine leaves_cons (f:=329) (args:=#[.pointer (some ⟨w.heap.size,0,none⟩)]) (by simp) (by simp[go_sem]) ?_;refine(Door.out _ _ (by rw[hG];exact hK) hU (by rw[hG];exact ok.keeps _ _ _ hh hD) (hc.trans' (hD.mono zcu))).mono ?_;rintro e u' hV ⟨rfl,rfl,hO,hP,hQ⟩;exact⟨_,results_none rfl _ _ _,rfl,hO,hP,hQ⟩
 have hm:zbp op (d+1) ⟨s,bad⟩=⟨jg s,true⟩:=by simp only[zbp,he]
 obtain⟨e1,rfl⟩:jg s=s2∧b2=true:=by have:=hk.out;rw[hm]at this;simp at this;exact this
 have He:=za he;have E:=za e1;clear hm he e1
 go_enter_defers Tryz.func300,Tryz.ntmps300
 go_wp2_with fail
 refine(zf9 r s bad (d+1) op _ hf He.out).mono ?_;rintro e w2 ⟨rfl,hJ,hL⟩;have hi:=ok.keeps _ _ _ hv hL;have hn:=hu.rd hf hL;have hY:=hp.rd hL;have hH:=hw.trans' (hL.mono zcu);rw[E.out]at hJ;clear hf hv hu hp hw hL c0 c1 c2 f1 hT cq;obtain⟨c0,c1,c2,f1,hT⟩:=hJ.cells;have cq:=hY.cell
 go_wp2_with fail
 refine(zbd r _ _ (d+1) _ hJ).mono ?_;rintro e w3 ⟨rfl,hM,hA⟩;have hh:=ok.keeps _ _ _ hi hA;have hz:=hn.rd hJ hA;have hX:=hY.rd hA;have hc:=hH.trans' (hA.mono zcu);clear hJ hi hn hY hH hA c0 c1 c2 f1 hT cq;have cq:=hX.cell;cases hC:zc2 shut s2 with
 | some l2 =>
   have hG:G=(⟨l2,true⟩,a):=by have:=HE.out;rw[hk.out]at this;simp only[hC]at this;exact this.symm
   have Hsh:=za hC;have HG:=za hG;clear hC hG
   go_wp2_with fail
   refine(zd8 r s2 l2 true (d+1) shut _ hM Hsh.out).mono ?_;rintro e w4 ⟨rfl,hK,hD⟩
   go_wp2_with fail
   have hG:=HG.out;refine leaves_cons (f:=329) (args:=#[.pointer (some ⟨w.heap.size,0,none⟩)]) (by simp) (by simp[go_sem]) ?_;refine(Door.out _ _ (by rw[hG];exact hK) (hX.rd hD) (by rw[hG];exact ok.keeps _ _ _ hh hD) (hc.trans' (hD.mono zcu))).mono ?_;rintro e u' hV ⟨rfl,rfl,hO,hP,hQ⟩;exact⟨_,results_none rfl _ _ _,rfl,hO,hP,hQ⟩
 | none =>
   have hG:G=(⟨jg s2,true⟩,a):=by have:=HE.out;rw[hk.out]at this;simp only[hC,zb3,if_true]at this;exact this.symm
   have Hsh:=za hC;have HG:=za hG;clear hC hG
   go_wp2_with fail
   refine(zf9 r s2 true (d+1) shut _ hM Hsh.out).mono ?_;rintro e w4 ⟨rfl,hK,hD⟩;have hU:=hX.rd hD;obtain⟨c0,c1,c2,f1,hT⟩:=hK.cells;have AK:=hU.cell
   go_wp2_with fail
   refine wp_loop_rounds 1 ?_;rw[rounds_succ]
   go_wp2_with fail
   have hG:=HG.out;refine leaves_cons (f:=329) (args:=#[.pointer (some ⟨w.heap.size,0,none⟩)]) (by simp) (by simp[go_sem]) ?_;refine(Door.out _ _ (by rw[hG];exact hK) hU (by rw[hG];exact ok.keeps _ _ _ hh hD) (hc.trans' (hD.mono zcu))).mono ?_;rintro e u' hV ⟨rfl,rfl,hO,hP,hQ⟩;exact⟨_,results_none rfl _ _ _,rfl,hO,hP,hQ⟩
end
end Go.Proofs.YtmgfncjfgkllcaaGreatDoor
