/-
 The walks of json's reader,further: what stands between two signs,one behind the other.
-/
import Derived.Test.YtmgfncjfgkllcaaGreatDoorKCellRows
import Derived.Defers
import Derived.Test.YtmgfncjfgkllcaaGreatDoorKStore
open Go.Lib renaming hid→za
open Go.Proofs.Tryz renaming prog→ze
open Option.some renaming inj→zx
namespace Go.Proofs.YtmgfncjfgkllcaaGreatDoor
set_option linter.unusedVariables false
set_option linter.unusedSimpArgs false
set_option linter.unusedSectionVars false
set_option maxRecDepth 100000
set_option maxHeartbeats 4000000
section
open Go.RowKit
attribute [local instance] zch

theorem zcq (s:Bs):(ja s).length≤s.length:=by
 unfold ja Lib.trimLeftS;exact List.Sublist.length_le (List.dropWhile_sublist _)
theorem zpa {c:UInt8}{s l:Bs}(h:zdn c s=some l):l.length+1≤s.length:=by
 unfold zdn at h;have hb:=zcq s;split at h
 ·simp at h
 rename_i x l' hx
 rw[hx]at hb;split at h
 ·simp at h;subst h;simpa using hb
 simp at h
def ML (r B:Nat):Nat→Obj→Prop:=fun k o=>MR r k o∨(B≤k∧¬ zbq 201 o)
def Bx (q r:Nat) (w:World):Prop:=w.heap[q]? = some (.cells #[.pointer (some ⟨r,0,none⟩)] 201 (0,0))
theorem Bx.cell {q r:Nat}{w:World}(h:Bx q r w):w.cell? ⟨q,0,none⟩=some (.pointer (some ⟨r,0,none⟩)):=by unfold Bx at h;simp[World.cell?,h]
theorem Bx.rd {q r:Nat} {w w':World} (h:Bx q r w) (hF:Fr (MR r) w w'):Bx q r w' :=
 hF.block _ _ h (fun hm=>by
  obtain⟨_,c,f,h1⟩:=hm
  simp at h1)
theorem Bx.ml {q r B:Nat} {w w':World} (h:Bx q r w) (hF:Fr (ML r B) w w'):Bx q r w' :=
 hF.block _ _ h (fun hm=>by
  rcases hm with⟨_,c,f,h1⟩ | ⟨_,h1⟩
  ·simp at h1
  exact h1 ⟨_,_,rfl⟩)
theorem Gl.ml {r B:Nat} {w w':World} (h:Gl w) (hr:6≤r) (hB:6≤B) (hF:Fr (ML r B) w w'):Gl w' :=
 h.fr hF (fun k o _ hm=>by
  rcases hm with⟨rfl,_⟩ | ⟨h1,_⟩
  ·exact hr
  exact Nat.le_trans hB h1)
theorem zsu (u:FrameMode)(q r:Nat)(s:Bs)(bad:Bool)(d:Int)(w:World)(hq:Bx q r w)(h:Rd r s bad d w)(h0 : -1000≤d)(h1:d≤1000) :
 CallsD ze 329 #[.pointer (some ⟨q,0,none⟩)] u w fun e u' w'=>u'=u∧e = .returned (.tuple #[])∧Rd r s bad (d - 1) w'∧Fr (MR r) w w':=by
 have cq:=hq.cell;obtain⟨c0,c1,c2,f1,hr1⟩:=h.cells
 go_enter_d Tryz.func329,Tryz.ntmps329
 go_wp2
 go_end0
 exact⟨rfl,h.set2 _,Fr.refl.setCell _ _ h.one⟩
section
variable {α:Type} (g:FuncId) (lb:Array Value) (one:St→α→St × α) (I:α→World→Prop) (sz:α→Nat) (r B N:Nat) (d:Int)
structure OneOk:Prop where
 enters:∀ args w,(callFunc g args).run ze w = .ok (.enter g args) w
 keeps:∀ a w w',I a w→Fr (MR r) w w'→I a w'
 boxes:∀ a w o,I a w→I a (w.alloc o)
 shrinks:∀ (st:St) (a:α),st.bad=false→(one st a).1.s.length≤st.s.length∧sz (one st a).2=sz a+1
 does:∀ (s:Bs) (a:α) (w:World),Rd r s false (d+1) w→d+1≤8→I a w→Gl w→B≤w.heap.size→sz a+s.length≤N →
  Calls ze g lb w fun e w'=>e = .returned (.tuple #[])∧Rd r (one ⟨s,false⟩ a).1.s (one ⟨s,false⟩ a).1.bad (d+1) w'∧I (one ⟨s,false⟩ a).2 w'∧Fr (ML r B) w w'
def zv5 (q:Nat) (w:World) (G:St × α) (shut:UInt8) (k:Nat) (wr:World):Prop :=
 ∃ (st:St) (a:α),zbm one shut k st a=G∧Rd r st.s st.bad (d+1) wr∧I a wr∧Gl wr∧Bx q r wr∧Fr (ML r B) w wr∧1≤k∧(st.bad=false→st.s.length+2≤k∧d+1≤8∧sz a+st.s.length≤N)
variable {g lb one I sz r B N d}
theorem zea:∀ k o,MR r k o→ML r B k o:=fun _ _ h => .inl h
theorem zyw (ok:OneOk g lb one I sz r B N d) (op shut:UInt8) (s:Bs) (bad:Bool) (a:α) (w:World) (h:Rd r s bad d w) (ha:I a w) (hg:Gl w) (hB:B≤w.heap.size) (hBn:6≤B)
 (hd0:0≤d) (hd1:d≤100) (hsz:sz a+s.length≤N) :
 Calls ze 300 #[.pointer (some ⟨r,0,none⟩),.int .u8 op.toNat,.int .u8 shut.toNat,.func (.func g) #[] lb] w fun e w' =>
  e = .returned (.tuple #[])∧Rd r (zae one op shut (d+1) ⟨s,bad⟩ a).1.s (zae one op shut (d+1) ⟨s,bad⟩ a).1.bad d w'∧I (zae one op shut (d+1) ⟨s,bad⟩ a).2 w'∧Fr (ML r B) w w':=by
 obtain⟨c0,c1,c2,f1,hT⟩:=h.cells;have AE:=h.1
 -- what holds when the box is made and the depth raised
 have hW:∀ W,W=(w.setCell ⟨r,2,none⟩ (.int .i64 (d+1))).alloc (.cells #[.pointer (some ⟨r,0,none⟩)] 201) →
  Rd r s bad (d+1) W∧I a W∧Gl W∧Bx w.heap.size r W∧Fr (ML r B) w W:=by
  rintro W rfl;have hF:Fr (MR r) w (w.setCell ⟨r,2,none⟩ (.int .i64 (d+1))):=Fr.refl.setCell _ _ h.one;refine⟨(h.set2 _).alloc _,ok.boxes _ _ _ (ok.keeps _ _ _ ha hF),(hg.rd h hF).alloc _,?_,(hF.alloc _).mono zea⟩;have:=heap_alloc_new (w.setCell ⟨r,2,none⟩ (.int .i64 (d+1))) (.cells #[.pointer (some ⟨r,0,none⟩)] 201);rw[World.size_setCell]at this;exact this
 obtain⟨hf,hv,hu,hp,hw⟩:=hW _ rfl;clear hW;generalize hG:zae one op shut (d+1) ⟨s,bad⟩ a=G;have HG:=za hG;clear hG
 -- the hs: the depth is taken back
 have hs:∀ (u:FrameMode) (w':World),Rd r G.1.s G.1.bad (d+1) w'→Bx w.heap.size r w'→I G.2 w'→Fr (ML r B) w w' →
  CallsD ze 329 #[.pointer (some ⟨w.heap.size,0,none⟩)] u w' fun e u' hV=>u'=u∧e = .returned (.tuple #[])∧Rd r G.1.s G.1.bad d hV∧I G.2 hV∧Fr (ML r B) w hV:=by
  intro u w' hR hq hI hF;refine(zsu u _ r _ _ (d+1) w' hq hR (by omega) (by omega)).mono ?_;rintro e u' hV ⟨rfl,rfl,AC,AD⟩;rw[show d+1 - 1=d by omega]at AC;exact⟨rfl,rfl,AC,ok.keeps _ _ _ hI AD,hF.trans' (AD.mono zea)⟩
 have Door:=za hs;clear hs
 have h5:(zb9 op (d+1) ⟨s,bad⟩).s.length≤s.length∧((zb9 op (d+1) ⟨s,bad⟩).bad=false→d+1≤8):=by
  unfold zb9;cases he:zdn op s with
  | none=>exact⟨zcq s,by simp⟩
  | some l=>exact⟨by have:=zpa he;simp only;omega,by simp⟩
 have hE:=HG.out;unfold zae at hE;have HE:=za hE;clear hE HG
 have hZ:(∃ l,zdn op s=some l∧d+1≤8)∨(∃ l,zdn op s=some l∧8<d+1)∨zdn op s=none:=by
  cases zdn op s with
  | none=>exact .inr (.inr rfl)
  | some l =>
    by_cases h1:d+1≤8
    ·exact .inl ⟨l,rfl,h1⟩
    exact .inr (.inl ⟨l,rfl,by omega⟩)
 have cq:=hp.cell;obtain⟨o2,h6⟩:∃ o2,zb9 op (d+1) ⟨s,bad⟩=o2:=⟨_,rfl⟩;obtain⟨s2,b2⟩:=o2;have hk:=za h6;rw[h6]at h5;clear h6;simp only at h5;obtain⟨hol1,hy⟩:=h5;rcases hZ with⟨l,he,h8⟩ | hZ
 ·have hm : zb9 op (d+1) ⟨s,bad⟩=⟨l,bad⟩:=by simp only[zb9,he];congr 1;simp;omega
  obtain⟨e1,e2⟩:l=s2∧bad=b2:=by have:=hk.out;rw[hm]at this;simpa using this
  have AI:decide ((8:Int)<d+1)=false:=by simp only[decide_eq_false_iff_not];omega
  have He:=za he;have E:=za (And.intro e1 e2);clear hm he e1 e2
  go_enter_defers Tryz.func300,Tryz.ntmps300
  go_wp2_with fail
  refine(zfi r s l bad (d+1) op _ hf He.out).mono ?_;rintro e w2 ⟨rfl,hJ,hL⟩;have hi:=ok.keeps _ _ _ hv hL;have hn:=hu.rd hf hL;have hY:=hp.rd hL;have hH:=hw.trans' (hL.mono zea);rw[E.out.1,E.out.2]at hJ;clear hf hv hu hp hw hL c0 c1 c2 f1 hT cq;obtain⟨c0,c1,c2,f1,hT⟩:=hJ.cells;have cq:=hY.cell;cases hC:zdn shut s2 with
  | some l2 =>
    have hG:G=(⟨l2,b2⟩,a):=by have:=HE.out;rw[hk.out]at this;simp only[hC]at this;exact this.symm
    have Hsh:=za hC;have HG:=za hG;clear hC hG
    go_wp2_with fail
    refine(zfi r s2 l2 b2 (d+1) shut _ hJ Hsh.out).mono ?_;rintro e w3 ⟨rfl,hM,hA⟩
    go_wp2_with fail
    have hG:=HG.out;refine leaves_cons (f:=329) (args:=#[.pointer (some ⟨w.heap.size,0,none⟩)]) (by simp) (by simp[go_sem]) ?_;refine(Door.out _ _ (by rw[hG];exact hM) (hY.rd hA) (by rw[hG];exact ok.keeps _ _ _ hi hA) (hH.trans' (hA.mono zea))).mono ?_;rintro e u' hV ⟨rfl,rfl,hO,hP,hQ⟩;exact⟨_,results_none rfl _ _ _,rfl,hO,hP,hQ⟩
  | none =>
    have hl:Hid (zbm one shut (s2.length+2) ⟨ja s2,b2⟩ a=G):=by
     have:=HE.out;rw[hk.out]at this;simp only[hC]at this;exact this
    have Hsh:=za hC;clear hC
    go_wp2_with fail
    refine(zhz r s2 b2 (d+1) shut _ hJ Hsh.out).mono ?_;rintro e w3 ⟨rfl,hM,hA⟩;have AF:=zcq s2
    have AA:zv5 one I sz r B N d w.heap.size w G shut (s2.length+2) w3 :=
     ⟨⟨ja s2,b2⟩,a,hl.out,hM,ok.keeps _ _ _ hi hA,hn.rd hJ hA,hY.rd hA,hH.trans' (hA.mono zea),by omega,fun hb=>⟨by simp only;omega,hy hb,by simp only;omega⟩⟩
    clear hJ hi hn hY hH hM hA c0 c1 c2 f1 hT cq AF hl hy;have henters:=ok.enters
    go_wp2_with fail
    go_loopg [] (s2.length+2) (fun k wr=>zv5 one I sz r B N d w.heap.size w G shut k wr)
    case atStart=>exact AA
    case round =>
     clear AA;obtain⟨⟨s3,b3⟩,a3,hS,hM,hh,hz,hX,hA,hk1,h0⟩:=hrel;simp only at h0 hM;obtain⟨k',rfl⟩:∃ k',gk=k'+1:=⟨gk - 1,by omega⟩;obtain⟨c0,c1,c2,f1,hT⟩:=hM.cells;have cq:=hX.cell;simp only[zbm]at hS;cases b3 with
     | true =>
       simp only[if_true]at hS;have HS:=za hS;clear hS h0
       go_wp2_with fail
       have hS:=HS.out;subst hS;refine leaves_cons (f:=329) (args:=#[.pointer (some ⟨w.heap.size,0,none⟩)]) (by simp) (by simp[go_sem]) ?_;refine(Door.out _ _ hM hX hh hA).mono ?_;rintro e u' hV ⟨rfl,rfl,hO,hP,hQ⟩;exact⟨_,results_none rfl _ _ _,rfl,hO,hP,hQ⟩
     | false =>
       simp only[Bool.false_eq_true,if_false]at hS;obtain⟨h0,h8,AH⟩:=h0 rfl;have hC:=ok.shrinks ⟨s3,false⟩ a3 rfl;have h7:=ok.does s3 a3 wr hM h8 hh hz (Nat.le_trans hB hA.size) AH;generalize one ⟨s3,false⟩ a3=O at *;obtain⟨⟨s4,b4⟩,a4⟩:=O;simp only at hC h7 hS;have HS:=za hS;have Hdo:=za h7;clear hS h7
       go_wp2_with fail
       refine Hdo.out.mono ?_;rintro e w4 ⟨rfl,hK,h3,hD⟩;have AB:=hz.ml AE hBn hD;have hU:=hX.ml hD;have hj:=hA.trans' hD;clear hM hh hz hX hA c0 c1 c2 f1 hT cq;obtain⟨c0,c1,c2,f1,hT⟩:=hK.cells;have cq:=hU.cell;cases b4 with
       | true =>
         go_wp2_with fail
         have hS:=HS.out;simp only[if_true]at hS;subst hS;refine leaves_cons (f:=329) (args:=#[.pointer (some ⟨w.heap.size,0,none⟩)]) (by simp) (by simp[go_sem]) ?_;refine(Door.out _ _ hK hU h3 hj).mono ?_;rintro e u' hV ⟨rfl,rfl,hO,hP,hQ⟩;exact⟨_,results_none rfl _ _ _,rfl,hO,hP,hQ⟩
       | false =>
         have hS:=HS.out;simp only[Bool.false_eq_true,if_false]at hS;cases ht:zdn shut s4 with
         | some l5 =>
           simp only[ht]at hS;have hx:=za hS;have H4:=za ht;clear hS HS ht
           go_wp2_with fail
           refine(zfi r s4 l5 false (d+1) shut _ hK H4.out).mono ?_;rintro e w5 ⟨rfl,hr,hN⟩
           go_wp2_with fail
           have hS:=hx.out;subst hS;refine leaves_cons (f:=329) (args:=#[.pointer (some ⟨w.heap.size,0,none⟩)]) (by simp) (by simp[go_sem]) ?_;refine(Door.out _ _ hr (hU.rd hN) (ok.keeps _ _ _ h3 hN) (hj.trans' (hN.mono zea))).mono ?_;rintro e u' hV ⟨rfl,rfl,hO,hP,hQ⟩;exact⟨_,results_none rfl _ _ _,rfl,hO,hP,hQ⟩
         | none =>
           simp only[ht]at hS;have H4:=za ht;have hx:=za hS;clear hS HS ht;have hb4:=zcq s4;have hb5:=zcq (ja s4);cases ho:zdn 44 (ja s4) with
           | some l6 =>
             have hS:=hx.out;simp only[ho]at hS;have h9:=za hS;have H5:=za ho;have hel:=zpa ho;clear hS ho hx
             go_wp2_with fail
             refine(zhz r s4 false (d+1) shut _ hK H4.out).mono ?_;rintro e w5 ⟨rfl,hr,hN⟩;have AJ:=(hU.rd hN).cell
             go_wp2_with fail
             refine(zfi r (ja s4) l6 false (d+1) 44 _ hr H5.out).mono ?_;rintro e w6 ⟨rfl,h2,hd⟩
             go_wp2_with fail
             go_roundg k'
             case measure=>omega
             case rel=>exact⟨⟨l6,false⟩,a4,h9.out,h2,ok.keeps _ _ _ (ok.keeps _ _ _ h3 hN) hd,(AB.rd hK hN).rd hr hd,(hU.rd hN).rd hd,(hj.trans' (hN.mono zea)).trans' (hd.mono zea),by omega,fun _=>⟨by simp only;omega,h8,by simp only;omega⟩⟩
           | none =>
             have hS:=hx.out;simp only[ho]at hS;have h9:=za hS;have H5:=za ho;clear hS ho hx
             go_wp2_with fail
             refine(zhz r s4 false (d+1) shut _ hK H4.out).mono ?_;rintro e w5 ⟨rfl,hr,hN⟩;have AJ:=(hU.rd hN).cell
             go_wp2_with fail
             refine(zhz r (ja s4) false (d+1) 44 _ hr H5.out).mono ?_;rintro e w6 ⟨rfl,h2,hd⟩;have cq6:=((hU.rd hN).rd hd).cell
             go_wp2_with fail
             refine(zcl r _ _ (d+1) _ h2).mono ?_;rintro e w7 ⟨rfl,AG,h4⟩
             go_wp2_with fail
             go_roundg k'
             case measure=>omega
             case rel=>exact⟨⟨_,true⟩,a4,h9.out,AG,ok.keeps _ _ _ (ok.keeps _ _ _ (ok.keeps _ _ _ h3 hN) hd) h4,((AB.rd hK hN).rd hr hd).rd h2 h4,((hU.rd hN).rd hd).rd h4,((hj.trans' (hN.mono zea)).trans' (hd.mono zea)).trans' (h4.mono zea),by omega,by simp⟩
 rcases hZ with⟨l,he,h8⟩ | he
 ·have hm:zb9 op (d+1) ⟨s,bad⟩=⟨l,true⟩:=by simp only[zb9,he];congr 1;simp;omega
  obtain⟨e1,rfl⟩:l=s2∧b2=true:=by have:=hk.out;rw[hm]at this;simp at this;exact this
  have AI:decide ((8:Int)<d+1)=true:=by simp only[decide_eq_true_eq];omega
  have He:=za he;have E:=za e1;clear hm he e1 h8
  go_enter_defers Tryz.func300,Tryz.ntmps300
  go_wp2_with fail
  refine(zfi r s l bad (d+1) op _ hf He.out).mono ?_;rintro e w2 ⟨rfl,hJ,hL⟩;have hi:=ok.keeps _ _ _ hv hL;have hn:=hu.rd hf hL;have hY:=hp.rd hL;have hH:=hw.trans' (hL.mono zea);rw[E.out]at hJ;clear hf hv hu hp hw hL c0 c1 c2 f1 hT cq;obtain⟨c0,c1,c2,f1,hT⟩:=hJ.cells;have cq:=hY.cell
  go_wp2_with fail
  refine(zcl r _ _ (d+1) _ hJ).mono ?_;rintro e w3 ⟨rfl,hM,hA⟩;have hh:=ok.keeps _ _ _ hi hA;have hz:=hn.rd hJ hA;have hX:=hY.rd hA;have hc:=hH.trans' (hA.mono zea);clear hJ hi hn hY hH hA c0 c1 c2 f1 hT cq;have cq:=hX.cell;cases hC:zdn shut s2 with
  | some l2 =>
    have hG:G=(⟨l2,true⟩,a):=by have:=HE.out;rw[hk.out]at this;simp only[hC]at this;exact this.symm
    have Hsh:=za hC;have HG:=za hG;clear hC hG
    go_wp2_with fail
    refine(zfi r s2 l2 true (d+1) shut _ hM Hsh.out).mono ?_;rintro e w4 ⟨rfl,hK,hD⟩
    go_wp2_with fail
    have hG:=HG.out;refine leaves_cons (f:=329) (args:=#[.pointer (some ⟨w.heap.size,0,none⟩)]) (by simp) (by simp[go_sem]) ?_;refine(Door.out _ _ (by rw[hG];exact hK) (hX.rd hD) (by rw[hG];exact ok.keeps _ _ _ hh hD) (hc.trans' (hD.mono zea))).mono ?_;rintro e u' hV ⟨rfl,rfl,hO,hP,hQ⟩;exact⟨_,results_none rfl _ _ _,rfl,hO,hP,hQ⟩
  | none =>
    have hG:G=(⟨ja s2,true⟩,a):=by have:=HE.out;rw[hk.out]at this;simp only[hC,zbm,if_true]at this;exact this.symm
    have Hsh:=za hC;have HG:=za hG;clear hC hG
    go_wp2_with fail
    refine(zhz r s2 true (d+1) shut _ hM Hsh.out).mono ?_;rintro e w4 ⟨rfl,hK,hD⟩;have hU:=hX.rd hD;obtain⟨c0,c1,c2,f1,hT⟩:=hK.cells;have AK:=hU.cell
    go_wp2_with fail
    refine wp_loop_rounds 1 ?_;rw[rounds_succ]
    go_wp2_with fail
    have hG:=HG.out;refine leaves_cons (f:=329) (args:=#[.pointer (some ⟨w.heap.size,0,none⟩)]) (by simp) (by simp[go_sem]) ?_;refine(Door.out _ _ (by rw[hG];exact hK) hU (by rw[hG];exact ok.keeps _ _ _ hh hD) (hc.trans' (hD.mono zea))).mono ?_;rintro e u' hV ⟨rfl,rfl,hO,hP,hQ⟩;exact⟨_,results_none rfl _ _ _,rfl,hO,hP,hQ⟩
 have hm:zb9 op (d+1) ⟨s,bad⟩=⟨ja s,true⟩:=by simp only[zb9,he]
 obtain⟨e1,rfl⟩:ja s=s2∧b2=true:=by have:=hk.out;rw[hm]at this;simp at this;exact this
 have He:=za he;have E:=za e1;clear hm he e1
 go_enter_defers Tryz.func300,Tryz.ntmps300
 go_wp2_with fail
 refine(zhz r s bad (d+1) op _ hf He.out).mono ?_;rintro e w2 ⟨rfl,hJ,hL⟩;have hi:=ok.keeps _ _ _ hv hL;have hn:=hu.rd hf hL;have hY:=hp.rd hL;have hH:=hw.trans' (hL.mono zea);rw[E.out]at hJ;clear hf hv hu hp hw hL c0 c1 c2 f1 hT cq;obtain⟨c0,c1,c2,f1,hT⟩:=hJ.cells;have cq:=hY.cell
 go_wp2_with fail
 refine(zcl r _ _ (d+1) _ hJ).mono ?_;rintro e w3 ⟨rfl,hM,hA⟩;have hh:=ok.keeps _ _ _ hi hA;have hz:=hn.rd hJ hA;have hX:=hY.rd hA;have hc:=hH.trans' (hA.mono zea);clear hJ hi hn hY hH hA c0 c1 c2 f1 hT cq;have cq:=hX.cell;cases hC:zdn shut s2 with
 | some l2 =>
   have hG:G=(⟨l2,true⟩,a):=by have:=HE.out;rw[hk.out]at this;simp only[hC]at this;exact this.symm
   have Hsh:=za hC;have HG:=za hG;clear hC hG
   go_wp2_with fail
   refine(zfi r s2 l2 true (d+1) shut _ hM Hsh.out).mono ?_;rintro e w4 ⟨rfl,hK,hD⟩
   go_wp2_with fail
   have hG:=HG.out;refine leaves_cons (f:=329) (args:=#[.pointer (some ⟨w.heap.size,0,none⟩)]) (by simp) (by simp[go_sem]) ?_;refine(Door.out _ _ (by rw[hG];exact hK) (hX.rd hD) (by rw[hG];exact ok.keeps _ _ _ hh hD) (hc.trans' (hD.mono zea))).mono ?_;rintro e u' hV ⟨rfl,rfl,hO,hP,hQ⟩;exact⟨_,results_none rfl _ _ _,rfl,hO,hP,hQ⟩
 | none =>
   have hG:G=(⟨ja s2,true⟩,a):=by have:=HE.out;rw[hk.out]at this;simp only[hC,zbm,if_true]at this;exact this.symm
   have Hsh:=za hC;have HG:=za hG;clear hC hG
   go_wp2_with fail
   refine(zhz r s2 true (d+1) shut _ hM Hsh.out).mono ?_;rintro e w4 ⟨rfl,hK,hD⟩;have hU:=hX.rd hD;obtain⟨c0,c1,c2,f1,hT⟩:=hK.cells;have AK:=hU.cell
   go_wp2_with fail
   refine wp_loop_rounds 1 ?_;rw[rounds_succ]
   go_wp2_with fail
   have hG:=HG.out;refine leaves_cons (f:=329) (args:=#[.pointer (some ⟨w.heap.size,0,none⟩)]) (by simp) (by simp[go_sem]) ?_;refine(Door.out _ _ (by rw[hG];exact hK) hU (by rw[hG];exact ok.keeps _ _ _ hh hD) (hc.trans' (hD.mono zea))).mono ?_;rintro e u' hV ⟨rfl,rfl,hO,hP,hQ⟩;exact⟨_,results_none rfl _ _ _,rfl,hO,hP,hQ⟩
end
end
section
open Go.RowKit
attribute [local instance] zch

theorem zfw:(Tryz.prog.info? 56).map (fun i=>(i.zero,i.size,i.bytes))=some (some (.agg #[.int .i64 0,.int .i64 0,.string ⟨#[]⟩,.slice none 0 0,.slice none 0 0]),5,80):=by kernel_rfl
def znp (f:Nat):Prop:=∀ (d:Int) (r:Nat) (s:Bs) (bad:Bool) (w:World),Rd r s bad d w→Gl w→s.length≤67108864→0≤d→d≤8→d+f=10 →
 Calls ze 130 #[.pointer (some ⟨r,0,none⟩)] w fun e w'=>∃ v,e = .returned v∧RJ (fun k=>w.heap.size≤k) w' (jg f d ⟨s,bad⟩).1 v∧Rd r (jg f d ⟨s,bad⟩).2.s (jg f d ⟨s,bad⟩).2.bad d w'∧Fr (MR r) w w'
def ListInv (r q bv:Nat) (l:List J) (w:World):Prop :=
 Bx q r w∧q<bv∧∃ lv xs,w.heap[bv]? = some (.cells #[.int .i64 4,.int .i64 0,.string ⟨#[]⟩,lv,.slice none 0 0] 56 (0,0)) ∧
  w.ownsRow (bv+1) 56 5 lv l.length xs∧RC (fun k=>bv<k∧lv.ownBlock≠some k) w l xs
theorem ListInv.fr {M:Nat→Obj→Prop}{r q bv:Nat}{l:List J}{w w':World}(h:ListInv r q bv l w)(hF:Fr M w w')
 (hM:∀ k o,q≤k→(zbq 201 o∨zbq 56 o∨zbq 133 o)→¬ M k o):ListInv r q bv l w':=by
 obtain⟨hq,hB,lv,xs,hb,hA,hC⟩:=h;refine⟨hF.block _ _ hq (hM _ _ (Nat.le_refl _) (.inl ⟨_,_,rfl⟩)),hB,lv,xs,hF.block _ _ hb (hM _ _ (Nat.le_of_lt hB) (.inr (.inl ⟨_,_,rfl⟩))),?_,?_⟩
 ·exact za9 hA hF (fun k o _ hk ht=>hM k o (by omega) (.inr (.inl ht)))
 exact RC.kp (Kp.fr hF (fun b hb _=>hb) (fun b o hs _ ht=>hM b o (by omega) (.inr (zod ht)))) l xs hC
theorem zv3 {r k:Nat}{o:Obj}(h:zbq 201 o∨zbq 56 o∨zbq 133 o):¬ MR r k o:=by
 rintro⟨_,c,f,rfl⟩;rcases h with⟨_,_,h⟩ | ⟨_,_,h⟩ | ⟨_,_,h⟩<;>simp at h
theorem zqf {r q bv B g cap:Nat} {l:List J} {j:J} {d:Int} {s:Bs} {bad:Bool} {w w1 w2 w3:World} {X Z:Obj} {lv v0 v1 v2 v3 v4:Value} {xs:List Value}
 (hqB:B≤bv) (hR:Rd r s bad d w1) (hF:Fr (MR r) w w1) (hbw:bv<w.heap.size) (hq:Bx q r w1) (hqb:q<bv)
 (hown:w1.ownsRow (bv+1) 56 5 lv l.length xs) (hrc:RC (fun k=>bv<k∧lv.ownBlock≠some k) w1 l xs)
 (hb:w1.heap[bv]? = some (.cells #[.int .i64 4,.int .i64 0,.string ⟨#[]⟩,lv,.slice none 0 0] 56 (0,0)))
 (hlw:∀ k,lv.ownBlock=some k→k<w.heap.size)
 (hj:RJ (fun k=>w.heap.size≤k) w1 j (.agg #[v0,v1,v2,v3,v4]))
 (hgr:((w1.alloc X).alloc Z).drew.grownBy w2 lv.ownBlock) (hg2:lv.ownBlock=some g∨w1.heap.size+2≤g)
 (hown3:w3.ownsRow (bv+1) 56 5 (.slice (some ⟨g,0,none⟩) (l.length+1) cap) (l.length+1) (xs++[v0,v1,v2,v3,v4]))
 (hb3:w3.heap[bv]? = some (.cells #[.int .i64 4,.int .i64 0,.string ⟨#[]⟩,.slice (some ⟨g,0,none⟩) (l.length+1) cap,.slice none 0 0] 56 (0,0)))
 (h3:But2 g bv w2 w3):Rd r s bad d w3∧ListInv r q bv (l++[j]) w3∧Fr (ML r B) w w3:=by
 have hB:Fr (fun k _=>lv.ownBlock=some k∨k=g∨k=bv) w1 w3 :=
  ((zmr hgr).mono (fun _ _ h => .inl h)).trans h3.fr (fun _ _ h => .inl (.inr h))
 have hC:=zam hown
 have hI:∀ o,w1.heap[g]? = some o→zbq 56 o∧bv<g:=by
  intro o ho;rcases hg2 with hg | hg
  ·obtain⟨h1,o',h2,h3⟩:=hC g hg;rw[ho]at h2;exact⟨(zx h2)▸h3,h1⟩
  have:=jb ho;omega
 have hJ:∀ k,zbq 56 k→¬ zbq 203 k:=by
  rintro k ⟨_,_,rfl⟩ ⟨_,_,h⟩;simp at h
 have hH:∀ k,zbq 56 k→¬ zbq 201 k:=by
  rintro k ⟨_,_,rfl⟩ ⟨_,_,h⟩;simp at h
 have hA:∀ k,(lv.ownBlock=some k∨k=g∨k=bv)→∀ o,w1.heap[k]? = some o→zbq 56 o∧B≤k:=by
  rintro k hk o ho;rcases hk with hk | rfl | rfl
  ·obtain⟨h1,o',h2,h3⟩:=hC k hk;rw[ho]at h2;exact⟨(zx h2)▸h3,by omega⟩
  ·exact⟨(hI o ho).1,by have:=(hI o ho).2;omega⟩
  rw[hb]at ho;exact⟨⟨_,_,(zx ho).symm⟩,by omega⟩
 refine⟨⟨hR.1,hB.block _ _ hR.2 (fun hm=>hJ _ (hA _ hm _ hR.2).1 ⟨_,_,rfl⟩)⟩,⟨hB.block _ _ hq (fun hm=>hH _ (hA _ hm _ hq).1 ⟨_,_,rfl⟩),hqb,_,_,hb3,by simpa using hown3,?_⟩,?_⟩
 ·have hE:(Value.slice (some ⟨g,0,none⟩) (l.length+1) cap).ownBlock=some g:=rfl;rw[hE];refine RC.append l xs [j] _ (RC.kp ?_ l xs hrc) (RC.one (RJ.kp ?_ j _ hj))
  ·intro b o hs ho _
   have hD:b≠g:=by
    rintro rfl;rcases hg2 with hg | hg
    ·exact hs.2 hg
    have:=jb ho;omega
   exact ⟨⟨hs.1,fun e=>hD (by simpa using e.symm)⟩,hB.block b o ho (fun hm=>by
    rcases hm with hm | hm | hm
    ·exact hs.2 hm
    ·exact hD hm
    omega)⟩
  intro b o hs ho _
  have hD:b≠g:=by
   rintro rfl;rcases hg2 with hg | hg
   ·have:=hlw _ hg;omega
   have:=jb ho;omega
  exact ⟨⟨by omega,fun e=>hD (by simpa using e.symm)⟩,hB.block b o ho (fun hm=>by
   rcases hm with hm | hm | hm
   ·have:=hlw _ hm;omega
   ·exact hD hm
   omega)⟩
 refine⟨hB.os.trans hF.os,hB.tape.trans hF.tape,hB.output.trans hF.output,Nat.le_trans hF.size hB.size,fun k o hk hn=>?_⟩;have hG:=hF.block k o hk (fun hm=>hn (.inl hm));exact hB.block k o hG (fun hm=>hn (.inr ⟨(hA k hm o hG).2,hH _ (hA k hm o hG).1⟩))
theorem zut {r q bv B g cap:Nat} {l:List J} {j:J} {d:Int} {s:Bs} {bad:Bool} {w w1 w2:World} {X Z:Obj} {lv v0 v1 v2 v3 v4 z0 z1 z2 z3 z4:Value} {xs:List Value}
 (hqB:B≤bv) (hR:Rd r s bad d w1) (hF:Fr (MR r) w w1) (hbw:bv<w.heap.size) (hq:Bx q r w1) (hqb:q<bv)
 (hown:w1.ownsRow (bv+1) 56 5 lv l.length xs) (hrc:RC (fun k=>bv<k∧lv.ownBlock≠some k) w1 l xs)
 (hb:w1.heap[bv]? = some (.cells #[.int .i64 4,.int .i64 0,.string ⟨#[]⟩,lv,.slice none 0 0] 56 (0,0)))
 (hlw:∀ k,lv.ownBlock=some k→k<w.heap.size)
 (hj:RJ (fun k=>w.heap.size≤k) w1 j (.agg #[v0,v1,v2,v3,v4]))
 (hgr:((w1.alloc X).alloc Z).drew.grownBy w2 lv.ownBlock) (hg2:lv.ownBlock=some g∨w1.heap.size+2≤g) (hgb:¬ g=bv)
 (hown2:w2.ownsRow (bv+1) 56 5 (.slice (some ⟨g,0,none⟩) (l.length+1) cap) (l.length+1) (xs++[z0,z1,z2,z3,z4]))
 (hb2:w2.heap[bv]? = some (.cells #[.int .i64 4,.int .i64 0,.string ⟨#[]⟩,lv,.slice none 0 0] 56 (0,0))) (w3:World)
 (h3:w3=(put5 g (l.length * 5) v0 v1 v2 v3 v4 w2).setCell ⟨bv,3,none⟩ (.slice (some ⟨g,0,none⟩) (l.length+1) cap) ∨
   w3=put5 g (l.length * 5) v0 v1 v2 v3 v4 (w2.setCell ⟨bv,3,none⟩ (.slice (some ⟨g,0,none⟩) (l.length+1) cap))) :
 Rd r s bad d w3∧ListInv r q bv (l++[j]) w3∧Fr (ML r B) w w3:=by
 have hB:xs.length=l.length * 5:=by have:=RC.length l xs hrc;omega
 have hA:bv≠g:=fun e=>hgb e.symm
 have hown2':=hown2;rcases h3 with rfl | rfl
 ·refine zqf hqB hR hF hbw hq hqb hown hrc hb hlw hj hgr hg2 (zcf (zqc hown2 hB v0 v1 v2 v3 v4) (fun k hk=>?_)) ?_ (But2.put5 _ _ _ _ _ _ _ _ _ _ _)
  ·have:k=g:=by simpa[Value.ownBlock] using hk.symm
   subst this;exact Below.heap_setCell _ _ _ _ hgb
  exact z7 (o:=3) _ ((zec hA).trans hb2)
 refine zqf hqB hR hF hbw hq hqb hown hrc hb hlw hj hgr hg2 (zqc (zcf hown2 (fun k hk=>?_)) hB v0 v1 v2 v3 v4) ?_ (But2.put5' _ _ _ _ _ _ _ _ _ _ _)
 ·have:k=g:=by simpa[Value.ownBlock] using hk.symm
  subst this;exact Below.heap_setCell _ _ _ _ hgb
 exact(zec hA).trans (z7 (o:=3) _ hb2)
theorem zz3 (f:Nat) (hv:znp f) (d:Int) (hd0:0≤d) (hd1:d≤8) (hdf:d+f=10) (r q bv B N:Nat) (hqB:B≤bv) (hN:N≤67108864) (s:Bs) (l:List J) (w:World)
 (h:Rd r s false d w) (hI:ListInv r q bv l w) (hg:Gl w) (hB:B≤w.heap.size) (hsz:l.length+s.length≤N) :
 Calls ze 301 #[.pointer (some ⟨q,0,none⟩),.pointer (some ⟨bv,0,none⟩)] w fun e w'=>e = .returned (.tuple #[]) ∧
  Rd r (zbn (jg f d) ⟨s,false⟩ l).1.s (zbn (jg f d) ⟨s,false⟩ l).1.bad d w'∧ListInv r q bv (zbn (jg f d) ⟨s,false⟩ l).2 w'∧Fr (ML r B) w w':=by
 have hE:=hv d r s false w h hg (by omega) hd0 hd1 hdf;obtain⟨hn,hC⟩:bv<w.heap.size∧True:=⟨by obtain⟨_,_,lv,xs,hb,_⟩:=hI;exact jb hb,trivial⟩;clear hC;simp only[zbn];generalize jg f d ⟨s,false⟩=V at *;obtain⟨j,st⟩:=V;simp only at hE ⊢;have Hval:=za hE;have cq:=hI.1.cell;obtain⟨i0,hi,hf,he,hd⟩:=info_parts zfw;have hlen:l.length≤67108864:=by omega
 clear hE hv;go_enter Tryz.func301,Tryz.ntmps301
 go_wp2_with fail
 refine Hval.out.mono ?_;rintro e w1 ⟨v,rfl,hj,hp,hS⟩;have hq:ListInv r q bv l w1:=hI.fr hS (fun _ _ _ ht=>zv3 ht)
 have hT:∃ lv,w.heap[bv]? = some (.cells #[.int .i64 4,.int .i64 0,.string ⟨#[]⟩,lv,.slice none 0 0] 56 (0,0))∧(∀ k,lv.ownBlock=some k→k<w.heap.size):=by
  obtain⟨_,_,lv,xs,hb,hA,_⟩:=hI;exact⟨lv,hb,fun k hk=>(hA.lt k hk).2⟩
 obtain⟨lw,hP,hC⟩:=hT;have hG:=hS.block _ _ hP (fun hm=>zv3 (.inr (.inl ⟨_,_,rfl⟩)) hm);have hsz1:w.heap.size≤w1.heap.size:=hS.size;obtain⟨jk,jn,jt,jl,jp⟩:=j;have ha:=hj;unfold RJ at ha;obtain⟨a1,c1,a2,c2,rfl,_,_⟩:=ha;obtain⟨hZ,hh,lv,xs,hb,hA,hR⟩:=hq;obtain⟨a0,c0,hJ⟩:=qj hA;have ho:bv<w1.heap.size:=jb hb;obtain rfl:lw=lv:=by rw[hb]at hG;simpa using hG.symm
 have hW:=za hC;have Hlw:Hid (∀ k,(Value.slice a0 l.length c0).ownBlock=some k→k<w.heap.size):=by rw[← hJ];exact hW
 clear hC hG hP;have v3:w1.cell? ⟨bv,3,none⟩=some (.slice a0 l.length c0):=by simp[World.cell?,hb,hJ]
 have f3:w1.frozen? ⟨bv,3,none⟩=false:=by simp[World.frozen?,hb]
 have cq1:=hZ.cell;have hnn:(l.length:Int)<l.length+1:=by omega
 -- what the row was: it lies behind bv
 have hL:∀ g,(Value.slice a0 l.length c0).ownBlock=some g∨w1.heap.size+2≤g→¬ g=bv∧¬ bv=g:=by
  intro g hg;rw[← hJ]at hg;rcases hg with hg | hg
  ·have:=(zam hA g hg).1;omega
  omega
 have hY:=RC.length l xs hR;rw[hJ]at hA hR;have Hown:=za hA;have Hrow:=za hL;have Hrc:=za hR;have Hb:=za hb;have Hxl:=za hY;have Hj:=za hj;have Hlv:=za hJ;clear hA hL hR hb hY hj hJ
 go_wp2_with fail
 have hO:(l.length+1) * 80≤140737488355328:=by omega
 have hM:l.length+1≤maxLen:=by unfold maxLen;omega
 go_region_law (refine zbe rfl (.tmp 6) (.tmp 9) 53 rfl (bv+1) 56 i0 (.agg #[.int .i64 0,.int .i64 0,.string ⟨#[]⟩,.slice none 0 0,.slice none 0 0]) 5 80 Tryz.underlying53 hi hf he hd rfl (by decide) (.slice a0 l.length c0) l.length xs rfl (by exact(Hown.out.alloc _).alloc _) ⟨w1.heap.size+1,0,none⟩ 1 [.int .i64 0,.int .i64 0,.string ⟨#[]⟩,.slice none 0 0,.slice none 0 0] rfl rfl (by exact zck (w1.alloc _) _ _ _ (by simp)) (by simp[Value.oneCell']) hM hO (by simp;omega) ?_;intro g cap w2 hD hF hV hK hf2;have hQ:=za hD;clear hD;have k0:=hK 0 _ rfl;have k1:=hK 1 _ rfl;have k2:=hK 2 _ rfl;have k3:=hK 3 _ rfl;have k4:=hK 4 _ rfl;rw[Nat.add_zero]at k0;clear hK;obtain⟨hl,hg4⟩:=Hrow.out g (by simpa using hV);have hH:=(zf5 hF ho (fun e=>(Hrow.out bv (.inl e)).1 rfl)).trans Hb.out;have b1:w2.cell? ⟨bv,3,none⟩=some (.slice a0 l.length c0):=(by simp[World.cell?,hH,Hlv.out]);have b2:w2.frozen? ⟨bv,3,none⟩=false:=(by simp[World.frozen?,hH]);have hr:=za hV;have hs:=za hH;have hX:=za hF;clear hV hH hF)
 all_goals
  go_wp2_with fail
  go_end0
  refine⟨rfl,?_⟩;have hc:=Hb.out;have hH:=hs.out;rw[Hlv.out]at hc hH;have hU:(Value.slice a0 l.length c0).ownBlock=some g∨w1.heap.size+2≤g:=by have:=hr.out;simp only[World.size_drew,World.size_alloc]at this;exact this
  refine zut hqB hp hS hn hZ hh Hown.out Hrc.out hc Hlw.out Hj.out hX.out hU hl hQ.out hH _ ?_;simp only[put5,true_or,or_true]
end
end Go.Proofs.YtmgfncjfgkllcaaGreatDoor
