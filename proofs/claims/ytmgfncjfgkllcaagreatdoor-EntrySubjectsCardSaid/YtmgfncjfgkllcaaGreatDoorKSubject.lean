/-
 The walk of entry.subject.
-/
import Derived.Test.YtmgfncjfgkllcaaGreatDoorKFields
import Derived.Great.Walk
open Go.Lib renaming hid→za
open Go.World renaming size_alloc→zf
open Go renaming heap_alloc_new→zh,yieldsIf_load_mid→zj
open List renaming size_toArray→zn
open Or renaming inl→zv
open Go.Value renaming int→zy
open Go.IntKind renaming u8→z6
namespace Go.Proofs.YtmgfncjfgkllcaaGreatDoor
set_option linter.unusedVariables false
set_option linter.unusedSimpArgs false
set_option linter.unusedSectionVars false
set_option maxRecDepth 100000
set_option maxHeartbeats 4000000
open Go.RowKit
variable [OldK]
theorem zyn (l:Bs)(h:l.length=32):∃ x0 x1 x2 x3 x4 x5 x6 x7 x8 x9 x10 x11 x12 x13 x14 x15 x16 x17 x18 x19 x20 x21 x22 x23 x24 x25 x26 x27 x28 x29 x30 x31:UInt8,l=[x0,x1,x2,x3,x4,x5,x6,x7,x8,x9,x10,x11,x12,x13,x14,x15,x16,x17,x18,x19,x20,x21,x22,x23,x24,x25,x26,x27,x28,x29,x30,x31]:=by
 match l,h with
 | [x0,x1,x2,x3,x4,x5,x6,x7,x8,x9,x10,x11,x12,x13,x14,x15,x16,x17,x18,x19,x20,x21,x22,x23,x24,x25,x26,x27,x28,x29,x30,x31],_=>exact⟨x0,x1,x2,x3,x4,x5,x6,x7,x8,x9,x10,x11,x12,x13,x14,x15,x16,x17,x18,x19,x20,x21,x22,x23,x24,x25,x26,x27,x28,x29,x30,x31,rfl⟩
def jo (nm D:Bs):List Value := .string ⟨nm.toArray⟩ :: Lib.byteCells D
theorem znk (nm D:Bs)(h:D.length=32):Tryz.prog.built 51 [(0,.string ⟨nm.toArray⟩),(1,.agg (Lib.byteCells D).toArray)]=some (jo nm D).toArray:=by
 obtain⟨x0,x1,x2,x3,x4,x5,x6,x7,x8,x9,x10,x11,x12,x13,x14,x15,x16,x17,x18,x19,x20,x21,x22,x23,x24,x25,x26,x27,x28,x29,x30,x31,rfl⟩:=zyn D h
 kernel_rfl
theorem zfv (nm D:Bs)(h:D.length=32):Tryz.prog.builtSlice 51 1 [(0,.agg (jo nm D).toArray)]=some (jo nm D).toArray:=by
 obtain⟨x0,x1,x2,x3,x4,x5,x6,x7,x8,x9,x10,x11,x12,x13,x14,x15,x16,x17,x18,x19,x20,x21,x22,x23,x24,x25,x26,x27,x28,x29,x30,x31,rfl⟩:=zyn D h
 kernel_rfl
theorem zav:(Tryz.prog.info? 51).map (·.size)=some 33:=by kernel_rfl
theorem zdl:∃ d,Tryz.prog.underlying 51=some d∧d.isRow=true:=⟨_,Tryz.underlying51,rfl⟩
theorem za2 {nm D:Bs}(h:D.length=32):(jo nm D).length=33:=by simp[jo,je,h]
theorem zds (nm D:Bs):(jo nm D).toArray.all (·.oneCell')=true:=by
 refine all_oneCell_toArray (fun v hv=>?_);unfold jo at hv;rcases List.mem_cons.1 hv with rfl | hv
 ·rfl
 exact zau _ _ hv
theorem zqr (f:Fd)(nm:Bs):(zg5 f nm).1.length=32:=by
 unfold zg5;cases hR:zii (ju f nm).1 with
 | none=>rfl
 | some r=>exact((zc4 _ r).1 hR).2
theorem FB.other {S:Nat→Prop}{b b':Nat}{f:Fd}{w w':World}(h:FB S b f w)(hF:Fr (MFd b') w w')(hk:OldK.k≤b')(hne:b≠b'):FB S b f w':=by
 obtain⟨hb,a1,n1,a2,n2,h1,h2⟩:=h;exact⟨hb,a1,n1,a2,n2,hF.block _ _ h1 (fun h=>hne h.1),h2.fd hk hF⟩
theorem zi1 (S:Nat→Prop) (j:J) (v:Value) (w:World) (h:RJ S w j v) (hfit:Fits j) (hk:OldK.k≤w.heap.size) :
 Calls Tryz.prog 67 #[v] w fun e w'=>e = .returned (.tuple #[.agg (jo (jq j).1 (jq j).2.1).toArray,.bool (jq j).2.2])∧Fr NoB w w':=by
 have hj:=h;obtain⟨kk,n,t,l,q⟩:=j;unfold RJ at h;obtain⟨b1,d1,b2,d2,rfl,-,-⟩:=h;have Aa:=zh w (.cells #[.int .i64 kk,.int .i64 n,.string ⟨t.toArray⟩,.slice b1 l.length d1,.slice b2 q.length d2] 56);obtain⟨w1,AB⟩:∃ w1,w.alloc (.cells #[.int .i64 kk,.int .i64 n,.string ⟨t.toArray⟩,.slice b1 l.length d1,.slice b2 q.length d2] 56)=w1:=⟨_,rfl⟩;have A4:w1.heap.size=w.heap.size+1:=by rw[← AB,zf]
 have Au:Fr NoB w w1:=by rw[← AB];exact Fr.refl.alloc _
 rw[AB]at Aa;have AZ:=zh w1 (.cells #[.string ⟨#[]⟩,zy z6 0,zy z6 0,zy z6 0,zy z6 0,zy z6 0,zy z6 0,zy z6 0,zy z6 0,zy z6 0,zy z6 0,zy z6 0,zy z6 0,zy z6 0,zy z6 0,zy z6 0,zy z6 0,zy z6 0,zy z6 0,zy z6 0,zy z6 0,zy z6 0,zy z6 0,zy z6 0,zy z6 0,zy z6 0,zy z6 0,zy z6 0,zy z6 0,zy z6 0,zy z6 0,zy z6 0,zy z6 0] 51);obtain⟨w2,AA⟩:∃ w2,w1.alloc (.cells #[.string ⟨#[]⟩,zy z6 0,zy z6 0,zy z6 0,zy z6 0,zy z6 0,zy z6 0,zy z6 0,zy z6 0,zy z6 0,zy z6 0,zy z6 0,zy z6 0,zy z6 0,zy z6 0,zy z6 0,zy z6 0,zy z6 0,zy z6 0,zy z6 0,zy z6 0,zy z6 0,zy z6 0,zy z6 0,zy z6 0,zy z6 0,zy z6 0,zy z6 0,zy z6 0,zy z6 0,zy z6 0,zy z6 0,zy z6 0] 51)=w2:=⟨_,rfl⟩;have A3:w2.heap.size=w1.heap.size+1:=by rw[← AA,zf]
 have AV:Fr NoB w1 w2:=by rw[← AA];exact Fr.refl.alloc _
 rw[AA]at AZ;have AY:=zh w2 (.cells #[.int .i64 kk,.int .i64 n,.string ⟨t.toArray⟩,.slice b1 l.length d1,.slice b2 q.length d2,.int .i64 0,.bool false] 118);obtain⟨w3,h9⟩:∃ w3,w2.alloc (.cells #[.int .i64 kk,.int .i64 n,.string ⟨t.toArray⟩,.slice b1 l.length d1,.slice b2 q.length d2,.int .i64 0,.bool false] 118)=w3:=⟨_,rfl⟩;have A2:w3.heap.size=w2.heap.size+1:=by rw[← h9,zf]
 have AU:Fr NoB w2 w3:=by rw[← h9];exact Fr.refl.alloc _
 rw[h9]at AY;have hF:=(Au.trans' AV).trans' AU;obtain⟨c0,c1,c2,c3,c4,-,-⟩:=VB.at (AV.block _ _ Aa (fun h=>h));have Aq:FB S w2.heap.size ⟨.mk kk n t l q,0,false⟩ w3:=⟨by omega,b1,d1,b2,d2,AY,RJ.kp (Kp.ofFr hF) _ _ hj⟩;have hU:=zg4 S _ _ zan 5 w3 Aq hfit.1 ⟨Int.le_refl 0,show(0:Int)≤1000 by decide⟩;have AL:=Fits.get (f:=⟨.mk kk n t l q,0,false⟩) (nm:=zan) (k:=5) hfit;have AK:=zba ⟨.mk kk n t l q,0,false⟩ zan 5;obtain⟨P,hP⟩:∃ P,jq (.mk kk n t l q)=P:=⟨_,rfl⟩;rw[hP];unfold jq at hP;obtain⟨G,hG⟩:∃ G,(zbg ⟨.mk kk n t l q,0,false⟩ zan 5).1=G:=⟨_,rfl⟩;obtain⟨f1,AC⟩:∃ f,(zbg ⟨.mk kk n t l q,0,false⟩ zan 5).2=f:=⟨_,rfl⟩;simp only[hG,AC]at hP;obtain⟨gk,gn,gt,gl,gq⟩:=G;rw[hG,AC]at hU AL;rw[AC]at AK;have HP:=za hP;have Hget:=za hU;have HF:=za hF;have Aj:=za (AU.block _ _ AZ (fun h=>h));have Ax:=za AL;have Hgs:=za AK;have Hfit:=za hfit;have hO:OldK.k≤w2.heap.size:=by omega
 clear hP hU hF Au AV AU Aa AZ AY hj Aq AL AK hfit hG AC;go_enter Tryz.func67,Tryz.ntmps67
 go_upto_region 2 with(fail)
 change Code.wp _ _ _ _ w3;clear AB AA h9 c0 c1 c2 c3 c4;obtain⟨p1,Ap⟩:∃ p,w.heap.size+1=p:=⟨_,rfl⟩;obtain⟨p2,Ao⟩:∃ p,p1+1=p:=⟨_,rfl⟩;rw[Ap,Ao];rw[show w1.heap.size=p1 by omega]at Aj;rw[show w2.heap.size=p2 by omega]at Hget hO;have AH:w3.heap.size=p2+1:=by omega
 have A1:w.heap.size<p1:=by omega
 clear A4 A3 A2
 go_wp2_with fail
 refine Hget.out.mono ?_;rintro e w4 ⟨x,rfl,hx,hv,AT⟩;have Al:=hx;unfold RJ at hx;obtain⟨x1,y1,x2,y2,rfl,-,-⟩:=hx;have AX:=zh w4 (.cells #[.int .i64 gk,.int .i64 gn,.string ⟨gt.toArray⟩,.slice x1 gl.length y1,.slice x2 gq.length y2,.int .i64 0,.bool false] 118);obtain⟨w5,h8⟩:∃ w5,w4.alloc (.cells #[.int .i64 gk,.int .i64 gn,.string ⟨gt.toArray⟩,.slice x1 gl.length y1,.slice x2 gq.length y2,.int .i64 0,.bool false] 118)=w5:=⟨_,rfl⟩;have Am:w5.heap.size=w4.heap.size+1:=by rw[← h8,zf]
 have AE:Fr NoB w4 w5:=by rw[← h8];exact Fr.refl.alloc _
 rw[h8]at AX;have An:=AT.size;have hr:FB S w4.heap.size ⟨.mk gk gn gt gl gq,0,false⟩ w5:=⟨by omega,x1,y1,x2,y2,AX,RJ.kp (Kp.ofFr AE) _ _ Al⟩
 have hY:f1.j = .mk kk n t l q∧0≤f1.seen∧f1.seen≤1:=by
  obtain⟨h1,h2⟩:=Hgs.out;refine⟨h1,?_⟩;rcases h2 with h2 | h2
  ·rw[h2];exact⟨by decide,by decide⟩
  rw[h2];exact⟨by decide,by decide⟩
 have hS:=zdg S p2 f1 zf4 w5 (hv.fr AE) (by rw[hY.1];exact Hfit.out) ⟨hY.2.1,by omega⟩;have Htext:=za hS;have hc:=za hr;have Ai:=za AT;have Ah:=za AE;clear hS hr AT AE AX Al hv Hget
 go_upto_region 3 with(fail)
 change Code.wp _ _ _ _ w5;obtain⟨p3,AI⟩:∃ p,w4.heap.size=p:=⟨_,rfl⟩;rw[AI]at hc Am An;rw[AI];clear h8;have h23:p2<p3:=by omega
 obtain⟨nm,AJ⟩:∃ x,(ju f1 zf4).1=x:=⟨_,rfl⟩;obtain⟨f2,AM⟩:∃ x,(ju f1 zf4).2=x:=⟨_,rfl⟩;rw[AJ,AM]at Htext;have hP:=HP.out;rw[AJ,AM]at hP;have hI:=fun W h=>zvb S p3 ⟨.mk gk gn gt gl gq,0,false⟩ zbs W h Ax.out.1 ⟨Int.le_refl 0,show(0:Int)≤1000 by decide⟩
 have hQ:=zqr ⟨.mk gk gn gt gl gq,0,false⟩ zbs;obtain⟨D,hD⟩:∃ x,(zg5 ⟨.mk gk gn gt gl gq,0,false⟩ zbs).1=x:=⟨_,rfl⟩;obtain⟨f3,Ar⟩:∃ x,(zg5 ⟨.mk gk gn gt gl gq,0,false⟩ zbs).2=x:=⟨_,rfl⟩;rw[hD]at hI hQ hP;simp only[Ar]at hI hP;have A0:=za hP;have Hsum:=za hI;have Hbuilt:=za (znk nm D hQ);have h7:=za (za2 (nm:=nm) hQ);have hh:=za (zds nm D);obtain⟨CS,hy⟩:∃ x,jo nm D=x:=⟨_,rfl⟩;obtain⟨CD,AW⟩:∃ x,Lib.byteCells D=x:=⟨_,rfl⟩;have Av:CS[0]? = some (.string ⟨nm.toArray⟩):=by rw[← hy];rfl
 have Az:Hid (P=(nm,D,P.2.2)):=za (by rw[← hP]);rw[hy]at h7 hh;rw[hy,AW]at Hbuilt;simp only[AW]at Hsum;have A9:=za hy;clear hP hI hD Ar AJ AM HP hy AW hQ Ax Hgs
 go_wp2_with fail
 refine Htext.out.mono ?_;rintro e w6 ⟨rfl,ht,AS⟩;have hq:=hc.out.other AS hO (by omega);have h6:=za ht;have Ag:=za AS;have hi:=za (Hsum.out w6 hq);clear ht AS hq hc Hsum Htext
 go_wp2_with fail
 refine hi.out.mono ?_;rintro e w7 ⟨rfl,ho,AD⟩;have hs:=h6.out.other AD (by omega) (by omega)
 -- the subject's block
 have hN:=zh w7 (.cells #[.string ⟨#[]⟩,zy z6 0,zy z6 0,zy z6 0,zy z6 0,zy z6 0,zy z6 0,zy z6 0,zy z6 0,zy z6 0,zy z6 0,zy z6 0,zy z6 0,zy z6 0,zy z6 0,zy z6 0,zy z6 0,zy z6 0,zy z6 0,zy z6 0,zy z6 0,zy z6 0,zy z6 0,zy z6 0,zy z6 0,zy z6 0,zy z6 0,zy z6 0,zy z6 0,zy z6 0,zy z6 0,zy z6 0,zy z6 0] 51);have Ae:=za (jf hN (n:=CS.toArray.size) (by rw[zn,h7.out];show 33≤33;omega));have hg:Fr NoB w7 ((w7.alloc (.cells #[.string ⟨#[]⟩,zy z6 0,zy z6 0,zy z6 0,zy z6 0,zy z6 0,zy z6 0,zy z6 0,zy z6 0,zy z6 0,zy z6 0,zy z6 0,zy z6 0,zy z6 0,zy z6 0,zy z6 0,zy z6 0,zy z6 0,zy z6 0,zy z6 0,zy z6 0,zy z6 0,zy z6 0,zy z6 0,zy z6 0,zy z6 0,zy z6 0,zy z6 0,zy z6 0,zy z6 0,zy z6 0,zy z6 0,zy z6 0] 51)).setCells w7.heap.size 0 CS):=((Fr.refl (M:=NoB)).alloc _).trans (z8 _ _ _ _) (fun k _ hm => .inr (by omega));have hw:=World.rangeAt_setCells_same (w7.alloc (.cells #[.string ⟨#[]⟩,zy z6 0,zy z6 0,zy z6 0,zy z6 0,zy z6 0,zy z6 0,zy z6 0,zy z6 0,zy z6 0,zy z6 0,zy z6 0,zy z6 0,zy z6 0,zy z6 0,zy z6 0,zy z6 0,zy z6 0,zy z6 0,zy z6 0,zy z6 0,zy z6 0,zy z6 0,zy z6 0,zy z6 0,zy z6 0,zy z6 0,zy z6 0,zy z6 0,zy z6 0,zy z6 0,zy z6 0,zy z6 0] 51)) w7.heap.size 0 CS (by simpa using Ae.out)
 have At:Fr NoB w w7:=by
  have h1:Fr (fun k _=>k=p2∨k=p3) w3 w7:=((((Ai.out.mono (fun _ _ h => .inl h.1)).trans' (Ah.out.mono (fun _ _ h=>h.elim))).trans' (Ag.out.mono (fun _ _ h => .inl h.1))).trans' (AD.mono (fun _ _ h => .inr h.1)));exact HF.out.trans h1 (fun k _ hm => .inr (by rcases hm with h | h<;>omega))
 have hb:w7.heap[p1]? = some (.cells #[.string ⟨#[]⟩,zy z6 0,zy z6 0,zy z6 0,zy z6 0,zy z6 0,zy z6 0,zy z6 0,zy z6 0,zy z6 0,zy z6 0,zy z6 0,zy z6 0,zy z6 0,zy z6 0,zy z6 0,zy z6 0,zy z6 0,zy z6 0,zy z6 0,zy z6 0,zy z6 0,zy z6 0,zy z6 0,zy z6 0,zy z6 0,zy z6 0,zy z6 0,zy z6 0,zy z6 0,zy z6 0,zy z6 0,zy z6 0] 51 (0,0)):=by
  have h1:Fr (fun k _=>k=p2∨k=p3) w3 w7:=((((Ai.out.mono (fun _ _ h => .inl h.1)).trans' (Ah.out.mono (fun _ _ h=>h.elim))).trans' (Ag.out.mono (fun _ _ h => .inl h.1))).trans' (AD.mono (fun _ _ h => .inr h.1)));exact h1.block _ _ Aj.out (by omega)
 have Aw:p1<w7.heap.size:=jb hb;have h4:Hid ((Tryz.prog.info? 51).map (·.size)=some CS.toArray.size):=za (by rw[zav,zn,h7.out]);have h0:Hid ((Tryz.prog.info? 51).map (·.size)=some CS.length):=za (by rw[zav,h7.out]);have hX:=hs.fr hg;have hW:=ho.fr hg;have hL:=hg.block _ _ hb (fun h=>h);have AR:=At.trans' hg;clear hs ho AD hN At hb h6 Ai Ah Ag HF Aj hi
 go_upto_region 4 with(first
  | ((with_reducible refine wpList_buildTo ?_ 51 _ rfl _ rfl CS.toArray ?_ ?_);rfl;(refine Eq.trans (congrArg (Tryz.prog.built 51) ?_) Hbuilt.out;kernel_rfl))
  | (with_reducible refine wpList_store_mid rfl 51 _ _ rfl w7.heap.size 0 CS.toArray rfl rfl Ae.out h4.out hh.out ?_))
 change Code.wp _ _ _ _ ((w7.alloc (.cells #[.string ⟨#[]⟩,zy z6 0,zy z6 0,zy z6 0,zy z6 0,zy z6 0,zy z6 0,zy z6 0,zy z6 0,zy z6 0,zy z6 0,zy z6 0,zy z6 0,zy z6 0,zy z6 0,zy z6 0,zy z6 0,zy z6 0,zy z6 0,zy z6 0,zy z6 0,zy z6 0,zy z6 0,zy z6 0,zy z6 0,zy z6 0,zy z6 0,zy z6 0,zy z6 0,zy z6 0,zy z6 0,zy z6 0,zy z6 0] 51)).setCells w7.heap.size 0 CS);obtain⟨w8,AG⟩:∃ W,(w7.alloc (.cells #[.string ⟨#[]⟩,zy z6 0,zy z6 0,zy z6 0,zy z6 0,zy z6 0,zy z6 0,zy z6 0,zy z6 0,zy z6 0,zy z6 0,zy z6 0,zy z6 0,zy z6 0,zy z6 0,zy z6 0,zy z6 0,zy z6 0,zy z6 0,zy z6 0,zy z6 0,zy z6 0,zy z6 0,zy z6 0,zy z6 0,zy z6 0,zy z6 0,zy z6 0,zy z6 0,zy z6 0,zy z6 0,zy z6 0,zy z6 0] 51)).setCells w7.heap.size 0 CS=W:=⟨_,rfl⟩
 have hl:w7.heap.size<w8.heap.size:=by
  rw[← AG];exact Nat.lt_of_lt_of_le (by rw[zf];omega) (z8 (w7.heap.size) CS 0 (w7.alloc _)).size
 rw[AG]at hg hw hX hW hL AR ⊢;obtain⟨p4,hp⟩:∃ p,w7.heap.size=p:=⟨_,rfl⟩;rw[hp]at hw hl Aw;rw[hp];have hz:w8.cell? ⟨p4,0,none⟩=some (.string ⟨nm.toArray⟩):=hw 0 _ Av;have hT:=za hz;have HR:=za hw;have A8:=za AR;have Af:=za (jf hL (n:=CS.toArray.size) (by rw[zn,h7.out];show 33≤33;omega));obtain⟨Ac,ha⟩:∃ x,zdp f2=x:=⟨_,rfl⟩;obtain⟨Ab,hZ⟩:∃ x,zdp f3=x:=⟨_,rfl⟩;have AO:=fun V (h:Fr NoB w8 V)=>zf9 S p2 f2 V (hX.fr h)
 have AN:=fun V (h:Fr NoB w8 V)=>zf9 S p3 f3 V (hW.fr h)
 rw[ha]at AO;rw[hZ]at AN;have AF:=za AO;have Ad:=za AN;obtain⟨d,hu,hd⟩:=zdl;have Hu:=za hu;have Hd:=za hd;have h1w:w.heap.size≤p1:=by omega
 obtain⟨R,AQ⟩:∃ x,P.2.2=x:=⟨_,rfl⟩;have he:Hid (((Ac&&Ab)&&(!nm.isEmpty&&decide (nm.length≤64)))=R):=za (by rw[← ha,← hZ,← AQ,← A0.out]);have A7:Hid (P=(nm,D,R)):=za (by rw[← AQ];exact Az.out)
 have hn:∀ (V:World) (tm:Array Value),Fr NoB w8 V→tm.getD 2 undef = .pointer (some ⟨p1,0,none⟩)→tm.getD 3 undef = .bool R →
  bodyPost Tryz.prog Tryz.f67 (fun e w'=>e = .returned (.tuple #[.agg (jo P.1 P.2.1).toArray,.bool P.2.2])∧Fr NoB w w') Exit.ret { tmps:=tm,defers:=[] } (V.setCells p1 0 CS):=fun V tm hV h2 h3=>by
  have AP:=zfm Af.out hV (jb hL) (fun _ h=>h);have A5:=run_loadVar_mid (P:=Tryz.prog) _ p1 0 51 CS d (World.rangeAt_setCells_same V p1 0 CS (by simpa using AP)) Hu.out Hd.out h0.out;refine bodyPost_ret (v := .tuple #[.agg CS.toArray,.bool R]) ?_ rfl ⟨?_,(A8.out.trans' hV).trans (z8 p1 CS 0 V) (fun k _ hm => .inr (by have h5:k=p1:=hm;omega))⟩
  ·rw[results_cell_tmp rfl,h2,h3];simp[asAddr,Result.andThen,A5]
  rw[A7.out,← A9.out]
 have Hfin:=za hn;have hR:=za (fun V (h:Fr NoB w8 V)=>zfm Af.out h (jb hL) (fun _ h=>h));have hp42:p1<p4:=Aw;clear hn hg hw hX hW hL AR AG hp hz Av AO AN ha hZ AQ hu hd Ae Az A0 Af Am An A1 AH hY Ap Ao AI;obtain⟨be,A6⟩:∃ x,nm.isEmpty=x:=⟨_,rfl⟩;obtain⟨bl,As⟩:∃ x,decide (nm.length≤64)=x:=⟨_,rfl⟩;have hbl2:decide ((nm.length:Int)≤64)=bl:=by rw[← As];exact decide_eq_decide.2 (by omega)
 have Ay:Hid (((Ac&&Ab)&&(!be&&bl))=R):=za (by rw[← A6,← As];exact he.out);clear he;have he:=Ay;clear Ay;cases Ac with
 | false =>
   refine wp_region_held_drew (S:=fun V=>Hid (Fr (fun k _=>k=p1) w8 V)∧V.cell? ⟨p4,0,none⟩=some (.string ⟨nm.toArray⟩)) (by kernel_rfl) ⟨za Fr.refl.drew,by simpa using hT.out⟩ (fun hA=>?_);simp only[qV];refine qi (i:=0) rfl (zj (by rfl) 51 _ rfl p4 0 rfl CS d (fun V h=>ji HR.out h.1.out hl (fun _ h=>by have h2:p4=p1:=h;omega)) Hu.out Hd.out h0.out) hA ?_
   try simp only[Act.put,qP]
   refine qt (v:=?_) rfl (zv ⟨by rfl,?_⟩) hA ?_;rotate_left
   ·intro W hB;obtain⟨-,hJ⟩:=hB
    try simp only[qQ]
    go_simp
    try rw[if_neg (by omega)]
    try with_reducible rfl
   try simp only[Act.put,qP]
   refine qr (i:=2) (by kernel_rfl) rfl (fun K hK=>?_)
   try simp only[qQ]
   go_simp;refine(AF.out _ Fr.refl.drew).mono ?_;rintro r w9 ⟨rfl,hE⟩;refine hK.out _ _ ⟨za ((Fr.refl.drew).trans' (hE.mono (fun _ _ h=>h.elim))),Fr.cell hE (by simpa using hT.out)⟩ (fun hA=>?_);clear hK K
   try simp only[Act.put,qP]
   have hM:=za ((Fr.refl (M:=NoB) (w:=w8)).drew.trans' hE);clear hE
   iterate 15
    first
    | refine qt (v:=undef) rfl (Or.inr ⟨by rfl,rfl⟩) hA ?_
      try simp only[Act.put,qP]
    | refine qt (v:=?_) rfl (zv ⟨by rfl,?_⟩) hA ?_
      rotate_left
      ·intro W hB;obtain⟨-,hJ⟩:=hB
       try simp only[qQ]
       go_simp
       try rw[if_neg (by omega)]
       try with_reducible rfl
      try simp only[Act.put,qP]
   refine qr (i:=18) (by kernel_rfl) rfl (fun K hK=>?_)
   try simp only[qQ]
   rw[if_pos (by rfl)];refine wp_store_mid 51 (.tmp 2) (.tmp 19) (by rfl) p1 0 CS.toArray (by rfl) (by rfl) (hR.out _ hM.out) h4.out hh.out ?_;refine hK.out _ _ ⟨za (hA.1.out.trans' (z8 _ _ _ _)),Fr.cell (z8 _ _ _ _) hA.2 (fun _ h=>by have h2:p4=p1:=h;omega)⟩ (fun hA=>?_);clear hK K
   try simp only[Act.put,qP]
   refine qt (v:=?_) rfl (zv ⟨by rfl,?_⟩) hA ?_;rotate_left
   ·intro W hB;obtain⟨-,hJ⟩:=hB
    try simp only[qQ]
    go_simp
    try rw[if_neg (by omega)]
    try with_reducible rfl
   try simp only[Act.put,qP]
   refine wpAnyH_done (by kernel_rfl) ?_ _;clear hA;have hf:Hid (false=R):=za (by rw[← he.out];rfl)
   go_wp2_with fail
   refine Hfin.out _ _ hM.out ?_ ?_
   ·rfl
   exact congrArg Value.bool hf.out
 | true =>
   cases Ab with
   | false =>
     refine wp_region_held_drew (S:=fun V=>Hid (Fr (fun k _=>k=p1) w8 V)∧V.cell? ⟨p4,0,none⟩=some (.string ⟨nm.toArray⟩)) (by kernel_rfl) ⟨za Fr.refl.drew,by simpa using hT.out⟩ (fun hA=>?_);simp only[qV];refine qi (i:=0) rfl (zj (by rfl) 51 _ rfl p4 0 rfl CS d (fun V h=>ji HR.out h.1.out hl (fun _ h=>by have h2:p4=p1:=h;omega)) Hu.out Hd.out h0.out) hA ?_
     try simp only[Act.put,qP]
     refine qt (v:=?_) rfl (zv ⟨by rfl,?_⟩) hA ?_;rotate_left
     ·intro W hB;obtain⟨-,hJ⟩:=hB
      try simp only[qQ]
      go_simp
      try rw[if_neg (by omega)]
      try with_reducible rfl
     try simp only[Act.put,qP]
     refine qr (i:=2) (by kernel_rfl) rfl (fun K hK=>?_)
     try simp only[qQ]
     go_simp;refine(AF.out _ Fr.refl.drew).mono ?_;rintro r w9 ⟨rfl,hE⟩;refine hK.out _ _ ⟨za ((Fr.refl.drew).trans' (hE.mono (fun _ _ h=>h.elim))),Fr.cell hE (by simpa using hT.out)⟩ (fun hA=>?_);clear hK K
     try simp only[Act.put,qP]
     have hM:=za ((Fr.refl (M:=NoB) (w:=w8)).drew.trans' hE);clear hE
     iterate 2
      refine qt (v:=?_) rfl (zv ⟨by rfl,?_⟩) hA ?_;rotate_left
      ·intro W hB;obtain⟨-,hJ⟩:=hB
       try simp only[qQ]
       go_simp
       try rw[if_neg (by omega)]
       try with_reducible rfl
      try simp only[Act.put,qP]
     refine qr (i:=5) (by kernel_rfl) rfl (fun K hK=>?_)
     try simp only[qQ]
     go_simp;refine(Ad.out _ hM.out).mono ?_;rintro r Ak ⟨rfl,hC⟩;refine hK.out _ _ ⟨za (hA.1.out.trans' (hC.mono (fun _ _ h=>h.elim))),Fr.cell hC hA.2⟩ (fun hA=>?_);clear hK K
     try simp only[Act.put,qP]
     have hH:=za (hM.out.trans' hC);clear hC
     iterate 12
      first
      | refine qt (v:=undef) rfl (Or.inr ⟨by rfl,rfl⟩) hA ?_
        try simp only[Act.put,qP]
      | refine qt (v:=?_) rfl (zv ⟨by rfl,?_⟩) hA ?_
        rotate_left
        ·intro W hB;obtain⟨-,hJ⟩:=hB
         try simp only[qQ]
         go_simp
         try rw[if_neg (by omega)]
         try with_reducible rfl
        try simp only[Act.put,qP]
     refine qr (i:=18) (by kernel_rfl) rfl (fun K hK=>?_)
     try simp only[qQ]
     rw[if_pos (by rfl)];refine wp_store_mid 51 (.tmp 2) (.tmp 19) (by rfl) p1 0 CS.toArray (by rfl) (by rfl) (hR.out _ hH.out) h4.out hh.out ?_;refine hK.out _ _ ⟨za (hA.1.out.trans' (z8 _ _ _ _)),Fr.cell (z8 _ _ _ _) hA.2 (fun _ h=>by have h2:p4=p1:=h;omega)⟩ (fun hA=>?_);clear hK K
     try simp only[Act.put,qP]
     refine qt (v:=?_) rfl (zv ⟨by rfl,?_⟩) hA ?_;rotate_left
     ·intro W hB;obtain⟨-,hJ⟩:=hB
      try simp only[qQ]
      go_simp
      try rw[if_neg (by omega)]
      try with_reducible rfl
     try simp only[Act.put,qP]
     refine wpAnyH_done (by kernel_rfl) ?_ _;clear hA;have hf:Hid (false=R):=za (by rw[← he.out];rfl)
     go_wp2_with fail
     refine Hfin.out _ _ hH.out ?_ ?_
     ·rfl
     exact congrArg Value.bool hf.out
   | true =>
     cases be with
     | true =>
       refine wp_region_held_drew (S:=fun V=>Hid (Fr (fun k _=>k=p1) w8 V)∧V.cell? ⟨p4,0,none⟩=some (.string ⟨nm.toArray⟩)) (by kernel_rfl) ⟨za Fr.refl.drew,by simpa using hT.out⟩ (fun hA=>?_);simp only[qV];refine qi (i:=0) rfl (zj (by rfl) 51 _ rfl p4 0 rfl CS d (fun V h=>ji HR.out h.1.out hl (fun _ h=>by have h2:p4=p1:=h;omega)) Hu.out Hd.out h0.out) hA ?_
       try simp only[Act.put,qP]
       refine qt (v:=?_) rfl (zv ⟨by rfl,?_⟩) hA ?_;rotate_left
       ·intro W hB;obtain⟨-,hJ⟩:=hB
        try simp only[qQ]
        go_simp
        try rw[if_neg (by omega)]
        try with_reducible rfl
       try simp only[Act.put,qP]
       refine qr (i:=2) (by kernel_rfl) rfl (fun K hK=>?_)
       try simp only[qQ]
       go_simp;refine(AF.out _ Fr.refl.drew).mono ?_;rintro r w9 ⟨rfl,hE⟩;refine hK.out _ _ ⟨za ((Fr.refl.drew).trans' (hE.mono (fun _ _ h=>h.elim))),Fr.cell hE (by simpa using hT.out)⟩ (fun hA=>?_);clear hK K
       try simp only[Act.put,qP]
       have hM:=za ((Fr.refl (M:=NoB) (w:=w8)).drew.trans' hE);clear hE
       iterate 2
        refine qt (v:=?_) rfl (zv ⟨by rfl,?_⟩) hA ?_;rotate_left
        ·intro W hB;obtain⟨-,hJ⟩:=hB
         try simp only[qQ]
         go_simp
         try rw[if_neg (by omega)]
         try with_reducible rfl
        try simp only[Act.put,qP]
       refine qr (i:=5) (by kernel_rfl) rfl (fun K hK=>?_)
       try simp only[qQ]
       go_simp;refine(Ad.out _ hM.out).mono ?_;rintro r Ak ⟨rfl,hC⟩;refine hK.out _ _ ⟨za (hA.1.out.trans' (hC.mono (fun _ _ h=>h.elim))),Fr.cell hC hA.2⟩ (fun hA=>?_);clear hK K
       try simp only[Act.put,qP]
       have hH:=za (hM.out.trans' hC);clear hC
       iterate 12
        first
        | refine qt (v:=undef) rfl (Or.inr ⟨by rfl,rfl⟩) hA ?_
          try simp only[Act.put,qP]
        | refine qt (v:=?_) rfl (zv ⟨by rfl,?_⟩) hA ?_
          rotate_left
          ·intro W hB;obtain⟨-,hJ⟩:=hB
           try simp only[qQ]
           go_simp
           try rw[if_neg (by omega)]
           try with_reducible rfl
          try simp only[Act.put,qP]
       refine qr (i:=18) (by kernel_rfl) rfl (fun K hK=>?_)
       try simp only[qQ]
       rw[if_pos (by rfl)];refine wp_store_mid 51 (.tmp 2) (.tmp 19) (by rfl) p1 0 CS.toArray (by rfl) (by rfl) (hR.out _ hH.out) h4.out hh.out ?_;refine hK.out _ _ ⟨za (hA.1.out.trans' (z8 _ _ _ _)),Fr.cell (z8 _ _ _ _) hA.2 (fun _ h=>by have h2:p4=p1:=h;omega)⟩ (fun hA=>?_);clear hK K
       try simp only[Act.put,qP]
       refine qt (v:=?_) rfl (zv ⟨by rfl,?_⟩) hA ?_;rotate_left
       ·intro W hB;obtain⟨-,hJ⟩:=hB
        try simp only[qQ]
        go_simp
        try rw[if_neg (by omega)]
        try with_reducible rfl
       try simp only[Act.put,qP]
       refine wpAnyH_done (by kernel_rfl) ?_ _;clear hA;have hf:Hid (false=R):=za (by rw[← he.out];rfl)
       go_wp2_with fail
       refine Hfin.out _ _ hH.out ?_ ?_
       ·rfl
       exact congrArg Value.bool hf.out
     | false =>
       refine wp_region_held_drew (S:=fun V=>Hid (Fr (fun k _=>k=p1) w8 V)∧V.cell? ⟨p4,0,none⟩=some (.string ⟨nm.toArray⟩)) (by kernel_rfl) ⟨za Fr.refl.drew,by simpa using hT.out⟩ (fun hA=>?_);simp only[qV];refine qi (i:=0) rfl (zj (by rfl) 51 _ rfl p4 0 rfl CS d (fun V h=>ji HR.out h.1.out hl (fun _ h=>by have h2:p4=p1:=h;omega)) Hu.out Hd.out h0.out) hA ?_
       try simp only[Act.put,qP]
       refine qt (v:=?_) rfl (zv ⟨by rfl,?_⟩) hA ?_;rotate_left
       ·intro W hB;obtain⟨-,hJ⟩:=hB
        try simp only[qQ]
        go_simp
        try rw[if_neg (by omega)]
        try with_reducible rfl
       try simp only[Act.put,qP]
       refine qr (i:=2) (by kernel_rfl) rfl (fun K hK=>?_)
       try simp only[qQ]
       go_simp;refine(AF.out _ Fr.refl.drew).mono ?_;rintro r w9 ⟨rfl,hE⟩;refine hK.out _ _ ⟨za ((Fr.refl.drew).trans' (hE.mono (fun _ _ h=>h.elim))),Fr.cell hE (by simpa using hT.out)⟩ (fun hA=>?_);clear hK K
       try simp only[Act.put,qP]
       have hM:=za ((Fr.refl (M:=NoB) (w:=w8)).drew.trans' hE);clear hE
       iterate 2
        refine qt (v:=?_) rfl (zv ⟨by rfl,?_⟩) hA ?_;rotate_left
        ·intro W hB;obtain⟨-,hJ⟩:=hB
         try simp only[qQ]
         go_simp
         try rw[if_neg (by omega)]
         try with_reducible rfl
        try simp only[Act.put,qP]
       refine qr (i:=5) (by kernel_rfl) rfl (fun K hK=>?_)
       try simp only[qQ]
       go_simp;refine(Ad.out _ hM.out).mono ?_;rintro r Ak ⟨rfl,hC⟩;refine hK.out _ _ ⟨za (hA.1.out.trans' (hC.mono (fun _ _ h=>h.elim))),Fr.cell hC hA.2⟩ (fun hA=>?_);clear hK K
       try simp only[Act.put,qP]
       have hH:=za (hM.out.trans' hC);clear hC
       iterate 12
        refine qt (v:=?_) rfl (zv ⟨by rfl,?_⟩) hA ?_;rotate_left
        ·intro W hB;obtain⟨-,hJ⟩:=hB
         try simp only[qQ]
         go_simp
         try rw[if_neg (by omega)]
         try with_reducible rfl
        try simp only[Act.put,qP]
       refine qr (i:=18) (by kernel_rfl) rfl (fun K hK=>?_)
       try simp only[qQ]
       rw[if_pos (by rfl)];refine wp_store_mid 51 (.tmp 2) (.tmp 19) (by rfl) p1 0 CS.toArray (by rfl) (by rfl) (hR.out _ hH.out) h4.out hh.out ?_;refine hK.out _ _ ⟨za (hA.1.out.trans' (z8 _ _ _ _)),Fr.cell (z8 _ _ _ _) hA.2 (fun _ h=>by have h2:p4=p1:=h;omega)⟩ (fun hA=>?_);clear hK K
       try simp only[Act.put,qP]
       refine qt (v:=?_) rfl (zv ⟨by rfl,?_⟩) hA ?_;rotate_left
       ·intro W hB;obtain⟨-,hJ⟩:=hB
        try simp only[qQ]
        go_simp
        try rw[if_neg (by omega)]
        try with_reducible rfl
       try simp only[Act.put,qP]
       refine wpAnyH_done (by kernel_rfl) ?_ _;clear hA;have hf:Hid (bl=R):=za (by rw[← he.out];rfl)
       go_wp2_with fail
       refine Hfin.out _ _ hH.out ?_ ?_
       ·rfl
       exact congrArg Value.bool hf.out
end Go.Proofs.YtmgfncjfgkllcaaGreatDoor
