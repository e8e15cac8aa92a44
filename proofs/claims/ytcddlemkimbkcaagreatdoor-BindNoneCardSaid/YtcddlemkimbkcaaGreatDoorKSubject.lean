/-
 The walk of entry.subject.
-/
import Derived.Test.YtcddlemkimbkcaaGreatDoorKFields
import Derived.Great.Walk
open Go.Lib renaming hid→za
open Go.World renaming size_alloc→zf
open Go renaming heap_alloc_new→zh,yieldsIf_load_mid→zj
open List renaming size_toArray→zn
open Or renaming inl→zv
open Go.Value renaming int→zy
open Go.IntKind renaming u8→z6
namespace Go.Proofs.YtcddlemkimbkcaaGreatDoor
set_option linter.unusedVariables false
set_option linter.unusedSimpArgs false
set_option linter.unusedSectionVars false
set_option maxRecDepth 100000
set_option maxHeartbeats 4000000
open Go.RowKit
variable [OldK]
theorem zky (l:Bs)(h:l.length=32):∃ x0 x1 x2 x3 x4 x5 x6 x7 x8 x9 x10 x11 x12 x13 x14 x15 x16 x17 x18 x19 x20 x21 x22 x23 x24 x25 x26 x27 x28 x29 x30 x31:UInt8,l=[x0,x1,x2,x3,x4,x5,x6,x7,x8,x9,x10,x11,x12,x13,x14,x15,x16,x17,x18,x19,x20,x21,x22,x23,x24,x25,x26,x27,x28,x29,x30,x31]:=by
 match l,h with
 | [x0,x1,x2,x3,x4,x5,x6,x7,x8,x9,x10,x11,x12,x13,x14,x15,x16,x17,x18,x19,x20,x21,x22,x23,x24,x25,x26,x27,x28,x29,x30,x31],_=>exact⟨x0,x1,x2,x3,x4,x5,x6,x7,x8,x9,x10,x11,x12,x13,x14,x15,x16,x17,x18,x19,x20,x21,x22,x23,x24,x25,x26,x27,x28,x29,x30,x31,rfl⟩
def j7 (nm D:Bs):List Value := .string ⟨nm.toArray⟩ :: Lib.byteCells D
theorem zlg (nm D:Bs)(h:D.length=32):Tryz.prog.built 164 [(0,.string ⟨nm.toArray⟩),(1,.agg (Lib.byteCells D).toArray)]=some (j7 nm D).toArray:=by
 obtain⟨x0,x1,x2,x3,x4,x5,x6,x7,x8,x9,x10,x11,x12,x13,x14,x15,x16,x17,x18,x19,x20,x21,x22,x23,x24,x25,x26,x27,x28,x29,x30,x31,rfl⟩:=zky D h
 kernel_rfl
theorem zer (nm D:Bs)(h:D.length=32):Tryz.prog.builtSlice 164 1 [(0,.agg (j7 nm D).toArray)]=some (j7 nm D).toArray:=by
 obtain⟨x0,x1,x2,x3,x4,x5,x6,x7,x8,x9,x10,x11,x12,x13,x14,x15,x16,x17,x18,x19,x20,x21,x22,x23,x24,x25,x26,x27,x28,x29,x30,x31,rfl⟩:=zky D h
 kernel_rfl
theorem zah:(Tryz.prog.info? 164).map (·.size)=some 33:=by kernel_rfl
theorem zdo:∃ d,Tryz.prog.underlying 164=some d∧d.isRow=true:=⟨_,Tryz.underlying164,rfl⟩
theorem zb2 {nm D:Bs}(h:D.length=32):(j7 nm D).length=33:=by simp[j7,ja,h]
theorem zcn (nm D:Bs):(j7 nm D).toArray.all (·.oneCell')=true:=by
 refine all_oneCell_toArray (fun v hv=>?_);unfold j7 at hv;rcases List.mem_cons.1 hv with rfl | hv
 ·rfl
 exact j0 _ _ hv
theorem znx (f:Fd)(nm:Bs):(zty f nm).1.length=32:=by
 unfold zty;cases hR:zj6 (zcm f nm).1 with
 | none=>rfl
 | some r=>exact((zg6 _ r).1 hR).2
theorem FB.other {S:Nat→Prop}{b b':Nat}{f:Fd}{w w':World}(h:FB S b f w)(hF:Fr (MFd b') w w')(hk:OldK.k≤b')(hne:b≠b'):FB S b f w':=by
 obtain⟨hb,a1,n1,a2,n2,h1,h2⟩:=h;exact⟨hb,a1,n1,a2,n2,hF.block _ _ h1 (fun h=>hne h.1),h2.fd hk hF⟩
theorem zhe (S:Nat→Prop) (j:J) (v:Value) (w:World) (h:RJ S w j v) (hfit:Fits j) (hk:OldK.k≤w.heap.size) :
 Calls Tryz.prog 144 #[v] w fun e w'=>e = .returned (.tuple #[.agg (j7 (j5 j).1 (j5 j).2.1).toArray,.bool (j5 j).2.2])∧Fr NoB w w':=by
 have hj:=h;obtain⟨kk,n,t,l,q⟩:=j;unfold RJ at h;obtain⟨b1,d1,b2,d2,rfl,-,-⟩:=h;have Ab:=zh w (.cells #[.int .i64 kk,.int .i64 n,.string ⟨t.toArray⟩,.slice b1 l.length d1,.slice b2 q.length d2] 220);obtain⟨w1,AC⟩:∃ w1,w.alloc (.cells #[.int .i64 kk,.int .i64 n,.string ⟨t.toArray⟩,.slice b1 l.length d1,.slice b2 q.length d2] 220)=w1:=⟨_,rfl⟩;have A5:w1.heap.size=w.heap.size+1:=by rw[← AC,zf]
 have Av:Fr NoB w w1:=by rw[← AC];exact Fr.refl.alloc _
 rw[AC]at Ab;have Aa:=zh w1 (.cells #[.string ⟨#[]⟩,zy z6 0,zy z6 0,zy z6 0,zy z6 0,zy z6 0,zy z6 0,zy z6 0,zy z6 0,zy z6 0,zy z6 0,zy z6 0,zy z6 0,zy z6 0,zy z6 0,zy z6 0,zy z6 0,zy z6 0,zy z6 0,zy z6 0,zy z6 0,zy z6 0,zy z6 0,zy z6 0,zy z6 0,zy z6 0,zy z6 0,zy z6 0,zy z6 0,zy z6 0,zy z6 0,zy z6 0,zy z6 0] 164);obtain⟨w2,AB⟩:∃ w2,w1.alloc (.cells #[.string ⟨#[]⟩,zy z6 0,zy z6 0,zy z6 0,zy z6 0,zy z6 0,zy z6 0,zy z6 0,zy z6 0,zy z6 0,zy z6 0,zy z6 0,zy z6 0,zy z6 0,zy z6 0,zy z6 0,zy z6 0,zy z6 0,zy z6 0,zy z6 0,zy z6 0,zy z6 0,zy z6 0,zy z6 0,zy z6 0,zy z6 0,zy z6 0,zy z6 0,zy z6 0,zy z6 0,zy z6 0,zy z6 0,zy z6 0] 164)=w2:=⟨_,rfl⟩;have A4:w2.heap.size=w1.heap.size+1:=by rw[← AB,zf]
 have AW:Fr NoB w1 w2:=by rw[← AB];exact Fr.refl.alloc _
 rw[AB]at Aa;have AZ:=zh w2 (.cells #[.int .i64 kk,.int .i64 n,.string ⟨t.toArray⟩,.slice b1 l.length d1,.slice b2 q.length d2,.int .i64 0,.bool false] 225);obtain⟨w3,AA⟩:∃ w3,w2.alloc (.cells #[.int .i64 kk,.int .i64 n,.string ⟨t.toArray⟩,.slice b1 l.length d1,.slice b2 q.length d2,.int .i64 0,.bool false] 225)=w3:=⟨_,rfl⟩;have A3:w3.heap.size=w2.heap.size+1:=by rw[← AA,zf]
 have AV:Fr NoB w2 w3:=by rw[← AA];exact Fr.refl.alloc _
 rw[AA]at AZ;have hF:=(Av.trans' AW).trans' AV;obtain⟨c0,c1,c2,c3,c4,-,-⟩:=VB.at (AW.block _ _ Ab (fun h=>h));have Ar:FB S w2.heap.size ⟨.mk kk n t l q,0,false⟩ w3:=⟨by omega,b1,d1,b2,d2,AZ,RJ.kp (Kp.ofFr hF) _ _ hj⟩;have hU:=zgl S _ _ zbi 5 w3 Ar hfit.1 ⟨Int.le_refl 0,show(0:Int)≤1000 by decide⟩;have AM:=Fits.get (f:=⟨.mk kk n t l q,0,false⟩) (nm:=zbi) (k:=5) hfit;have AL:=zfs ⟨.mk kk n t l q,0,false⟩ zbi 5;obtain⟨P,hP⟩:∃ P,j5 (.mk kk n t l q)=P:=⟨_,rfl⟩;rw[hP];unfold j5 at hP;obtain⟨G,hG⟩:∃ G,(zde ⟨.mk kk n t l q,0,false⟩ zbi 5).1=G:=⟨_,rfl⟩;obtain⟨f1,AD⟩:∃ f,(zde ⟨.mk kk n t l q,0,false⟩ zbi 5).2=f:=⟨_,rfl⟩;simp only[hG,AD]at hP;obtain⟨gk,gn,gt,gl,gq⟩:=G;rw[hG,AD]at hU AM;rw[AD]at AL;have HP:=za hP;have Hget:=za hU;have HF:=za hF;have Ak:=za (AV.block _ _ Aa (fun h=>h));have Ay:=za AM;have Hgs:=za AL;have Hfit:=za hfit;have hO:OldK.k≤w2.heap.size:=by omega
 clear hP hU hF Av AW AV Ab Aa AZ hj Ar AM AL hfit hG AD;go_enter Tryz.func144,Tryz.ntmps144
 go_upto_region 2 with(fail)
 change Code.wp _ _ _ _ w3;clear AC AB AA c0 c1 c2 c3 c4;obtain⟨p1,Aq⟩:∃ p,w.heap.size+1=p:=⟨_,rfl⟩;obtain⟨p2,Ap⟩:∃ p,p1+1=p:=⟨_,rfl⟩;rw[Aq,Ap];rw[show w1.heap.size=p1 by omega]at Ak;rw[show w2.heap.size=p2 by omega]at Hget hO;have AI:w3.heap.size=p2+1:=by omega
 have A2:w.heap.size<p1:=by omega
 clear A5 A4 A3
 go_wp2_with fail
 refine Hget.out.mono ?_;rintro e w4 ⟨x,rfl,hx,hw,AU⟩;have Am:=hx;unfold RJ at hx;obtain⟨x1,y1,x2,y2,rfl,-,-⟩:=hx;have AY:=zh w4 (.cells #[.int .i64 gk,.int .i64 gn,.string ⟨gt.toArray⟩,.slice x1 gl.length y1,.slice x2 gq.length y2,.int .i64 0,.bool false] 225);obtain⟨w5,h9⟩:∃ w5,w4.alloc (.cells #[.int .i64 gk,.int .i64 gn,.string ⟨gt.toArray⟩,.slice x1 gl.length y1,.slice x2 gq.length y2,.int .i64 0,.bool false] 225)=w5:=⟨_,rfl⟩;have An:w5.heap.size=w4.heap.size+1:=by rw[← h9,zf]
 have AF:Fr NoB w4 w5:=by rw[← h9];exact Fr.refl.alloc _
 rw[h9]at AY;have Ao:=AU.size;have hr:FB S w4.heap.size ⟨.mk gk gn gt gl gq,0,false⟩ w5:=⟨by omega,x1,y1,x2,y2,AY,RJ.kp (Kp.ofFr AF) _ _ Am⟩
 have hY:f1.j = .mk kk n t l q∧0≤f1.seen∧f1.seen≤1:=by
  obtain⟨h1,h2⟩:=Hgs.out;refine⟨h1,?_⟩;rcases h2 with h2 | h2
  ·rw[h2];exact⟨by decide,by decide⟩
  rw[h2];exact⟨by decide,by decide⟩
 have hS:=zjt S p2 f1 zgs w5 (hw.fr AF) (by rw[hY.1];exact Hfit.out) ⟨hY.2.1,by omega⟩;have Htext:=za hS;have hc:=za hr;have Aj:=za AU;have Ai:=za AF;clear hS hr AU AF AY Am hw Hget
 go_upto_region 3 with(fail)
 change Code.wp _ _ _ _ w5;obtain⟨p3,AJ⟩:∃ p,w4.heap.size=p:=⟨_,rfl⟩;rw[AJ]at hc An Ao;rw[AJ];clear h9;have h23:p2<p3:=by omega
 obtain⟨nm,AK⟩:∃ x,(zcm f1 zgs).1=x:=⟨_,rfl⟩;obtain⟨f2,AN⟩:∃ x,(zcm f1 zgs).2=x:=⟨_,rfl⟩;rw[AK,AN]at Htext;have hP:=HP.out;rw[AK,AN]at hP;have hI:=fun W h=>zwo S p3 ⟨.mk gk gn gt gl gq,0,false⟩ zb8 W h Ay.out.1 ⟨Int.le_refl 0,show(0:Int)≤1000 by decide⟩
 have hQ:=znx ⟨.mk gk gn gt gl gq,0,false⟩ zb8;obtain⟨D,hD⟩:∃ x,(zty ⟨.mk gk gn gt gl gq,0,false⟩ zb8).1=x:=⟨_,rfl⟩;obtain⟨f3,As⟩:∃ x,(zty ⟨.mk gk gn gt gl gq,0,false⟩ zb8).2=x:=⟨_,rfl⟩;rw[hD]at hI hQ hP;simp only[As]at hI hP;have A1:=za hP;have Hsum:=za hI;have Hbuilt:=za (zlg nm D hQ);have h8:=za (zb2 (nm:=nm) hQ);have hh:=za (zcn nm D);obtain⟨CS,hz⟩:∃ x,j7 nm D=x:=⟨_,rfl⟩;obtain⟨CD,AX⟩:∃ x,Lib.byteCells D=x:=⟨_,rfl⟩;have Aw:CS[0]? = some (.string ⟨nm.toArray⟩):=by rw[← hz];rfl
 have A0:Hid (P=(nm,D,P.2.2)):=za (by rw[← hP]);rw[hz]at h8 hh;rw[hz,AX]at Hbuilt;simp only[AX]at Hsum;have BA:=za hz;clear hP hI hD As AK AN HP hz AX hQ Ay Hgs
 go_wp2_with fail
 refine Htext.out.mono ?_;rintro e w6 ⟨rfl,ht,AT⟩;have hq:=hc.out.other AT hO (by omega);have h7:=za ht;have Ah:=za AT;have hi:=za (Hsum.out w6 hq);clear ht AT hq hc Hsum Htext
 go_wp2_with fail
 refine hi.out.mono ?_;rintro e w7 ⟨rfl,ho,AE⟩;have hs:=h7.out.other AE (by omega) (by omega)
 -- the subject's block
 have hN:=zh w7 (.cells #[.string ⟨#[]⟩,zy z6 0,zy z6 0,zy z6 0,zy z6 0,zy z6 0,zy z6 0,zy z6 0,zy z6 0,zy z6 0,zy z6 0,zy z6 0,zy z6 0,zy z6 0,zy z6 0,zy z6 0,zy z6 0,zy z6 0,zy z6 0,zy z6 0,zy z6 0,zy z6 0,zy z6 0,zy z6 0,zy z6 0,zy z6 0,zy z6 0,zy z6 0,zy z6 0,zy z6 0,zy z6 0,zy z6 0,zy z6 0] 164);have Af:=za (jr hN (n:=CS.toArray.size) (by rw[zn,h8.out];show 33≤33;omega));have hg:Fr NoB w7 ((w7.alloc (.cells #[.string ⟨#[]⟩,zy z6 0,zy z6 0,zy z6 0,zy z6 0,zy z6 0,zy z6 0,zy z6 0,zy z6 0,zy z6 0,zy z6 0,zy z6 0,zy z6 0,zy z6 0,zy z6 0,zy z6 0,zy z6 0,zy z6 0,zy z6 0,zy z6 0,zy z6 0,zy z6 0,zy z6 0,zy z6 0,zy z6 0,zy z6 0,zy z6 0,zy z6 0,zy z6 0,zy z6 0,zy z6 0,zy z6 0,zy z6 0] 164)).setCells w7.heap.size 0 CS):=((Fr.refl (M:=NoB)).alloc _).trans (jd _ _ _ _) (fun k _ hm => .inr (by omega));have hy:=World.rangeAt_setCells_same (w7.alloc (.cells #[.string ⟨#[]⟩,zy z6 0,zy z6 0,zy z6 0,zy z6 0,zy z6 0,zy z6 0,zy z6 0,zy z6 0,zy z6 0,zy z6 0,zy z6 0,zy z6 0,zy z6 0,zy z6 0,zy z6 0,zy z6 0,zy z6 0,zy z6 0,zy z6 0,zy z6 0,zy z6 0,zy z6 0,zy z6 0,zy z6 0,zy z6 0,zy z6 0,zy z6 0,zy z6 0,zy z6 0,zy z6 0,zy z6 0,zy z6 0] 164)) w7.heap.size 0 CS (by simpa using Af.out)
 have Au:Fr NoB w w7:=by
  have h1:Fr (fun k _=>k=p2∨k=p3) w3 w7:=((((Aj.out.mono (fun _ _ h => .inl h.1)).trans' (Ai.out.mono (fun _ _ h=>h.elim))).trans' (Ah.out.mono (fun _ _ h => .inl h.1))).trans' (AE.mono (fun _ _ h => .inr h.1)));exact HF.out.trans h1 (fun k _ hm => .inr (by rcases hm with h | h<;>omega))
 have hb:w7.heap[p1]? = some (.cells #[.string ⟨#[]⟩,zy z6 0,zy z6 0,zy z6 0,zy z6 0,zy z6 0,zy z6 0,zy z6 0,zy z6 0,zy z6 0,zy z6 0,zy z6 0,zy z6 0,zy z6 0,zy z6 0,zy z6 0,zy z6 0,zy z6 0,zy z6 0,zy z6 0,zy z6 0,zy z6 0,zy z6 0,zy z6 0,zy z6 0,zy z6 0,zy z6 0,zy z6 0,zy z6 0,zy z6 0,zy z6 0,zy z6 0,zy z6 0] 164 (0,0)):=by
  have h1:Fr (fun k _=>k=p2∨k=p3) w3 w7:=((((Aj.out.mono (fun _ _ h => .inl h.1)).trans' (Ai.out.mono (fun _ _ h=>h.elim))).trans' (Ah.out.mono (fun _ _ h => .inl h.1))).trans' (AE.mono (fun _ _ h => .inr h.1)));exact h1.block _ _ Ak.out (by omega)
 have Ax:p1<w7.heap.size:=jq hb;have h6:Hid ((Tryz.prog.info? 164).map (·.size)=some CS.toArray.size):=za (by rw[zah,zn,h8.out]);have h4:Hid ((Tryz.prog.info? 164).map (·.size)=some CS.length):=za (by rw[zah,h8.out]);have hX:=hs.fr hg;have hW:=ho.fr hg;have hL:=hg.block _ _ hb (fun h=>h);have AS:=Au.trans' hg;clear hs ho AE hN Au hb h7 Aj Ai Ah HF Ak hi
 go_upto_region 4 with(first
  | ((with_reducible refine wpList_buildTo ?_ 164 _ rfl _ rfl CS.toArray ?_ ?_);rfl;(refine Eq.trans (congrArg (Tryz.prog.built 164) ?_) Hbuilt.out;kernel_rfl))
  | (with_reducible refine wpList_store_mid rfl 164 _ _ rfl w7.heap.size 0 CS.toArray rfl rfl Af.out h6.out hh.out ?_))
 change Code.wp _ _ _ _ ((w7.alloc (.cells #[.string ⟨#[]⟩,zy z6 0,zy z6 0,zy z6 0,zy z6 0,zy z6 0,zy z6 0,zy z6 0,zy z6 0,zy z6 0,zy z6 0,zy z6 0,zy z6 0,zy z6 0,zy z6 0,zy z6 0,zy z6 0,zy z6 0,zy z6 0,zy z6 0,zy z6 0,zy z6 0,zy z6 0,zy z6 0,zy z6 0,zy z6 0,zy z6 0,zy z6 0,zy z6 0,zy z6 0,zy z6 0,zy z6 0,zy z6 0] 164)).setCells w7.heap.size 0 CS);obtain⟨w8,AH⟩:∃ W,(w7.alloc (.cells #[.string ⟨#[]⟩,zy z6 0,zy z6 0,zy z6 0,zy z6 0,zy z6 0,zy z6 0,zy z6 0,zy z6 0,zy z6 0,zy z6 0,zy z6 0,zy z6 0,zy z6 0,zy z6 0,zy z6 0,zy z6 0,zy z6 0,zy z6 0,zy z6 0,zy z6 0,zy z6 0,zy z6 0,zy z6 0,zy z6 0,zy z6 0,zy z6 0,zy z6 0,zy z6 0,zy z6 0,zy z6 0,zy z6 0,zy z6 0] 164)).setCells w7.heap.size 0 CS=W:=⟨_,rfl⟩
 have hl:w7.heap.size<w8.heap.size:=by
  rw[← AH];exact Nat.lt_of_lt_of_le (by rw[zf];omega) (jd (w7.heap.size) CS 0 (w7.alloc _)).size
 rw[AH]at hg hy hX hW hL AS ⊢;obtain⟨p4,hp⟩:∃ p,w7.heap.size=p:=⟨_,rfl⟩;rw[hp]at hy hl Ax;rw[hp];have h0:w8.cell? ⟨p4,0,none⟩=some (.string ⟨nm.toArray⟩):=hy 0 _ Aw;have hT:=za h0;have HR:=za hy;have A9:=za AS;have Ag:=za (jr hL (n:=CS.toArray.size) (by rw[zn,h8.out];show 33≤33;omega));obtain⟨Ad,ha⟩:∃ x,zig f2=x:=⟨_,rfl⟩;obtain⟨Ac,hZ⟩:∃ x,zig f3=x:=⟨_,rfl⟩;have AP:=fun V (h:Fr NoB w8 V)=>zhz S p2 f2 V (hX.fr h)
 have AO:=fun V (h:Fr NoB w8 V)=>zhz S p3 f3 V (hW.fr h)
 rw[ha]at AP;rw[hZ]at AO;have AG:=za AP;have Ae:=za AO;obtain⟨d,hu,hd⟩:=zdo;have Hu:=za hu;have Hd:=za hd;have h1w:w.heap.size≤p1:=by omega
 obtain⟨R,AR⟩:∃ x,P.2.2=x:=⟨_,rfl⟩;have he:Hid (((Ad&&Ac)&&(!nm.isEmpty&&decide (nm.length≤64)))=R):=za (by rw[← ha,← hZ,← AR,← A1.out]);have A8:Hid (P=(nm,D,R)):=za (by rw[← AR];exact A0.out)
 have hn:∀ (V:World) (tm:Array Value),Fr NoB w8 V→tm.getD 2 undef = .pointer (some ⟨p1,0,none⟩)→tm.getD 3 undef = .bool R →
  bodyPost Tryz.prog Tryz.f144 (fun e w'=>e = .returned (.tuple #[.agg (j7 P.1 P.2.1).toArray,.bool P.2.2])∧Fr NoB w w') Exit.ret { tmps:=tm,defers:=[] } (V.setCells p1 0 CS):=fun V tm hV h2 h3=>by
  have AQ:=za3 Ag.out hV (jq hL) (fun _ h=>h);have A6:=run_loadVar_mid (P:=Tryz.prog) _ p1 0 164 CS d (World.rangeAt_setCells_same V p1 0 CS (by simpa using AQ)) Hu.out Hd.out h4.out;refine bodyPost_ret (v := .tuple #[.agg CS.toArray,.bool R]) ?_ rfl ⟨?_,(A9.out.trans' hV).trans (jd p1 CS 0 V) (fun k _ hm => .inr (by have h5:k=p1:=hm;omega))⟩
  ·rw[results_cell_tmp rfl,h2,h3];simp[asAddr,Result.andThen,A6]
  rw[A8.out,← BA.out]
 have Hfin:=za hn;have hR:=za (fun V (h:Fr NoB w8 V)=>za3 Ag.out h (jq hL) (fun _ h=>h));have hp42:p1<p4:=Ax;clear hn hg hy hX hW hL AS AH hp h0 Aw AP AO ha hZ AR hu hd Af A0 A1 Ag An Ao A2 AI hY Aq Ap AJ;obtain⟨be,A7⟩:∃ x,nm.isEmpty=x:=⟨_,rfl⟩;obtain⟨bl,At⟩:∃ x,decide (nm.length≤64)=x:=⟨_,rfl⟩;have hbl2:decide ((nm.length:Int)≤64)=bl:=by rw[← At];exact decide_eq_decide.2 (by omega)
 have Az:Hid (((Ad&&Ac)&&(!be&&bl))=R):=za (by rw[← A7,← At];exact he.out);clear he;have he:=Az;clear Az;cases Ad with
 | false =>
   refine wp_region_held_drew (S:=fun V=>Hid (Fr (fun k _=>k=p1) w8 V)∧V.cell? ⟨p4,0,none⟩=some (.string ⟨nm.toArray⟩)) (by kernel_rfl) ⟨za Fr.refl.drew,by simpa using hT.out⟩ (fun hA=>?_);simp only[qV];refine qi (i:=0) rfl (zj (by rfl) 164 _ rfl p4 0 rfl CS d (fun V h=>je HR.out h.1.out hl (fun _ h=>by have h2:p4=p1:=h;omega)) Hu.out Hd.out h4.out) hA ?_
   try simp only[Act.put,qP]
   refine qt (v:=?_) rfl (zv ⟨by rfl,?_⟩) hA ?_;rotate_left
   ·intro W hB;obtain⟨-,hJ⟩:=hB
    try simp only[qQ]
    go_simp
    try rw[if_neg (by omega)]
    try with_reducible rfl
   try simp only[Act.put,qP]
   refine qr (i:=2) (by kernel_rfl) rfl (fun K hK=>?_)
   try simp only[qQ]
   go_simp;refine(AG.out _ Fr.refl.drew).mono ?_;rintro r w9 ⟨rfl,hE⟩;refine hK.out _ _ ⟨za ((Fr.refl.drew).trans' (hE.mono (fun _ _ h=>h.elim))),Fr.cell hE (by simpa using hT.out)⟩ (fun hA=>?_);clear hK K
   try simp only[Act.put,qP]
   have hM:=za ((Fr.refl (M:=NoB) (w:=w8)).drew.trans' hE);clear hE
   iterate 15
    first
    | refine qt (v:=undef) rfl (Or.inr ⟨by rfl,rfl⟩) hA ?_
      try simp only[Act.put,qP]
    | refine qt (v:=?_) rfl (zv ⟨by rfl,?_⟩) hA ?_
      rotate_left
      ·intro W hB;obtain⟨-,hJ⟩:=hB
       try simp only[qQ]
       go_simp
       try rw[if_neg (by omega)]
       try with_reducible rfl
      try simp only[Act.put,qP]
   refine qr (i:=18) (by kernel_rfl) rfl (fun K hK=>?_)
   try simp only[qQ]
   rw[if_pos (by rfl)];refine wp_store_mid 164 (.tmp 2) (.tmp 19) (by rfl) p1 0 CS.toArray (by rfl) (by rfl) (hR.out _ hM.out) h6.out hh.out ?_;refine hK.out _ _ ⟨za (hA.1.out.trans' (jd _ _ _ _)),Fr.cell (jd _ _ _ _) hA.2 (fun _ h=>by have h2:p4=p1:=h;omega)⟩ (fun hA=>?_);clear hK K
   try simp only[Act.put,qP]
   refine qt (v:=?_) rfl (zv ⟨by rfl,?_⟩) hA ?_;rotate_left
   ·intro W hB;obtain⟨-,hJ⟩:=hB
    try simp only[qQ]
    go_simp
    try rw[if_neg (by omega)]
    try with_reducible rfl
   try simp only[Act.put,qP]
   refine wpAnyH_done (by kernel_rfl) ?_ _;clear hA;have hf:Hid (false=R):=za (by rw[← he.out];rfl)
   go_wp2_with fail
   refine Hfin.out _ _ hM.out ?_ ?_
   ·rfl
   exact congrArg Value.bool hf.out
 | true =>
   cases Ac with
   | false =>
     refine wp_region_held_drew (S:=fun V=>Hid (Fr (fun k _=>k=p1) w8 V)∧V.cell? ⟨p4,0,none⟩=some (.string ⟨nm.toArray⟩)) (by kernel_rfl) ⟨za Fr.refl.drew,by simpa using hT.out⟩ (fun hA=>?_);simp only[qV];refine qi (i:=0) rfl (zj (by rfl) 164 _ rfl p4 0 rfl CS d (fun V h=>je HR.out h.1.out hl (fun _ h=>by have h2:p4=p1:=h;omega)) Hu.out Hd.out h4.out) hA ?_
     try simp only[Act.put,qP]
     refine qt (v:=?_) rfl (zv ⟨by rfl,?_⟩) hA ?_;rotate_left
     ·intro W hB;obtain⟨-,hJ⟩:=hB
      try simp only[qQ]
      go_simp
      try rw[if_neg (by omega)]
      try with_reducible rfl
     try simp only[Act.put,qP]
     refine qr (i:=2) (by kernel_rfl) rfl (fun K hK=>?_)
     try simp only[qQ]
     go_simp;refine(AG.out _ Fr.refl.drew).mono ?_;rintro r w9 ⟨rfl,hE⟩;refine hK.out _ _ ⟨za ((Fr.refl.drew).trans' (hE.mono (fun _ _ h=>h.elim))),Fr.cell hE (by simpa using hT.out)⟩ (fun hA=>?_);clear hK K
     try simp only[Act.put,qP]
     have hM:=za ((Fr.refl (M:=NoB) (w:=w8)).drew.trans' hE);clear hE
     iterate 2
      refine qt (v:=?_) rfl (zv ⟨by rfl,?_⟩) hA ?_;rotate_left
      ·intro W hB;obtain⟨-,hJ⟩:=hB
       try simp only[qQ]
       go_simp
       try rw[if_neg (by omega)]
       try with_reducible rfl
      try simp only[Act.put,qP]
     refine qr (i:=5) (by kernel_rfl) rfl (fun K hK=>?_)
     try simp only[qQ]
     go_simp;refine(Ae.out _ hM.out).mono ?_;rintro r Al ⟨rfl,hC⟩;refine hK.out _ _ ⟨za (hA.1.out.trans' (hC.mono (fun _ _ h=>h.elim))),Fr.cell hC hA.2⟩ (fun hA=>?_);clear hK K
     try simp only[Act.put,qP]
     have hH:=za (hM.out.trans' hC);clear hC
     iterate 12
      first
      | refine qt (v:=undef) rfl (Or.inr ⟨by rfl,rfl⟩) hA ?_
        try simp only[Act.put,qP]
      | refine qt (v:=?_) rfl (zv ⟨by rfl,?_⟩) hA ?_
        rotate_left
        ·intro W hB;obtain⟨-,hJ⟩:=hB
         try simp only[qQ]
         go_simp
         try rw[if_neg (by omega)]
         try with_reducible rfl
        try simp only[Act.put,qP]
     refine qr (i:=18) (by kernel_rfl) rfl (fun K hK=>?_)
     try simp only[qQ]
     rw[if_pos (by rfl)];refine wp_store_mid 164 (.tmp 2) (.tmp 19) (by rfl) p1 0 CS.toArray (by rfl) (by rfl) (hR.out _ hH.out) h6.out hh.out ?_;refine hK.out _ _ ⟨za (hA.1.out.trans' (jd _ _ _ _)),Fr.cell (jd _ _ _ _) hA.2 (fun _ h=>by have h2:p4=p1:=h;omega)⟩ (fun hA=>?_);clear hK K
     try simp only[Act.put,qP]
     refine qt (v:=?_) rfl (zv ⟨by rfl,?_⟩) hA ?_;rotate_left
     ·intro W hB;obtain⟨-,hJ⟩:=hB
      try simp only[qQ]
      go_simp
      try rw[if_neg (by omega)]
      try with_reducible rfl
     try simp only[Act.put,qP]
     refine wpAnyH_done (by kernel_rfl) ?_ _;clear hA;have hf:Hid (false=R):=za (by rw[← he.out];rfl)
     go_wp2_with fail
     refine Hfin.out _ _ hH.out ?_ ?_
     ·rfl
     exact congrArg Value.bool hf.out
   | true =>
     cases be with
     | true =>
       refine wp_region_held_drew (S:=fun V=>Hid (Fr (fun k _=>k=p1) w8 V)∧V.cell? ⟨p4,0,none⟩=some (.string ⟨nm.toArray⟩)) (by kernel_rfl) ⟨za Fr.refl.drew,by simpa using hT.out⟩ (fun hA=>?_);simp only[qV];refine qi (i:=0) rfl (zj (by rfl) 164 _ rfl p4 0 rfl CS d (fun V h=>je HR.out h.1.out hl (fun _ h=>by have h2:p4=p1:=h;omega)) Hu.out Hd.out h4.out) hA ?_
       try simp only[Act.put,qP]
       refine qt (v:=?_) rfl (zv ⟨by rfl,?_⟩) hA ?_;rotate_left
       ·intro W hB;obtain⟨-,hJ⟩:=hB
        try simp only[qQ]
        go_simp
        try rw[if_neg (by omega)]
        try with_reducible rfl
       try simp only[Act.put,qP]
       refine qr (i:=2) (by kernel_rfl) rfl (fun K hK=>?_)
       try simp only[qQ]
       go_simp;refine(AG.out _ Fr.refl.drew).mono ?_;rintro r w9 ⟨rfl,hE⟩;refine hK.out _ _ ⟨za ((Fr.refl.drew).trans' (hE.mono (fun _ _ h=>h.elim))),Fr.cell hE (by simpa using hT.out)⟩ (fun hA=>?_);clear hK K
       try simp only[Act.put,qP]
       have hM:=za ((Fr.refl (M:=NoB) (w:=w8)).drew.trans' hE);clear hE
       iterate 2
        refine qt (v:=?_) rfl (zv ⟨by rfl,?_⟩) hA ?_;rotate_left
        ·intro W hB;obtain⟨-,hJ⟩:=hB
         try simp only[qQ]
         go_simp
         try rw[if_neg (by omega)]
         try with_reducible rfl
        try simp only[Act.put,qP]
       refine qr (i:=5) (by kernel_rfl) rfl (fun K hK=>?_)
       try simp only[qQ]
       go_simp;refine(Ae.out _ hM.out).mono ?_;rintro r Al ⟨rfl,hC⟩;refine hK.out _ _ ⟨za (hA.1.out.trans' (hC.mono (fun _ _ h=>h.elim))),Fr.cell hC hA.2⟩ (fun hA=>?_);clear hK K
       try simp only[Act.put,qP]
       have hH:=za (hM.out.trans' hC);clear hC
       iterate 12
        first
        | refine qt (v:=undef) rfl (Or.inr ⟨by rfl,rfl⟩) hA ?_
          try simp only[Act.put,qP]
        | refine qt (v:=?_) rfl (zv ⟨by rfl,?_⟩) hA ?_
          rotate_left
          ·intro W hB;obtain⟨-,hJ⟩:=hB
           try simp only[qQ]
           go_simp
           try rw[if_neg (by omega)]
           try with_reducible rfl
          try simp only[Act.put,qP]
       refine qr (i:=18) (by kernel_rfl) rfl (fun K hK=>?_)
       try simp only[qQ]
       rw[if_pos (by rfl)];refine wp_store_mid 164 (.tmp 2) (.tmp 19) (by rfl) p1 0 CS.toArray (by rfl) (by rfl) (hR.out _ hH.out) h6.out hh.out ?_;refine hK.out _ _ ⟨za (hA.1.out.trans' (jd _ _ _ _)),Fr.cell (jd _ _ _ _) hA.2 (fun _ h=>by have h2:p4=p1:=h;omega)⟩ (fun hA=>?_);clear hK K
       try simp only[Act.put,qP]
       refine qt (v:=?_) rfl (zv ⟨by rfl,?_⟩) hA ?_;rotate_left
       ·intro W hB;obtain⟨-,hJ⟩:=hB
        try simp only[qQ]
        go_simp
        try rw[if_neg (by omega)]
        try with_reducible rfl
       try simp only[Act.put,qP]
       refine wpAnyH_done (by kernel_rfl) ?_ _;clear hA;have hf:Hid (false=R):=za (by rw[← he.out];rfl)
       go_wp2_with fail
       refine Hfin.out _ _ hH.out ?_ ?_
       ·rfl
       exact congrArg Value.bool hf.out
     | false =>
       refine wp_region_held_drew (S:=fun V=>Hid (Fr (fun k _=>k=p1) w8 V)∧V.cell? ⟨p4,0,none⟩=some (.string ⟨nm.toArray⟩)) (by kernel_rfl) ⟨za Fr.refl.drew,by simpa using hT.out⟩ (fun hA=>?_);simp only[qV];refine qi (i:=0) rfl (zj (by rfl) 164 _ rfl p4 0 rfl CS d (fun V h=>je HR.out h.1.out hl (fun _ h=>by have h2:p4=p1:=h;omega)) Hu.out Hd.out h4.out) hA ?_
       try simp only[Act.put,qP]
       refine qt (v:=?_) rfl (zv ⟨by rfl,?_⟩) hA ?_;rotate_left
       ·intro W hB;obtain⟨-,hJ⟩:=hB
        try simp only[qQ]
        go_simp
        try rw[if_neg (by omega)]
        try with_reducible rfl
       try simp only[Act.put,qP]
       refine qr (i:=2) (by kernel_rfl) rfl (fun K hK=>?_)
       try simp only[qQ]
       go_simp;refine(AG.out _ Fr.refl.drew).mono ?_;rintro r w9 ⟨rfl,hE⟩;refine hK.out _ _ ⟨za ((Fr.refl.drew).trans' (hE.mono (fun _ _ h=>h.elim))),Fr.cell hE (by simpa using hT.out)⟩ (fun hA=>?_);clear hK K
       try simp only[Act.put,qP]
       have hM:=za ((Fr.refl (M:=NoB) (w:=w8)).drew.trans' hE);clear hE
       iterate 2
        refine qt (v:=?_) rfl (zv ⟨by rfl,?_⟩) hA ?_;rotate_left
        ·intro W hB;obtain⟨-,hJ⟩:=hB
         try simp only[qQ]
         go_simp
         try rw[if_neg (by omega)]
         try with_reducible rfl
        try simp only[Act.put,qP]
       refine qr (i:=5) (by kernel_rfl) rfl (fun K hK=>?_)
       try simp only[qQ]
       go_simp;refine(Ae.out _ hM.out).mono ?_;rintro r Al ⟨rfl,hC⟩;refine hK.out _ _ ⟨za (hA.1.out.trans' (hC.mono (fun _ _ h=>h.elim))),Fr.cell hC hA.2⟩ (fun hA=>?_);clear hK K
       try simp only[Act.put,qP]
       have hH:=za (hM.out.trans' hC);clear hC
       iterate 12
        refine qt (v:=?_) rfl (zv ⟨by rfl,?_⟩) hA ?_;rotate_left
        ·intro W hB;obtain⟨-,hJ⟩:=hB
         try simp only[qQ]
         go_simp
         try rw[if_neg (by omega)]
         try with_reducible rfl
        try simp only[Act.put,qP]
       refine qr (i:=18) (by kernel_rfl) rfl (fun K hK=>?_)
       try simp only[qQ]
       rw[if_pos (by rfl)];refine wp_store_mid 164 (.tmp 2) (.tmp 19) (by rfl) p1 0 CS.toArray (by rfl) (by rfl) (hR.out _ hH.out) h6.out hh.out ?_;refine hK.out _ _ ⟨za (hA.1.out.trans' (jd _ _ _ _)),Fr.cell (jd _ _ _ _) hA.2 (fun _ h=>by have h2:p4=p1:=h;omega)⟩ (fun hA=>?_);clear hK K
       try simp only[Act.put,qP]
       refine qt (v:=?_) rfl (zv ⟨by rfl,?_⟩) hA ?_;rotate_left
       ·intro W hB;obtain⟨-,hJ⟩:=hB
        try simp only[qQ]
        go_simp
        try rw[if_neg (by omega)]
        try with_reducible rfl
       try simp only[Act.put,qP]
       refine wpAnyH_done (by kernel_rfl) ?_ _;clear hA;have hf:Hid (bl=R):=za (by rw[← he.out];rfl)
       go_wp2_with fail
       refine Hfin.out _ _ hH.out ?_ ?_
       ·rfl
       exact congrArg Value.bool hf.out
end Go.Proofs.YtcddlemkimbkcaaGreatDoor
