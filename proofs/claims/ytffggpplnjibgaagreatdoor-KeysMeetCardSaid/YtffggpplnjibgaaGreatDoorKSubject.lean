/-
 The walk of entry.subject.
-/
import Derived.Test.YtffggpplnjibgaaGreatDoorKFields
import Derived.Great.Walk
open Go.Lib renaming hid→zi
open Go.World renaming size_alloc→zm
open Go renaming heap_alloc_new→zo,yieldsIf_load_mid→zr
open List renaming size_toArray→zw
open Or renaming inl→jc
open Go.Value renaming int→jf
open Go.IntKind renaming u8→jg
namespace Go.Proofs.YtffggpplnjibgaaGreatDoor
set_option linter.unusedVariables false
set_option linter.unusedSimpArgs false
set_option linter.unusedSectionVars false
set_option maxRecDepth 100000
set_option maxHeartbeats 4000000
open Go.RowKit
variable [OldK]
theorem zu9 (l:Bs)(h:l.length=32):∃ x0 x1 x2 x3 x4 x5 x6 x7 x8 x9 x10 x11 x12 x13 x14 x15 x16 x17 x18 x19 x20 x21 x22 x23 x24 x25 x26 x27 x28 x29 x30 x31:UInt8,l=[x0,x1,x2,x3,x4,x5,x6,x7,x8,x9,x10,x11,x12,x13,x14,x15,x16,x17,x18,x19,x20,x21,x22,x23,x24,x25,x26,x27,x28,x29,x30,x31]:=by
 match l,h with
 | [x0,x1,x2,x3,x4,x5,x6,x7,x8,x9,x10,x11,x12,x13,x14,x15,x16,x17,x18,x19,x20,x21,x22,x23,x24,x25,x26,x27,x28,x29,x30,x31],_=>exact⟨x0,x1,x2,x3,x4,x5,x6,x7,x8,x9,x10,x11,x12,x13,x14,x15,x16,x17,x18,x19,x20,x21,x22,x23,x24,x25,x26,x27,x28,x29,x30,x31,rfl⟩
def j9 (nm D:Bs):List Value := .string ⟨nm.toArray⟩ :: Lib.byteCells D
theorem zmd (nm D:Bs)(h:D.length=32):Tryz.prog.built 79 [(0,.string ⟨nm.toArray⟩),(1,.agg (Lib.byteCells D).toArray)]=some (j9 nm D).toArray:=by
 obtain⟨x0,x1,x2,x3,x4,x5,x6,x7,x8,x9,x10,x11,x12,x13,x14,x15,x16,x17,x18,x19,x20,x21,x22,x23,x24,x25,x26,x27,x28,x29,x30,x31,rfl⟩:=zu9 D h
 kernel_rfl
theorem zfd (nm D:Bs)(h:D.length=32):Tryz.prog.builtSlice 79 1 [(0,.agg (j9 nm D).toArray)]=some (j9 nm D).toArray:=by
 obtain⟨x0,x1,x2,x3,x4,x5,x6,x7,x8,x9,x10,x11,x12,x13,x14,x15,x16,x17,x18,x19,x20,x21,x22,x23,x24,x25,x26,x27,x28,x29,x30,x31,rfl⟩:=zu9 D h
 kernel_rfl
theorem zad:(Tryz.prog.info? 79).map (·.size)=some 33:=by kernel_rfl
theorem zc2:∃ d,Tryz.prog.underlying 79=some d∧d.isRow=true:=⟨_,Tryz.underlying79,rfl⟩
theorem zap {nm D:Bs}(h:D.length=32):(j9 nm D).length=33:=by simp[j9,jm,h]
theorem zcc (nm D:Bs):(j9 nm D).toArray.all (·.oneCell')=true:=by
 refine all_oneCell_toArray (fun v hv=>?_);unfold j9 at hv;rcases List.mem_cons.1 hv with rfl | hv
 ·rfl
 exact qv _ _ hv
theorem zot (f:Fd)(nm:Bs):(zs4 f nm).1.length=32:=by
 unfold zs4;cases hR:zkb (zaz f nm).1 with
 | none=>rfl
 | some r=>exact((zhv _ r).1 hR).2
theorem FB.other {S:Nat→Prop}{b b':Nat}{f:Fd}{w w':World}(h:FB S b f w)(hF:Fr (MFd b') w w')(hk:OldK.k≤b')(hne:b≠b'):FB S b f w':=by
 obtain⟨hb,a1,n1,a2,n2,h1,h2⟩:=h;exact⟨hb,a1,n1,a2,n2,hF.block _ _ h1 (fun h=>hne h.1),h2.fd hk hF⟩
theorem zh8 (S:Nat→Prop) (j:J) (v:Value) (w:World) (h:RJ S w j v) (hfit:Fits j) (hk:OldK.k≤w.heap.size) :
 Calls Tryz.prog 104 #[v] w fun e w'=>e = .returned (.tuple #[.agg (j9 (j6 j).1 (j6 j).2.1).toArray,.bool (j6 j).2.2])∧Fr NoB w w':=by
 have hj:=h;obtain⟨kk,n,t,l,q⟩:=j;unfold RJ at h;obtain⟨b1,d1,b2,d2,rfl,-,-⟩:=h;have Ab:=zo w (.cells #[.int .i64 kk,.int .i64 n,.string ⟨t.toArray⟩,.slice b1 l.length d1,.slice b2 q.length d2] 65);obtain⟨w1,AC⟩:∃ w1,w.alloc (.cells #[.int .i64 kk,.int .i64 n,.string ⟨t.toArray⟩,.slice b1 l.length d1,.slice b2 q.length d2] 65)=w1:=⟨_,rfl⟩;have A5:w1.heap.size=w.heap.size+1:=by rw[← AC,zm]
 have Av:Fr NoB w w1:=by rw[← AC];exact Fr.refl.alloc _
 rw[AC]at Ab;have Aa:=zo w1 (.cells #[.string ⟨#[]⟩,jf jg 0,jf jg 0,jf jg 0,jf jg 0,jf jg 0,jf jg 0,jf jg 0,jf jg 0,jf jg 0,jf jg 0,jf jg 0,jf jg 0,jf jg 0,jf jg 0,jf jg 0,jf jg 0,jf jg 0,jf jg 0,jf jg 0,jf jg 0,jf jg 0,jf jg 0,jf jg 0,jf jg 0,jf jg 0,jf jg 0,jf jg 0,jf jg 0,jf jg 0,jf jg 0,jf jg 0,jf jg 0] 79);obtain⟨w2,AB⟩:∃ w2,w1.alloc (.cells #[.string ⟨#[]⟩,jf jg 0,jf jg 0,jf jg 0,jf jg 0,jf jg 0,jf jg 0,jf jg 0,jf jg 0,jf jg 0,jf jg 0,jf jg 0,jf jg 0,jf jg 0,jf jg 0,jf jg 0,jf jg 0,jf jg 0,jf jg 0,jf jg 0,jf jg 0,jf jg 0,jf jg 0,jf jg 0,jf jg 0,jf jg 0,jf jg 0,jf jg 0,jf jg 0,jf jg 0,jf jg 0,jf jg 0,jf jg 0] 79)=w2:=⟨_,rfl⟩;have A4:w2.heap.size=w1.heap.size+1:=by rw[← AB,zm]
 have AW:Fr NoB w1 w2:=by rw[← AB];exact Fr.refl.alloc _
 rw[AB]at Aa;have AZ:=zo w2 (.cells #[.int .i64 kk,.int .i64 n,.string ⟨t.toArray⟩,.slice b1 l.length d1,.slice b2 q.length d2,.int .i64 0,.bool false] 120);obtain⟨w3,AA⟩:∃ w3,w2.alloc (.cells #[.int .i64 kk,.int .i64 n,.string ⟨t.toArray⟩,.slice b1 l.length d1,.slice b2 q.length d2,.int .i64 0,.bool false] 120)=w3:=⟨_,rfl⟩;have A3:w3.heap.size=w2.heap.size+1:=by rw[← AA,zm]
 have AV:Fr NoB w2 w3:=by rw[← AA];exact Fr.refl.alloc _
 rw[AA]at AZ;have hF:=(Av.trans' AW).trans' AV;obtain⟨c0,c1,c2,c3,c4,-,-⟩:=VB.at (AW.block _ _ Ab (fun h=>h));have Ar:FB S w2.heap.size ⟨.mk kk n t l q,0,false⟩ w3:=⟨by omega,b1,d1,b2,d2,AZ,RJ.kp (Kp.ofFr hF) _ _ hj⟩;have hW:=zg8 S _ _ zah 5 w3 Ar hfit.1 ⟨Int.le_refl 0,show(0:Int)≤1000 by decide⟩;have AM:=Fits.get (f:=⟨.mk kk n t l q,0,false⟩) (nm:=zah) (k:=5) hfit;have AL:=zbu ⟨.mk kk n t l q,0,false⟩ zah 5;obtain⟨P,hP⟩:∃ P,j6 (.mk kk n t l q)=P:=⟨_,rfl⟩;rw[hP];unfold j6 at hP;obtain⟨G,hG⟩:∃ G,(zbg ⟨.mk kk n t l q,0,false⟩ zah 5).1=G:=⟨_,rfl⟩;obtain⟨f1,AD⟩:∃ f,(zbg ⟨.mk kk n t l q,0,false⟩ zah 5).2=f:=⟨_,rfl⟩;simp only[hG,AD]at hP;obtain⟨gk,gn,gt,gl,gq⟩:=G;rw[hG,AD]at hW AM;rw[AD]at AL;have HP:=zi hP;have Hget:=zi hW;have HF:=zi hF;have Ak:=zi (AV.block _ _ Aa (fun h=>h));have Ay:=zi AM;have Hgs:=zi AL;have Hfit:=zi hfit;have hO:OldK.k≤w2.heap.size:=by omega
 clear hP hW hF Av AW AV Ab Aa AZ hj Ar AM AL hfit hG AD;go_enter Tryz.func104,Tryz.ntmps104
 go_upto_region 2 with(fail)
 change Code.wp _ _ _ _ w3;clear AC AB AA c0 c1 c2 c3 c4;obtain⟨p1,Aq⟩:∃ p,w.heap.size+1=p:=⟨_,rfl⟩;obtain⟨p2,Ap⟩:∃ p,p1+1=p:=⟨_,rfl⟩;rw[Aq,Ap];rw[show w1.heap.size=p1 by omega]at Ak;rw[show w2.heap.size=p2 by omega]at Hget hO;have AI:w3.heap.size=p2+1:=by omega
 have A2:w.heap.size<p1:=by omega
 clear A5 A4 A3
 go_wp2_with fail
 refine Hget.out.mono ?_;rintro e w4 ⟨x,rfl,hx,hw,AU⟩;have Am:=hx;unfold RJ at hx;obtain⟨x1,y1,x2,y2,rfl,-,-⟩:=hx;have AY:=zo w4 (.cells #[.int .i64 gk,.int .i64 gn,.string ⟨gt.toArray⟩,.slice x1 gl.length y1,.slice x2 gq.length y2,.int .i64 0,.bool false] 120);obtain⟨w5,h9⟩:∃ w5,w4.alloc (.cells #[.int .i64 gk,.int .i64 gn,.string ⟨gt.toArray⟩,.slice x1 gl.length y1,.slice x2 gq.length y2,.int .i64 0,.bool false] 120)=w5:=⟨_,rfl⟩;have An:w5.heap.size=w4.heap.size+1:=by rw[← h9,zm]
 have AF:Fr NoB w4 w5:=by rw[← h9];exact Fr.refl.alloc _
 rw[h9]at AY;have Ao:=AU.size;have hs:FB S w4.heap.size ⟨.mk gk gn gt gl gq,0,false⟩ w5:=⟨by omega,x1,y1,x2,y2,AY,RJ.kp (Kp.ofFr AF) _ _ Am⟩
 have hZ:f1.j = .mk kk n t l q∧0≤f1.seen∧f1.seen≤1:=by
  obtain⟨h1,h2⟩:=Hgs.out;refine⟨h1,?_⟩;rcases h2 with h2 | h2
  ·rw[h2];exact⟨by decide,by decide⟩
  rw[h2];exact⟨by decide,by decide⟩
 have hT:=zks S p2 f1 zfm w5 (hw.fr AF) (by rw[hZ.1];exact Hfit.out) ⟨hZ.2.1,by omega⟩;have Htext:=zi hT;have he:=zi hs;have Aj:=zi AU;have Ai:=zi AF;clear hT hs AU AF AY Am hw Hget
 go_upto_region 3 with(fail)
 change Code.wp _ _ _ _ w5;obtain⟨p3,AJ⟩:∃ p,w4.heap.size=p:=⟨_,rfl⟩;rw[AJ]at he An Ao;rw[AJ];clear h9;have h23:p2<p3:=by omega
 obtain⟨nm,AK⟩:∃ x,(zaz f1 zfm).1=x:=⟨_,rfl⟩;obtain⟨f2,AN⟩:∃ x,(zaz f1 zfm).2=x:=⟨_,rfl⟩;rw[AK,AN]at Htext;have hP:=HP.out;rw[AK,AN]at hP;have hJ:=fun W h=>zx6 S p3 ⟨.mk gk gn gt gl gq,0,false⟩ zbb W h Ay.out.1 ⟨Int.le_refl 0,show(0:Int)≤1000 by decide⟩
 have hR:=zot ⟨.mk gk gn gt gl gq,0,false⟩ zbb;obtain⟨D,hD⟩:∃ x,(zs4 ⟨.mk gk gn gt gl gq,0,false⟩ zbb).1=x:=⟨_,rfl⟩;obtain⟨f3,As⟩:∃ x,(zs4 ⟨.mk gk gn gt gl gq,0,false⟩ zbb).2=x:=⟨_,rfl⟩;rw[hD]at hJ hR hP;simp only[As]at hJ hP;have A1:=zi hP;have Hsum:=zi hJ;have Hbuilt:=zi (zmd nm D hR);have h8:=zi (zap (nm:=nm) hR);have hi:=zi (zcc nm D);obtain⟨CS,hz⟩:∃ x,j9 nm D=x:=⟨_,rfl⟩;obtain⟨CD,AX⟩:∃ x,Lib.byteCells D=x:=⟨_,rfl⟩;have Aw:CS[0]? = some (.string ⟨nm.toArray⟩):=by rw[← hz];rfl
 have A0:Hid (P=(nm,D,P.2.2)):=zi (by rw[← hP]);rw[hz]at h8 hi;rw[hz,AX]at Hbuilt;simp only[AX]at Hsum;have BA:=zi hz;clear hP hJ hD As AK AN HP hz AX hR Ay Hgs
 go_wp2_with fail
 refine Htext.out.mono ?_;rintro e w6 ⟨rfl,hv,AT⟩;have hr:=he.out.other AT hO (by omega);have h7:=zi hv;have Ah:=zi AT;have hl:=zi (Hsum.out w6 hr);clear hv AT hr he Hsum Htext
 go_wp2_with fail
 refine hl.out.mono ?_;rintro e w7 ⟨rfl,hq,AE⟩;have ht:=h7.out.other AE (by omega) (by omega)
 -- the subject's block
 have hN:=zo w7 (.cells #[.string ⟨#[]⟩,jf jg 0,jf jg 0,jf jg 0,jf jg 0,jf jg 0,jf jg 0,jf jg 0,jf jg 0,jf jg 0,jf jg 0,jf jg 0,jf jg 0,jf jg 0,jf jg 0,jf jg 0,jf jg 0,jf jg 0,jf jg 0,jf jg 0,jf jg 0,jf jg 0,jf jg 0,jf jg 0,jf jg 0,jf jg 0,jf jg 0,jf jg 0,jf jg 0,jf jg 0,jf jg 0,jf jg 0,jf jg 0] 79);have Af:=zi (qa hN (n:=CS.toArray.size) (by rw[zw,h8.out];show 33≤33;omega));have hh:Fr NoB w7 ((w7.alloc (.cells #[.string ⟨#[]⟩,jf jg 0,jf jg 0,jf jg 0,jf jg 0,jf jg 0,jf jg 0,jf jg 0,jf jg 0,jf jg 0,jf jg 0,jf jg 0,jf jg 0,jf jg 0,jf jg 0,jf jg 0,jf jg 0,jf jg 0,jf jg 0,jf jg 0,jf jg 0,jf jg 0,jf jg 0,jf jg 0,jf jg 0,jf jg 0,jf jg 0,jf jg 0,jf jg 0,jf jg 0,jf jg 0,jf jg 0,jf jg 0] 79)).setCells w7.heap.size 0 CS):=((Fr.refl (M:=NoB)).alloc _).trans (jr _ _ _ _) (fun k _ hm => .inr (by omega));have hy:=World.rangeAt_setCells_same (w7.alloc (.cells #[.string ⟨#[]⟩,jf jg 0,jf jg 0,jf jg 0,jf jg 0,jf jg 0,jf jg 0,jf jg 0,jf jg 0,jf jg 0,jf jg 0,jf jg 0,jf jg 0,jf jg 0,jf jg 0,jf jg 0,jf jg 0,jf jg 0,jf jg 0,jf jg 0,jf jg 0,jf jg 0,jf jg 0,jf jg 0,jf jg 0,jf jg 0,jf jg 0,jf jg 0,jf jg 0,jf jg 0,jf jg 0,jf jg 0,jf jg 0] 79)) w7.heap.size 0 CS (by simpa using Af.out)
 have Au:Fr NoB w w7:=by
  have h1:Fr (fun k _=>k=p2∨k=p3) w3 w7:=((((Aj.out.mono (fun _ _ h => .inl h.1)).trans' (Ai.out.mono (fun _ _ h=>h.elim))).trans' (Ah.out.mono (fun _ _ h => .inl h.1))).trans' (AE.mono (fun _ _ h => .inr h.1)));exact HF.out.trans h1 (fun k _ hm => .inr (by rcases hm with h | h<;>omega))
 have hc:w7.heap[p1]? = some (.cells #[.string ⟨#[]⟩,jf jg 0,jf jg 0,jf jg 0,jf jg 0,jf jg 0,jf jg 0,jf jg 0,jf jg 0,jf jg 0,jf jg 0,jf jg 0,jf jg 0,jf jg 0,jf jg 0,jf jg 0,jf jg 0,jf jg 0,jf jg 0,jf jg 0,jf jg 0,jf jg 0,jf jg 0,jf jg 0,jf jg 0,jf jg 0,jf jg 0,jf jg 0,jf jg 0,jf jg 0,jf jg 0,jf jg 0,jf jg 0] 79 (0,0)):=by
  have h1:Fr (fun k _=>k=p2∨k=p3) w3 w7:=((((Aj.out.mono (fun _ _ h => .inl h.1)).trans' (Ai.out.mono (fun _ _ h=>h.elim))).trans' (Ah.out.mono (fun _ _ h => .inl h.1))).trans' (AE.mono (fun _ _ h => .inr h.1)));exact h1.block _ _ Ak.out (by omega)
 have Ax:p1<w7.heap.size:=ju hc;have h6:Hid ((Tryz.prog.info? 79).map (·.size)=some CS.toArray.size):=zi (by rw[zad,zw,h8.out]);have h4:Hid ((Tryz.prog.info? 79).map (·.size)=some CS.length):=zi (by rw[zad,h8.out]);have hY:=ht.fr hh;have hX:=hq.fr hh;have hM:=hh.block _ _ hc (fun h=>h);have AS:=Au.trans' hh;clear ht hq AE hN Au hc h7 Aj Ai Ah HF Ak hl
 go_upto_region 4 with(first
  | ((with_reducible refine wpList_buildTo ?_ 79 _ rfl _ rfl CS.toArray ?_ ?_);rfl;(refine Eq.trans (congrArg (Tryz.prog.built 79) ?_) Hbuilt.out;kernel_rfl))
  | (with_reducible refine wpList_store_mid rfl 79 _ _ rfl w7.heap.size 0 CS.toArray rfl rfl Af.out h6.out hi.out ?_))
 change Code.wp _ _ _ _ ((w7.alloc (.cells #[.string ⟨#[]⟩,jf jg 0,jf jg 0,jf jg 0,jf jg 0,jf jg 0,jf jg 0,jf jg 0,jf jg 0,jf jg 0,jf jg 0,jf jg 0,jf jg 0,jf jg 0,jf jg 0,jf jg 0,jf jg 0,jf jg 0,jf jg 0,jf jg 0,jf jg 0,jf jg 0,jf jg 0,jf jg 0,jf jg 0,jf jg 0,jf jg 0,jf jg 0,jf jg 0,jf jg 0,jf jg 0,jf jg 0,jf jg 0] 79)).setCells w7.heap.size 0 CS);obtain⟨w8,AH⟩:∃ W,(w7.alloc (.cells #[.string ⟨#[]⟩,jf jg 0,jf jg 0,jf jg 0,jf jg 0,jf jg 0,jf jg 0,jf jg 0,jf jg 0,jf jg 0,jf jg 0,jf jg 0,jf jg 0,jf jg 0,jf jg 0,jf jg 0,jf jg 0,jf jg 0,jf jg 0,jf jg 0,jf jg 0,jf jg 0,jf jg 0,jf jg 0,jf jg 0,jf jg 0,jf jg 0,jf jg 0,jf jg 0,jf jg 0,jf jg 0,jf jg 0,jf jg 0] 79)).setCells w7.heap.size 0 CS=W:=⟨_,rfl⟩
 have hn:w7.heap.size<w8.heap.size:=by
  rw[← AH];exact Nat.lt_of_lt_of_le (by rw[zm];omega) (jr (w7.heap.size) CS 0 (w7.alloc _)).size
 rw[AH]at hh hy hY hX hM AS ⊢;obtain⟨p4,hp⟩:∃ p,w7.heap.size=p:=⟨_,rfl⟩;rw[hp]at hy hn Ax;rw[hp];have h0:w8.cell? ⟨p4,0,none⟩=some (.string ⟨nm.toArray⟩):=hy 0 _ Aw;have hU:=zi h0;have HR:=zi hy;have A9:=zi AS;have Ag:=zi (qa hM (n:=CS.toArray.size) (by rw[zw,h8.out];show 33≤33;omega));obtain⟨Ad,hb⟩:∃ x,zfx f2=x:=⟨_,rfl⟩;obtain⟨Ac,ha⟩:∃ x,zfx f3=x:=⟨_,rfl⟩;have AP:=fun V (h:Fr NoB w8 V)=>ziy S p2 f2 V (hY.fr h)
 have AO:=fun V (h:Fr NoB w8 V)=>ziy S p3 f3 V (hX.fr h)
 rw[hb]at AP;rw[ha]at AO;have AG:=zi AP;have Ae:=zi AO;obtain⟨d,hu,hd⟩:=zc2;have Hu:=zi hu;have Hd:=zi hd;have h1w:w.heap.size≤p1:=by omega
 obtain⟨R,AR⟩:∃ x,P.2.2=x:=⟨_,rfl⟩;have hf:Hid (((Ad&&Ac)&&(!nm.isEmpty&&decide (nm.length≤64)))=R):=zi (by rw[← hb,← ha,← AR,← A1.out]);have A8:Hid (P=(nm,D,R)):=zi (by rw[← AR];exact A0.out)
 have ho:∀ (V:World) (tm:Array Value),Fr NoB w8 V→tm.getD 2 undef = .pointer (some ⟨p1,0,none⟩)→tm.getD 3 undef = .bool R →
  bodyPost Tryz.prog Tryz.f104 (fun e w'=>e = .returned (.tuple #[.agg (j9 P.1 P.2.1).toArray,.bool P.2.2])∧Fr NoB w w') Exit.ret { tmps:=tm,defers:=[] } (V.setCells p1 0 CS):=fun V tm hV h2 h3=>by
  have AQ:=zhu Ag.out hV (ju hM) (fun _ h=>h);have A6:=run_loadVar_mid (P:=Tryz.prog) _ p1 0 79 CS d (World.rangeAt_setCells_same V p1 0 CS (by simpa using AQ)) Hu.out Hd.out h4.out;refine bodyPost_ret (v := .tuple #[.agg CS.toArray,.bool R]) ?_ rfl ⟨?_,(A9.out.trans' hV).trans (jr p1 CS 0 V) (fun k _ hm => .inr (by have h5:k=p1:=hm;omega))⟩
  ·rw[results_cell_tmp rfl,h2,h3];simp[asAddr,Result.andThen,A6]
  rw[A8.out,← BA.out]
 have Hfin:=zi ho;have hS:=zi (fun V (h:Fr NoB w8 V)=>zhu Ag.out h (ju hM) (fun _ h=>h));have hp42:p1<p4:=Ax;clear ho hh hy hY hX hM AS AH hp h0 Aw AP AO hb ha AR hu hd Af A0 A1 Ag An Ao A2 AI hZ Aq Ap AJ;obtain⟨be,A7⟩:∃ x,nm.isEmpty=x:=⟨_,rfl⟩;obtain⟨bl,At⟩:∃ x,decide (nm.length≤64)=x:=⟨_,rfl⟩;have hbl2:decide ((nm.length:Int)≤64)=bl:=by rw[← At];exact decide_eq_decide.2 (by omega)
 have Az:Hid (((Ad&&Ac)&&(!be&&bl))=R):=zi (by rw[← A7,← At];exact hf.out);clear hf;have hf:=Az;clear Az;cases Ad with
 | false =>
   refine wp_region_held_drew (S:=fun V=>Hid (Fr (fun k _=>k=p1) w8 V)∧V.cell? ⟨p4,0,none⟩=some (.string ⟨nm.toArray⟩)) (by kernel_rfl) ⟨zi Fr.refl.drew,by simpa using hU.out⟩ (fun hB=>?_);simp only[qV];refine qi (i:=0) rfl (zr (by rfl) 79 _ rfl p4 0 rfl CS d (fun V h=>j0 HR.out h.1.out hn (fun _ h=>by have h2:p4=p1:=h;omega)) Hu.out Hd.out h4.out) hB ?_
   try simp only[Act.put,qP]
   refine qt (v:=?_) rfl (jc ⟨by rfl,?_⟩) hB ?_;rotate_left
   ·intro W hC;obtain⟨-,hL⟩:=hC
    try simp only[qQ]
    go_simp
    try rw[if_neg (by omega)]
    try with_reducible rfl
   try simp only[Act.put,qP]
   refine qr (i:=2) (by kernel_rfl) rfl (fun K hK=>?_)
   try simp only[qQ]
   go_simp;refine(AG.out _ Fr.refl.drew).mono ?_;rintro r w9 ⟨rfl,hH⟩;refine hK.out _ _ ⟨zi ((Fr.refl.drew).trans' (hH.mono (fun _ _ h=>h.elim))),Fr.cell hH (by simpa using hU.out)⟩ (fun hB=>?_);clear hK K
   try simp only[Act.put,qP]
   have hQ:=zi ((Fr.refl (M:=NoB) (w:=w8)).drew.trans' hH);clear hH
   iterate 15
    first
    | refine qt (v:=undef) rfl (Or.inr ⟨by rfl,rfl⟩) hB ?_
      try simp only[Act.put,qP]
    | refine qt (v:=?_) rfl (jc ⟨by rfl,?_⟩) hB ?_
      rotate_left
      ·intro W hC;obtain⟨-,hL⟩:=hC
       try simp only[qQ]
       go_simp
       try rw[if_neg (by omega)]
       try with_reducible rfl
      try simp only[Act.put,qP]
   refine qr (i:=18) (by kernel_rfl) rfl (fun K hK=>?_)
   try simp only[qQ]
   rw[if_pos (by rfl)];refine wp_store_mid 79 (.tmp 2) (.tmp 19) (by rfl) p1 0 CS.toArray (by rfl) (by rfl) (hS.out _ hQ.out) h6.out hi.out ?_;refine hK.out _ _ ⟨zi (hB.1.out.trans' (jr _ _ _ _)),Fr.cell (jr _ _ _ _) hB.2 (fun _ h=>by have h2:p4=p1:=h;omega)⟩ (fun hB=>?_);clear hK K
   try simp only[Act.put,qP]
   refine qt (v:=?_) rfl (jc ⟨by rfl,?_⟩) hB ?_;rotate_left
   ·intro W hC;obtain⟨-,hL⟩:=hC
    try simp only[qQ]
    go_simp
    try rw[if_neg (by omega)]
    try with_reducible rfl
   try simp only[Act.put,qP]
   refine wpAnyH_done (by kernel_rfl) ?_ _;clear hB;have hg:Hid (false=R):=zi (by rw[← hf.out];rfl)
   go_wp2_with fail
   refine Hfin.out _ _ hQ.out ?_ ?_
   ·rfl
   exact congrArg Value.bool hg.out
 | true =>
   cases Ac with
   | false =>
     refine wp_region_held_drew (S:=fun V=>Hid (Fr (fun k _=>k=p1) w8 V)∧V.cell? ⟨p4,0,none⟩=some (.string ⟨nm.toArray⟩)) (by kernel_rfl) ⟨zi Fr.refl.drew,by simpa using hU.out⟩ (fun hB=>?_);simp only[qV];refine qi (i:=0) rfl (zr (by rfl) 79 _ rfl p4 0 rfl CS d (fun V h=>j0 HR.out h.1.out hn (fun _ h=>by have h2:p4=p1:=h;omega)) Hu.out Hd.out h4.out) hB ?_
     try simp only[Act.put,qP]
     refine qt (v:=?_) rfl (jc ⟨by rfl,?_⟩) hB ?_;rotate_left
     ·intro W hC;obtain⟨-,hL⟩:=hC
      try simp only[qQ]
      go_simp
      try rw[if_neg (by omega)]
      try with_reducible rfl
     try simp only[Act.put,qP]
     refine qr (i:=2) (by kernel_rfl) rfl (fun K hK=>?_)
     try simp only[qQ]
     go_simp;refine(AG.out _ Fr.refl.drew).mono ?_;rintro r w9 ⟨rfl,hH⟩;refine hK.out _ _ ⟨zi ((Fr.refl.drew).trans' (hH.mono (fun _ _ h=>h.elim))),Fr.cell hH (by simpa using hU.out)⟩ (fun hB=>?_);clear hK K
     try simp only[Act.put,qP]
     have hQ:=zi ((Fr.refl (M:=NoB) (w:=w8)).drew.trans' hH);clear hH
     iterate 2
      refine qt (v:=?_) rfl (jc ⟨by rfl,?_⟩) hB ?_;rotate_left
      ·intro W hC;obtain⟨-,hL⟩:=hC
       try simp only[qQ]
       go_simp
       try rw[if_neg (by omega)]
       try with_reducible rfl
      try simp only[Act.put,qP]
     refine qr (i:=5) (by kernel_rfl) rfl (fun K hK=>?_)
     try simp only[qQ]
     go_simp;refine(Ae.out _ hQ.out).mono ?_;rintro r Al ⟨rfl,hE⟩;refine hK.out _ _ ⟨zi (hB.1.out.trans' (hE.mono (fun _ _ h=>h.elim))),Fr.cell hE hB.2⟩ (fun hB=>?_);clear hK K
     try simp only[Act.put,qP]
     have hI:=zi (hQ.out.trans' hE);clear hE
     iterate 12
      first
      | refine qt (v:=undef) rfl (Or.inr ⟨by rfl,rfl⟩) hB ?_
        try simp only[Act.put,qP]
      | refine qt (v:=?_) rfl (jc ⟨by rfl,?_⟩) hB ?_
        rotate_left
        ·intro W hC;obtain⟨-,hL⟩:=hC
         try simp only[qQ]
         go_simp
         try rw[if_neg (by omega)]
         try with_reducible rfl
        try simp only[Act.put,qP]
     refine qr (i:=18) (by kernel_rfl) rfl (fun K hK=>?_)
     try simp only[qQ]
     rw[if_pos (by rfl)];refine wp_store_mid 79 (.tmp 2) (.tmp 19) (by rfl) p1 0 CS.toArray (by rfl) (by rfl) (hS.out _ hI.out) h6.out hi.out ?_;refine hK.out _ _ ⟨zi (hB.1.out.trans' (jr _ _ _ _)),Fr.cell (jr _ _ _ _) hB.2 (fun _ h=>by have h2:p4=p1:=h;omega)⟩ (fun hB=>?_);clear hK K
     try simp only[Act.put,qP]
     refine qt (v:=?_) rfl (jc ⟨by rfl,?_⟩) hB ?_;rotate_left
     ·intro W hC;obtain⟨-,hL⟩:=hC
      try simp only[qQ]
      go_simp
      try rw[if_neg (by omega)]
      try with_reducible rfl
     try simp only[Act.put,qP]
     refine wpAnyH_done (by kernel_rfl) ?_ _;clear hB;have hg:Hid (false=R):=zi (by rw[← hf.out];rfl)
     go_wp2_with fail
     refine Hfin.out _ _ hI.out ?_ ?_
     ·rfl
     exact congrArg Value.bool hg.out
   | true =>
     cases be with
     | true =>
       refine wp_region_held_drew (S:=fun V=>Hid (Fr (fun k _=>k=p1) w8 V)∧V.cell? ⟨p4,0,none⟩=some (.string ⟨nm.toArray⟩)) (by kernel_rfl) ⟨zi Fr.refl.drew,by simpa using hU.out⟩ (fun hB=>?_);simp only[qV];refine qi (i:=0) rfl (zr (by rfl) 79 _ rfl p4 0 rfl CS d (fun V h=>j0 HR.out h.1.out hn (fun _ h=>by have h2:p4=p1:=h;omega)) Hu.out Hd.out h4.out) hB ?_
       try simp only[Act.put,qP]
       refine qt (v:=?_) rfl (jc ⟨by rfl,?_⟩) hB ?_;rotate_left
       ·intro W hC;obtain⟨-,hL⟩:=hC
        try simp only[qQ]
        go_simp
        try rw[if_neg (by omega)]
        try with_reducible rfl
       try simp only[Act.put,qP]
       refine qr (i:=2) (by kernel_rfl) rfl (fun K hK=>?_)
       try simp only[qQ]
       go_simp;refine(AG.out _ Fr.refl.drew).mono ?_;rintro r w9 ⟨rfl,hH⟩;refine hK.out _ _ ⟨zi ((Fr.refl.drew).trans' (hH.mono (fun _ _ h=>h.elim))),Fr.cell hH (by simpa using hU.out)⟩ (fun hB=>?_);clear hK K
       try simp only[Act.put,qP]
       have hQ:=zi ((Fr.refl (M:=NoB) (w:=w8)).drew.trans' hH);clear hH
       iterate 2
        refine qt (v:=?_) rfl (jc ⟨by rfl,?_⟩) hB ?_;rotate_left
        ·intro W hC;obtain⟨-,hL⟩:=hC
         try simp only[qQ]
         go_simp
         try rw[if_neg (by omega)]
         try with_reducible rfl
        try simp only[Act.put,qP]
       refine qr (i:=5) (by kernel_rfl) rfl (fun K hK=>?_)
       try simp only[qQ]
       go_simp;refine(Ae.out _ hQ.out).mono ?_;rintro r Al ⟨rfl,hE⟩;refine hK.out _ _ ⟨zi (hB.1.out.trans' (hE.mono (fun _ _ h=>h.elim))),Fr.cell hE hB.2⟩ (fun hB=>?_);clear hK K
       try simp only[Act.put,qP]
       have hI:=zi (hQ.out.trans' hE);clear hE
       iterate 12
        first
        | refine qt (v:=undef) rfl (Or.inr ⟨by rfl,rfl⟩) hB ?_
          try simp only[Act.put,qP]
        | refine qt (v:=?_) rfl (jc ⟨by rfl,?_⟩) hB ?_
          rotate_left
          ·intro W hC;obtain⟨-,hL⟩:=hC
           try simp only[qQ]
           go_simp
           try rw[if_neg (by omega)]
           try with_reducible rfl
          try simp only[Act.put,qP]
       refine qr (i:=18) (by kernel_rfl) rfl (fun K hK=>?_)
       try simp only[qQ]
       rw[if_pos (by rfl)];refine wp_store_mid 79 (.tmp 2) (.tmp 19) (by rfl) p1 0 CS.toArray (by rfl) (by rfl) (hS.out _ hI.out) h6.out hi.out ?_;refine hK.out _ _ ⟨zi (hB.1.out.trans' (jr _ _ _ _)),Fr.cell (jr _ _ _ _) hB.2 (fun _ h=>by have h2:p4=p1:=h;omega)⟩ (fun hB=>?_);clear hK K
       try simp only[Act.put,qP]
       refine qt (v:=?_) rfl (jc ⟨by rfl,?_⟩) hB ?_;rotate_left
       ·intro W hC;obtain⟨-,hL⟩:=hC
        try simp only[qQ]
        go_simp
        try rw[if_neg (by omega)]
        try with_reducible rfl
       try simp only[Act.put,qP]
       refine wpAnyH_done (by kernel_rfl) ?_ _;clear hB;have hg:Hid (false=R):=zi (by rw[← hf.out];rfl)
       go_wp2_with fail
       refine Hfin.out _ _ hI.out ?_ ?_
       ·rfl
       exact congrArg Value.bool hg.out
     | false =>
       refine wp_region_held_drew (S:=fun V=>Hid (Fr (fun k _=>k=p1) w8 V)∧V.cell? ⟨p4,0,none⟩=some (.string ⟨nm.toArray⟩)) (by kernel_rfl) ⟨zi Fr.refl.drew,by simpa using hU.out⟩ (fun hB=>?_);simp only[qV];refine qi (i:=0) rfl (zr (by rfl) 79 _ rfl p4 0 rfl CS d (fun V h=>j0 HR.out h.1.out hn (fun _ h=>by have h2:p4=p1:=h;omega)) Hu.out Hd.out h4.out) hB ?_
       try simp only[Act.put,qP]
       refine qt (v:=?_) rfl (jc ⟨by rfl,?_⟩) hB ?_;rotate_left
       ·intro W hC;obtain⟨-,hL⟩:=hC
        try simp only[qQ]
        go_simp
        try rw[if_neg (by omega)]
        try with_reducible rfl
       try simp only[Act.put,qP]
       refine qr (i:=2) (by kernel_rfl) rfl (fun K hK=>?_)
       try simp only[qQ]
       go_simp;refine(AG.out _ Fr.refl.drew).mono ?_;rintro r w9 ⟨rfl,hH⟩;refine hK.out _ _ ⟨zi ((Fr.refl.drew).trans' (hH.mono (fun _ _ h=>h.elim))),Fr.cell hH (by simpa using hU.out)⟩ (fun hB=>?_);clear hK K
       try simp only[Act.put,qP]
       have hQ:=zi ((Fr.refl (M:=NoB) (w:=w8)).drew.trans' hH);clear hH
       iterate 2
        refine qt (v:=?_) rfl (jc ⟨by rfl,?_⟩) hB ?_;rotate_left
        ·intro W hC;obtain⟨-,hL⟩:=hC
         try simp only[qQ]
         go_simp
         try rw[if_neg (by omega)]
         try with_reducible rfl
        try simp only[Act.put,qP]
       refine qr (i:=5) (by kernel_rfl) rfl (fun K hK=>?_)
       try simp only[qQ]
       go_simp;refine(Ae.out _ hQ.out).mono ?_;rintro r Al ⟨rfl,hE⟩;refine hK.out _ _ ⟨zi (hB.1.out.trans' (hE.mono (fun _ _ h=>h.elim))),Fr.cell hE hB.2⟩ (fun hB=>?_);clear hK K
       try simp only[Act.put,qP]
       have hI:=zi (hQ.out.trans' hE);clear hE
       iterate 12
        refine qt (v:=?_) rfl (jc ⟨by rfl,?_⟩) hB ?_;rotate_left
        ·intro W hC;obtain⟨-,hL⟩:=hC
         try simp only[qQ]
         go_simp
         try rw[if_neg (by omega)]
         try with_reducible rfl
        try simp only[Act.put,qP]
       refine qr (i:=18) (by kernel_rfl) rfl (fun K hK=>?_)
       try simp only[qQ]
       rw[if_pos (by rfl)];refine wp_store_mid 79 (.tmp 2) (.tmp 19) (by rfl) p1 0 CS.toArray (by rfl) (by rfl) (hS.out _ hI.out) h6.out hi.out ?_;refine hK.out _ _ ⟨zi (hB.1.out.trans' (jr _ _ _ _)),Fr.cell (jr _ _ _ _) hB.2 (fun _ h=>by have h2:p4=p1:=h;omega)⟩ (fun hB=>?_);clear hK K
       try simp only[Act.put,qP]
       refine qt (v:=?_) rfl (jc ⟨by rfl,?_⟩) hB ?_;rotate_left
       ·intro W hC;obtain⟨-,hL⟩:=hC
        try simp only[qQ]
        go_simp
        try rw[if_neg (by omega)]
        try with_reducible rfl
       try simp only[Act.put,qP]
       refine wpAnyH_done (by kernel_rfl) ?_ _;clear hB;have hg:Hid (bl=R):=zi (by rw[← hf.out];rfl)
       go_wp2_with fail
       refine Hfin.out _ _ hI.out ?_ ?_
       ·rfl
       exact congrArg Value.bool hg.out
end Go.Proofs.YtffggpplnjibgaaGreatDoor
