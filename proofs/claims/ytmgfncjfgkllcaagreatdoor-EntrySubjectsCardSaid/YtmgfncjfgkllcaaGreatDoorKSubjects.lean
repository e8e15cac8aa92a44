/-
 The walk of entry.Subjects.
-/
import Derived.Test.YtmgfncjfgkllcaaGreatDoorKSubject
import Derived.Test.YtmgfncjfgkllcaaGreatDoorKParsedF
import Derived.Test.YtmgfncjfgkllcaaGreatDoorKCheckE
import Derived.Test.YtmgfncjfgkllcaaGreatDoorKSort2
import Derived.Maps.AppendAt
import Derived.OwnWalk
open Go.Lib renaming hid→za
open Go.World renaming size_alloc→zf,rangeAt_setCells_same→zg
open Go renaming heap_alloc_new→zh
open List renaming size_toArray→zn
open Nat renaming lt_of_lt_of_le→zu
open Go.Value renaming int→zy
open Go.IntKind renaming u8→z6
namespace Go.Proofs.YtmgfncjfgkllcaaGreatDoor
set_option linter.unusedVariables false
set_option linter.unusedSimpArgs false
set_option linter.unusedSectionVars false
set_option maxRecDepth 100000
set_option maxHeartbeats 4000000
open Go.RowKit
variable [OldK]
theorem zh1:(Tryz.prog.info? 51).map (fun i=>(i.zero,i.size,i.bytes))=some (some (.agg #[.string ⟨#[]⟩,zy z6 0,zy z6 0,zy z6 0,zy z6 0,zy z6 0,zy z6 0,zy z6 0,zy z6 0,zy z6 0,zy z6 0,zy z6 0,zy z6 0,zy z6 0,zy z6 0,zy z6 0,zy z6 0,zy z6 0,zy z6 0,zy z6 0,zy z6 0,zy z6 0,zy z6 0,zy z6 0,zy z6 0,zy z6 0,zy z6 0,zy z6 0,zy z6 0,zy z6 0,zy z6 0,zy z6 0,zy z6 0]),33,48):=by kernel_rfl
theorem zhm {s:Bs} (hs:s.length≤4096):Fits (zaf s).1:=by
 unfold zaf;rw[if_neg (by omega)];cases h:zht s with
 | none=>exact Fits.zero
 | some j =>
   obtain⟨h1,h2⟩:=zr8 h;have h3:=zhg j 0 h1;exact⟨zlx j h3 (by omega),zlx j h3 (by omega)⟩
def zb0 (l:List J):List Value:=l.flatMap fun x=>jo (jq x).1 (jq x).2.1
theorem zdv (j:J):(jq j).2.1.length=32:=zqr _ _
def zbd (l:List J):Bool:=l.any fun x=>!(jq x).2.2
theorem zdt (nm D:Bs):∀ u∈jo nm D,u.oneCell'=true:=by
 intro v hv;unfold jo at hv;rcases List.mem_cons.1 hv with rfl | hv
 ·rfl
 exact zau _ _ hv
theorem zgu (w:World)(cs:List Value)(T:TypeId):∀ (j:Nat) (u:Value),cs[j]? = some u→(w.alloc (.cells cs.toArray T)).cell? ((⟨w.heap.size,0,none⟩:Addr).add j)=some u:=by
 intro j u hj;rw[Addr.add_lit,Nat.zero_add];have h:=zh w (.cells cs.toArray T);simp only[World.cell?];rw[h];simpa using hj
theorem zgd {l:List J}{i:Nat}{x:J}(h:l[i]? = some x):zbd (l.take (i+1))=(zbd (l.take i) || !(jq x).2.2):=by
 unfold zbd;rw[List.take_add_one,h];simp
theorem ze8 {l:List J}{i:Nat}{x:J}(h:l[i]? = some x):zb0 (l.take (i+1))=zb0 (l.take i)++jo (jq x).1 (jq x).2.1:=by
 unfold zb0;rw[List.take_add_one,h];simp
theorem zdx {base base' e size n:Nat}{v:Value}{xs:List Value}{w:World}(h:w.ownsRow base e size v n xs)(hb:base'≤base):w.ownsRow base' e size v n xs :=
 ⟨h.1,h.2.imp id fun⟨g,cap,cur,h1,h2,h3⟩=>⟨g,cap,cur,h1,Nat.le_trans hb h2,h3⟩⟩
theorem zc9 {base e size n:Nat}{v:Value}{xs:List Value}{w:World}(h:w.ownsRow base e size v n xs){k:Nat}(hk:some k=v.ownBlock):base≤k:=by
 rcases h.2 with⟨rfl,-⟩ | ⟨g,cap,cur,rfl,h2,-⟩
 ·cases hk
 cases hk;exact h2
theorem zhe {b base n:Nat}{v:Value}{xs:List Value}{w w':World}(h:w.ownsRow base 51 33 v n xs)(hF:Fr (MFd b) w w'):w'.ownsRow base 51 33 v n xs:=by
 refine⟨h.1,h.2.imp id ?_⟩;rintro⟨g,hB,hA,h1,h2,h3,h4⟩;refine⟨g,hB,hA,h1,h2,hF.block _ _ h3 ?_,h4⟩;rintro⟨-,c,f,h⟩
 injection h with _ h _
 revert h;decide
theorem FB.grown {S:Nat→Prop}{b base n:Nat}{f:Fd}{v:Value}{xs:List Value}{w w':World}(h:FB S b f w)(hg:w.grownBy w' v.ownBlock)(ho:w.ownsRow base 51 33 v n xs)(hb:b<base)(hO:OldK.k≤base):FB S b f w':=by
 obtain⟨h0,a1,n1,a2,n2,h1,h2⟩:=h;have hF:=Fr.ofGrown hg;refine⟨h0,a1,n1,a2,n2,hF.block _ _ h1 (fun h=>by have:=zc9 ho h;omega),RJ.kp (Kp.fr hF (fun _ h _=>h) (fun k o _ hk ht hm=>?_)) _ _ h2⟩;have hle:=zc9 ho hm;rcases ho.2 with⟨rfl,-⟩ | ⟨g,cap,cur,rfl,h2,h3,-⟩
 ·cases hm
 cases hm;obtain rfl:=Option.some.inj (hk.symm.trans h3);rcases ht with⟨c',f',h⟩ | ⟨c',f',h⟩ | h
 ·injection h with _ h _;revert h;decide
 ·injection h with _ h _;revert h;decide
 omega
theorem zxv (n:Nat)(W:World):(binOp .neq 32 (zir n) .nilIface).run Tryz.prog W = .ok (.bool (decide (n≠0))) W:=by
 unfold zir;by_cases h:n=0
 ·subst h;simp[go_sem]
 rw[if_neg h];simp[go_sem,h]
theorem zso (n:Nat)(x:Tmp)(W:World):(eqGuard .neq 32 (.tmp x) (.const .nilIface) (zir n) .nilIface).run Tryz.prog W = .ok () W:=by
 unfold zir;by_cases h:n=0
 ·subst h;simp[go_sem,eqGuard]
 rw[if_neg h];simp[go_sem,eqGuard]
theorem zgl {f:Fd}{nm:Bs}{k:Int}{N:Int}{j:J}(h:f.j=j∧0≤f.seen∧f.seen≤N):(zbg f nm k).2.j=j∧0≤(zbg f nm k).2.seen∧(zbg f nm k).2.seen≤N+1:=by
 obtain⟨h1,h2⟩:=zba f nm k;refine⟨h1.trans h.1,?_⟩;rcases h2 with h2 | h2<;>rw[h2]<;>omega
theorem zkk (S:Nat→Prop) (s:Bs) (pv:Value) (w:World) (hb:SB S s pv w) (hg:Gl w) (hk:OldK.k≤w.heap.size) (hlen:s.length≤1000000) :
 Calls Tryz.prog 22 #[pv] w fun e w'=>(match za7 s with
  | none=>e = .returned (.tuple #[.slice none 0 0,.iface 49 (.int .i64 11)])
  | some l=>∃ v,e = .returned (.tuple #[v,.nilIface])∧w'.ownsRow w.heap.size 51 33 v l.length (l.flatMap fun x=>jo x.1 x.2))∧Fr NoB w w':=by
 obtain⟨a1,c1,By⟩:=hb.form;obtain⟨R,hR⟩:∃ R,za7 s=R:=⟨_,rfl⟩;rw[hR];unfold za7 at hR;by_cases B7:2048<s.length
 ·rw[if_pos B7]at hR;subst hR;subst By;have hl:decide ((2048:Int)<(s.length:Int))=true:=decide_eq_true (by omega);clear hb;go_enter Tryz.func22,Tryz.ntmps22
  go_wp2_with fail
  go_ret2;exact⟨rfl,Fr.refl⟩
 rw[if_neg B7]at hR;have hl:decide ((2048:Int)<(s.length:Int))=false:=decide_eq_false (by omega);have Bi:=zub S s pv w hb hg (by unfold maxLen;omega);have A8:=zhm (s:=s) (by omega);obtain⟨j,hj⟩:∃ j,(zaf s).1=j:=⟨_,rfl⟩;obtain⟨n,hn⟩:∃ n,(zaf s).2=n:=⟨_,rfl⟩;rw[hj,hn]at Bi;rw[hj]at A8;simp only[hj,hn]at hR;clear hj hn hb;have HR:=za hR;clear hR;subst By;have Hpc:=za Bi;have Hfit:=za A8;clear Bi A8;obtain⟨i0,hi,Bb,Ba,BZ⟩:=info_parts zh1;have hent:True:=trivial;go_enter Tryz.func22,Tryz.ntmps22
 go_wp2_with fail
 refine Hpc.out.mono ?_;rintro e w1 ⟨x,rfl,hx,B5⟩;obtain⟨kk,jn,jt,jl,jp⟩:=j;obtain⟨b1,d1,b2,d2,rfl,-,-⟩:=hx.open;have hA:=zh w1 (.cells #[.int .i64 kk,.int .i64 jn,.string ⟨jt.toArray⟩,.slice b1 jl.length d1,.slice b2 jp.length d2] 56);obtain⟨w2,Bd⟩:∃ W,w1.alloc (.cells #[.int .i64 kk,.int .i64 jn,.string ⟨jt.toArray⟩,.slice b1 jl.length d1,.slice b2 jp.length d2] 56)=W:=⟨_,rfl⟩;have Br:Fr NoB w1 w2:=by rw[← Bd];exact Fr.refl.alloc _
 rw[Bd]at hA;have B4:=RJ.kp (Kp.ofFr Br) _ _ hx;have Bm:=fun W=>And.intro (zxv n W) (zso n 22 W)
 obtain⟨E,hE⟩:∃ E,zir n=E:=⟨_,rfl⟩;obtain⟨b0,BB⟩:∃ b,decide (n≠0)=b:=⟨_,rfl⟩;rw[hE,BB]at Bm;rw[hE];have CA:=za BB;clear BB;have BA:=za (B5.trans' Br);have B8:=za B4;have Hne:=za Bm;have BE:w1.heap.size<w2.heap.size:=jb hA;have HA:=za hA;clear hx B5 Br B4 hA hE Bm
 go_upto_region 4 with(fail)
 change Code.wp _ _ _ _ w2;clear Bd;obtain⟨p1,Bj⟩:∃ p,w1.heap.size=p:=⟨_,rfl⟩;rw[Bj]at HA BE;rw[Bj];clear Bj;refine wp_region_held_drew (S:=fun V=>Hid (Fr NoB w2 V)) (by kernel_rfl) (za Fr.refl.drew) (fun AB=>?_);simp only[qV]
 iterate 4
  refine qt (v:=?_) rfl (Or.inl ⟨by rfl,?_⟩) AB ?_;rotate_left
  ·intro W Bq;have Bp:=Bq.out.block _ _ HA.out (fun h=>h);obtain⟨q0,q1,q2,q3,q4,-,-⟩:=VB.at Bp;obtain⟨Bl,Bk⟩:=Hne.out W
   try simp only[qQ]
   go_simp
   try rw[if_neg (by omega)]
   try with_reducible rfl
  try simp only[Act.put,qP]
 refine qr (i:=4) (by kernel_rfl) rfl (fun K hK=>?_)
 try simp only[qQ]
 go_simp
 skip
 refine hK.out _ _ (za (AB.out.alloc _)) (fun AB=>?_);clear hK K
 try simp only[Act.put,qP]
 refine qt (v:=?_) rfl (Or.inl ⟨by rfl,?_⟩) AB ?_;rotate_left
 ·intro W Bq;have Bp:=Bq.out.block _ _ HA.out (fun h=>h);obtain⟨q0,q1,q2,q3,q4,-,-⟩:=VB.at Bp;obtain⟨Bl,Bk⟩:=Hne.out W
  try simp only[qQ]
  go_simp
  try rw[if_neg (by omega)]
  try with_reducible rfl
 try simp only[Act.put,qP]
 refine wpAnyH_done (by kernel_rfl) ?_ _;clear AB;have B6:=zh w2 (.cells #[.int .i64 kk,.int .i64 jn,.string ⟨jt.toArray⟩,.slice b1 jl.length d1,.slice b2 jp.length d2,.int .i64 0,.bool b0] 118);have BW:Fr NoB w2 ((w2.alloc (.cells #[.int .i64 kk,.int .i64 jn,.string ⟨jt.toArray⟩,.slice b1 jl.length d1,.slice b2 jp.length d2,.int .i64 0,.bool b0] 118)).drew):=(Fr.refl.alloc _).drew;obtain⟨w3,Bc⟩:∃ W,(w2.alloc (.cells #[.int .i64 kk,.int .i64 jn,.string ⟨jt.toArray⟩,.slice b1 jl.length d1,.slice b2 jp.length d2,.int .i64 0,.bool b0] 118)).drew=W:=⟨_,rfl⟩;have BM:w3.heap[w2.heap.size]? = some (.cells #[.int .i64 kk,.int .i64 jn,.string ⟨jt.toArray⟩,.slice b1 jl.length d1,.slice b2 jp.length d2,.int .i64 0,.bool b0] 118 (0,0)):=by rw[← Bc];exact B6
 rw[Bc]at BW ⊢;have BS:w.heap.size≤w2.heap.size:=BA.out.size;have Bn:FB (fun k=>w.heap.size≤k) w2.heap.size ⟨.mk kk jn jt jl jp,0,b0⟩ w3:=⟨by omega,b1,d1,b2,d2,BM,RJ.kp (Kp.ofFr BW) _ _ B8.out⟩;have BC:=za (BA.out.trans' BW);obtain⟨fb,A9⟩:∃ p,w2.heap.size=p:=⟨_,rfl⟩;rw[A9]at Bn BS;rw[A9];clear BW B6 BM Bc BA B8 Hne HA BE A9;have ht:=zdg _ fb _ zd6 w3 Bn Hfit.out ⟨Int.le_refl 0,show(0:Int)≤1000 by decide⟩;have Bw:=zba ⟨.mk kk jn jt jl jp,0,b0⟩ zd6 3;have B9:=(Fits.get (f:=⟨.mk kk jn jt jl jp,0,b0⟩) (nm:=zd6) (k:=3) Hfit.out).1.text;have hR:=HR.out;have BB:=CA.out;simp only[BB]at hR;unfold zev at hR;obtain⟨t1,Bh⟩:∃ x,(ju ⟨.mk kk jn jt jl jp,0,b0⟩ zd6).1=x:=⟨_,rfl⟩;obtain⟨f1,BV⟩:∃ x,(ju ⟨.mk kk jn jt jl jp,0,b0⟩ zd6).2=x:=⟨_,rfl⟩
 have h9:f1.j = .mk kk jn jt jl jp∧0≤f1.seen∧f1.seen≤1:=by
  rw[← BV];obtain⟨h1,h2⟩:=Bw;refine⟨h1,?_⟩;rcases h2 with h2 | h2
  ·show 0≤(zbg _ _ _).2.seen∧(zbg _ _ _).2.seen≤1;rw[h2];exact⟨Int.le_refl 0,show(0:Int)≤1 by decide⟩
  show 0≤(zbg _ _ _).2.seen∧(zbg _ _ _).2.seen≤1;rw[h2];exact⟨show(0:Int)≤0+1 by decide,show(0:Int)+1≤1 by decide⟩
 rw[Bh,BV]at ht;simp only[Bh,BV]at hR;clear HR;have HR:=za hR;have Ht:=za ht;clear ht Bw B9 hR Bh BV Bn BB;obtain⟨bs,BJ⟩:∃ b,(t1==zbl)=b:=⟨_,rfl⟩;cases bs with
 | true =>
   have BD:t1=zbl:=by simpa using BJ
   have hR:=HR.out;simp only[if_pos BD]at hR;have Bg:=fun V h=>zdg (fun k=>w.heap.size≤k) fb f1 j7 V h (by rw[h9.1];exact Hfit.out) ⟨h9.2.1,by omega⟩
   have Bv:=(Fits.get (f:=f1) (nm:=j7) (k:=3) (by rw[h9.1];exact Hfit.out)).1.text;have BU:=zgl (nm:=j7) (k:=3) h9;obtain⟨t2,BT⟩:∃ x,(ju f1 j7).1=x:=⟨_,rfl⟩;obtain⟨g2,A7⟩:∃ x,(ju f1 j7).2=x:=⟨_,rfl⟩;have Bf:t2.length≤1000000:=by rw[← BT];exact Bv
   have Bz:g2.j = .mk kk jn jt jl jp∧0≤g2.seen∧g2.seen≤2:=by rw[← A7];exact⟨BU.1,BU.2.1,by have:=BU.2.2;show(zbg _ _ _).2.seen≤2;omega⟩
   rw[BT,A7]at hR;simp only[BT,A7]at Bg;have Be:=fun V=>ztc t2 V (by omega)
   obtain⟨bt,Bo⟩:∃ x,zcd t2=x:=⟨_,rfl⟩;rw[Bo]at hR;simp only[Bo]at Be;have BX:=za Bg;have Hty:=za Be;have BY:=za hR;have Hgs:=za Bz;subst BD;clear Bg Bv BU BT A7 Bf Bz Be Bo hR HR h9 BJ;cases bt with
   | true =>
     obtain⟨f2,AO⟩:∃ f2:Fd,f2=g2:=⟨_,rfl⟩;have hR:=BY.out;simp only[if_true]at hR;rw[← AO]at hR;have A0:=za hR;clear hR BY
     go_wp2_with fail
     refine Ht.out.mono ?_;rintro e w4 ⟨rfl,h3,Av⟩;have Aj:=za (BX.out w4 h3);have BR:=za Av;clear h3 Av Ht BX
     go_wp2_with fail
     refine Aj.out.mono ?_;rintro e w5 ⟨rfl,hY,AW⟩;have AZ:=za (BR.out.trans' AW);have Ak:=za hY;clear hY AW Aj BR
     go_wp2_with fail
     refine(Hty.out _).mono ?_;rintro e W ⟨rfl,AI⟩;have Aa:=Ak.out.fr AI;have Am:Fr NoB w W:=(BC.out.trans AZ.out (fun k _ hm => .inr (by have:=hm.1;omega))).trans' AI;have hZ:f2.j = .mk kk jn jt jl jp∧0≤f2.seen∧f2.seen≤2:=by rw[AO];exact Hgs.out
     rw[← AO]at Aa;clear AI AO BC AZ Hgs Ak Hty
     go_upto_region 7 with(fail)
     change Code.wp _ _ _ _ W;have Ag:=zg4 _ fb f2 j9 5 W Aa (by rw[hZ.1];exact Hfit.out.1) ⟨hZ.2.1,by omega⟩;have hQ:=zgl (nm:=j9) (k:=5) hZ;obtain⟨f3,Ai⟩:∃ x,(zbg f2 j9 5).2=x:=⟨_,rfl⟩;rw[Ai]at Ag hQ;have AQ:=A0.out;simp only[Ai]at AQ;have hM:=(Fits.get (f:=f3) (nm:=qy) (k:=4) (by rw[hQ.1];exact Hfit.out)).1;have Af:=fun V (h:FB (fun k=>w.heap.size≤k) fb f3 V)=>zg4 _ fb f3 qy 4 V h (by rw[hQ.1];exact Hfit.out.1) ⟨hQ.2.1,by omega⟩
     obtain⟨G,hG⟩:∃ x,(zbg f3 qy 4).1=x:=⟨_,rfl⟩;obtain⟨f4,Ar⟩:∃ x,(zbg f3 qy 4).2=x:=⟨_,rfl⟩;rw[hG]at hM;simp only[hG,Ar]at Af AQ;obtain⟨gk,gn,gt,gl,gq⟩:=G;have Az:=za AQ;have Ay:=za Ag;have Ax:=za Af;have hp:=za hM;have A2:=za Am;clear Ag Af AQ A0 Ai hG Ar Aa hM Am hQ hZ
     go_wp2_with fail
     refine Ay.out.mono ?_;rintro e w5 ⟨x5,rfl,-,hY,AW⟩;have AZ:=za (A2.out.trans AW (fun k _ hm => .inr (by have:=hm.1;omega)));have AD:=za (Ax.out w5 hY);clear hY AW Ax Ay A2
     go_wp2_with fail
     refine AD.out.mono ?_;rintro e w6 ⟨x6,rfl,Ao,hV,AI⟩;obtain⟨u1,e1,u2,e2,rfl,h6,-⟩:=Ao.open;have B2:∀ V:World,(Instr.field 56 (.agg #[.int .i64 gk,.int .i64 gn,.string ⟨gt.toArray⟩,.slice u1 gl.length e1,.slice u2 gq.length e2]) 3).run Tryz.prog V = .ok (.slice u1 gl.length e1) V:=fun _=>by kernel_rfl
     have A3:=za (AZ.out.trans AI (fun k _ hm => .inr (by have:=hm.1;omega)));have Hrow:=za h6;have AE:=za hV;have Ah:fb<w6.heap.size:=by obtain⟨-,y1,y2,y3,y4,h5,-⟩:=hV;exact jb h5
     have B0:gl.length≤67108864:=(fits.open hp.out.1).2.1;clear Ao hV AI h6 AD AZ
     go_wp2_with fail
     go_loopg [7,44] (gl.length+1) (fun g v7 vi wr=>∃ (i:Nat) (ao:Option Addr) (co:Nat),vi = .int .i64 i∧v7 = .slice ao i co∧i≤gl.length∧i+g=gl.length+1∧Hid (wr.ownsRow w6.heap.size 51 33 (.slice ao i co) i (zb0 (gl.take i)))∧Hid (FB (fun k=>w.heap.size≤k) fb { f4 with bad:=f4.bad||zbd (gl.take i) } wr)∧Hid (Fr (MFd fb) w6 wr))
     case atStart=>exact⟨0,none,0,rfl,rfl,by omega,by omega,za ⟨rfl,.inl ⟨rfl,rfl⟩⟩,za (by simpa[zbd] using AE.out),za Fr.refl⟩
     case round =>
      obtain⟨i,ao,co,rfl,rfl,BG,B1,Hown,hf,hz⟩:=hrel;rcases Nat.lt_or_ge i gl.length with An | A7
      ·obtain ⟨jx,AN⟩:∃ x,gl[i]? = some x:=⟨_,List.getElem?_eq_getElem An⟩;have h8:OldK.k≤fb:=by omega
       obtain⟨rb,ro,x0,x1,x2,x3,x4,rfl,B3,r0,r1,r2,r3,r4,Ac⟩:=(Hrow.out.kp (Kp.fr hz.out (fun _ h _=>h) (fun k o _ _ ht hm=>zhn h8 k o hm ht))).at AN;have Aq:=hp.out.at (j := .mk gk gn gt gl gq) AN;have hB:=zgd AN;have hS:=ze8 AN;have hU:=zdv jx;obtain⟨jk,AL,AJ,AM,AK⟩:=jx;obtain⟨s1,m1,s2,m2,h4,-,-⟩:=Ac.open;obtain⟨rfl,rfl,rfl,rfl,rfl⟩:x0 = .int .i64 jk∧x1 = .int .i64 AL∧x2 = .string ⟨AJ.toArray⟩∧x3 = .slice s1 AM.length m1∧x4 = .slice s2 AK.length m2:=by simpa using h4
       have AT:Fr NoB wr (wr.alloc (.cells #[.int .i64 jk,.int .i64 AL,.string ⟨AJ.toArray⟩,.slice s1 AM.length m1,.slice s2 AK.length m2] 56)):=Fr.refl.alloc _;obtain⟨g0,g1,g2,g3,g4,gz,BN⟩:=VB.at (zh wr (.cells #[.int .i64 jk,.int .i64 AL,.string ⟨AJ.toArray⟩,.slice s1 AM.length m1,.slice s2 AK.length m2] 56));have Bu:w6.heap.size≤wr.heap.size:=hz.out.size;have hX:=zi1 _ _ _ _ (RJ.kp (Kp.ofFr AT) _ _ Ac) Aq (Nat.le_trans (Nat.le_trans h8 (by omega:fb≤wr.heap.size)) AT.size);obtain⟨P,hP⟩:∃ P,jq (.mk jk AL AJ AM AK)=P:=⟨_,rfl⟩;rw[hP]at hX hB hS hU;obtain⟨nm,D,ok⟩:=P;simp only at hX hB hS hU;have HB:=za hB;have HS:=za hS;have Hsub:=za hX;have A1:=za AT;have Hbuilt:=za (zfv nm D hU);have AH:=za (za2 (nm:=nm) hU);have A5:=za (zds nm D);have A4:=za (zdt nm D);obtain⟨CS,Aw⟩:∃ x,jo nm D=x:=⟨_,rfl⟩;rw[Aw]at Hsub HS Hbuilt AH A5 A4;clear hB hS hX AT Aq Ac h4 hP Aw hU gz BN
       go_wp2_with fail
       refine Hsub.out.mono ?_;rintro e w7 ⟨rfl,hD⟩;have hN:=zh w7 (.cells #[.string ⟨#[]⟩,zy z6 0,zy z6 0,zy z6 0,zy z6 0,zy z6 0,zy z6 0,zy z6 0,zy z6 0,zy z6 0,zy z6 0,zy z6 0,zy z6 0,zy z6 0,zy z6 0,zy z6 0,zy z6 0,zy z6 0,zy z6 0,zy z6 0,zy z6 0,zy z6 0,zy z6 0,zy z6 0,zy z6 0,zy z6 0,zy z6 0,zy z6 0,zy z6 0,zy z6 0,zy z6 0,zy z6 0,zy z6 0] 51);have Al:=za (jf hN (n:=CS.toArray.size) (by rw[zn,AH.out];show 33≤33;omega));have Au:Fr NoB w7 ((w7.alloc (.cells #[.string ⟨#[]⟩,zy z6 0,zy z6 0,zy z6 0,zy z6 0,zy z6 0,zy z6 0,zy z6 0,zy z6 0,zy z6 0,zy z6 0,zy z6 0,zy z6 0,zy z6 0,zy z6 0,zy z6 0,zy z6 0,zy z6 0,zy z6 0,zy z6 0,zy z6 0,zy z6 0,zy z6 0,zy z6 0,zy z6 0,zy z6 0,zy z6 0,zy z6 0,zy z6 0,zy z6 0,zy z6 0,zy z6 0,zy z6 0] 51)).setCells w7.heap.size 0 CS):=((Fr.refl (M:=NoB)).alloc _).trans (z8 _ _ _ _) (fun k _ hm => .inr (by omega));have AS:=zg (w7.alloc (.cells #[.string ⟨#[]⟩,zy z6 0,zy z6 0,zy z6 0,zy z6 0,zy z6 0,zy z6 0,zy z6 0,zy z6 0,zy z6 0,zy z6 0,zy z6 0,zy z6 0,zy z6 0,zy z6 0,zy z6 0,zy z6 0,zy z6 0,zy z6 0,zy z6 0,zy z6 0,zy z6 0,zy z6 0,zy z6 0,zy z6 0,zy z6 0,zy z6 0,zy z6 0,zy z6 0,zy z6 0,zy z6 0,zy z6 0,zy z6 0] 51)) w7.heap.size 0 CS (by simpa using Al.out);have BP:Hid ((Tryz.prog.info? 51).map (·.size)=some CS.toArray.size):=za (by rw[zav,zn,AH.out]);have BO:Hid ((Tryz.prog.info? 51).map (·.size)=some CS.length):=za (by rw[zav,AH.out]);obtain⟨dS,hu,hd⟩:=zdl;have Hu:=za hu;have Hd:=za hd;have ha:=(A1.out.trans' hD).trans' Au;have BF:w6.heap.size<w7.heap.size:=zu (by rw[zf];omega) hD.size;clear hD Au hN hu hd g0 g1 g2 g3 g4
       go_upto_region 13 with(with_reducible refine wpList_store_mid rfl 51 _ _ rfl w7.heap.size 0 CS.toArray rfl rfl Al.out BP.out A5.out ?_)
       change Code.wp _ _ _ _ ((w7.alloc (.cells #[.string ⟨#[]⟩,zy z6 0,zy z6 0,zy z6 0,zy z6 0,zy z6 0,zy z6 0,zy z6 0,zy z6 0,zy z6 0,zy z6 0,zy z6 0,zy z6 0,zy z6 0,zy z6 0,zy z6 0,zy z6 0,zy z6 0,zy z6 0,zy z6 0,zy z6 0,zy z6 0,zy z6 0,zy z6 0,zy z6 0,zy z6 0,zy z6 0,zy z6 0,zy z6 0,zy z6 0,zy z6 0,zy z6 0,zy z6 0] 51)).setCells w7.heap.size 0 CS);obtain⟨w8,Ab⟩:∃ W,(w7.alloc (.cells #[.string ⟨#[]⟩,zy z6 0,zy z6 0,zy z6 0,zy z6 0,zy z6 0,zy z6 0,zy z6 0,zy z6 0,zy z6 0,zy z6 0,zy z6 0,zy z6 0,zy z6 0,zy z6 0,zy z6 0,zy z6 0,zy z6 0,zy z6 0,zy z6 0,zy z6 0,zy z6 0,zy z6 0,zy z6 0,zy z6 0,zy z6 0,zy z6 0,zy z6 0,zy z6 0,zy z6 0,zy z6 0,zy z6 0,zy z6 0] 51)).setCells w7.heap.size 0 CS=W:=⟨_,rfl⟩
       have Ap:w7.heap.size<w8.heap.size:=by
        rw[← Ab];exact zu (by rw[zf];omega) (z8 (w7.heap.size) CS 0 (w7.alloc _)).size
       rw[Ab]at AS ha ⊢;obtain⟨p7,hq⟩:∃ p,w7.heap.size=p:=⟨_,rfl⟩;rw[hq]at AS Ap BF;rw[hq];clear Ab Al hq;have hc:=hf.out.fr ha;obtain⟨AX,hr⟩:∃ b,(f4.bad||zbd (gl.take i))=b:=⟨_,rfl⟩;rw[hr]at hc;obtain⟨y1,y2,y3,y4,-,-,-,-,-,-,c6,fz,Ae,-⟩:=hc.cells;obtain⟨AC,AV⟩:=hc.setBad (AX || !ok);have Hbdi:=za hr;have AR:=za (ji AS AV Ap (fun _ h=>by have:=h.1;omega));have hv:=(ha.mono (M':=MFd fb) (fun _ _ h=>h.elim)).trans' AV;have hC:=za (zhe Hown.out hv);have he:=za (hz.out.trans' hv);have hH:=za AC;have Ad:w6.heap.size<(w8.setCell ⟨fb,6,none⟩ (.bool (AX || !ok))).heap.size:=zu (by omega) AV.size;clear AS hc AC AV hv ha hr hf Hown hz Hsub A1 r0 r1 r2 r3 r4;have A6:Hid ((f4.bad||zbd (gl.take (i+1)))=(AX || !ok)):=za (by rw[HB.out,← Bool.or_assoc,Hbdi.out]);have BK:OldK.k≤w6.heap.size:=by omega
       clear Hbdi HB;cases AX
       all_goals
        simp only[Bool.false_or,Bool.true_or]at AR hC he hH Ad A6
        go_upto_region 14 with(fail)
        first
         | (obtain⟨W9,hs⟩:∃ W,w8.setCell ⟨fb,6,none⟩ (.bool true)=W:=⟨_,rfl⟩;rw[hs]at AR hC he hH Ad;change Code.wp _ _ _ _ (w8.setCell ⟨fb,6,none⟩ (.bool true));rw[hs];clear hs)
         | (obtain⟨W9,hs⟩:∃ W,w8.setCell ⟨fb,6,none⟩ (.bool (!ok))=W:=⟨_,rfl⟩;rw[hs]at AR hC he hH Ad;change Code.wp _ _ _ _ (w8.setCell ⟨fb,6,none⟩ (.bool (!ok)));rw[hs];clear hs)
        clear c6 fz Ae
        go_wp2_with (first
         | (with_reducible refine wpList_load_mid rfl 51 _ rfl p7 0 rfl CS dS AR.out Hu.out Hd.out BO.out ?_)
         | ((with_reducible refine Great.wpList_buildSliceTo ?_ 43 51 1 _ rfl W9.heap.size rfl _ rfl Tryz.underlying43 CS.toArray ?_ ?_);rfl;(refine Eq.trans (congrArg (Tryz.prog.builtSlice 51 1) ?_) Hbuilt.out;kernel_rfl))
         | (at_builtin;(refine wpList_append_own_at _ rfl _ _ 43 rfl w6.heap.size 51 i0 (.agg #[.string ⟨#[]⟩,zy z6 0,zy z6 0,zy z6 0,zy z6 0,zy z6 0,zy z6 0,zy z6 0,zy z6 0,zy z6 0,zy z6 0,zy z6 0,zy z6 0,zy z6 0,zy z6 0,zy z6 0,zy z6 0,zy z6 0,zy z6 0,zy z6 0,zy z6 0,zy z6 0,zy z6 0,zy z6 0,zy z6 0,zy z6 0,zy z6 0,zy z6 0,zy z6 0,zy z6 0,zy z6 0,zy z6 0,zy z6 0]) 33 48 Tryz.underlying43 hi Bb Ba BZ rfl (by decide) (.slice ao i co) i (zb0 (gl.take i)) (by rfl) (hC.out.alloc _) ⟨W9.heap.size,0,none⟩ 1 1 CS (by rfl) (by rw[AH.out]) (zgu W9 CS 51) A4.out (by unfold maxLen;omega) (by omega) (by rw[zf];omega) ?_)))
        intro v' Bt hF hL h7 AA;have ho:=(hH.out.fr (Fr.refl.alloc (.cells CS.toArray 51))).grown hL (hC.out.alloc _) Ah BK;have hh:=(he.out.alloc (.cells CS.toArray 51)).trans (Fr.ofGrown hL) (fun k _ hm => .inr (zc9 hC.out hm));rcases hF.2 with⟨rfl,h0⟩ | ⟨g,cp,cur,rfl,-⟩
        ·omega
        have hw:=za hF;have AG:=za ho;have AF:=za hh;clear hF hL h7 AA ho hh
        go_wp2_with fail
        go_roundg (gk - 1)
        case measure=>omega
        case rel=>exact⟨i+1,_,_,by simp,rfl,by omega,by omega,za (by rw[HS.out];exact hw.out),za (by rw[A6.out];exact AG.out),AF⟩
      obtain rfl:i=gl.length:=by omega
      have hT:=zf9 _ fb _ wr hf.out;obtain⟨FD,AU⟩:∃ x,zdp { f4 with bad:=f4.bad||zbd (gl.take gl.length) }=x:=⟨_,rfl⟩;rw[AU]at hT;rw[List.take_length]at AU;have hO:=zdx Hown.out (Nat.le_trans BS (by omega:fb≤w6.heap.size));rw[List.take_length]at hO;have AP:=Az.out
      have As:(gl.map jq).any (fun x=>!x.2.2)=zbd gl:=by
       unfold zbd;rw[List.any_map];rfl
      simp only[J.list,As,AU,List.length_map,List.map_map]at AP
      have hI:(gl.map ((fun x:Bs × Bs × Bool=>(x.1,x.2.1)) ∘ jq)).flatMap (fun x=>jo x.1 x.2)=zb0 gl:=by
       unfold zb0;rw[List.flatMap_map];rfl
      have hJ:(gl.map ((fun x:Bs × Bs × Bool=>(x.1,x.2.1)) ∘ jq)).length=gl.length:=List.length_map _;obtain⟨LS,At⟩:∃ L,gl.map ((fun x:Bs × Bs × Bool=>(x.1,x.2.1)) ∘ jq)=L:=⟨_,rfl⟩;rw[At]at AP hI hJ;rw[← hI]at hO;have HO:=za hO;have AY:=za (A3.out.trans hz.out (fun k _ hm => .inr (by have:=hm.1;omega)));have Hdone:=za hT;have Hrz:=za AP;have Hlm:=za hJ;clear hT hO AP hI hJ At AU As Az hf Hown hz A3 Hrow AE;cases FD with
      | false =>
        obtain rfl:(none:Option (List (Bs × Bs)))=R:=by simpa using Hrz.out
        go_wp2_with fail
        refine Hdone.out.mono ?_;rintro e w7 ⟨rfl,hD⟩;have hy:=za (AY.out.trans' hD);clear hD
        go_wp2_with fail
        go_ret2;exact⟨rfl,hy.out⟩
      | true =>
        by_cases h1:gl.length<1
        ·have BI:decide ((gl.length:Int)<1)=true:=decide_eq_true (by omega)
         obtain rfl:(none:Option (List (Bs × Bs)))=R:=by
          have:=Hrz.out;rw[show decide (1≤gl.length)=false from decide_eq_false (by omega)]at this;simpa using this
         clear h1
         go_wp2_with fail
         refine Hdone.out.mono ?_;rintro e w7 ⟨rfl,hD⟩;have hy:=za (AY.out.trans' hD);clear hD
         go_wp2_with fail
         go_ret2;exact⟨rfl,hy.out⟩
        have BI:decide ((gl.length:Int)<1)=false:=decide_eq_false (by omega);by_cases h2:16<gl.length
        ·have BH:decide ((16:Int)<(gl.length:Int))=true:=decide_eq_true (by omega)
         obtain rfl:(none:Option (List (Bs × Bs)))=R:=by
          have:=Hrz.out;rw[show decide (gl.length≤16)=false from decide_eq_false (by omega)]at this;simpa using this
         clear h1 h2
         go_wp2_with fail
         refine Hdone.out.mono ?_;rintro e w7 ⟨rfl,hD⟩;have hy:=za (AY.out.trans' hD);clear hD
         go_wp2_with fail
         go_ret2;exact⟨rfl,hy.out⟩
        have BH:decide ((16:Int)<(gl.length:Int))=false:=decide_eq_false (by omega)
        obtain rfl:some LS=R:=by
         have:=Hrz.out;rw[show decide (gl.length≤16)=true from decide_eq_true (by omega),show decide (1≤gl.length)=true from decide_eq_true (by omega)]at this;simpa using this
        clear h1 h2
        go_wp2_with fail
        refine Hdone.out.mono ?_;rintro e w7 ⟨rfl,hD⟩;have hy:=za (AY.out.trans' hD);have BQ:=za (zfr HO.out hD (fun _ _ _ _ h=>h));clear hD
        go_wp2_with fail
        go_ret2;refine⟨⟨_,rfl,?_⟩,hy.out⟩;rw[Hlm.out];exact BQ.out
   | false =>
     obtain⟨f2,AO⟩:∃ f2:Fd,f2={ g2 with bad:=true }:=⟨_,rfl⟩;have hR:=BY.out;simp only[Bool.false_eq_true,if_false]at hR;rw[← AO]at hR;have A0:=za hR;clear hR BY
     go_wp2_with fail
     refine Ht.out.mono ?_;rintro e w4 ⟨rfl,h3,Av⟩;have Aj:=za (BX.out w4 h3);have BR:=za Av;clear h3 Av Ht BX
     go_wp2_with fail
     refine Aj.out.mono ?_;rintro e w5 ⟨rfl,hY,AW⟩;have AZ:=za (BR.out.trans' AW);have Ak:=za hY;clear hY AW Aj BR
     go_wp2_with fail
     refine(Hty.out _).mono ?_;rintro e w6 ⟨rfl,AI⟩;have hV:=Ak.out.fr AI;obtain⟨y1,y2,y3,y4,-,-,-,-,-,-,c6,fz,An,-⟩:=hV.cells;obtain⟨Aa,BL⟩:=hV.setBad true;have Am:Fr NoB w (w6.setCell ⟨fb,6,none⟩ (.bool true)):=(BC.out.trans (AZ.out.trans' (AI.mono (fun _ _ h=>h.elim))) (fun k _ hm => .inr (by have:=hm.1;omega))).trans BL (fun k _ hm => .inr (by have:=hm.1;omega));have hZ:f2.j = .mk kk jn jt jl jp∧0≤f2.seen∧f2.seen≤2:=by rw[AO];exact Hgs.out
     rw[← AO]at Aa;clear AI BL AO BC AZ Hgs Ak hV Hty
     go_upto_region 7 with(fail)
     change Code.wp _ _ _ _ (w6.setCell ⟨fb,6,none⟩ (.bool true));obtain⟨W,hW⟩:∃ W,w6.setCell ⟨fb,6,none⟩ (.bool true)=W:=⟨_,rfl⟩;rw[hW]at Aa Am ⊢;clear hW c6 fz An;have Ag:=zg4 _ fb f2 j9 5 W Aa (by rw[hZ.1];exact Hfit.out.1) ⟨hZ.2.1,by omega⟩;have hQ:=zgl (nm:=j9) (k:=5) hZ;obtain⟨f3,Ai⟩:∃ x,(zbg f2 j9 5).2=x:=⟨_,rfl⟩;rw[Ai]at Ag hQ;have AQ:=A0.out;simp only[Ai]at AQ;have hM:=(Fits.get (f:=f3) (nm:=qy) (k:=4) (by rw[hQ.1];exact Hfit.out)).1;have Af:=fun V (h:FB (fun k=>w.heap.size≤k) fb f3 V)=>zg4 _ fb f3 qy 4 V h (by rw[hQ.1];exact Hfit.out.1) ⟨hQ.2.1,by omega⟩
     obtain⟨G,hG⟩:∃ x,(zbg f3 qy 4).1=x:=⟨_,rfl⟩;obtain⟨f4,Ar⟩:∃ x,(zbg f3 qy 4).2=x:=⟨_,rfl⟩;rw[hG]at hM;simp only[hG,Ar]at Af AQ;obtain⟨gk,gn,gt,gl,gq⟩:=G;have Az:=za AQ;have Ay:=za Ag;have Ax:=za Af;have hp:=za hM;have A2:=za Am;clear Ag Af AQ A0 Ai hG Ar Aa hM Am hQ hZ
     go_wp2_with fail
     refine Ay.out.mono ?_;rintro e w5 ⟨x5,rfl,-,hY,AW⟩;have AZ:=za (A2.out.trans AW (fun k _ hm => .inr (by have:=hm.1;omega)));have AD:=za (Ax.out w5 hY);clear hY AW Ax Ay A2
     go_wp2_with fail
     refine AD.out.mono ?_;rintro e w6 ⟨x6,rfl,Ao,hV,AI⟩;obtain⟨u1,e1,u2,e2,rfl,h6,-⟩:=Ao.open;have B2:∀ V:World,(Instr.field 56 (.agg #[.int .i64 gk,.int .i64 gn,.string ⟨gt.toArray⟩,.slice u1 gl.length e1,.slice u2 gq.length e2]) 3).run Tryz.prog V = .ok (.slice u1 gl.length e1) V:=fun _=>by kernel_rfl
     have A3:=za (AZ.out.trans AI (fun k _ hm => .inr (by have:=hm.1;omega)));have Hrow:=za h6;have AE:=za hV;have Ah:fb<w6.heap.size:=by obtain⟨-,y1,y2,y3,y4,h5,-⟩:=hV;exact jb h5
     have B0:gl.length≤67108864:=(fits.open hp.out.1).2.1;clear Ao hV AI h6 AD AZ
     go_wp2_with fail
     go_loopg [7,44] (gl.length+1) (fun g v7 vi wr=>∃ (i:Nat) (ao:Option Addr) (co:Nat),vi = .int .i64 i∧v7 = .slice ao i co∧i≤gl.length∧i+g=gl.length+1∧Hid (wr.ownsRow w6.heap.size 51 33 (.slice ao i co) i (zb0 (gl.take i)))∧Hid (FB (fun k=>w.heap.size≤k) fb { f4 with bad:=f4.bad||zbd (gl.take i) } wr)∧Hid (Fr (MFd fb) w6 wr))
     case atStart=>exact⟨0,none,0,rfl,rfl,by omega,by omega,za ⟨rfl,.inl ⟨rfl,rfl⟩⟩,za (by simpa[zbd] using AE.out),za Fr.refl⟩
     case round =>
      obtain⟨i,ao,co,rfl,rfl,BG,B1,Hown,hf,hz⟩:=hrel;rcases Nat.lt_or_ge i gl.length with An | A7
      ·obtain ⟨jx,AN⟩:∃ x,gl[i]? = some x:=⟨_,List.getElem?_eq_getElem An⟩;have h8:OldK.k≤fb:=by omega
       obtain⟨rb,ro,x0,x1,x2,x3,x4,rfl,B3,r0,r1,r2,r3,r4,Ac⟩:=(Hrow.out.kp (Kp.fr hz.out (fun _ h _=>h) (fun k o _ _ ht hm=>zhn h8 k o hm ht))).at AN;have Aq:=hp.out.at (j := .mk gk gn gt gl gq) AN;have hB:=zgd AN;have hS:=ze8 AN;have hU:=zdv jx;obtain⟨jk,AL,AJ,AM,AK⟩:=jx;obtain⟨s1,m1,s2,m2,h4,-,-⟩:=Ac.open;obtain⟨rfl,rfl,rfl,rfl,rfl⟩:x0 = .int .i64 jk∧x1 = .int .i64 AL∧x2 = .string ⟨AJ.toArray⟩∧x3 = .slice s1 AM.length m1∧x4 = .slice s2 AK.length m2:=by simpa using h4
       have AT:Fr NoB wr (wr.alloc (.cells #[.int .i64 jk,.int .i64 AL,.string ⟨AJ.toArray⟩,.slice s1 AM.length m1,.slice s2 AK.length m2] 56)):=Fr.refl.alloc _;obtain⟨g0,g1,g2,g3,g4,gz,BN⟩:=VB.at (zh wr (.cells #[.int .i64 jk,.int .i64 AL,.string ⟨AJ.toArray⟩,.slice s1 AM.length m1,.slice s2 AK.length m2] 56));have Bu:w6.heap.size≤wr.heap.size:=hz.out.size;have hX:=zi1 _ _ _ _ (RJ.kp (Kp.ofFr AT) _ _ Ac) Aq (Nat.le_trans (Nat.le_trans h8 (by omega:fb≤wr.heap.size)) AT.size);obtain⟨P,hP⟩:∃ P,jq (.mk jk AL AJ AM AK)=P:=⟨_,rfl⟩;rw[hP]at hX hB hS hU;obtain⟨nm,D,ok⟩:=P;simp only at hX hB hS hU;have HB:=za hB;have HS:=za hS;have Hsub:=za hX;have A1:=za AT;have Hbuilt:=za (zfv nm D hU);have AH:=za (za2 (nm:=nm) hU);have A5:=za (zds nm D);have A4:=za (zdt nm D);obtain⟨CS,Aw⟩:∃ x,jo nm D=x:=⟨_,rfl⟩;rw[Aw]at Hsub HS Hbuilt AH A5 A4;clear hB hS hX AT Aq Ac h4 hP Aw hU gz BN
       go_wp2_with fail
       refine Hsub.out.mono ?_;rintro e w7 ⟨rfl,hD⟩;have hN:=zh w7 (.cells #[.string ⟨#[]⟩,zy z6 0,zy z6 0,zy z6 0,zy z6 0,zy z6 0,zy z6 0,zy z6 0,zy z6 0,zy z6 0,zy z6 0,zy z6 0,zy z6 0,zy z6 0,zy z6 0,zy z6 0,zy z6 0,zy z6 0,zy z6 0,zy z6 0,zy z6 0,zy z6 0,zy z6 0,zy z6 0,zy z6 0,zy z6 0,zy z6 0,zy z6 0,zy z6 0,zy z6 0,zy z6 0,zy z6 0,zy z6 0] 51);have Al:=za (jf hN (n:=CS.toArray.size) (by rw[zn,AH.out];show 33≤33;omega));have Au:Fr NoB w7 ((w7.alloc (.cells #[.string ⟨#[]⟩,zy z6 0,zy z6 0,zy z6 0,zy z6 0,zy z6 0,zy z6 0,zy z6 0,zy z6 0,zy z6 0,zy z6 0,zy z6 0,zy z6 0,zy z6 0,zy z6 0,zy z6 0,zy z6 0,zy z6 0,zy z6 0,zy z6 0,zy z6 0,zy z6 0,zy z6 0,zy z6 0,zy z6 0,zy z6 0,zy z6 0,zy z6 0,zy z6 0,zy z6 0,zy z6 0,zy z6 0,zy z6 0] 51)).setCells w7.heap.size 0 CS):=((Fr.refl (M:=NoB)).alloc _).trans (z8 _ _ _ _) (fun k _ hm => .inr (by omega));have AS:=zg (w7.alloc (.cells #[.string ⟨#[]⟩,zy z6 0,zy z6 0,zy z6 0,zy z6 0,zy z6 0,zy z6 0,zy z6 0,zy z6 0,zy z6 0,zy z6 0,zy z6 0,zy z6 0,zy z6 0,zy z6 0,zy z6 0,zy z6 0,zy z6 0,zy z6 0,zy z6 0,zy z6 0,zy z6 0,zy z6 0,zy z6 0,zy z6 0,zy z6 0,zy z6 0,zy z6 0,zy z6 0,zy z6 0,zy z6 0,zy z6 0,zy z6 0] 51)) w7.heap.size 0 CS (by simpa using Al.out);have BP:Hid ((Tryz.prog.info? 51).map (·.size)=some CS.toArray.size):=za (by rw[zav,zn,AH.out]);have BO:Hid ((Tryz.prog.info? 51).map (·.size)=some CS.length):=za (by rw[zav,AH.out]);obtain⟨dS,hu,hd⟩:=zdl;have Hu:=za hu;have Hd:=za hd;have ha:=(A1.out.trans' hD).trans' Au;have BF:w6.heap.size<w7.heap.size:=zu (by rw[zf];omega) hD.size;clear hD Au hN hu hd g0 g1 g2 g3 g4
       go_upto_region 13 with(with_reducible refine wpList_store_mid rfl 51 _ _ rfl w7.heap.size 0 CS.toArray rfl rfl Al.out BP.out A5.out ?_)
       change Code.wp _ _ _ _ ((w7.alloc (.cells #[.string ⟨#[]⟩,zy z6 0,zy z6 0,zy z6 0,zy z6 0,zy z6 0,zy z6 0,zy z6 0,zy z6 0,zy z6 0,zy z6 0,zy z6 0,zy z6 0,zy z6 0,zy z6 0,zy z6 0,zy z6 0,zy z6 0,zy z6 0,zy z6 0,zy z6 0,zy z6 0,zy z6 0,zy z6 0,zy z6 0,zy z6 0,zy z6 0,zy z6 0,zy z6 0,zy z6 0,zy z6 0,zy z6 0,zy z6 0] 51)).setCells w7.heap.size 0 CS);obtain⟨w8,Ab⟩:∃ W,(w7.alloc (.cells #[.string ⟨#[]⟩,zy z6 0,zy z6 0,zy z6 0,zy z6 0,zy z6 0,zy z6 0,zy z6 0,zy z6 0,zy z6 0,zy z6 0,zy z6 0,zy z6 0,zy z6 0,zy z6 0,zy z6 0,zy z6 0,zy z6 0,zy z6 0,zy z6 0,zy z6 0,zy z6 0,zy z6 0,zy z6 0,zy z6 0,zy z6 0,zy z6 0,zy z6 0,zy z6 0,zy z6 0,zy z6 0,zy z6 0,zy z6 0] 51)).setCells w7.heap.size 0 CS=W:=⟨_,rfl⟩
       have Ap:w7.heap.size<w8.heap.size:=by
        rw[← Ab];exact zu (by rw[zf];omega) (z8 (w7.heap.size) CS 0 (w7.alloc _)).size
       rw[Ab]at AS ha ⊢;obtain⟨p7,hq⟩:∃ p,w7.heap.size=p:=⟨_,rfl⟩;rw[hq]at AS Ap BF;rw[hq];clear Ab Al hq;have hc:=hf.out.fr ha;obtain⟨AX,hr⟩:∃ b,(f4.bad||zbd (gl.take i))=b:=⟨_,rfl⟩;rw[hr]at hc;obtain⟨y1,y2,y3,y4,-,-,-,-,-,-,c6,fz,Ae,-⟩:=hc.cells;obtain⟨AC,AV⟩:=hc.setBad (AX || !ok);have Hbdi:=za hr;have AR:=za (ji AS AV Ap (fun _ h=>by have:=h.1;omega));have hv:=(ha.mono (M':=MFd fb) (fun _ _ h=>h.elim)).trans' AV;have hC:=za (zhe Hown.out hv);have he:=za (hz.out.trans' hv);have hH:=za AC;have Ad:w6.heap.size<(w8.setCell ⟨fb,6,none⟩ (.bool (AX || !ok))).heap.size:=zu (by omega) AV.size;clear AS hc AC AV hv ha hr hf Hown hz Hsub A1 r0 r1 r2 r3 r4;have A6:Hid ((f4.bad||zbd (gl.take (i+1)))=(AX || !ok)):=za (by rw[HB.out,← Bool.or_assoc,Hbdi.out]);have BK:OldK.k≤w6.heap.size:=by omega
       clear Hbdi HB;cases AX
       all_goals
        simp only[Bool.false_or,Bool.true_or]at AR hC he hH Ad A6
        go_upto_region 14 with(fail)
        first
         | (obtain⟨W9,hs⟩:∃ W,w8.setCell ⟨fb,6,none⟩ (.bool true)=W:=⟨_,rfl⟩;rw[hs]at AR hC he hH Ad;change Code.wp _ _ _ _ (w8.setCell ⟨fb,6,none⟩ (.bool true));rw[hs];clear hs)
         | (obtain⟨W9,hs⟩:∃ W,w8.setCell ⟨fb,6,none⟩ (.bool (!ok))=W:=⟨_,rfl⟩;rw[hs]at AR hC he hH Ad;change Code.wp _ _ _ _ (w8.setCell ⟨fb,6,none⟩ (.bool (!ok)));rw[hs];clear hs)
        clear c6 fz Ae
        go_wp2_with (first
         | (with_reducible refine wpList_load_mid rfl 51 _ rfl p7 0 rfl CS dS AR.out Hu.out Hd.out BO.out ?_)
         | ((with_reducible refine Great.wpList_buildSliceTo ?_ 43 51 1 _ rfl W9.heap.size rfl _ rfl Tryz.underlying43 CS.toArray ?_ ?_);rfl;(refine Eq.trans (congrArg (Tryz.prog.builtSlice 51 1) ?_) Hbuilt.out;kernel_rfl))
         | (at_builtin;(refine wpList_append_own_at _ rfl _ _ 43 rfl w6.heap.size 51 i0 (.agg #[.string ⟨#[]⟩,zy z6 0,zy z6 0,zy z6 0,zy z6 0,zy z6 0,zy z6 0,zy z6 0,zy z6 0,zy z6 0,zy z6 0,zy z6 0,zy z6 0,zy z6 0,zy z6 0,zy z6 0,zy z6 0,zy z6 0,zy z6 0,zy z6 0,zy z6 0,zy z6 0,zy z6 0,zy z6 0,zy z6 0,zy z6 0,zy z6 0,zy z6 0,zy z6 0,zy z6 0,zy z6 0,zy z6 0,zy z6 0]) 33 48 Tryz.underlying43 hi Bb Ba BZ rfl (by decide) (.slice ao i co) i (zb0 (gl.take i)) (by rfl) (hC.out.alloc _) ⟨W9.heap.size,0,none⟩ 1 1 CS (by rfl) (by rw[AH.out]) (zgu W9 CS 51) A4.out (by unfold maxLen;omega) (by omega) (by rw[zf];omega) ?_)))
        intro v' Bt hF hL h7 AA;have ho:=(hH.out.fr (Fr.refl.alloc (.cells CS.toArray 51))).grown hL (hC.out.alloc _) Ah BK;have hh:=(he.out.alloc (.cells CS.toArray 51)).trans (Fr.ofGrown hL) (fun k _ hm => .inr (zc9 hC.out hm));rcases hF.2 with⟨rfl,h0⟩ | ⟨g,cp,cur,rfl,-⟩
        ·omega
        have hw:=za hF;have AG:=za ho;have AF:=za hh;clear hF hL h7 AA ho hh
        go_wp2_with fail
        go_roundg (gk - 1)
        case measure=>omega
        case rel=>exact⟨i+1,_,_,by simp,rfl,by omega,by omega,za (by rw[HS.out];exact hw.out),za (by rw[A6.out];exact AG.out),AF⟩
      obtain rfl:i=gl.length:=by omega
      have hT:=zf9 _ fb _ wr hf.out;obtain⟨FD,AU⟩:∃ x,zdp { f4 with bad:=f4.bad||zbd (gl.take gl.length) }=x:=⟨_,rfl⟩;rw[AU]at hT;rw[List.take_length]at AU;have hO:=zdx Hown.out (Nat.le_trans BS (by omega:fb≤w6.heap.size));rw[List.take_length]at hO;have AP:=Az.out
      have As:(gl.map jq).any (fun x=>!x.2.2)=zbd gl:=by
       unfold zbd;rw[List.any_map];rfl
      simp only[J.list,As,AU,List.length_map,List.map_map]at AP
      have hI:(gl.map ((fun x:Bs × Bs × Bool=>(x.1,x.2.1)) ∘ jq)).flatMap (fun x=>jo x.1 x.2)=zb0 gl:=by
       unfold zb0;rw[List.flatMap_map];rfl
      have hJ:(gl.map ((fun x:Bs × Bs × Bool=>(x.1,x.2.1)) ∘ jq)).length=gl.length:=List.length_map _;obtain⟨LS,At⟩:∃ L,gl.map ((fun x:Bs × Bs × Bool=>(x.1,x.2.1)) ∘ jq)=L:=⟨_,rfl⟩;rw[At]at AP hI hJ;rw[← hI]at hO;have HO:=za hO;have AY:=za (A3.out.trans hz.out (fun k _ hm => .inr (by have:=hm.1;omega)));have Hdone:=za hT;have Hrz:=za AP;have Hlm:=za hJ;clear hT hO AP hI hJ At AU As Az hf Hown hz A3 Hrow AE;cases FD with
      | false =>
        obtain rfl:(none:Option (List (Bs × Bs)))=R:=by simpa using Hrz.out
        go_wp2_with fail
        refine Hdone.out.mono ?_;rintro e w7 ⟨rfl,hD⟩;have hy:=za (AY.out.trans' hD);clear hD
        go_wp2_with fail
        go_ret2;exact⟨rfl,hy.out⟩
      | true =>
        by_cases h1:gl.length<1
        ·have BI:decide ((gl.length:Int)<1)=true:=decide_eq_true (by omega)
         obtain rfl:(none:Option (List (Bs × Bs)))=R:=by
          have:=Hrz.out;rw[show decide (1≤gl.length)=false from decide_eq_false (by omega)]at this;simpa using this
         clear h1
         go_wp2_with fail
         refine Hdone.out.mono ?_;rintro e w7 ⟨rfl,hD⟩;have hy:=za (AY.out.trans' hD);clear hD
         go_wp2_with fail
         go_ret2;exact⟨rfl,hy.out⟩
        have BI:decide ((gl.length:Int)<1)=false:=decide_eq_false (by omega);by_cases h2:16<gl.length
        ·have BH:decide ((16:Int)<(gl.length:Int))=true:=decide_eq_true (by omega)
         obtain rfl:(none:Option (List (Bs × Bs)))=R:=by
          have:=Hrz.out;rw[show decide (gl.length≤16)=false from decide_eq_false (by omega)]at this;simpa using this
         clear h1 h2
         go_wp2_with fail
         refine Hdone.out.mono ?_;rintro e w7 ⟨rfl,hD⟩;have hy:=za (AY.out.trans' hD);clear hD
         go_wp2_with fail
         go_ret2;exact⟨rfl,hy.out⟩
        have BH:decide ((16:Int)<(gl.length:Int))=false:=decide_eq_false (by omega)
        obtain rfl:some LS=R:=by
         have:=Hrz.out;rw[show decide (gl.length≤16)=true from decide_eq_true (by omega),show decide (1≤gl.length)=true from decide_eq_true (by omega)]at this;simpa using this
        clear h1 h2
        go_wp2_with fail
        refine Hdone.out.mono ?_;rintro e w7 ⟨rfl,hD⟩;have hy:=za (AY.out.trans' hD);have BQ:=za (zfr HO.out hD (fun _ _ _ _ h=>h));clear hD
        go_wp2_with fail
        go_ret2;refine⟨⟨_,rfl,?_⟩,hy.out⟩;rw[Hlm.out];exact BQ.out
 | false =>
   have BD:¬ t1=zbl:=by simpa using BJ
   have hR:=HR.out;simp only[if_neg BD]at hR;obtain⟨f2,AO⟩:∃ f2:Fd,f2={ f1 with bad:=true }:=⟨_,rfl⟩;rw[← AO]at hR;have A0:=za hR;unfold zbl at BJ;clear hR HR BD
   go_wp2_with fail
   refine Ht.out.mono ?_;rintro e w4 ⟨rfl,h3,Av⟩;obtain⟨y1,y2,y3,y4,-,-,-,-,-,-,c6,fz,An,-⟩:=h3.cells;obtain⟨Aa,BL⟩:=h3.setBad true;have Am:Fr NoB w (w4.setCell ⟨fb,6,none⟩ (.bool true)):=BC.out.trans (Av.trans' BL) (fun k _ hm => .inr (by have:=hm.1;omega));have hZ:f2.j = .mk kk jn jt jl jp∧0≤f2.seen∧f2.seen≤2:=by rw[AO];exact⟨h9.1,h9.2.1,by show f1.seen≤2;omega⟩
   rw[← AO]at Aa;clear h3 Av BL AO Ht BC h9
   go_upto_region 7 with(fail)
   change Code.wp _ _ _ _ (w4.setCell ⟨fb,6,none⟩ (.bool true));obtain⟨W,hW⟩:∃ W,w4.setCell ⟨fb,6,none⟩ (.bool true)=W:=⟨_,rfl⟩;rw[hW]at Aa Am ⊢;clear hW c6 fz An BJ;have Ag:=zg4 _ fb f2 j9 5 W Aa (by rw[hZ.1];exact Hfit.out.1) ⟨hZ.2.1,by omega⟩;have hQ:=zgl (nm:=j9) (k:=5) hZ;obtain⟨f3,Ai⟩:∃ x,(zbg f2 j9 5).2=x:=⟨_,rfl⟩;rw[Ai]at Ag hQ;have AQ:=A0.out;simp only[Ai]at AQ;have hM:=(Fits.get (f:=f3) (nm:=qy) (k:=4) (by rw[hQ.1];exact Hfit.out)).1;have Af:=fun V (h:FB (fun k=>w.heap.size≤k) fb f3 V)=>zg4 _ fb f3 qy 4 V h (by rw[hQ.1];exact Hfit.out.1) ⟨hQ.2.1,by omega⟩
   obtain⟨G,hG⟩:∃ x,(zbg f3 qy 4).1=x:=⟨_,rfl⟩;obtain⟨f4,Ar⟩:∃ x,(zbg f3 qy 4).2=x:=⟨_,rfl⟩;rw[hG]at hM;simp only[hG,Ar]at Af AQ;obtain⟨gk,gn,gt,gl,gq⟩:=G;have Az:=za AQ;have Ay:=za Ag;have Ax:=za Af;have hp:=za hM;have A2:=za Am;clear Ag Af AQ A0 Ai hG Ar Aa hM Am hQ hZ
   go_wp2_with fail
   refine Ay.out.mono ?_;rintro e w5 ⟨x5,rfl,-,hY,AW⟩;have AZ:=za (A2.out.trans AW (fun k _ hm => .inr (by have:=hm.1;omega)));have AD:=za (Ax.out w5 hY);clear hY AW Ax Ay A2
   go_wp2_with fail
   refine AD.out.mono ?_;rintro e w6 ⟨x6,rfl,Ao,hV,AI⟩;obtain⟨u1,e1,u2,e2,rfl,h6,-⟩:=Ao.open;have B2:∀ V:World,(Instr.field 56 (.agg #[.int .i64 gk,.int .i64 gn,.string ⟨gt.toArray⟩,.slice u1 gl.length e1,.slice u2 gq.length e2]) 3).run Tryz.prog V = .ok (.slice u1 gl.length e1) V:=fun _=>by kernel_rfl
   have A3:=za (AZ.out.trans AI (fun k _ hm => .inr (by have:=hm.1;omega)));have Hrow:=za h6;have AE:=za hV;have Ah:fb<w6.heap.size:=by obtain⟨-,y1,y2,y3,y4,h5,-⟩:=hV;exact jb h5
   have B0:gl.length≤67108864:=(fits.open hp.out.1).2.1;clear Ao hV AI h6 AD AZ
   go_wp2_with fail
   go_loopg [7,44] (gl.length+1) (fun g v7 vi wr=>∃ (i:Nat) (ao:Option Addr) (co:Nat),vi = .int .i64 i∧v7 = .slice ao i co∧i≤gl.length∧i+g=gl.length+1∧Hid (wr.ownsRow w6.heap.size 51 33 (.slice ao i co) i (zb0 (gl.take i)))∧Hid (FB (fun k=>w.heap.size≤k) fb { f4 with bad:=f4.bad||zbd (gl.take i) } wr)∧Hid (Fr (MFd fb) w6 wr))
   case atStart=>exact⟨0,none,0,rfl,rfl,by omega,by omega,za ⟨rfl,.inl ⟨rfl,rfl⟩⟩,za (by simpa[zbd] using AE.out),za Fr.refl⟩
   case round =>
    obtain⟨i,ao,co,rfl,rfl,BG,B1,Hown,hf,hz⟩:=hrel;rcases Nat.lt_or_ge i gl.length with An | A7
    ·obtain ⟨jx,AN⟩:∃ x,gl[i]? = some x:=⟨_,List.getElem?_eq_getElem An⟩;have h8:OldK.k≤fb:=by omega
     obtain⟨rb,ro,x0,x1,x2,x3,x4,rfl,B3,r0,r1,r2,r3,r4,Ac⟩:=(Hrow.out.kp (Kp.fr hz.out (fun _ h _=>h) (fun k o _ _ ht hm=>zhn h8 k o hm ht))).at AN;have Aq:=hp.out.at (j := .mk gk gn gt gl gq) AN;have hB:=zgd AN;have hS:=ze8 AN;have hU:=zdv jx;obtain⟨jk,AL,AJ,AM,AK⟩:=jx;obtain⟨s1,m1,s2,m2,h4,-,-⟩:=Ac.open;obtain⟨rfl,rfl,rfl,rfl,rfl⟩:x0 = .int .i64 jk∧x1 = .int .i64 AL∧x2 = .string ⟨AJ.toArray⟩∧x3 = .slice s1 AM.length m1∧x4 = .slice s2 AK.length m2:=by simpa using h4
     have AT:Fr NoB wr (wr.alloc (.cells #[.int .i64 jk,.int .i64 AL,.string ⟨AJ.toArray⟩,.slice s1 AM.length m1,.slice s2 AK.length m2] 56)):=Fr.refl.alloc _;obtain⟨g0,g1,g2,g3,g4,gz,BN⟩:=VB.at (zh wr (.cells #[.int .i64 jk,.int .i64 AL,.string ⟨AJ.toArray⟩,.slice s1 AM.length m1,.slice s2 AK.length m2] 56));have Bu:w6.heap.size≤wr.heap.size:=hz.out.size;have hX:=zi1 _ _ _ _ (RJ.kp (Kp.ofFr AT) _ _ Ac) Aq (Nat.le_trans (Nat.le_trans h8 (by omega:fb≤wr.heap.size)) AT.size);obtain⟨P,hP⟩:∃ P,jq (.mk jk AL AJ AM AK)=P:=⟨_,rfl⟩;rw[hP]at hX hB hS hU;obtain⟨nm,D,ok⟩:=P;simp only at hX hB hS hU;have HB:=za hB;have HS:=za hS;have Hsub:=za hX;have A1:=za AT;have Hbuilt:=za (zfv nm D hU);have AH:=za (za2 (nm:=nm) hU);have A5:=za (zds nm D);have A4:=za (zdt nm D);obtain⟨CS,Aw⟩:∃ x,jo nm D=x:=⟨_,rfl⟩;rw[Aw]at Hsub HS Hbuilt AH A5 A4;clear hB hS hX AT Aq Ac h4 hP Aw hU gz BN
     go_wp2_with fail
     refine Hsub.out.mono ?_;rintro e w7 ⟨rfl,hD⟩;have hN:=zh w7 (.cells #[.string ⟨#[]⟩,zy z6 0,zy z6 0,zy z6 0,zy z6 0,zy z6 0,zy z6 0,zy z6 0,zy z6 0,zy z6 0,zy z6 0,zy z6 0,zy z6 0,zy z6 0,zy z6 0,zy z6 0,zy z6 0,zy z6 0,zy z6 0,zy z6 0,zy z6 0,zy z6 0,zy z6 0,zy z6 0,zy z6 0,zy z6 0,zy z6 0,zy z6 0,zy z6 0,zy z6 0,zy z6 0,zy z6 0,zy z6 0] 51);have Al:=za (jf hN (n:=CS.toArray.size) (by rw[zn,AH.out];show 33≤33;omega));have Au:Fr NoB w7 ((w7.alloc (.cells #[.string ⟨#[]⟩,zy z6 0,zy z6 0,zy z6 0,zy z6 0,zy z6 0,zy z6 0,zy z6 0,zy z6 0,zy z6 0,zy z6 0,zy z6 0,zy z6 0,zy z6 0,zy z6 0,zy z6 0,zy z6 0,zy z6 0,zy z6 0,zy z6 0,zy z6 0,zy z6 0,zy z6 0,zy z6 0,zy z6 0,zy z6 0,zy z6 0,zy z6 0,zy z6 0,zy z6 0,zy z6 0,zy z6 0,zy z6 0] 51)).setCells w7.heap.size 0 CS):=((Fr.refl (M:=NoB)).alloc _).trans (z8 _ _ _ _) (fun k _ hm => .inr (by omega));have AS:=zg (w7.alloc (.cells #[.string ⟨#[]⟩,zy z6 0,zy z6 0,zy z6 0,zy z6 0,zy z6 0,zy z6 0,zy z6 0,zy z6 0,zy z6 0,zy z6 0,zy z6 0,zy z6 0,zy z6 0,zy z6 0,zy z6 0,zy z6 0,zy z6 0,zy z6 0,zy z6 0,zy z6 0,zy z6 0,zy z6 0,zy z6 0,zy z6 0,zy z6 0,zy z6 0,zy z6 0,zy z6 0,zy z6 0,zy z6 0,zy z6 0,zy z6 0] 51)) w7.heap.size 0 CS (by simpa using Al.out);have BP:Hid ((Tryz.prog.info? 51).map (·.size)=some CS.toArray.size):=za (by rw[zav,zn,AH.out]);have BO:Hid ((Tryz.prog.info? 51).map (·.size)=some CS.length):=za (by rw[zav,AH.out]);obtain⟨dS,hu,hd⟩:=zdl;have Hu:=za hu;have Hd:=za hd;have ha:=(A1.out.trans' hD).trans' Au;have BF:w6.heap.size<w7.heap.size:=zu (by rw[zf];omega) hD.size;clear hD Au hN hu hd g0 g1 g2 g3 g4
     go_upto_region 13 with(with_reducible refine wpList_store_mid rfl 51 _ _ rfl w7.heap.size 0 CS.toArray rfl rfl Al.out BP.out A5.out ?_)
     change Code.wp _ _ _ _ ((w7.alloc (.cells #[.string ⟨#[]⟩,zy z6 0,zy z6 0,zy z6 0,zy z6 0,zy z6 0,zy z6 0,zy z6 0,zy z6 0,zy z6 0,zy z6 0,zy z6 0,zy z6 0,zy z6 0,zy z6 0,zy z6 0,zy z6 0,zy z6 0,zy z6 0,zy z6 0,zy z6 0,zy z6 0,zy z6 0,zy z6 0,zy z6 0,zy z6 0,zy z6 0,zy z6 0,zy z6 0,zy z6 0,zy z6 0,zy z6 0,zy z6 0] 51)).setCells w7.heap.size 0 CS);obtain⟨w8,Ab⟩:∃ W,(w7.alloc (.cells #[.string ⟨#[]⟩,zy z6 0,zy z6 0,zy z6 0,zy z6 0,zy z6 0,zy z6 0,zy z6 0,zy z6 0,zy z6 0,zy z6 0,zy z6 0,zy z6 0,zy z6 0,zy z6 0,zy z6 0,zy z6 0,zy z6 0,zy z6 0,zy z6 0,zy z6 0,zy z6 0,zy z6 0,zy z6 0,zy z6 0,zy z6 0,zy z6 0,zy z6 0,zy z6 0,zy z6 0,zy z6 0,zy z6 0,zy z6 0] 51)).setCells w7.heap.size 0 CS=W:=⟨_,rfl⟩
     have Ap:w7.heap.size<w8.heap.size:=by
      rw[← Ab];exact zu (by rw[zf];omega) (z8 (w7.heap.size) CS 0 (w7.alloc _)).size
     rw[Ab]at AS ha ⊢;obtain⟨p7,hq⟩:∃ p,w7.heap.size=p:=⟨_,rfl⟩;rw[hq]at AS Ap BF;rw[hq];clear Ab Al hq;have hc:=hf.out.fr ha;obtain⟨AX,hr⟩:∃ b,(f4.bad||zbd (gl.take i))=b:=⟨_,rfl⟩;rw[hr]at hc;obtain⟨y1,y2,y3,y4,-,-,-,-,-,-,c6,fz,Ae,-⟩:=hc.cells;obtain⟨AC,AV⟩:=hc.setBad (AX || !ok);have Hbdi:=za hr;have AR:=za (ji AS AV Ap (fun _ h=>by have:=h.1;omega));have hv:=(ha.mono (M':=MFd fb) (fun _ _ h=>h.elim)).trans' AV;have hC:=za (zhe Hown.out hv);have he:=za (hz.out.trans' hv);have hH:=za AC;have Ad:w6.heap.size<(w8.setCell ⟨fb,6,none⟩ (.bool (AX || !ok))).heap.size:=zu (by omega) AV.size;clear AS hc AC AV hv ha hr hf Hown hz Hsub A1 r0 r1 r2 r3 r4;have A6:Hid ((f4.bad||zbd (gl.take (i+1)))=(AX || !ok)):=za (by rw[HB.out,← Bool.or_assoc,Hbdi.out]);have BK:OldK.k≤w6.heap.size:=by omega
     clear Hbdi HB;cases AX
     all_goals
      simp only[Bool.false_or,Bool.true_or]at AR hC he hH Ad A6
      go_upto_region 14 with(fail)
      first
       | (obtain⟨W9,hs⟩:∃ W,w8.setCell ⟨fb,6,none⟩ (.bool true)=W:=⟨_,rfl⟩;rw[hs]at AR hC he hH Ad;change Code.wp _ _ _ _ (w8.setCell ⟨fb,6,none⟩ (.bool true));rw[hs];clear hs)
       | (obtain⟨W9,hs⟩:∃ W,w8.setCell ⟨fb,6,none⟩ (.bool (!ok))=W:=⟨_,rfl⟩;rw[hs]at AR hC he hH Ad;change Code.wp _ _ _ _ (w8.setCell ⟨fb,6,none⟩ (.bool (!ok)));rw[hs];clear hs)
      clear c6 fz Ae
      go_wp2_with (first
       | (with_reducible refine wpList_load_mid rfl 51 _ rfl p7 0 rfl CS dS AR.out Hu.out Hd.out BO.out ?_)
       | ((with_reducible refine Great.wpList_buildSliceTo ?_ 43 51 1 _ rfl W9.heap.size rfl _ rfl Tryz.underlying43 CS.toArray ?_ ?_);rfl;(refine Eq.trans (congrArg (Tryz.prog.builtSlice 51 1) ?_) Hbuilt.out;kernel_rfl))
       | (at_builtin;(refine wpList_append_own_at _ rfl _ _ 43 rfl w6.heap.size 51 i0 (.agg #[.string ⟨#[]⟩,zy z6 0,zy z6 0,zy z6 0,zy z6 0,zy z6 0,zy z6 0,zy z6 0,zy z6 0,zy z6 0,zy z6 0,zy z6 0,zy z6 0,zy z6 0,zy z6 0,zy z6 0,zy z6 0,zy z6 0,zy z6 0,zy z6 0,zy z6 0,zy z6 0,zy z6 0,zy z6 0,zy z6 0,zy z6 0,zy z6 0,zy z6 0,zy z6 0,zy z6 0,zy z6 0,zy z6 0,zy z6 0]) 33 48 Tryz.underlying43 hi Bb Ba BZ rfl (by decide) (.slice ao i co) i (zb0 (gl.take i)) (by rfl) (hC.out.alloc _) ⟨W9.heap.size,0,none⟩ 1 1 CS (by rfl) (by rw[AH.out]) (zgu W9 CS 51) A4.out (by unfold maxLen;omega) (by omega) (by rw[zf];omega) ?_)))
      intro v' Bt hF hL h7 AA;have ho:=(hH.out.fr (Fr.refl.alloc (.cells CS.toArray 51))).grown hL (hC.out.alloc _) Ah BK;have hh:=(he.out.alloc (.cells CS.toArray 51)).trans (Fr.ofGrown hL) (fun k _ hm => .inr (zc9 hC.out hm));rcases hF.2 with⟨rfl,h0⟩ | ⟨g,cp,cur,rfl,-⟩
      ·omega
      have hw:=za hF;have AG:=za ho;have AF:=za hh;clear hF hL h7 AA ho hh
      go_wp2_with fail
      go_roundg (gk - 1)
      case measure=>omega
      case rel=>exact⟨i+1,_,_,by simp,rfl,by omega,by omega,za (by rw[HS.out];exact hw.out),za (by rw[A6.out];exact AG.out),AF⟩
    obtain rfl:i=gl.length:=by omega
    have hT:=zf9 _ fb _ wr hf.out;obtain⟨FD,AU⟩:∃ x,zdp { f4 with bad:=f4.bad||zbd (gl.take gl.length) }=x:=⟨_,rfl⟩;rw[AU]at hT;rw[List.take_length]at AU;have hO:=zdx Hown.out (Nat.le_trans BS (by omega:fb≤w6.heap.size));rw[List.take_length]at hO;have AP:=Az.out
    have As:(gl.map jq).any (fun x=>!x.2.2)=zbd gl:=by
     unfold zbd;rw[List.any_map];rfl
    simp only[J.list,As,AU,List.length_map,List.map_map]at AP
    have hI:(gl.map ((fun x:Bs × Bs × Bool=>(x.1,x.2.1)) ∘ jq)).flatMap (fun x=>jo x.1 x.2)=zb0 gl:=by
     unfold zb0;rw[List.flatMap_map];rfl
    have hJ:(gl.map ((fun x:Bs × Bs × Bool=>(x.1,x.2.1)) ∘ jq)).length=gl.length:=List.length_map _;obtain⟨LS,At⟩:∃ L,gl.map ((fun x:Bs × Bs × Bool=>(x.1,x.2.1)) ∘ jq)=L:=⟨_,rfl⟩;rw[At]at AP hI hJ;rw[← hI]at hO;have HO:=za hO;have AY:=za (A3.out.trans hz.out (fun k _ hm => .inr (by have:=hm.1;omega)));have Hdone:=za hT;have Hrz:=za AP;have Hlm:=za hJ;clear hT hO AP hI hJ At AU As Az hf Hown hz A3 Hrow AE;cases FD with
    | false =>
      obtain rfl:(none:Option (List (Bs × Bs)))=R:=by simpa using Hrz.out
      go_wp2_with fail
      refine Hdone.out.mono ?_;rintro e w7 ⟨rfl,hD⟩;have hy:=za (AY.out.trans' hD);clear hD
      go_wp2_with fail
      go_ret2;exact⟨rfl,hy.out⟩
    | true =>
      by_cases h1:gl.length<1
      ·have BI:decide ((gl.length:Int)<1)=true:=decide_eq_true (by omega)
       obtain rfl:(none:Option (List (Bs × Bs)))=R:=by
        have:=Hrz.out;rw[show decide (1≤gl.length)=false from decide_eq_false (by omega)]at this;simpa using this
       clear h1
       go_wp2_with fail
       refine Hdone.out.mono ?_;rintro e w7 ⟨rfl,hD⟩;have hy:=za (AY.out.trans' hD);clear hD
       go_wp2_with fail
       go_ret2;exact⟨rfl,hy.out⟩
      have BI:decide ((gl.length:Int)<1)=false:=decide_eq_false (by omega);by_cases h2:16<gl.length
      ·have BH:decide ((16:Int)<(gl.length:Int))=true:=decide_eq_true (by omega)
       obtain rfl:(none:Option (List (Bs × Bs)))=R:=by
        have:=Hrz.out;rw[show decide (gl.length≤16)=false from decide_eq_false (by omega)]at this;simpa using this
       clear h1 h2
       go_wp2_with fail
       refine Hdone.out.mono ?_;rintro e w7 ⟨rfl,hD⟩;have hy:=za (AY.out.trans' hD);clear hD
       go_wp2_with fail
       go_ret2;exact⟨rfl,hy.out⟩
      have BH:decide ((16:Int)<(gl.length:Int))=false:=decide_eq_false (by omega)
      obtain rfl:some LS=R:=by
       have:=Hrz.out;rw[show decide (gl.length≤16)=true from decide_eq_true (by omega),show decide (1≤gl.length)=true from decide_eq_true (by omega)]at this;simpa using this
      clear h1 h2
      go_wp2_with fail
      refine Hdone.out.mono ?_;rintro e w7 ⟨rfl,hD⟩;have hy:=za (AY.out.trans' hD);have BQ:=za (zfr HO.out hD (fun _ _ _ _ h=>h));clear hD
      go_wp2_with fail
      go_ret2;refine⟨⟨_,rfl,?_⟩,hy.out⟩;rw[Hlm.out];exact BQ.out
end Go.Proofs.YtmgfncjfgkllcaaGreatDoor
