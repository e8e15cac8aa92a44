/-
 The walk of entry.Subjects.
-/
import Derived.Test.YtcddlemkimbkcaaGreatDoorKSubject
import Derived.Test.YtcddlemkimbkcaaGreatDoorKParsedF
import Derived.Test.YtcddlemkimbkcaaGreatDoorKCheckE
import Derived.Test.YtcddlemkimbkcaaGreatDoorKTable2
import Derived.Maps.AppendAt
import Derived.OwnWalk
open Go.Lib renaming hid→za
open Go.World renaming size_alloc→zf,rangeAt_setCells_same→zg
open Go renaming heap_alloc_new→zh
open List renaming size_toArray→zn
open Nat renaming lt_of_lt_of_le→zu
open Go.Value renaming int→zy
open Go.IntKind renaming u8→z6
namespace Go.Proofs.YtcddlemkimbkcaaGreatDoor
set_option linter.unusedVariables false
set_option linter.unusedSimpArgs false
set_option linter.unusedSectionVars false
set_option maxRecDepth 100000
set_option maxHeartbeats 4000000
open Go.RowKit
variable [OldK]
theorem zgo:(Tryz.prog.info? 164).map (fun i=>(i.zero,i.size,i.bytes))=some (some (.agg #[.string ⟨#[]⟩,zy z6 0,zy z6 0,zy z6 0,zy z6 0,zy z6 0,zy z6 0,zy z6 0,zy z6 0,zy z6 0,zy z6 0,zy z6 0,zy z6 0,zy z6 0,zy z6 0,zy z6 0,zy z6 0,zy z6 0,zy z6 0,zy z6 0,zy z6 0,zy z6 0,zy z6 0,zy z6 0,zy z6 0,zy z6 0,zy z6 0,zy z6 0,zy z6 0,zy z6 0,zy z6 0,zy z6 0,zy z6 0]),33,48):=by kernel_rfl
theorem ziv {s:Bs} (hs:s.length≤4096):Fits (zaw s).1:=by
 unfold zaw;rw[if_neg (by omega)];cases h:ziq s with
 | none=>exact Fits.zero
 | some j =>
   obtain⟨h1,h2⟩:=zot h;have h3:=zf7 j 0 h1;exact⟨zjv j h3 (by omega),zjv j h3 (by omega)⟩
def za4 (l:List J):List Value:=l.flatMap fun x=>j7 (j5 x).1 (j5 x).2.1
theorem zd9 (j:J):(j5 j).2.1.length=32:=znx _ _
def zam (l:List J):Bool:=l.any fun x=>!(j5 x).2.2
theorem zco (nm D:Bs):∀ u∈j7 nm D,u.oneCell'=true:=by
 intro v hv;unfold j7 at hv;rcases List.mem_cons.1 hv with rfl | hv
 ·rfl
 exact j0 _ _ hv
theorem za1 (w:World)(cs:List Value)(T:TypeId):∀ (j:Nat) (u:Value),cs[j]? = some u→(w.alloc (.cells cs.toArray T)).cell? ((⟨w.heap.size,0,none⟩:Addr).add j)=some u:=by
 intro j u hj;rw[Addr.add_lit,Nat.zero_add];have h:=zh w (.cells cs.toArray T);simp only[World.cell?];rw[h];simpa using hj
theorem ze6 {l:List J}{i:Nat}{x:J}(h:l[i]? = some x):zam (l.take (i+1))=(zam (l.take i) || !(j5 x).2.2):=by
 unfold zam;rw[List.take_add_one,h];simp
theorem zd4 {l:List J}{i:Nat}{x:J}(h:l[i]? = some x):za4 (l.take (i+1))=za4 (l.take i)++j7 (j5 x).1 (j5 x).2.1:=by
 unfold za4;rw[List.take_add_one,h];simp
theorem zcr {base base' e size n:Nat}{v:Value}{xs:List Value}{w:World}(h:w.ownsRow base e size v n xs)(hb:base'≤base):w.ownsRow base' e size v n xs :=
 ⟨h.1,h.2.imp id fun⟨g,cap,cur,h1,h2,h3⟩=>⟨g,cap,cur,h1,Nat.le_trans hb h2,h3⟩⟩
theorem zbr {base e size n:Nat}{v:Value}{xs:List Value}{w:World}(h:w.ownsRow base e size v n xs){k:Nat}(hk:some k=v.ownBlock):base≤k:=by
 rcases h.2 with⟨rfl,-⟩ | ⟨g,cap,cur,rfl,h2,-⟩
 ·cases hk
 cases hk;exact h2
theorem zf6 {b base n:Nat}{v:Value}{xs:List Value}{w w':World}(h:w.ownsRow base 164 33 v n xs)(hF:Fr (MFd b) w w'):w'.ownsRow base 164 33 v n xs:=by
 refine⟨h.1,h.2.imp id ?_⟩;rintro⟨g,hB,hA,h1,h2,h3,h4⟩;refine⟨g,hB,hA,h1,h2,hF.block _ _ h3 ?_,h4⟩;rintro⟨-,c,f,h⟩
 injection h with _ h _
 revert h;decide
theorem FB.grown {S:Nat→Prop}{b base n:Nat}{f:Fd}{v:Value}{xs:List Value}{w w':World}(h:FB S b f w)(hg:w.grownBy w' v.ownBlock)(ho:w.ownsRow base 164 33 v n xs)(hb:b<base)(hO:OldK.k≤base):FB S b f w':=by
 obtain⟨h0,a1,n1,a2,n2,h1,h2⟩:=h;have hF:=Fr.ofGrown hg;refine⟨h0,a1,n1,a2,n2,hF.block _ _ h1 (fun h=>by have:=zbr ho h;omega),RJ.kp (Kp.fr hF (fun _ h _=>h) (fun k o _ hk ht hm=>?_)) _ _ h2⟩;have hle:=zbr ho hm;rcases ho.2 with⟨rfl,-⟩ | ⟨g,cap,cur,rfl,h2,h3,-⟩
 ·cases hm
 cases hm;obtain rfl:=Option.some.inj (hk.symm.trans h3);rcases ht with⟨c',f',h⟩ | ⟨c',f',h⟩ | h
 ·injection h with _ h _;revert h;decide
 ·injection h with _ h _;revert h;decide
 omega
theorem zny (n:Nat)(W:World):(binOp .neq 46 (zgf n) .nilIface).run Tryz.prog W = .ok (.bool (decide (n≠0))) W:=by
 unfold zgf;by_cases h:n=0
 ·subst h;simp[go_sem]
 rw[if_neg h];simp[go_sem,h]
theorem ziz (n:Nat)(x:Tmp)(W:World):(eqGuard .neq 46 (.tmp x) (.const .nilIface) (zgf n) .nilIface).run Tryz.prog W = .ok () W:=by
 unfold zgf;by_cases h:n=0
 ·subst h;simp[go_sem,eqGuard]
 rw[if_neg h];simp[go_sem,eqGuard]
theorem zfh {f:Fd}{nm:Bs}{k:Int}{N:Int}{j:J}(h:f.j=j∧0≤f.seen∧f.seen≤N):(zde f nm k).2.j=j∧0≤(zde f nm k).2.seen∧(zde f nm k).2.seen≤N+1:=by
 obtain⟨h1,h2⟩:=zfs f nm k;refine⟨h1.trans h.1,?_⟩;rcases h2 with h2 | h2<;>rw[h2]<;>omega
theorem zof (S:Nat→Prop) (s:Bs) (pv:Value) (w:World) (hb:SB S s pv w) (hg:Gl w) (hk:OldK.k≤w.heap.size) (hlen:s.length≤1000000) :
 Calls Tryz.prog 94 #[pv] w fun e w'=>(match zd8 s with
  | none=>e = .returned (.tuple #[.slice none 0 0,.iface 56 (.int .i64 11)])
  | some l=>∃ v,e = .returned (.tuple #[v,.nilIface])∧w'.ownsRow w.heap.size 164 33 v l.length (l.flatMap fun x=>j7 x.1 x.2))∧Fr NoB w w':=by
 obtain⟨a1,c1,Bz⟩:=hb.form;obtain⟨R,hR⟩:∃ R,zd8 s=R:=⟨_,rfl⟩;rw[hR];unfold zd8 at hR;by_cases B8:2048<s.length
 ·rw[if_pos B8]at hR;subst hR;subst Bz;have hl:decide ((2048:Int)<(s.length:Int))=true:=decide_eq_true (by omega);clear hb;go_enter Tryz.func94,Tryz.ntmps94
  go_wp2_with fail
  go_ret2;exact⟨rfl,Fr.refl⟩
 rw[if_neg B8]at hR;have hl:decide ((2048:Int)<(s.length:Int))=false:=decide_eq_false (by omega);have Bj:=zus S s pv w hb hg (by unfold maxLen;omega);have A9:=ziv (s:=s) (by omega);obtain⟨j,hj⟩:∃ j,(zaw s).1=j:=⟨_,rfl⟩;obtain⟨n,hn⟩:∃ n,(zaw s).2=n:=⟨_,rfl⟩;rw[hj,hn]at Bj;rw[hj]at A9;simp only[hj,hn]at hR;clear hj hn hb;have HR:=za hR;clear hR;subst Bz;have Hpc:=za Bj;have Hfit:=za A9;clear Bj A9;obtain⟨i0,hi,Bc,Bb,Ba⟩:=info_parts zgo;have hent:True:=trivial;go_enter Tryz.func94,Tryz.ntmps94
 go_wp2_with fail
 refine Hpc.out.mono ?_;rintro e w1 ⟨x,rfl,hx,B6⟩;obtain⟨kk,jn,jt,jl,jp⟩:=j;obtain⟨b1,d1,b2,d2,rfl,-,-⟩:=hx.open;have hA:=zh w1 (.cells #[.int .i64 kk,.int .i64 jn,.string ⟨jt.toArray⟩,.slice b1 jl.length d1,.slice b2 jp.length d2] 220);obtain⟨w2,Be⟩:∃ W,w1.alloc (.cells #[.int .i64 kk,.int .i64 jn,.string ⟨jt.toArray⟩,.slice b1 jl.length d1,.slice b2 jp.length d2] 220)=W:=⟨_,rfl⟩;have Bt:Fr NoB w1 w2:=by rw[← Be];exact Fr.refl.alloc _
 rw[Be]at hA;have B5:=RJ.kp (Kp.ofFr Bt) _ _ hx;have Bn:=fun W=>And.intro (zny n W) (ziz n 22 W)
 obtain⟨E,hE⟩:∃ E,zgf n=E:=⟨_,rfl⟩;obtain⟨b0,BC⟩:∃ b,decide (n≠0)=b:=⟨_,rfl⟩;rw[hE,BC]at Bn;rw[hE];have CB:=za BC;clear BC;have BB:=za (B6.trans' Bt);have B9:=za B5;have Hne:=za Bn;have BF:w1.heap.size<w2.heap.size:=jq hA;have HA:=za hA;clear hx B6 Bt B5 hA hE Bn
 go_upto_region 4 with(fail)
 change Code.wp _ _ _ _ w2;clear Be;obtain⟨p1,Bk⟩:∃ p,w1.heap.size=p:=⟨_,rfl⟩;rw[Bk]at HA BF;rw[Bk];clear Bk;refine wp_region_held_drew (S:=fun V=>Hid (Fr NoB w2 V)) (by kernel_rfl) (za Fr.refl.drew) (fun AC=>?_);simp only[qV]
 iterate 4
  refine qt (v:=?_) rfl (Or.inl ⟨by rfl,?_⟩) AC ?_;rotate_left
  ·intro W Br;have Bq:=Br.out.block _ _ HA.out (fun h=>h);obtain⟨q0,q1,q2,q3,q4,-,-⟩:=VB.at Bq;obtain⟨Bm,Bl⟩:=Hne.out W
   try simp only[qQ]
   go_simp
   try rw[if_neg (by omega)]
   try with_reducible rfl
  try simp only[Act.put,qP]
 refine qr (i:=4) (by kernel_rfl) rfl (fun K hK=>?_)
 try simp only[qQ]
 go_simp
 skip
 refine hK.out _ _ (za (AC.out.alloc _)) (fun AC=>?_);clear hK K
 try simp only[Act.put,qP]
 refine qt (v:=?_) rfl (Or.inl ⟨by rfl,?_⟩) AC ?_;rotate_left
 ·intro W Br;have Bq:=Br.out.block _ _ HA.out (fun h=>h);obtain⟨q0,q1,q2,q3,q4,-,-⟩:=VB.at Bq;obtain⟨Bm,Bl⟩:=Hne.out W
  try simp only[qQ]
  go_simp
  try rw[if_neg (by omega)]
  try with_reducible rfl
 try simp only[Act.put,qP]
 refine wpAnyH_done (by kernel_rfl) ?_ _;clear AC;have B7:=zh w2 (.cells #[.int .i64 kk,.int .i64 jn,.string ⟨jt.toArray⟩,.slice b1 jl.length d1,.slice b2 jp.length d2,.int .i64 0,.bool b0] 225);have BX:Fr NoB w2 ((w2.alloc (.cells #[.int .i64 kk,.int .i64 jn,.string ⟨jt.toArray⟩,.slice b1 jl.length d1,.slice b2 jp.length d2,.int .i64 0,.bool b0] 225)).drew):=(Fr.refl.alloc _).drew;obtain⟨w3,Bd⟩:∃ W,(w2.alloc (.cells #[.int .i64 kk,.int .i64 jn,.string ⟨jt.toArray⟩,.slice b1 jl.length d1,.slice b2 jp.length d2,.int .i64 0,.bool b0] 225)).drew=W:=⟨_,rfl⟩;have BN:w3.heap[w2.heap.size]? = some (.cells #[.int .i64 kk,.int .i64 jn,.string ⟨jt.toArray⟩,.slice b1 jl.length d1,.slice b2 jp.length d2,.int .i64 0,.bool b0] 225 (0,0)):=by rw[← Bd];exact B7
 rw[Bd]at BX ⊢;have BT:w.heap.size≤w2.heap.size:=BB.out.size;have Bo:FB (fun k=>w.heap.size≤k) w2.heap.size ⟨.mk kk jn jt jl jp,0,b0⟩ w3:=⟨by omega,b1,d1,b2,d2,BN,RJ.kp (Kp.ofFr BX) _ _ B9.out⟩;have BD:=za (BB.out.trans' BX);obtain⟨fb,BA⟩:∃ p,w2.heap.size=p:=⟨_,rfl⟩;rw[BA]at Bo BT;rw[BA];clear BX B7 BN Bd BB B9 Hne HA BF BA;have ht:=zjt _ fb _ zif w3 Bo Hfit.out ⟨Int.le_refl 0,show(0:Int)≤1000 by decide⟩;have By:=zfs ⟨.mk kk jn jt jl jp,0,b0⟩ zif 3;have CA:=(Fits.get (f:=⟨.mk kk jn jt jl jp,0,b0⟩) (nm:=zif) (k:=3) Hfit.out).1.text;have hR:=HR.out;have BC:=CB.out;simp only[BC]at hR;unfold ztp at hR;obtain⟨t1,Bi⟩:∃ x,(zcm ⟨.mk kk jn jt jl jp,0,b0⟩ zif).1=x:=⟨_,rfl⟩;obtain⟨f1,BW⟩:∃ x,(zcm ⟨.mk kk jn jt jl jp,0,b0⟩ zif).2=x:=⟨_,rfl⟩
 have AA:f1.j = .mk kk jn jt jl jp∧0≤f1.seen∧f1.seen≤1:=by
  rw[← BW];obtain⟨h1,h2⟩:=By;refine⟨h1,?_⟩;rcases h2 with h2 | h2
  ·show 0≤(zde _ _ _).2.seen∧(zde _ _ _).2.seen≤1;rw[h2];exact⟨Int.le_refl 0,show(0:Int)≤1 by decide⟩
  show 0≤(zde _ _ _).2.seen∧(zde _ _ _).2.seen≤1;rw[h2];exact⟨show(0:Int)≤0+1 by decide,show(0:Int)+1≤1 by decide⟩
 rw[Bi,BW]at ht;simp only[Bi,BW]at hR;clear HR;have HR:=za hR;have Ht:=za ht;clear ht By CA hR Bi BW Bo BC;obtain⟨bs,BK⟩:∃ b,(t1==zcf)=b:=⟨_,rfl⟩;cases bs with
 | true =>
   have BE:t1=zcf:=by simpa using BK
   have hR:=HR.out;simp only[if_pos BE]at hR;have Bh:=fun V h=>zjt (fun k=>w.heap.size≤k) fb f1 zab V h (by rw[AA.1];exact Hfit.out) ⟨AA.2.1,by omega⟩
   have Bw:=(Fits.get (f:=f1) (nm:=zab) (k:=3) (by rw[AA.1];exact Hfit.out)).1.text;have BV:=zfh (nm:=zab) (k:=3) AA;obtain⟨t2,BU⟩:∃ x,(zcm f1 zab).1=x:=⟨_,rfl⟩;obtain⟨g2,A8⟩:∃ x,(zcm f1 zab).2=x:=⟨_,rfl⟩;have Bg:t2.length≤1000000:=by rw[← BU];exact Bw
   have B0:g2.j = .mk kk jn jt jl jp∧0≤g2.seen∧g2.seen≤2:=by rw[← A8];exact⟨BV.1,BV.2.1,by have:=BV.2.2;show(zde _ _ _).2.seen≤2;omega⟩
   rw[BU,A8]at hR;simp only[BU,A8]at Bh;have Bf:=fun V=>zpa t2 V (by omega)
   obtain⟨bt,Bp⟩:∃ x,zck t2=x:=⟨_,rfl⟩;rw[Bp]at hR;simp only[Bp]at Bf;have BY:=za Bh;have Hty:=za Bf;have BZ:=za hR;have Hgs:=za B0;subst BE;clear Bh Bw BV BU A8 Bg B0 Bf Bp hR HR AA BK;cases bt with
   | true =>
     obtain⟨f2,AP⟩:∃ f2:Fd,f2=g2:=⟨_,rfl⟩;have hR:=BZ.out;simp only[if_true]at hR;rw[← AP]at hR;have A1:=za hR;clear hR BZ
     go_wp2_with fail
     refine Ht.out.mono ?_;rintro e w4 ⟨rfl,h4,Aw⟩;have Ak:=za (BY.out w4 h4);have BS:=za Aw;clear h4 Aw Ht BY
     go_wp2_with fail
     refine Ak.out.mono ?_;rintro e w5 ⟨rfl,hY,AX⟩;have Aa:=za (BS.out.trans' AX);have Al:=za hY;clear hY AX Ak BS
     go_wp2_with fail
     refine(Hty.out _).mono ?_;rintro e W ⟨rfl,AJ⟩;have Ab:=Al.out.fr AJ;have An:Fr NoB w W:=(BD.out.trans Aa.out (fun k _ hm => .inr (by have:=hm.1;omega))).trans' AJ;have hZ:f2.j = .mk kk jn jt jl jp∧0≤f2.seen∧f2.seen≤2:=by rw[AP];exact Hgs.out
     rw[← AP]at Ab;clear AJ AP BD Aa Hgs Al Hty
     go_upto_region 7 with(fail)
     change Code.wp _ _ _ _ W;have Ah:=zgl _ fb f2 qu 5 W Ab (by rw[hZ.1];exact Hfit.out.1) ⟨hZ.2.1,by omega⟩;have hQ:=zfh (nm:=qu) (k:=5) hZ;obtain⟨f3,Aj⟩:∃ x,(zde f2 qu 5).2=x:=⟨_,rfl⟩;rw[Aj]at Ah hQ;have AR:=A1.out;simp only[Aj]at AR;have hM:=(Fits.get (f:=f3) (nm:=q9) (k:=4) (by rw[hQ.1];exact Hfit.out)).1;have Ag:=fun V (h:FB (fun k=>w.heap.size≤k) fb f3 V)=>zgl _ fb f3 q9 4 V h (by rw[hQ.1];exact Hfit.out.1) ⟨hQ.2.1,by omega⟩
     obtain⟨G,hG⟩:∃ x,(zde f3 q9 4).1=x:=⟨_,rfl⟩;obtain⟨f4,As⟩:∃ x,(zde f3 q9 4).2=x:=⟨_,rfl⟩;rw[hG]at hM;simp only[hG,As]at Ag AR;obtain⟨gk,gn,gt,gl,gq⟩:=G;have A0:=za AR;have Az:=za Ah;have Ay:=za Ag;have hp:=za hM;have A3:=za An;clear Ah Ag AR A1 Aj hG As Ab hM An hQ hZ
     go_wp2_with fail
     refine Az.out.mono ?_;rintro e w5 ⟨x5,rfl,-,hY,AX⟩;have Aa:=za (A3.out.trans AX (fun k _ hm => .inr (by have:=hm.1;omega)));have AE:=za (Ay.out w5 hY);clear hY AX Ay Az A3
     go_wp2_with fail
     refine AE.out.mono ?_;rintro e w6 ⟨x6,rfl,Ap,hV,AJ⟩;obtain⟨u1,e1,u2,e2,rfl,h7,-⟩:=Ap.open;have B3:∀ V:World,(Instr.field 220 (.agg #[.int .i64 gk,.int .i64 gn,.string ⟨gt.toArray⟩,.slice u1 gl.length e1,.slice u2 gq.length e2]) 3).run Tryz.prog V = .ok (.slice u1 gl.length e1) V:=fun _=>by kernel_rfl
     have A4:=za (Aa.out.trans AJ (fun k _ hm => .inr (by have:=hm.1;omega)));have Hrow:=za h7;have AF:=za hV;have Ai:fb<w6.heap.size:=by obtain⟨-,y1,y2,y3,y4,h5,-⟩:=hV;exact jq h5
     have B1:gl.length≤67108864:=(fits.open hp.out.1).2.1;clear Ap hV AJ h7 AE Aa
     go_wp2_with fail
     go_loopg [7,44] (gl.length+1) (fun g v7 vi wr=>∃ (i:Nat) (ao:Option Addr) (co:Nat),vi = .int .i64 i∧v7 = .slice ao i co∧i≤gl.length∧i+g=gl.length+1∧Hid (wr.ownsRow w6.heap.size 164 33 (.slice ao i co) i (za4 (gl.take i)))∧Hid (FB (fun k=>w.heap.size≤k) fb { f4 with bad:=f4.bad||zam (gl.take i) } wr)∧Hid (Fr (MFd fb) w6 wr))
     case atStart=>exact⟨0,none,0,rfl,rfl,by omega,by omega,za ⟨rfl,.inl ⟨rfl,rfl⟩⟩,za (by simpa[zam] using AF.out),za Fr.refl⟩
     case round =>
      obtain⟨i,ao,co,rfl,rfl,BH,B2,Hown,hf,h3⟩:=hrel;rcases Nat.lt_or_ge i gl.length with Ao | A8
      ·obtain ⟨jx,AO⟩:∃ x,gl[i]? = some x:=⟨_,List.getElem?_eq_getElem Ao⟩;have h9:OldK.k≤fb:=by omega
       obtain⟨rb,ro,x0,x1,x2,x3,x4,rfl,B4,r0,r1,r2,r3,r4,Ad⟩:=(Hrow.out.kp (Kp.fr h3.out (fun _ h _=>h) (fun k o _ _ ht hm=>zhu h9 k o hm ht))).at AO;have Ar:=hp.out.at (j := .mk gk gn gt gl gq) AO;have hB:=ze6 AO;have hS:=zd4 AO;have hU:=zd9 jx;obtain⟨jk,AM,AK,AN,AL⟩:=jx;obtain⟨s1,m1,s2,m2,h6,-,-⟩:=Ad.open;obtain⟨rfl,rfl,rfl,rfl,rfl⟩:x0 = .int .i64 jk∧x1 = .int .i64 AM∧x2 = .string ⟨AK.toArray⟩∧x3 = .slice s1 AN.length m1∧x4 = .slice s2 AL.length m2:=by simpa using h6
       have AU:Fr NoB wr (wr.alloc (.cells #[.int .i64 jk,.int .i64 AM,.string ⟨AK.toArray⟩,.slice s1 AN.length m1,.slice s2 AL.length m2] 220)):=Fr.refl.alloc _;obtain⟨g0,g1,g2,g3,g4,gz,BO⟩:=VB.at (zh wr (.cells #[.int .i64 jk,.int .i64 AM,.string ⟨AK.toArray⟩,.slice s1 AN.length m1,.slice s2 AL.length m2] 220));have Bv:w6.heap.size≤wr.heap.size:=h3.out.size;have hX:=zhe _ _ _ _ (RJ.kp (Kp.ofFr AU) _ _ Ad) Ar (Nat.le_trans (Nat.le_trans h9 (by omega:fb≤wr.heap.size)) AU.size);obtain⟨P,hP⟩:∃ P,j5 (.mk jk AM AK AN AL)=P:=⟨_,rfl⟩;rw[hP]at hX hB hS hU;obtain⟨nm,D,ok⟩:=P;simp only at hX hB hS hU;have HB:=za hB;have HS:=za hS;have Hsub:=za hX;have A2:=za AU;have Hbuilt:=za (zer nm D hU);have AI:=za (zb2 (nm:=nm) hU);have A6:=za (zcn nm D);have A5:=za (zco nm D);obtain⟨CS,Ax⟩:∃ x,j7 nm D=x:=⟨_,rfl⟩;rw[Ax]at Hsub HS Hbuilt AI A6 A5;clear hB hS hX AU Ar Ad h6 hP Ax hU gz BO
       go_wp2_with fail
       refine Hsub.out.mono ?_;rintro e w7 ⟨rfl,hD⟩;have hN:=zh w7 (.cells #[.string ⟨#[]⟩,zy z6 0,zy z6 0,zy z6 0,zy z6 0,zy z6 0,zy z6 0,zy z6 0,zy z6 0,zy z6 0,zy z6 0,zy z6 0,zy z6 0,zy z6 0,zy z6 0,zy z6 0,zy z6 0,zy z6 0,zy z6 0,zy z6 0,zy z6 0,zy z6 0,zy z6 0,zy z6 0,zy z6 0,zy z6 0,zy z6 0,zy z6 0,zy z6 0,zy z6 0,zy z6 0,zy z6 0,zy z6 0] 164);have Am:=za (jr hN (n:=CS.toArray.size) (by rw[zn,AI.out];show 33≤33;omega));have Av:Fr NoB w7 ((w7.alloc (.cells #[.string ⟨#[]⟩,zy z6 0,zy z6 0,zy z6 0,zy z6 0,zy z6 0,zy z6 0,zy z6 0,zy z6 0,zy z6 0,zy z6 0,zy z6 0,zy z6 0,zy z6 0,zy z6 0,zy z6 0,zy z6 0,zy z6 0,zy z6 0,zy z6 0,zy z6 0,zy z6 0,zy z6 0,zy z6 0,zy z6 0,zy z6 0,zy z6 0,zy z6 0,zy z6 0,zy z6 0,zy z6 0,zy z6 0,zy z6 0] 164)).setCells w7.heap.size 0 CS):=((Fr.refl (M:=NoB)).alloc _).trans (jd _ _ _ _) (fun k _ hm => .inr (by omega));have AT:=zg (w7.alloc (.cells #[.string ⟨#[]⟩,zy z6 0,zy z6 0,zy z6 0,zy z6 0,zy z6 0,zy z6 0,zy z6 0,zy z6 0,zy z6 0,zy z6 0,zy z6 0,zy z6 0,zy z6 0,zy z6 0,zy z6 0,zy z6 0,zy z6 0,zy z6 0,zy z6 0,zy z6 0,zy z6 0,zy z6 0,zy z6 0,zy z6 0,zy z6 0,zy z6 0,zy z6 0,zy z6 0,zy z6 0,zy z6 0,zy z6 0,zy z6 0] 164)) w7.heap.size 0 CS (by simpa using Am.out);have BQ:Hid ((Tryz.prog.info? 164).map (·.size)=some CS.toArray.size):=za (by rw[zah,zn,AI.out]);have BP:Hid ((Tryz.prog.info? 164).map (·.size)=some CS.length):=za (by rw[zah,AI.out]);obtain⟨dS,hu,hd⟩:=zdo;have Hu:=za hu;have Hd:=za hd;have ha:=(A2.out.trans' hD).trans' Av;have BG:w6.heap.size<w7.heap.size:=zu (by rw[zf];omega) hD.size;clear hD Av hN hu hd g0 g1 g2 g3 g4
       go_upto_region 13 with(with_reducible refine wpList_store_mid rfl 164 _ _ rfl w7.heap.size 0 CS.toArray rfl rfl Am.out BQ.out A6.out ?_)
       change Code.wp _ _ _ _ ((w7.alloc (.cells #[.string ⟨#[]⟩,zy z6 0,zy z6 0,zy z6 0,zy z6 0,zy z6 0,zy z6 0,zy z6 0,zy z6 0,zy z6 0,zy z6 0,zy z6 0,zy z6 0,zy z6 0,zy z6 0,zy z6 0,zy z6 0,zy z6 0,zy z6 0,zy z6 0,zy z6 0,zy z6 0,zy z6 0,zy z6 0,zy z6 0,zy z6 0,zy z6 0,zy z6 0,zy z6 0,zy z6 0,zy z6 0,zy z6 0,zy z6 0] 164)).setCells w7.heap.size 0 CS);obtain⟨w8,Ac⟩:∃ W,(w7.alloc (.cells #[.string ⟨#[]⟩,zy z6 0,zy z6 0,zy z6 0,zy z6 0,zy z6 0,zy z6 0,zy z6 0,zy z6 0,zy z6 0,zy z6 0,zy z6 0,zy z6 0,zy z6 0,zy z6 0,zy z6 0,zy z6 0,zy z6 0,zy z6 0,zy z6 0,zy z6 0,zy z6 0,zy z6 0,zy z6 0,zy z6 0,zy z6 0,zy z6 0,zy z6 0,zy z6 0,zy z6 0,zy z6 0,zy z6 0,zy z6 0] 164)).setCells w7.heap.size 0 CS=W:=⟨_,rfl⟩
       have Aq:w7.heap.size<w8.heap.size:=by
        rw[← Ac];exact zu (by rw[zf];omega) (jd (w7.heap.size) CS 0 (w7.alloc _)).size
       rw[Ac]at AT ha ⊢;obtain⟨p7,hq⟩:∃ p,w7.heap.size=p:=⟨_,rfl⟩;rw[hq]at AT Aq BG;rw[hq];clear Ac Am hq;have hc:=hf.out.fr ha;obtain⟨AY,hr⟩:∃ b,(f4.bad||zam (gl.take i))=b:=⟨_,rfl⟩;rw[hr]at hc;obtain⟨y1,y2,y3,y4,-,-,-,-,-,-,c6,fz,Af,-⟩:=hc.cells;obtain⟨AD,AW⟩:=hc.setBad (AY || !ok);have Hbdi:=za hr;have AS:=za (je AT AW Aq (fun _ h=>by have:=h.1;omega));have hw:=(ha.mono (M':=MFd fb) (fun _ _ h=>h.elim)).trans' AW;have hC:=za (zf6 Hown.out hw);have he:=za (h3.out.trans' hw);have hH:=za AD;have Ae:w6.heap.size<(w8.setCell ⟨fb,6,none⟩ (.bool (AY || !ok))).heap.size:=zu (by omega) AW.size;clear AT hc AD AW hw ha hr hf Hown h3 Hsub A2 r0 r1 r2 r3 r4;have A7:Hid ((f4.bad||zam (gl.take (i+1)))=(AY || !ok)):=za (by rw[HB.out,← Bool.or_assoc,Hbdi.out]);have BL:OldK.k≤w6.heap.size:=by omega
       clear Hbdi HB;cases AY
       all_goals
        simp only[Bool.false_or,Bool.true_or]at AS hC he hH Ae A7
        go_upto_region 14 with(fail)
        first
         | (obtain⟨W9,hs⟩:∃ W,w8.setCell ⟨fb,6,none⟩ (.bool true)=W:=⟨_,rfl⟩;rw[hs]at AS hC he hH Ae;change Code.wp _ _ _ _ (w8.setCell ⟨fb,6,none⟩ (.bool true));rw[hs];clear hs)
         | (obtain⟨W9,hs⟩:∃ W,w8.setCell ⟨fb,6,none⟩ (.bool (!ok))=W:=⟨_,rfl⟩;rw[hs]at AS hC he hH Ae;change Code.wp _ _ _ _ (w8.setCell ⟨fb,6,none⟩ (.bool (!ok)));rw[hs];clear hs)
        clear c6 fz Af
        go_wp2_with (first
         | (with_reducible refine wpList_load_mid rfl 164 _ rfl p7 0 rfl CS dS AS.out Hu.out Hd.out BP.out ?_)
         | ((with_reducible refine Great.wpList_buildSliceTo ?_ 160 164 1 _ rfl W9.heap.size rfl _ rfl Tryz.underlying160 CS.toArray ?_ ?_);rfl;(refine Eq.trans (congrArg (Tryz.prog.builtSlice 164 1) ?_) Hbuilt.out;kernel_rfl))
         | (at_builtin;(refine wpList_append_own_at _ rfl _ _ 160 rfl w6.heap.size 164 i0 (.agg #[.string ⟨#[]⟩,zy z6 0,zy z6 0,zy z6 0,zy z6 0,zy z6 0,zy z6 0,zy z6 0,zy z6 0,zy z6 0,zy z6 0,zy z6 0,zy z6 0,zy z6 0,zy z6 0,zy z6 0,zy z6 0,zy z6 0,zy z6 0,zy z6 0,zy z6 0,zy z6 0,zy z6 0,zy z6 0,zy z6 0,zy z6 0,zy z6 0,zy z6 0,zy z6 0,zy z6 0,zy z6 0,zy z6 0,zy z6 0]) 33 48 Tryz.underlying160 hi Bc Bb Ba rfl (by decide) (.slice ao i co) i (za4 (gl.take i)) (by rfl) (hC.out.alloc _) ⟨W9.heap.size,0,none⟩ 1 1 CS (by rfl) (by rw[AI.out]) (za1 W9 CS 164) A5.out (by unfold maxLen;omega) (by omega) (by rw[zf];omega) ?_)))
        intro v' Bu hF hL h8 AB;have ho:=(hH.out.fr (Fr.refl.alloc (.cells CS.toArray 164))).grown hL (hC.out.alloc _) Ai BL;have hh:=(he.out.alloc (.cells CS.toArray 164)).trans (Fr.ofGrown hL) (fun k _ hm => .inr (zbr hC.out hm));rcases hF.2 with⟨rfl,h0⟩ | ⟨g,cp,cur,rfl,-⟩
        ·omega
        have hy:=za hF;have AH:=za ho;have AG:=za hh;clear hF hL h8 AB ho hh
        go_wp2_with fail
        go_roundg (gk - 1)
        case measure=>omega
        case rel=>exact⟨i+1,_,_,by simp,rfl,by omega,by omega,za (by rw[HS.out];exact hy.out),za (by rw[A7.out];exact AH.out),AG⟩
      obtain rfl:i=gl.length:=by omega
      have hT:=zhz _ fb _ wr hf.out;obtain⟨FD,AV⟩:∃ x,zig { f4 with bad:=f4.bad||zam (gl.take gl.length) }=x:=⟨_,rfl⟩;rw[AV]at hT;rw[List.take_length]at AV;have hO:=zcr Hown.out (Nat.le_trans BT (by omega:fb≤w6.heap.size));rw[List.take_length]at hO;have AQ:=A0.out
      have At:(gl.map j5).any (fun x=>!x.2.2)=zam gl:=by
       unfold zam;rw[List.any_map];rfl
      simp only[J.list,At,AV,List.length_map,List.map_map]at AQ
      have hI:(gl.map ((fun x:Bs × Bs × Bool=>(x.1,x.2.1)) ∘ j5)).flatMap (fun x=>j7 x.1 x.2)=za4 gl:=by
       unfold za4;rw[List.flatMap_map];rfl
      have hJ:(gl.map ((fun x:Bs × Bs × Bool=>(x.1,x.2.1)) ∘ j5)).length=gl.length:=List.length_map _;obtain⟨LS,Au⟩:∃ L,gl.map ((fun x:Bs × Bs × Bool=>(x.1,x.2.1)) ∘ j5)=L:=⟨_,rfl⟩;rw[Au]at AQ hI hJ;rw[← hI]at hO;have HO:=za hO;have AZ:=za (A4.out.trans h3.out (fun k _ hm => .inr (by have:=hm.1;omega)));have Hdone:=za hT;have Hrz:=za AQ;have Hlm:=za hJ;clear hT hO AQ hI hJ Au AV At A0 hf Hown h3 A4 Hrow AF;cases FD with
      | false =>
        obtain rfl:(none:Option (List (Bs × Bs)))=R:=by simpa using Hrz.out
        go_wp2_with fail
        refine Hdone.out.mono ?_;rintro e w7 ⟨rfl,hD⟩;have hz:=za (AZ.out.trans' hD);clear hD
        go_wp2_with fail
        go_ret2;exact⟨rfl,hz.out⟩
      | true =>
        by_cases h1:gl.length<1
        ·have BJ:decide ((gl.length:Int)<1)=true:=decide_eq_true (by omega)
         obtain rfl:(none:Option (List (Bs × Bs)))=R:=by
          have:=Hrz.out;rw[show decide (1≤gl.length)=false from decide_eq_false (by omega)]at this;simpa using this
         clear h1
         go_wp2_with fail
         refine Hdone.out.mono ?_;rintro e w7 ⟨rfl,hD⟩;have hz:=za (AZ.out.trans' hD);clear hD
         go_wp2_with fail
         go_ret2;exact⟨rfl,hz.out⟩
        have BJ:decide ((gl.length:Int)<1)=false:=decide_eq_false (by omega);by_cases h2:16<gl.length
        ·have BI:decide ((16:Int)<(gl.length:Int))=true:=decide_eq_true (by omega)
         obtain rfl:(none:Option (List (Bs × Bs)))=R:=by
          have:=Hrz.out;rw[show decide (gl.length≤16)=false from decide_eq_false (by omega)]at this;simpa using this
         clear h1 h2
         go_wp2_with fail
         refine Hdone.out.mono ?_;rintro e w7 ⟨rfl,hD⟩;have hz:=za (AZ.out.trans' hD);clear hD
         go_wp2_with fail
         go_ret2;exact⟨rfl,hz.out⟩
        have BI:decide ((16:Int)<(gl.length:Int))=false:=decide_eq_false (by omega)
        obtain rfl:some LS=R:=by
         have:=Hrz.out;rw[show decide (gl.length≤16)=true from decide_eq_true (by omega),show decide (1≤gl.length)=true from decide_eq_true (by omega)]at this;simpa using this
        clear h1 h2
        go_wp2_with fail
        refine Hdone.out.mono ?_;rintro e w7 ⟨rfl,hD⟩;have hz:=za (AZ.out.trans' hD);have BR:=za (zaj HO.out hD (fun _ _ _ _ h=>h));clear hD
        go_wp2_with fail
        go_ret2;refine⟨⟨_,rfl,?_⟩,hz.out⟩;rw[Hlm.out];exact BR.out
   | false =>
     obtain⟨f2,AP⟩:∃ f2:Fd,f2={ g2 with bad:=true }:=⟨_,rfl⟩;have hR:=BZ.out;simp only[Bool.false_eq_true,if_false]at hR;rw[← AP]at hR;have A1:=za hR;clear hR BZ
     go_wp2_with fail
     refine Ht.out.mono ?_;rintro e w4 ⟨rfl,h4,Aw⟩;have Ak:=za (BY.out w4 h4);have BS:=za Aw;clear h4 Aw Ht BY
     go_wp2_with fail
     refine Ak.out.mono ?_;rintro e w5 ⟨rfl,hY,AX⟩;have Aa:=za (BS.out.trans' AX);have Al:=za hY;clear hY AX Ak BS
     go_wp2_with fail
     refine(Hty.out _).mono ?_;rintro e w6 ⟨rfl,AJ⟩;have hV:=Al.out.fr AJ;obtain⟨y1,y2,y3,y4,-,-,-,-,-,-,c6,fz,Ao,-⟩:=hV.cells;obtain⟨Ab,BM⟩:=hV.setBad true;have An:Fr NoB w (w6.setCell ⟨fb,6,none⟩ (.bool true)):=(BD.out.trans (Aa.out.trans' (AJ.mono (fun _ _ h=>h.elim))) (fun k _ hm => .inr (by have:=hm.1;omega))).trans BM (fun k _ hm => .inr (by have:=hm.1;omega));have hZ:f2.j = .mk kk jn jt jl jp∧0≤f2.seen∧f2.seen≤2:=by rw[AP];exact Hgs.out
     rw[← AP]at Ab;clear AJ BM AP BD Aa Hgs Al hV Hty
     go_upto_region 7 with(fail)
     change Code.wp _ _ _ _ (w6.setCell ⟨fb,6,none⟩ (.bool true));obtain⟨W,hW⟩:∃ W,w6.setCell ⟨fb,6,none⟩ (.bool true)=W:=⟨_,rfl⟩;rw[hW]at Ab An ⊢;clear hW c6 fz Ao;have Ah:=zgl _ fb f2 qu 5 W Ab (by rw[hZ.1];exact Hfit.out.1) ⟨hZ.2.1,by omega⟩;have hQ:=zfh (nm:=qu) (k:=5) hZ;obtain⟨f3,Aj⟩:∃ x,(zde f2 qu 5).2=x:=⟨_,rfl⟩;rw[Aj]at Ah hQ;have AR:=A1.out;simp only[Aj]at AR;have hM:=(Fits.get (f:=f3) (nm:=q9) (k:=4) (by rw[hQ.1];exact Hfit.out)).1;have Ag:=fun V (h:FB (fun k=>w.heap.size≤k) fb f3 V)=>zgl _ fb f3 q9 4 V h (by rw[hQ.1];exact Hfit.out.1) ⟨hQ.2.1,by omega⟩
     obtain⟨G,hG⟩:∃ x,(zde f3 q9 4).1=x:=⟨_,rfl⟩;obtain⟨f4,As⟩:∃ x,(zde f3 q9 4).2=x:=⟨_,rfl⟩;rw[hG]at hM;simp only[hG,As]at Ag AR;obtain⟨gk,gn,gt,gl,gq⟩:=G;have A0:=za AR;have Az:=za Ah;have Ay:=za Ag;have hp:=za hM;have A3:=za An;clear Ah Ag AR A1 Aj hG As Ab hM An hQ hZ
     go_wp2_with fail
     refine Az.out.mono ?_;rintro e w5 ⟨x5,rfl,-,hY,AX⟩;have Aa:=za (A3.out.trans AX (fun k _ hm => .inr (by have:=hm.1;omega)));have AE:=za (Ay.out w5 hY);clear hY AX Ay Az A3
     go_wp2_with fail
     refine AE.out.mono ?_;rintro e w6 ⟨x6,rfl,Ap,hV,AJ⟩;obtain⟨u1,e1,u2,e2,rfl,h7,-⟩:=Ap.open;have B3:∀ V:World,(Instr.field 220 (.agg #[.int .i64 gk,.int .i64 gn,.string ⟨gt.toArray⟩,.slice u1 gl.length e1,.slice u2 gq.length e2]) 3).run Tryz.prog V = .ok (.slice u1 gl.length e1) V:=fun _=>by kernel_rfl
     have A4:=za (Aa.out.trans AJ (fun k _ hm => .inr (by have:=hm.1;omega)));have Hrow:=za h7;have AF:=za hV;have Ai:fb<w6.heap.size:=by obtain⟨-,y1,y2,y3,y4,h5,-⟩:=hV;exact jq h5
     have B1:gl.length≤67108864:=(fits.open hp.out.1).2.1;clear Ap hV AJ h7 AE Aa
     go_wp2_with fail
     go_loopg [7,44] (gl.length+1) (fun g v7 vi wr=>∃ (i:Nat) (ao:Option Addr) (co:Nat),vi = .int .i64 i∧v7 = .slice ao i co∧i≤gl.length∧i+g=gl.length+1∧Hid (wr.ownsRow w6.heap.size 164 33 (.slice ao i co) i (za4 (gl.take i)))∧Hid (FB (fun k=>w.heap.size≤k) fb { f4 with bad:=f4.bad||zam (gl.take i) } wr)∧Hid (Fr (MFd fb) w6 wr))
     case atStart=>exact⟨0,none,0,rfl,rfl,by omega,by omega,za ⟨rfl,.inl ⟨rfl,rfl⟩⟩,za (by simpa[zam] using AF.out),za Fr.refl⟩
     case round =>
      obtain⟨i,ao,co,rfl,rfl,BH,B2,Hown,hf,h3⟩:=hrel;rcases Nat.lt_or_ge i gl.length with Ao | A8
      ·obtain ⟨jx,AO⟩:∃ x,gl[i]? = some x:=⟨_,List.getElem?_eq_getElem Ao⟩;have h9:OldK.k≤fb:=by omega
       obtain⟨rb,ro,x0,x1,x2,x3,x4,rfl,B4,r0,r1,r2,r3,r4,Ad⟩:=(Hrow.out.kp (Kp.fr h3.out (fun _ h _=>h) (fun k o _ _ ht hm=>zhu h9 k o hm ht))).at AO;have Ar:=hp.out.at (j := .mk gk gn gt gl gq) AO;have hB:=ze6 AO;have hS:=zd4 AO;have hU:=zd9 jx;obtain⟨jk,AM,AK,AN,AL⟩:=jx;obtain⟨s1,m1,s2,m2,h6,-,-⟩:=Ad.open;obtain⟨rfl,rfl,rfl,rfl,rfl⟩:x0 = .int .i64 jk∧x1 = .int .i64 AM∧x2 = .string ⟨AK.toArray⟩∧x3 = .slice s1 AN.length m1∧x4 = .slice s2 AL.length m2:=by simpa using h6
       have AU:Fr NoB wr (wr.alloc (.cells #[.int .i64 jk,.int .i64 AM,.string ⟨AK.toArray⟩,.slice s1 AN.length m1,.slice s2 AL.length m2] 220)):=Fr.refl.alloc _;obtain⟨g0,g1,g2,g3,g4,gz,BO⟩:=VB.at (zh wr (.cells #[.int .i64 jk,.int .i64 AM,.string ⟨AK.toArray⟩,.slice s1 AN.length m1,.slice s2 AL.length m2] 220));have Bv:w6.heap.size≤wr.heap.size:=h3.out.size;have hX:=zhe _ _ _ _ (RJ.kp (Kp.ofFr AU) _ _ Ad) Ar (Nat.le_trans (Nat.le_trans h9 (by omega:fb≤wr.heap.size)) AU.size);obtain⟨P,hP⟩:∃ P,j5 (.mk jk AM AK AN AL)=P:=⟨_,rfl⟩;rw[hP]at hX hB hS hU;obtain⟨nm,D,ok⟩:=P;simp only at hX hB hS hU;have HB:=za hB;have HS:=za hS;have Hsub:=za hX;have A2:=za AU;have Hbuilt:=za (zer nm D hU);have AI:=za (zb2 (nm:=nm) hU);have A6:=za (zcn nm D);have A5:=za (zco nm D);obtain⟨CS,Ax⟩:∃ x,j7 nm D=x:=⟨_,rfl⟩;rw[Ax]at Hsub HS Hbuilt AI A6 A5;clear hB hS hX AU Ar Ad h6 hP Ax hU gz BO
       go_wp2_with fail
       refine Hsub.out.mono ?_;rintro e w7 ⟨rfl,hD⟩;have hN:=zh w7 (.cells #[.string ⟨#[]⟩,zy z6 0,zy z6 0,zy z6 0,zy z6 0,zy z6 0,zy z6 0,zy z6 0,zy z6 0,zy z6 0,zy z6 0,zy z6 0,zy z6 0,zy z6 0,zy z6 0,zy z6 0,zy z6 0,zy z6 0,zy z6 0,zy z6 0,zy z6 0,zy z6 0,zy z6 0,zy z6 0,zy z6 0,zy z6 0,zy z6 0,zy z6 0,zy z6 0,zy z6 0,zy z6 0,zy z6 0,zy z6 0] 164);have Am:=za (jr hN (n:=CS.toArray.size) (by rw[zn,AI.out];show 33≤33;omega));have Av:Fr NoB w7 ((w7.alloc (.cells #[.string ⟨#[]⟩,zy z6 0,zy z6 0,zy z6 0,zy z6 0,zy z6 0,zy z6 0,zy z6 0,zy z6 0,zy z6 0,zy z6 0,zy z6 0,zy z6 0,zy z6 0,zy z6 0,zy z6 0,zy z6 0,zy z6 0,zy z6 0,zy z6 0,zy z6 0,zy z6 0,zy z6 0,zy z6 0,zy z6 0,zy z6 0,zy z6 0,zy z6 0,zy z6 0,zy z6 0,zy z6 0,zy z6 0,zy z6 0] 164)).setCells w7.heap.size 0 CS):=((Fr.refl (M:=NoB)).alloc _).trans (jd _ _ _ _) (fun k _ hm => .inr (by omega));have AT:=zg (w7.alloc (.cells #[.string ⟨#[]⟩,zy z6 0,zy z6 0,zy z6 0,zy z6 0,zy z6 0,zy z6 0,zy z6 0,zy z6 0,zy z6 0,zy z6 0,zy z6 0,zy z6 0,zy z6 0,zy z6 0,zy z6 0,zy z6 0,zy z6 0,zy z6 0,zy z6 0,zy z6 0,zy z6 0,zy z6 0,zy z6 0,zy z6 0,zy z6 0,zy z6 0,zy z6 0,zy z6 0,zy z6 0,zy z6 0,zy z6 0,zy z6 0] 164)) w7.heap.size 0 CS (by simpa using Am.out);have BQ:Hid ((Tryz.prog.info? 164).map (·.size)=some CS.toArray.size):=za (by rw[zah,zn,AI.out]);have BP:Hid ((Tryz.prog.info? 164).map (·.size)=some CS.length):=za (by rw[zah,AI.out]);obtain⟨dS,hu,hd⟩:=zdo;have Hu:=za hu;have Hd:=za hd;have ha:=(A2.out.trans' hD).trans' Av;have BG:w6.heap.size<w7.heap.size:=zu (by rw[zf];omega) hD.size;clear hD Av hN hu hd g0 g1 g2 g3 g4
       go_upto_region 13 with(with_reducible refine wpList_store_mid rfl 164 _ _ rfl w7.heap.size 0 CS.toArray rfl rfl Am.out BQ.out A6.out ?_)
       change Code.wp _ _ _ _ ((w7.alloc (.cells #[.string ⟨#[]⟩,zy z6 0,zy z6 0,zy z6 0,zy z6 0,zy z6 0,zy z6 0,zy z6 0,zy z6 0,zy z6 0,zy z6 0,zy z6 0,zy z6 0,zy z6 0,zy z6 0,zy z6 0,zy z6 0,zy z6 0,zy z6 0,zy z6 0,zy z6 0,zy z6 0,zy z6 0,zy z6 0,zy z6 0,zy z6 0,zy z6 0,zy z6 0,zy z6 0,zy z6 0,zy z6 0,zy z6 0,zy z6 0] 164)).setCells w7.heap.size 0 CS);obtain⟨w8,Ac⟩:∃ W,(w7.alloc (.cells #[.string ⟨#[]⟩,zy z6 0,zy z6 0,zy z6 0,zy z6 0,zy z6 0,zy z6 0,zy z6 0,zy z6 0,zy z6 0,zy z6 0,zy z6 0,zy z6 0,zy z6 0,zy z6 0,zy z6 0,zy z6 0,zy z6 0,zy z6 0,zy z6 0,zy z6 0,zy z6 0,zy z6 0,zy z6 0,zy z6 0,zy z6 0,zy z6 0,zy z6 0,zy z6 0,zy z6 0,zy z6 0,zy z6 0,zy z6 0] 164)).setCells w7.heap.size 0 CS=W:=⟨_,rfl⟩
       have Aq:w7.heap.size<w8.heap.size:=by
        rw[← Ac];exact zu (by rw[zf];omega) (jd (w7.heap.size) CS 0 (w7.alloc _)).size
       rw[Ac]at AT ha ⊢;obtain⟨p7,hq⟩:∃ p,w7.heap.size=p:=⟨_,rfl⟩;rw[hq]at AT Aq BG;rw[hq];clear Ac Am hq;have hc:=hf.out.fr ha;obtain⟨AY,hr⟩:∃ b,(f4.bad||zam (gl.take i))=b:=⟨_,rfl⟩;rw[hr]at hc;obtain⟨y1,y2,y3,y4,-,-,-,-,-,-,c6,fz,Af,-⟩:=hc.cells;obtain⟨AD,AW⟩:=hc.setBad (AY || !ok);have Hbdi:=za hr;have AS:=za (je AT AW Aq (fun _ h=>by have:=h.1;omega));have hw:=(ha.mono (M':=MFd fb) (fun _ _ h=>h.elim)).trans' AW;have hC:=za (zf6 Hown.out hw);have he:=za (h3.out.trans' hw);have hH:=za AD;have Ae:w6.heap.size<(w8.setCell ⟨fb,6,none⟩ (.bool (AY || !ok))).heap.size:=zu (by omega) AW.size;clear AT hc AD AW hw ha hr hf Hown h3 Hsub A2 r0 r1 r2 r3 r4;have A7:Hid ((f4.bad||zam (gl.take (i+1)))=(AY || !ok)):=za (by rw[HB.out,← Bool.or_assoc,Hbdi.out]);have BL:OldK.k≤w6.heap.size:=by omega
       clear Hbdi HB;cases AY
       all_goals
        simp only[Bool.false_or,Bool.true_or]at AS hC he hH Ae A7
        go_upto_region 14 with(fail)
        first
         | (obtain⟨W9,hs⟩:∃ W,w8.setCell ⟨fb,6,none⟩ (.bool true)=W:=⟨_,rfl⟩;rw[hs]at AS hC he hH Ae;change Code.wp _ _ _ _ (w8.setCell ⟨fb,6,none⟩ (.bool true));rw[hs];clear hs)
         | (obtain⟨W9,hs⟩:∃ W,w8.setCell ⟨fb,6,none⟩ (.bool (!ok))=W:=⟨_,rfl⟩;rw[hs]at AS hC he hH Ae;change Code.wp _ _ _ _ (w8.setCell ⟨fb,6,none⟩ (.bool (!ok)));rw[hs];clear hs)
        clear c6 fz Af
        go_wp2_with (first
         | (with_reducible refine wpList_load_mid rfl 164 _ rfl p7 0 rfl CS dS AS.out Hu.out Hd.out BP.out ?_)
         | ((with_reducible refine Great.wpList_buildSliceTo ?_ 160 164 1 _ rfl W9.heap.size rfl _ rfl Tryz.underlying160 CS.toArray ?_ ?_);rfl;(refine Eq.trans (congrArg (Tryz.prog.builtSlice 164 1) ?_) Hbuilt.out;kernel_rfl))
         | (at_builtin;(refine wpList_append_own_at _ rfl _ _ 160 rfl w6.heap.size 164 i0 (.agg #[.string ⟨#[]⟩,zy z6 0,zy z6 0,zy z6 0,zy z6 0,zy z6 0,zy z6 0,zy z6 0,zy z6 0,zy z6 0,zy z6 0,zy z6 0,zy z6 0,zy z6 0,zy z6 0,zy z6 0,zy z6 0,zy z6 0,zy z6 0,zy z6 0,zy z6 0,zy z6 0,zy z6 0,zy z6 0,zy z6 0,zy z6 0,zy z6 0,zy z6 0,zy z6 0,zy z6 0,zy z6 0,zy z6 0,zy z6 0]) 33 48 Tryz.underlying160 hi Bc Bb Ba rfl (by decide) (.slice ao i co) i (za4 (gl.take i)) (by rfl) (hC.out.alloc _) ⟨W9.heap.size,0,none⟩ 1 1 CS (by rfl) (by rw[AI.out]) (za1 W9 CS 164) A5.out (by unfold maxLen;omega) (by omega) (by rw[zf];omega) ?_)))
        intro v' Bu hF hL h8 AB;have ho:=(hH.out.fr (Fr.refl.alloc (.cells CS.toArray 164))).grown hL (hC.out.alloc _) Ai BL;have hh:=(he.out.alloc (.cells CS.toArray 164)).trans (Fr.ofGrown hL) (fun k _ hm => .inr (zbr hC.out hm));rcases hF.2 with⟨rfl,h0⟩ | ⟨g,cp,cur,rfl,-⟩
        ·omega
        have hy:=za hF;have AH:=za ho;have AG:=za hh;clear hF hL h8 AB ho hh
        go_wp2_with fail
        go_roundg (gk - 1)
        case measure=>omega
        case rel=>exact⟨i+1,_,_,by simp,rfl,by omega,by omega,za (by rw[HS.out];exact hy.out),za (by rw[A7.out];exact AH.out),AG⟩
      obtain rfl:i=gl.length:=by omega
      have hT:=zhz _ fb _ wr hf.out;obtain⟨FD,AV⟩:∃ x,zig { f4 with bad:=f4.bad||zam (gl.take gl.length) }=x:=⟨_,rfl⟩;rw[AV]at hT;rw[List.take_length]at AV;have hO:=zcr Hown.out (Nat.le_trans BT (by omega:fb≤w6.heap.size));rw[List.take_length]at hO;have AQ:=A0.out
      have At:(gl.map j5).any (fun x=>!x.2.2)=zam gl:=by
       unfold zam;rw[List.any_map];rfl
      simp only[J.list,At,AV,List.length_map,List.map_map]at AQ
      have hI:(gl.map ((fun x:Bs × Bs × Bool=>(x.1,x.2.1)) ∘ j5)).flatMap (fun x=>j7 x.1 x.2)=za4 gl:=by
       unfold za4;rw[List.flatMap_map];rfl
      have hJ:(gl.map ((fun x:Bs × Bs × Bool=>(x.1,x.2.1)) ∘ j5)).length=gl.length:=List.length_map _;obtain⟨LS,Au⟩:∃ L,gl.map ((fun x:Bs × Bs × Bool=>(x.1,x.2.1)) ∘ j5)=L:=⟨_,rfl⟩;rw[Au]at AQ hI hJ;rw[← hI]at hO;have HO:=za hO;have AZ:=za (A4.out.trans h3.out (fun k _ hm => .inr (by have:=hm.1;omega)));have Hdone:=za hT;have Hrz:=za AQ;have Hlm:=za hJ;clear hT hO AQ hI hJ Au AV At A0 hf Hown h3 A4 Hrow AF;cases FD with
      | false =>
        obtain rfl:(none:Option (List (Bs × Bs)))=R:=by simpa using Hrz.out
        go_wp2_with fail
        refine Hdone.out.mono ?_;rintro e w7 ⟨rfl,hD⟩;have hz:=za (AZ.out.trans' hD);clear hD
        go_wp2_with fail
        go_ret2;exact⟨rfl,hz.out⟩
      | true =>
        by_cases h1:gl.length<1
        ·have BJ:decide ((gl.length:Int)<1)=true:=decide_eq_true (by omega)
         obtain rfl:(none:Option (List (Bs × Bs)))=R:=by
          have:=Hrz.out;rw[show decide (1≤gl.length)=false from decide_eq_false (by omega)]at this;simpa using this
         clear h1
         go_wp2_with fail
         refine Hdone.out.mono ?_;rintro e w7 ⟨rfl,hD⟩;have hz:=za (AZ.out.trans' hD);clear hD
         go_wp2_with fail
         go_ret2;exact⟨rfl,hz.out⟩
        have BJ:decide ((gl.length:Int)<1)=false:=decide_eq_false (by omega);by_cases h2:16<gl.length
        ·have BI:decide ((16:Int)<(gl.length:Int))=true:=decide_eq_true (by omega)
         obtain rfl:(none:Option (List (Bs × Bs)))=R:=by
          have:=Hrz.out;rw[show decide (gl.length≤16)=false from decide_eq_false (by omega)]at this;simpa using this
         clear h1 h2
         go_wp2_with fail
         refine Hdone.out.mono ?_;rintro e w7 ⟨rfl,hD⟩;have hz:=za (AZ.out.trans' hD);clear hD
         go_wp2_with fail
         go_ret2;exact⟨rfl,hz.out⟩
        have BI:decide ((16:Int)<(gl.length:Int))=false:=decide_eq_false (by omega)
        obtain rfl:some LS=R:=by
         have:=Hrz.out;rw[show decide (gl.length≤16)=true from decide_eq_true (by omega),show decide (1≤gl.length)=true from decide_eq_true (by omega)]at this;simpa using this
        clear h1 h2
        go_wp2_with fail
        refine Hdone.out.mono ?_;rintro e w7 ⟨rfl,hD⟩;have hz:=za (AZ.out.trans' hD);have BR:=za (zaj HO.out hD (fun _ _ _ _ h=>h));clear hD
        go_wp2_with fail
        go_ret2;refine⟨⟨_,rfl,?_⟩,hz.out⟩;rw[Hlm.out];exact BR.out
 | false =>
   have BE:¬ t1=zcf:=by simpa using BK
   have hR:=HR.out;simp only[if_neg BE]at hR;obtain⟨f2,AP⟩:∃ f2:Fd,f2={ f1 with bad:=true }:=⟨_,rfl⟩;rw[← AP]at hR;have A1:=za hR;unfold zcf at BK;clear hR HR BE
   go_wp2_with fail
   refine Ht.out.mono ?_;rintro e w4 ⟨rfl,h4,Aw⟩;obtain⟨y1,y2,y3,y4,-,-,-,-,-,-,c6,fz,Ao,-⟩:=h4.cells;obtain⟨Ab,BM⟩:=h4.setBad true;have An:Fr NoB w (w4.setCell ⟨fb,6,none⟩ (.bool true)):=BD.out.trans (Aw.trans' BM) (fun k _ hm => .inr (by have:=hm.1;omega));have hZ:f2.j = .mk kk jn jt jl jp∧0≤f2.seen∧f2.seen≤2:=by rw[AP];exact⟨AA.1,AA.2.1,by show f1.seen≤2;omega⟩
   rw[← AP]at Ab;clear h4 Aw BM AP Ht BD AA
   go_upto_region 7 with(fail)
   change Code.wp _ _ _ _ (w4.setCell ⟨fb,6,none⟩ (.bool true));obtain⟨W,hW⟩:∃ W,w4.setCell ⟨fb,6,none⟩ (.bool true)=W:=⟨_,rfl⟩;rw[hW]at Ab An ⊢;clear hW c6 fz Ao BK;have Ah:=zgl _ fb f2 qu 5 W Ab (by rw[hZ.1];exact Hfit.out.1) ⟨hZ.2.1,by omega⟩;have hQ:=zfh (nm:=qu) (k:=5) hZ;obtain⟨f3,Aj⟩:∃ x,(zde f2 qu 5).2=x:=⟨_,rfl⟩;rw[Aj]at Ah hQ;have AR:=A1.out;simp only[Aj]at AR;have hM:=(Fits.get (f:=f3) (nm:=q9) (k:=4) (by rw[hQ.1];exact Hfit.out)).1;have Ag:=fun V (h:FB (fun k=>w.heap.size≤k) fb f3 V)=>zgl _ fb f3 q9 4 V h (by rw[hQ.1];exact Hfit.out.1) ⟨hQ.2.1,by omega⟩
   obtain⟨G,hG⟩:∃ x,(zde f3 q9 4).1=x:=⟨_,rfl⟩;obtain⟨f4,As⟩:∃ x,(zde f3 q9 4).2=x:=⟨_,rfl⟩;rw[hG]at hM;simp only[hG,As]at Ag AR;obtain⟨gk,gn,gt,gl,gq⟩:=G;have A0:=za AR;have Az:=za Ah;have Ay:=za Ag;have hp:=za hM;have A3:=za An;clear Ah Ag AR A1 Aj hG As Ab hM An hQ hZ
   go_wp2_with fail
   refine Az.out.mono ?_;rintro e w5 ⟨x5,rfl,-,hY,AX⟩;have Aa:=za (A3.out.trans AX (fun k _ hm => .inr (by have:=hm.1;omega)));have AE:=za (Ay.out w5 hY);clear hY AX Ay Az A3
   go_wp2_with fail
   refine AE.out.mono ?_;rintro e w6 ⟨x6,rfl,Ap,hV,AJ⟩;obtain⟨u1,e1,u2,e2,rfl,h7,-⟩:=Ap.open;have B3:∀ V:World,(Instr.field 220 (.agg #[.int .i64 gk,.int .i64 gn,.string ⟨gt.toArray⟩,.slice u1 gl.length e1,.slice u2 gq.length e2]) 3).run Tryz.prog V = .ok (.slice u1 gl.length e1) V:=fun _=>by kernel_rfl
   have A4:=za (Aa.out.trans AJ (fun k _ hm => .inr (by have:=hm.1;omega)));have Hrow:=za h7;have AF:=za hV;have Ai:fb<w6.heap.size:=by obtain⟨-,y1,y2,y3,y4,h5,-⟩:=hV;exact jq h5
   have B1:gl.length≤67108864:=(fits.open hp.out.1).2.1;clear Ap hV AJ h7 AE Aa
   go_wp2_with fail
   go_loopg [7,44] (gl.length+1) (fun g v7 vi wr=>∃ (i:Nat) (ao:Option Addr) (co:Nat),vi = .int .i64 i∧v7 = .slice ao i co∧i≤gl.length∧i+g=gl.length+1∧Hid (wr.ownsRow w6.heap.size 164 33 (.slice ao i co) i (za4 (gl.take i)))∧Hid (FB (fun k=>w.heap.size≤k) fb { f4 with bad:=f4.bad||zam (gl.take i) } wr)∧Hid (Fr (MFd fb) w6 wr))
   case atStart=>exact⟨0,none,0,rfl,rfl,by omega,by omega,za ⟨rfl,.inl ⟨rfl,rfl⟩⟩,za (by simpa[zam] using AF.out),za Fr.refl⟩
   case round =>
    obtain⟨i,ao,co,rfl,rfl,BH,B2,Hown,hf,h3⟩:=hrel;rcases Nat.lt_or_ge i gl.length with Ao | A8
    ·obtain ⟨jx,AO⟩:∃ x,gl[i]? = some x:=⟨_,List.getElem?_eq_getElem Ao⟩;have h9:OldK.k≤fb:=by omega
     obtain⟨rb,ro,x0,x1,x2,x3,x4,rfl,B4,r0,r1,r2,r3,r4,Ad⟩:=(Hrow.out.kp (Kp.fr h3.out (fun _ h _=>h) (fun k o _ _ ht hm=>zhu h9 k o hm ht))).at AO;have Ar:=hp.out.at (j := .mk gk gn gt gl gq) AO;have hB:=ze6 AO;have hS:=zd4 AO;have hU:=zd9 jx;obtain⟨jk,AM,AK,AN,AL⟩:=jx;obtain⟨s1,m1,s2,m2,h6,-,-⟩:=Ad.open;obtain⟨rfl,rfl,rfl,rfl,rfl⟩:x0 = .int .i64 jk∧x1 = .int .i64 AM∧x2 = .string ⟨AK.toArray⟩∧x3 = .slice s1 AN.length m1∧x4 = .slice s2 AL.length m2:=by simpa using h6
     have AU:Fr NoB wr (wr.alloc (.cells #[.int .i64 jk,.int .i64 AM,.string ⟨AK.toArray⟩,.slice s1 AN.length m1,.slice s2 AL.length m2] 220)):=Fr.refl.alloc _;obtain⟨g0,g1,g2,g3,g4,gz,BO⟩:=VB.at (zh wr (.cells #[.int .i64 jk,.int .i64 AM,.string ⟨AK.toArray⟩,.slice s1 AN.length m1,.slice s2 AL.length m2] 220));have Bv:w6.heap.size≤wr.heap.size:=h3.out.size;have hX:=zhe _ _ _ _ (RJ.kp (Kp.ofFr AU) _ _ Ad) Ar (Nat.le_trans (Nat.le_trans h9 (by omega:fb≤wr.heap.size)) AU.size);obtain⟨P,hP⟩:∃ P,j5 (.mk jk AM AK AN AL)=P:=⟨_,rfl⟩;rw[hP]at hX hB hS hU;obtain⟨nm,D,ok⟩:=P;simp only at hX hB hS hU;have HB:=za hB;have HS:=za hS;have Hsub:=za hX;have A2:=za AU;have Hbuilt:=za (zer nm D hU);have AI:=za (zb2 (nm:=nm) hU);have A6:=za (zcn nm D);have A5:=za (zco nm D);obtain⟨CS,Ax⟩:∃ x,j7 nm D=x:=⟨_,rfl⟩;rw[Ax]at Hsub HS Hbuilt AI A6 A5;clear hB hS hX AU Ar Ad h6 hP Ax hU gz BO
     go_wp2_with fail
     refine Hsub.out.mono ?_;rintro e w7 ⟨rfl,hD⟩;have hN:=zh w7 (.cells #[.string ⟨#[]⟩,zy z6 0,zy z6 0,zy z6 0,zy z6 0,zy z6 0,zy z6 0,zy z6 0,zy z6 0,zy z6 0,zy z6 0,zy z6 0,zy z6 0,zy z6 0,zy z6 0,zy z6 0,zy z6 0,zy z6 0,zy z6 0,zy z6 0,zy z6 0,zy z6 0,zy z6 0,zy z6 0,zy z6 0,zy z6 0,zy z6 0,zy z6 0,zy z6 0,zy z6 0,zy z6 0,zy z6 0,zy z6 0] 164);have Am:=za (jr hN (n:=CS.toArray.size) (by rw[zn,AI.out];show 33≤33;omega));have Av:Fr NoB w7 ((w7.alloc (.cells #[.string ⟨#[]⟩,zy z6 0,zy z6 0,zy z6 0,zy z6 0,zy z6 0,zy z6 0,zy z6 0,zy z6 0,zy z6 0,zy z6 0,zy z6 0,zy z6 0,zy z6 0,zy z6 0,zy z6 0,zy z6 0,zy z6 0,zy z6 0,zy z6 0,zy z6 0,zy z6 0,zy z6 0,zy z6 0,zy z6 0,zy z6 0,zy z6 0,zy z6 0,zy z6 0,zy z6 0,zy z6 0,zy z6 0,zy z6 0] 164)).setCells w7.heap.size 0 CS):=((Fr.refl (M:=NoB)).alloc _).trans (jd _ _ _ _) (fun k _ hm => .inr (by omega));have AT:=zg (w7.alloc (.cells #[.string ⟨#[]⟩,zy z6 0,zy z6 0,zy z6 0,zy z6 0,zy z6 0,zy z6 0,zy z6 0,zy z6 0,zy z6 0,zy z6 0,zy z6 0,zy z6 0,zy z6 0,zy z6 0,zy z6 0,zy z6 0,zy z6 0,zy z6 0,zy z6 0,zy z6 0,zy z6 0,zy z6 0,zy z6 0,zy z6 0,zy z6 0,zy z6 0,zy z6 0,zy z6 0,zy z6 0,zy z6 0,zy z6 0,zy z6 0] 164)) w7.heap.size 0 CS (by simpa using Am.out);have BQ:Hid ((Tryz.prog.info? 164).map (·.size)=some CS.toArray.size):=za (by rw[zah,zn,AI.out]);have BP:Hid ((Tryz.prog.info? 164).map (·.size)=some CS.length):=za (by rw[zah,AI.out]);obtain⟨dS,hu,hd⟩:=zdo;have Hu:=za hu;have Hd:=za hd;have ha:=(A2.out.trans' hD).trans' Av;have BG:w6.heap.size<w7.heap.size:=zu (by rw[zf];omega) hD.size;clear hD Av hN hu hd g0 g1 g2 g3 g4
     go_upto_region 13 with(with_reducible refine wpList_store_mid rfl 164 _ _ rfl w7.heap.size 0 CS.toArray rfl rfl Am.out BQ.out A6.out ?_)
     change Code.wp _ _ _ _ ((w7.alloc (.cells #[.string ⟨#[]⟩,zy z6 0,zy z6 0,zy z6 0,zy z6 0,zy z6 0,zy z6 0,zy z6 0,zy z6 0,zy z6 0,zy z6 0,zy z6 0,zy z6 0,zy z6 0,zy z6 0,zy z6 0,zy z6 0,zy z6 0,zy z6 0,zy z6 0,zy z6 0,zy z6 0,zy z6 0,zy z6 0,zy z6 0,zy z6 0,zy z6 0,zy z6 0,zy z6 0,zy z6 0,zy z6 0,zy z6 0,zy z6 0] 164)).setCells w7.heap.size 0 CS);obtain⟨w8,Ac⟩:∃ W,(w7.alloc (.cells #[.string ⟨#[]⟩,zy z6 0,zy z6 0,zy z6 0,zy z6 0,zy z6 0,zy z6 0,zy z6 0,zy z6 0,zy z6 0,zy z6 0,zy z6 0,zy z6 0,zy z6 0,zy z6 0,zy z6 0,zy z6 0,zy z6 0,zy z6 0,zy z6 0,zy z6 0,zy z6 0,zy z6 0,zy z6 0,zy z6 0,zy z6 0,zy z6 0,zy z6 0,zy z6 0,zy z6 0,zy z6 0,zy z6 0,zy z6 0] 164)).setCells w7.heap.size 0 CS=W:=⟨_,rfl⟩
     have Aq:w7.heap.size<w8.heap.size:=by
      rw[← Ac];exact zu (by rw[zf];omega) (jd (w7.heap.size) CS 0 (w7.alloc _)).size
     rw[Ac]at AT ha ⊢;obtain⟨p7,hq⟩:∃ p,w7.heap.size=p:=⟨_,rfl⟩;rw[hq]at AT Aq BG;rw[hq];clear Ac Am hq;have hc:=hf.out.fr ha;obtain⟨AY,hr⟩:∃ b,(f4.bad||zam (gl.take i))=b:=⟨_,rfl⟩;rw[hr]at hc;obtain⟨y1,y2,y3,y4,-,-,-,-,-,-,c6,fz,Af,-⟩:=hc.cells;obtain⟨AD,AW⟩:=hc.setBad (AY || !ok);have Hbdi:=za hr;have AS:=za (je AT AW Aq (fun _ h=>by have:=h.1;omega));have hw:=(ha.mono (M':=MFd fb) (fun _ _ h=>h.elim)).trans' AW;have hC:=za (zf6 Hown.out hw);have he:=za (h3.out.trans' hw);have hH:=za AD;have Ae:w6.heap.size<(w8.setCell ⟨fb,6,none⟩ (.bool (AY || !ok))).heap.size:=zu (by omega) AW.size;clear AT hc AD AW hw ha hr hf Hown h3 Hsub A2 r0 r1 r2 r3 r4;have A7:Hid ((f4.bad||zam (gl.take (i+1)))=(AY || !ok)):=za (by rw[HB.out,← Bool.or_assoc,Hbdi.out]);have BL:OldK.k≤w6.heap.size:=by omega
     clear Hbdi HB;cases AY
     all_goals
      simp only[Bool.false_or,Bool.true_or]at AS hC he hH Ae A7
      go_upto_region 14 with(fail)
      first
       | (obtain⟨W9,hs⟩:∃ W,w8.setCell ⟨fb,6,none⟩ (.bool true)=W:=⟨_,rfl⟩;rw[hs]at AS hC he hH Ae;change Code.wp _ _ _ _ (w8.setCell ⟨fb,6,none⟩ (.bool true));rw[hs];clear hs)
       | (obtain⟨W9,hs⟩:∃ W,w8.setCell ⟨fb,6,none⟩ (.bool (!ok))=W:=⟨_,rfl⟩;rw[hs]at AS hC he hH Ae;change Code.wp _ _ _ _ (w8.setCell ⟨fb,6,none⟩ (.bool (!ok)));rw[hs];clear hs)
      clear c6 fz Af
      go_wp2_with (first
       | (with_reducible refine wpList_load_mid rfl 164 _ rfl p7 0 rfl CS dS AS.out Hu.out Hd.out BP.out ?_)
       | ((with_reducible refine Great.wpList_buildSliceTo ?_ 160 164 1 _ rfl W9.heap.size rfl _ rfl Tryz.underlying160 CS.toArray ?_ ?_);rfl;(refine Eq.trans (congrArg (Tryz.prog.builtSlice 164 1) ?_) Hbuilt.out;kernel_rfl))
       | (at_builtin;(refine wpList_append_own_at _ rfl _ _ 160 rfl w6.heap.size 164 i0 (.agg #[.string ⟨#[]⟩,zy z6 0,zy z6 0,zy z6 0,zy z6 0,zy z6 0,zy z6 0,zy z6 0,zy z6 0,zy z6 0,zy z6 0,zy z6 0,zy z6 0,zy z6 0,zy z6 0,zy z6 0,zy z6 0,zy z6 0,zy z6 0,zy z6 0,zy z6 0,zy z6 0,zy z6 0,zy z6 0,zy z6 0,zy z6 0,zy z6 0,zy z6 0,zy z6 0,zy z6 0,zy z6 0,zy z6 0,zy z6 0]) 33 48 Tryz.underlying160 hi Bc Bb Ba rfl (by decide) (.slice ao i co) i (za4 (gl.take i)) (by rfl) (hC.out.alloc _) ⟨W9.heap.size,0,none⟩ 1 1 CS (by rfl) (by rw[AI.out]) (za1 W9 CS 164) A5.out (by unfold maxLen;omega) (by omega) (by rw[zf];omega) ?_)))
      intro v' Bu hF hL h8 AB;have ho:=(hH.out.fr (Fr.refl.alloc (.cells CS.toArray 164))).grown hL (hC.out.alloc _) Ai BL;have hh:=(he.out.alloc (.cells CS.toArray 164)).trans (Fr.ofGrown hL) (fun k _ hm => .inr (zbr hC.out hm));rcases hF.2 with⟨rfl,h0⟩ | ⟨g,cp,cur,rfl,-⟩
      ·omega
      have hy:=za hF;have AH:=za ho;have AG:=za hh;clear hF hL h8 AB ho hh
      go_wp2_with fail
      go_roundg (gk - 1)
      case measure=>omega
      case rel=>exact⟨i+1,_,_,by simp,rfl,by omega,by omega,za (by rw[HS.out];exact hy.out),za (by rw[A7.out];exact AH.out),AG⟩
    obtain rfl:i=gl.length:=by omega
    have hT:=zhz _ fb _ wr hf.out;obtain⟨FD,AV⟩:∃ x,zig { f4 with bad:=f4.bad||zam (gl.take gl.length) }=x:=⟨_,rfl⟩;rw[AV]at hT;rw[List.take_length]at AV;have hO:=zcr Hown.out (Nat.le_trans BT (by omega:fb≤w6.heap.size));rw[List.take_length]at hO;have AQ:=A0.out
    have At:(gl.map j5).any (fun x=>!x.2.2)=zam gl:=by
     unfold zam;rw[List.any_map];rfl
    simp only[J.list,At,AV,List.length_map,List.map_map]at AQ
    have hI:(gl.map ((fun x:Bs × Bs × Bool=>(x.1,x.2.1)) ∘ j5)).flatMap (fun x=>j7 x.1 x.2)=za4 gl:=by
     unfold za4;rw[List.flatMap_map];rfl
    have hJ:(gl.map ((fun x:Bs × Bs × Bool=>(x.1,x.2.1)) ∘ j5)).length=gl.length:=List.length_map _;obtain⟨LS,Au⟩:∃ L,gl.map ((fun x:Bs × Bs × Bool=>(x.1,x.2.1)) ∘ j5)=L:=⟨_,rfl⟩;rw[Au]at AQ hI hJ;rw[← hI]at hO;have HO:=za hO;have AZ:=za (A4.out.trans h3.out (fun k _ hm => .inr (by have:=hm.1;omega)));have Hdone:=za hT;have Hrz:=za AQ;have Hlm:=za hJ;clear hT hO AQ hI hJ Au AV At A0 hf Hown h3 A4 Hrow AF;cases FD with
    | false =>
      obtain rfl:(none:Option (List (Bs × Bs)))=R:=by simpa using Hrz.out
      go_wp2_with fail
      refine Hdone.out.mono ?_;rintro e w7 ⟨rfl,hD⟩;have hz:=za (AZ.out.trans' hD);clear hD
      go_wp2_with fail
      go_ret2;exact⟨rfl,hz.out⟩
    | true =>
      by_cases h1:gl.length<1
      ·have BJ:decide ((gl.length:Int)<1)=true:=decide_eq_true (by omega)
       obtain rfl:(none:Option (List (Bs × Bs)))=R:=by
        have:=Hrz.out;rw[show decide (1≤gl.length)=false from decide_eq_false (by omega)]at this;simpa using this
       clear h1
       go_wp2_with fail
       refine Hdone.out.mono ?_;rintro e w7 ⟨rfl,hD⟩;have hz:=za (AZ.out.trans' hD);clear hD
       go_wp2_with fail
       go_ret2;exact⟨rfl,hz.out⟩
      have BJ:decide ((gl.length:Int)<1)=false:=decide_eq_false (by omega);by_cases h2:16<gl.length
      ·have BI:decide ((16:Int)<(gl.length:Int))=true:=decide_eq_true (by omega)
       obtain rfl:(none:Option (List (Bs × Bs)))=R:=by
        have:=Hrz.out;rw[show decide (gl.length≤16)=false from decide_eq_false (by omega)]at this;simpa using this
       clear h1 h2
       go_wp2_with fail
       refine Hdone.out.mono ?_;rintro e w7 ⟨rfl,hD⟩;have hz:=za (AZ.out.trans' hD);clear hD
       go_wp2_with fail
       go_ret2;exact⟨rfl,hz.out⟩
      have BI:decide ((16:Int)<(gl.length:Int))=false:=decide_eq_false (by omega)
      obtain rfl:some LS=R:=by
       have:=Hrz.out;rw[show decide (gl.length≤16)=true from decide_eq_true (by omega),show decide (1≤gl.length)=true from decide_eq_true (by omega)]at this;simpa using this
      clear h1 h2
      go_wp2_with fail
      refine Hdone.out.mono ?_;rintro e w7 ⟨rfl,hD⟩;have hz:=za (AZ.out.trans' hD);have BR:=za (zaj HO.out hD (fun _ _ _ _ h=>h));clear hD
      go_wp2_with fail
      go_ret2;refine⟨⟨_,rfl,?_⟩,hz.out⟩;rw[Hlm.out];exact BR.out
end Go.Proofs.YtcddlemkimbkcaaGreatDoor
