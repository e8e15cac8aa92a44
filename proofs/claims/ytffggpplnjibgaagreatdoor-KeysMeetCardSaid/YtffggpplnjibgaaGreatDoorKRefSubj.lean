/-
 The walks of the reference's text and Subjects.
-/
import Derived.Test.YtffggpplnjibgaaGreatDoorKTxt10
import Derived.Test.YtffggpplnjibgaaGreatDoorKTxt15
import Derived.Test.YtffggpplnjibgaaGreatDoorKSubjects
import Derived.Test.YtffggpplnjibgaaGreatDoorKRefTyped
import Derived.Test.YtffggpplnjibgaaGreatDoorKRefUnhex
import Derived.Test.YtffggpplnjibgaaGreatDoorKLarge16
import Derived.Great.Walk
open Go.Lib renaming hid→zi
open Go renaming heap_alloc_new→zo
open Go.Value renaming int→jf
open Go.IntKind renaming u8→jg
namespace Go.Proofs.YtffggpplnjibgaaGreatDoor
set_option linter.unusedVariables false
set_option linter.unusedSimpArgs false
set_option linter.unusedSectionVars false
set_option maxRecDepth 100000
set_option maxHeartbeats 8000000
open Go.RowKit
variable [OldK]
def zcp (j:J) (nm:Bs):Bs × Bool:=(((zbw j nm).getD J.zero).text,(zbw j nm).isSome&&(((zbw j nm).getD J.zero).kind==3))
def zm3 (x:J):Option (Bs × Bs) :=
 let d:=(zbw x zah).getD J.zero
 if ((zcp x zfm).2&&((zcp d zbb).2&&((zkb (zcp d zbb).1).isSome&&(decide (x.pairs.length=2)&&(decide (d.pairs.length=1)&&(decide (1≤(zcp x zfm).1.length)&&decide ((zcp x zfm).1.length≤64)))))))=true
 then some ((zcp x zfm).1,(zkb (zcp d zbb).1).getD jz) else none
def zf9:List J→Option (List (Bs × Bs))
 | []=>some []
 | x :: l=>match zm3 x with
   | none=>none
   | some s=>(zf9 l).map (s :: ·)
def zcg (s:Bs):Option (List (Bs × Bs)) :=
 let v:=(za3 s).1
 let l:=(zbw v q9).getD J.zero
 if (decide (s.length≤2048)&&(decide ((za3 s).2=0)&&((zcp v zdl).2&&((zcp v qg).2&&(decide (v.pairs.length=4)&&((zcp v zdl).1==za5&&(zci (zcp v qg).1 &&
  (decide (((zbw v qh).getD J.zero).kind=5)&&(decide (l.kind=4)&&(decide (1≤l.list.length)&&decide (l.list.length≤16)))))))))))=true then zf9 l.list else none
theorem zgs (c0 c1 c2 c3 c4:Value):(Tryz.prog.info? 65).map (·.size)=some (#[c0,c1,c2,c3,c4]:Array Value).size:=by kernel_rfl
theorem zo8 (c0 c1 c2 c3 c4:Value):(#[.int .i64 0,.int .i64 0,.string ⟨#[]⟩,.slice none 0 0,.slice none 0 0]:Array Value).size=(#[c0,c1,c2,c3,c4]:Array Value).size:=rfl
theorem zjk (k n:Int)(t:ByteArray)(a1 a2:Option Addr)(n1 c1 n2 c2:Nat):(#[.int .i64 k,.int .i64 n,.string t,.slice a1 n1 c1,.slice a2 n2 c2]:Array Value).all (·.oneCell')=true:=by simp[Value.oneCell']
theorem zfo (S:Nat→Prop) (j:J) (v:Value) (nm:Bs) (w:World) (h:RJ S w j v) (hpl:j.pairs.length≤67108864) :
 Calls Tryz.prog 93 #[v,.string ⟨nm.toArray⟩] w fun e w'=>e = .returned (.tuple #[.string ⟨(zcp j nm).1.toArray⟩,.bool (zcp j nm).2])∧Fr NoB w w':=by
 have hg:=fun V (hV:Fr NoB w V)=>zoa S j v nm V (RJ.kp (Kp.ofFr hV) _ _ h) hpl
 unfold zcp;obtain⟨hs,hD⟩:∃ x,(zbw j nm).isSome=x:=⟨_,rfl⟩;obtain⟨⟨jk,jn,jt,jl,jp⟩,hG⟩:∃ x,(zbw j nm).getD J.zero=x:=⟨_,rfl⟩;rw[hD,hG];simp only[hD,hG]at hg;obtain⟨k,n,t,l,p⟩:=j;obtain⟨a1,c1,a2,c2,rfl,-,-⟩:=h.open;simp only[J.text,J.kind];obtain⟨b3,hL⟩:∃ x,(jk==3)=x:=⟨_,rfl⟩;rw[hL];have hF:=(Fr.refl (M:=NoB)).alloc (w:=w) (.cells #[.int .i64 k,.int .i64 n,.string ⟨t.toArray⟩,.slice a1 l.length c1,.slice a2 p.length c2] 65);obtain⟨v0,v1,v2,v3,v4,vz,hJ⟩:=VB.at (zo w (.cells #[.int .i64 k,.int .i64 n,.string ⟨t.toArray⟩,.slice a1 l.length c1,.slice a2 p.length c2] 65));have Hg:=zi hg;have HF:=zi hF;clear hg hF h hD hG hpl;go_enter Tryz.func93,Tryz.ntmps93
 go_wp2_with fail
 refine(Hg.out _ HF.out).mono ?_;rintro e w2 ⟨x,rfl,hx,hH⟩;obtain⟨y1,m1,y2,m2,rfl,-,-⟩:=hx.open;have hM:=zi (HF.out.trans' hH);clear hx hH v0 v1 v2 v3 v4 vz hJ
 go_upto_region 2 with((with_reducible refine qc (w:=w2) rfl 65 _ _ rfl _ #[.int .i64 jk,.int .i64 jn,.string ⟨jt.toArray⟩,.slice y1 jl.length m1,.slice y2 jp.length m2] w2.heap.size rfl ?_ ?_ (zgs _ _ _ _ _) (zo8 _ _ _ _ _) (zjk _ _ _ _ _ _ _ _ _) ?_);rfl;rfl)
 change Code.wp _ _ _ _ (w2.alloc (.cells #[.int .i64 jk,.int .i64 jn,.string ⟨jt.toArray⟩,.slice y1 jl.length m1,.slice y2 jp.length m2] 65));obtain⟨r0,-,r2,-,-,-,hK⟩:=VB.at (zo w2 (.cells #[.int .i64 jk,.int .i64 jn,.string ⟨jt.toArray⟩,.slice y1 jl.length m1,.slice y2 jp.length m2] 65));have hE:=hM.out.alloc (.cells #[.int .i64 jk,.int .i64 jn,.string ⟨jt.toArray⟩,.slice y1 jl.length m1,.slice y2 jp.length m2] 65);obtain⟨W,hW⟩:∃ x,w2.alloc (.cells #[.int .i64 jk,.int .i64 jn,.string ⟨jt.toArray⟩,.slice y1 jl.length m1,.slice y2 jp.length m2] 65)=x:=⟨_,rfl⟩;rw[hW]at r0 r2 hE ⊢;have hI:=zi hE;clear hW hE hK;cases hs
 ·refine wp_region_held_drew (S:=fun V=>Hid (Fr NoB W V)) (by kernel_rfl) (zi Fr.refl.drew) (fun hB=>?_);simp only[qV]
  iterate 10
   first
   | refine qt (v:=undef) rfl (Or.inr ⟨by rfl,rfl⟩) hB ?_
     try simp only[Act.put,qP]
   | refine qt (v:=?_) rfl (Or.inl ⟨by rfl,?_⟩) hB ?_
     rotate_left
     ·intro W hC;have h0:=Fr.cell hC.out r0;have h2:=Fr.cell hC.out r2
      try simp only[qQ]
      go_simp
      try rw[if_neg (by omega)]
      try with_reducible rfl
     try simp only[Act.put,qP]
  refine wpAnyH_done (by kernel_rfl) ?_ _;have HE:=zi (hI.out.trans' hB.out);clear hB r0 r2
  go_wp2_with fail
  go_ret2;exact⟨rfl,HE.out⟩
 refine wp_region_held_drew (S:=fun V=>Hid (Fr NoB W V)) (by kernel_rfl) (zi Fr.refl.drew) (fun hB=>?_);simp only[qV]
 iterate 10
  refine qt (v:=?_) rfl (Or.inl ⟨by rfl,?_⟩) hB ?_;rotate_left
  ·intro W hC;have h0:=Fr.cell hC.out r0;have h2:=Fr.cell hC.out r2
   try simp only[qQ]
   go_simp
   try rw[if_neg (by omega)]
   try with_reducible rfl
  try simp only[Act.put,qP]
 refine wpAnyH_done (by kernel_rfl) ?_ _;have HE:=zi (hI.out.trans' hB.out);clear hB r0 r2
 go_wp2_with fail
 go_ret2;exact⟨rfl,HE.out⟩
theorem Fits.pairs {j:J}(h:Fits j):j.pairs.length≤67108864:=by
 obtain⟨h,-⟩:=h;cases j;exact(fits.open h).2.2.1
theorem Fits.getD {j:J} {nm:Bs} (h:Fits j):Fits ((zbw j nm).getD J.zero):=by
 cases hg:zbw j nm with
 | none=>exact Fits.zero
 | some v =>
   unfold zbw at hg;split at hg
   ·obtain⟨i,hi⟩:=zlr _ _ _ hg;obtain⟨h1,h2⟩:=h;cases hj:j;rw[hj]at h1 h2 hi;exact⟨(fitsp.at _ (fits.open h1).2.2.2.2 i _ _ hi).2,(fitsp.at _ (fits.open h2).2.2.2.2 i _ _ hi).2⟩
   cases hg
theorem RSumPost.eq {r:Option Bs}{e:Ending}(h:RSumPost r e):e = .returned (.tuple #[.agg (Lib.byteCells (r.getD jz)).toArray,.bool r.isSome]):=by
 cases r with
 | some b=>exact h
 | none=>exact h
theorem ztc {s:Bs}:((zkb s).getD jz).length=32:=by
 cases h:zkb s with
 | none=>rfl
 | some l=>exact((zhv _ _).1 h).2
def RSubPost (B:Nat) (r:Option (List (Bs × Bs))) (e:Ending) (W:World):Prop :=
 match r with
 | none=>e = .returned (.tuple #[.slice none 0 0,.bool false])
 | some l=>∃ v,e = .returned (.tuple #[v,.bool true])∧W.ownsRow B 79 33 v l.length (l.flatMap fun x=>j9 x.1 x.2)
theorem RSubPost.no {B:Nat}{r:Option (List (Bs × Bs))}{W:World}(h:none=r):RSubPost B r (.returned (.tuple #[.slice none 0 0,.bool false])) W:=by
 subst h;rfl
theorem ieq (a b:Int):(a==b)=decide (a=b):=by rw[Bool.eq_iff_iff,beq_iff_eq,decide_eq_true_eq]
theorem leq (n k:Nat):((n:Int)==(k:Int))=decide (n=k):=by rw[Bool.eq_iff_iff,beq_iff_eq,decide_eq_true_eq];omega
theorem zf8 (S:Nat→Prop) (s:Bs) (pv:Value) (w:World) (hb:SB S s pv w) (hg:Gl w) (hlen:s.length≤1000000) :
 Calls Tryz.prog 41 #[pv] w fun e w'=>RSubPost w.heap.size (zcg s) e w'∧Fr NoB w w':=by
 obtain⟨a0,c0,rfl⟩:=hb.form;obtain⟨R,hR⟩:∃ R,zcg s=R:=⟨_,rfl⟩;rw[hR];unfold zcg at hR;by_cases BA:2048<s.length
 ·have h8:decide ((2048:Int)<(s.length:Int))=true:=decide_eq_true (by omega);have hO:decide (s.length≤2048)=false:=decide_eq_false (by omega);simp only[hO]at hR;have HR:Hid (none=R):=zi (by simpa using hR);clear hR BA hO hb;go_enter Tryz.func41,Tryz.ntmps41
  go_wp2_with fail
  go_ret2;exact⟨RSubPost.no HR.out,Fr.refl⟩
 have h8:decide ((2048:Int)<(s.length:Int))=false:=decide_eq_false (by omega);have hO:decide (s.length≤2048)=true:=decide_eq_true (by omega);simp only[hO,Bool.true_and]at hR;have hN:=zjt (s:=s) (by omega);have hM:=zpp S s _ w hb hg (by unfold maxLen;omega);obtain⟨j,hj⟩:∃ j,(za3 s).1=j:=⟨_,rfl⟩;obtain⟨q,hq⟩:∃ q,(za3 s).2=q:=⟨_,rfl⟩;rw[hj]at hM hR hN;rw[hq]at hM hR;obtain⟨qz,AP⟩:∃ z:Int,(q:Int)=z:=⟨_,rfl⟩;have Au:decide (q=0)=(qz==0):=by rw[← AP,ieq];exact decide_eq_decide.2 (by omega)
 rw[Au]at hR;rw[AP]at hM;have Hpar:=zi hM;have Hfits:=zi hN;clear BA hO hb hM hj hq hN AP Au q;obtain⟨T1,Ab⟩:∃ x,zcp j zdl=x:=⟨_,rfl⟩;obtain⟨T2,AJ⟩:∃ x,zcp j qg=x:=⟨_,rfl⟩;obtain⟨⟨qk,qn,qt,ql,qp⟩,hQ⟩:∃ x,(zbw j qh).getD J.zero=x:=⟨_,rfl⟩;obtain⟨⟨lk,ln,lt,ll,lp⟩,hL⟩:∃ x,(zbw j q9).getD J.zero=x:=⟨_,rfl⟩;rw[Ab,AJ,hQ,hL]at hR;simp only[J.kind,J.list]at hR;have AQ:=Hfits.out.pairs;have AX:=Hfits.out.getD (nm:=q9);have hc:=(Hfits.out.getD (nm:=qg)).text;rw[hL]at AX;have ht:((zbw j qg).getD J.zero).text=T2.1:=by rw[← AJ];rfl
 rw[ht]at hc;have Hft:=zi hc;have Hfl:=zi AX;clear hc AX ht;obtain⟨k1,Aw⟩:∃ x,(zbw j qh).isSome=x:=⟨_,rfl⟩;obtain⟨k2,Av⟩:∃ x,(zbw j q9).isSome=x:=⟨_,rfl⟩;have hJ:=fun(S:Nat→Prop) x V nm (h:RJ S V j x)=>zfo S j x nm V h AQ
 have hh:=fun(S:Nat→Prop) x V nm (h:RJ S V j x)=>zoa S j x nm V h AQ
 have AI:=fun(S:Nat→Prop) x V h=>hJ S x V zdl h
 have AH:=fun(S:Nat→Prop) x V h=>hJ S x V qg h
 have AW:=fun(S:Nat→Prop) x V h=>hh S x V qh h
 have AV:=fun(S:Nat→Prop) x V h=>hh S x V q9 h
 simp only[Ab]at AI;simp only[AJ]at AH;simp only[hQ,Aw]at AW;simp only[hL,Av]at AV;obtain⟨jk,jn,jt,jl,jp⟩:=j;simp only[J.pairs]at hR;obtain⟨BY,BE⟩:=T1;obtain⟨BC,BD⟩:=T2;simp only at hR AI AH;have BM:=zi hR;have BG:=zi AI;have BF:=zi AH;have BI:=zi AW;have BH:=zi AV;clear hJ hh AI AH AW AV Ab AJ hQ hL Aw Av hR AQ;go_enter Tryz.func41,Tryz.ntmps41
 go_wp2_with fail
 refine Hpar.out.mono ?_;rintro e w1 ⟨x,rfl,hx,A9⟩;obtain⟨y1,m1,y2,m2,rfl,-,-⟩:=hx.open;have BK:=zi hx;have BP:=zi A9;clear hx A9 Hpar
 go_upto_region 4 with((with_reducible refine qc (w:=w1) rfl 65 _ _ rfl _ #[.int .i64 jk,.int .i64 jn,.string ⟨Array.mk jt⟩,.slice y1 jl.length m1,.slice y2 jp.length m2] w1.heap.size rfl ?_ ?_ (zgs _ _ _ _ _) (zo8 _ _ _ _ _) (zjk _ _ _ _ _ _ _ _ _) ?_);rfl;rfl)
 change Code.wp _ _ _ _ (w1.alloc (.cells #[.int .i64 jk,.int .i64 jn,.string ⟨Array.mk jt⟩,.slice y1 jl.length m1,.slice y2 jp.length m2] 65));have hB:=zo w1 (.cells #[.int .i64 jk,.int .i64 jn,.string ⟨Array.mk jt⟩,.slice y1 jl.length m1,.slice y2 jp.length m2] 65);have hC:=(Fr.refl (M:=NoB)).alloc (w:=w1) (.cells #[.int .i64 jk,.int .i64 jn,.string ⟨Array.mk jt⟩,.slice y1 jl.length m1,.slice y2 jp.length m2] 65);obtain⟨W1,hF⟩:∃ x,w1.alloc (.cells #[.int .i64 jk,.int .i64 jn,.string ⟨Array.mk jt⟩,.slice y1 jl.length m1,.slice y2 jp.length m2] 65)=x:=⟨_,rfl⟩;rw[hF]at hB hC ⊢;obtain⟨bv,hE⟩:∃ x,w1.heap.size=x:=⟨_,rfl⟩;rw[hE]at hB ⊢;have Ao:=zi hC;have hs:=zi hB;clear hF hE hB hC;obtain⟨v0,v1,v2,v3,v4,vz,hI⟩:=VB.at hs.out;have AA:=zi (RJ.kp (Kp.ofFr Ao.out) _ _ BK.out);clear vz hI
 go_wp2_with fail
 refine(BG.out _ _ _ AA.out).mono ?_;rintro e w2 ⟨rfl,h7⟩;have ha:=zi h7;clear h7 v0 v1 v2 v3 v4;obtain⟨v0,v1,v2,v3,v4,vz,hI⟩:=VB.at (ha.out.block _ _ hs.out (fun h=>h));clear vz hI
 go_wp2_with fail
 refine(BF.out _ _ _ (RJ.kp (Kp.ofFr ha.out) _ _ AA.out)).mono ?_;rintro e w3 ⟨rfl,h6⟩;have hZ:=zi (ha.out.trans' h6);clear h6 v0 v1 v2 v3 v4;obtain⟨v0,v1,v2,v3,v4,vz,hI⟩:=VB.at (hZ.out.block _ _ hs.out (fun h=>h));clear vz hI
 go_wp2_with fail
 refine(BI.out _ _ _ (RJ.kp (Kp.ofFr hZ.out) _ _ AA.out)).mono ?_;rintro e w4 ⟨x,rfl,hx,h5⟩;obtain⟨z1,i1,z2,i2,rfl,-,-⟩:=hx.open;have AG:=zi (hZ.out.trans' h5);clear hx h5 v0 v1 v2 v3 v4
 go_upto_region 7 with((with_reducible refine qc (w:=w4) rfl 65 _ _ rfl _ #[.int .i64 qk,.int .i64 qn,.string ⟨Array.mk qt⟩,.slice z1 ql.length i1,.slice z2 qp.length i2] w4.heap.size rfl ?_ ?_ (zgs _ _ _ _ _) (zo8 _ _ _ _ _) (zjk _ _ _ _ _ _ _ _ _) ?_);rfl;rfl)
 change Code.wp _ _ _ _ (w4.alloc (.cells #[.int .i64 qk,.int .i64 qn,.string ⟨Array.mk qt⟩,.slice z1 ql.length i1,.slice z2 qp.length i2] 65));have hB:=zo w4 (.cells #[.int .i64 qk,.int .i64 qn,.string ⟨Array.mk qt⟩,.slice z1 ql.length i1,.slice z2 qp.length i2] 65);have hC:=(Fr.refl (M:=NoB)).alloc (w:=w4) (.cells #[.int .i64 qk,.int .i64 qn,.string ⟨Array.mk qt⟩,.slice z1 ql.length i1,.slice z2 qp.length i2] 65);obtain⟨W4,hF⟩:∃ x,w4.alloc (.cells #[.int .i64 qk,.int .i64 qn,.string ⟨Array.mk qt⟩,.slice z1 ql.length i1,.slice z2 qp.length i2] 65)=x:=⟨_,rfl⟩;rw[hF]at hB hC ⊢;obtain⟨bq,hE⟩:∃ x,w4.heap.size=x:=⟨_,rfl⟩;rw[hE]at hB ⊢;have BN:=zi hC;have BQ:=zi hB;clear hF hE hB hC;have hS:=zi (AG.out.trans' BN.out);obtain⟨v0,v1,v2,v3,v4,vz,hI⟩:=VB.at (hS.out.block _ _ hs.out (fun h=>h));clear vz hI
 go_wp2_with fail
 refine(BH.out _ _ _ (RJ.kp (Kp.ofFr hS.out) _ _ AA.out)).mono ?_;rintro e w5 ⟨x,rfl,hx,A8⟩;obtain⟨g1,e1,g2,e2,rfl,At,-⟩:=hx.open;have Ba:=zi hx;have h9:=zi At;have AF:=zi A8;clear hx A8 At v0 v1 v2 v3 v4
 go_upto_region 8 with((with_reducible refine qc (w:=w5) rfl 65 _ _ rfl _ #[.int .i64 lk,.int .i64 ln,.string ⟨Array.mk lt⟩,.slice g1 ll.length e1,.slice g2 lp.length e2] w5.heap.size rfl ?_ ?_ (zgs _ _ _ _ _) (zo8 _ _ _ _ _) (zjk _ _ _ _ _ _ _ _ _) ?_);rfl;rfl)
 change Code.wp _ _ _ _ (w5.alloc (.cells #[.int .i64 lk,.int .i64 ln,.string ⟨Array.mk lt⟩,.slice g1 ll.length e1,.slice g2 lp.length e2] 65));have hB:=zo w5 (.cells #[.int .i64 lk,.int .i64 ln,.string ⟨Array.mk lt⟩,.slice g1 ll.length e1,.slice g2 lp.length e2] 65);have hC:=(Fr.refl (M:=NoB)).alloc (w:=w5) (.cells #[.int .i64 lk,.int .i64 ln,.string ⟨Array.mk lt⟩,.slice g1 ll.length e1,.slice g2 lp.length e2] 65);obtain⟨W5,hF⟩:∃ x,w5.alloc (.cells #[.int .i64 lk,.int .i64 ln,.string ⟨Array.mk lt⟩,.slice g1 ll.length e1,.slice g2 lp.length e2] 65)=x:=⟨_,rfl⟩;rw[hF]at hB hC ⊢;obtain⟨bs,hE⟩:∃ x,w5.heap.size=x:=⟨_,rfl⟩;rw[hE]at hB ⊢;have Ap:=zi hC;have Be:=zi hB;clear hF hE hB hC;have hX:=zi (AF.out.trans' Ap.out);have hD:=zi (BP.out.trans' (Ao.out.trans' (hS.out.trans' hX.out)));have Hrl:=zi (h9.out.kp (Kp.ofFr Ap.out));obtain⟨-,-,-,-,v4,-,-⟩:=VB.at ((hS.out.trans' hX.out).block _ _ hs.out (fun h=>h));obtain⟨q0,-,-,-,-,-,-⟩:=VB.at (hX.out.block _ _ BQ.out (fun h=>h));obtain⟨s0,-,-,s3,-,-,-⟩:=VB.at Be.out;obtain⟨c1,A2⟩:∃ x,(qz != 0)=x:=⟨_,rfl⟩;obtain⟨c4,h4⟩:∃ x,((jp.length:Int) != 4)=x:=⟨_,rfl⟩;obtain⟨c5,h3⟩:∃ x,(BY==[104,116,116,112,115,58,47,47,105,110,45,116,111,116,111,46,105,111,47,83,116,97,116,101,109,101,110,116,47,118,49])=x:=⟨_,rfl⟩;obtain⟨c6,ho⟩:∃ x,zci BC=x:=⟨_,rfl⟩;obtain⟨c7,h0⟩:∃ x,(qk != 5)=x:=⟨_,rfl⟩;obtain⟨c8,A1⟩:∃ x,(lk != 4)=x:=⟨_,rfl⟩;obtain⟨c9,A0⟩:∃ x,decide ((ll.length:Int)<1)=x:=⟨_,rfl⟩;obtain⟨BB,hk⟩:∃ x,decide ((16:Int)<(ll.length:Int))=x:=⟨_,rfl⟩;have he:=fun V=>zjp BC V Hft.out
 simp only[ho]at he
 have HR:Hid ((if (!c1&&(BE&&(BD&&(!c4&&(c5&&(c6&&(!c7&&(!c8&&(!c9 && !BB)))))))))=true then zf9 ll else none)=R):=zi (by
  rw[← BM.out,← A2,← h4,← h3,← ho,← h0,← A1,← A0,← hk];have e9:(!decide ((ll.length:Int)<1))=decide (1≤ll.length):=by rw[← decide_not];exact decide_eq_decide.2 (by omega)
  have BX:(!decide ((16:Int)<(ll.length:Int)))=decide (ll.length≤16):=by rw[← decide_not];exact decide_eq_decide.2 (by omega)
  rw[e9,BX,bne,bne,bne,bne,Bool.not_not,Bool.not_not,Bool.not_not,Bool.not_not,ieq qk,ieq lk,show((jp.length:Int)==4)=decide (jp.length=4) from leq _ 4]
  rfl)
 have Htyp:=zi he;clear BM he ho BG BF BI BH AA hs BQ BP Ao ha hZ AG BN hS hX AF Ap BK Ba h9;cases c1;rotate_left
 ·go_wp2_with fail
  go_ret2;exact⟨RSubPost.no (by simpa using HR.out),hD.out⟩
 cases BE
 ·go_wp2_with fail
  go_ret2;exact⟨RSubPost.no (by simpa using HR.out),hD.out⟩
 cases BD
 ·go_wp2_with fail
  go_ret2;exact⟨RSubPost.no (by simpa using HR.out),hD.out⟩
 cases c4;rotate_left
 ·go_wp2_with fail
  go_ret2;exact⟨RSubPost.no (by simpa using HR.out),hD.out⟩
 cases c5
 ·go_wp2_with fail
  go_ret2;exact⟨RSubPost.no (by simpa using HR.out),hD.out⟩
 cases c6
 ·go_wp2_with fail
  refine(Htyp.out _).mono ?_;rintro e w6 ⟨rfl,rfl⟩
  go_wp2_with fail
  go_ret2;exact⟨RSubPost.no (by simpa using HR.out),hD.out⟩
 cases c7;rotate_left
 ·go_wp2_with fail
  refine(Htyp.out _).mono ?_;rintro e w6 ⟨rfl,rfl⟩
  go_wp2_with fail
  go_ret2;exact⟨RSubPost.no (by simpa using HR.out),hD.out⟩
 cases c8;rotate_left
 ·go_wp2_with fail
  refine(Htyp.out _).mono ?_;rintro e w6 ⟨rfl,rfl⟩
  go_wp2_with fail
  go_ret2;exact⟨RSubPost.no (by simpa using HR.out),hD.out⟩
 cases c9;rotate_left
 ·go_wp2_with fail
  refine(Htyp.out _).mono ?_;rintro e w6 ⟨rfl,rfl⟩
  go_wp2_with fail
  go_ret2;exact⟨RSubPost.no (by simpa using HR.out),hD.out⟩
 cases BB;rotate_left
 ·go_wp2_with fail
  refine(Htyp.out _).mono ?_;rintro e w6 ⟨rfl,rfl⟩
  go_wp2_with fail
  go_ret2;exact⟨RSubPost.no (by simpa using HR.out),hD.out⟩
 have hl16:ll.length≤16:=by have:=of_decide_eq_false hk;omega
 have Bd:Hid ((zf9 (ll.drop 0)).map ([] ++ ·)=R):=zi (by
  have h:zf9 ll=R:=HR.out;rw[← h,List.drop_zero]
  cases zf9 ll<;>rfl)
 have Bc:=zi s3;have hgs:=hg.size;have hu:=hD.out.size;have Ah:=zi hu;clear HR hu h8
 go_wp2_with fail
 refine(Htyp.out _).mono ?_;rintro e w6 ⟨rfl,rfl⟩
 go_wp2_with fail
 clear A0 hk A1 h0 h3 h4 A2
 go_loopg [14,15] (ll.length+1) (fun gf vo vi wr=>∃ (i:Nat) (hP:List (Bs × Bs)),vi = .int .i64 i∧i≤ll.length∧i+gf=ll.length+1∧Hid (hP.length=i)∧Hid (wr.ownsRow W5.heap.size 79 33 vo hP.length (hP.flatMap fun x=>j9 x.1 x.2))∧Hid (Fr NoB W5 wr)∧Hid ((zf9 (ll.drop i)).map (hP ++ ·)=R))
 case atStart=>exact⟨0,[],rfl,by omega,by omega,zi rfl,zi ⟨rfl,.inl ⟨rfl,rfl⟩⟩,zi Fr.refl,Bd⟩
 case round =>
  obtain⟨i,hP,rfl,hi,hig,Hal,Hrow,AL,hH⟩:=hrel;obtain⟨BW,AU⟩:∃ x,x=gk:=⟨_,rfl⟩;subst AU;have s3:=Fr.cell AL.out Bc.out;by_cases BV:i<ll.length
  ·have AS:decide ((i:Int)<ll.length)=true:=decide_eq_true (by omega);obtain⟨x,hx⟩:∃ x,ll[i]? = some x:=⟨_,List.getElem?_eq_getElem BV⟩;obtain⟨b,o,k0,k1,k2,k3,k4,rfl,hbl,x0,x1,x2,x3,x4,AO⟩:=(Hrl.out.kp (Kp.ofFr AL.out)).at hx;have hT:=hH.out;rw[zeb hx,zf9]at hT;have hz:=Fits.at (j := .mk lk ln lt ll lp) Hfl.out hx;have AY:=hz.getD (nm:=zah);have hc:=(AY.getD (nm:=zbb)).text;have Ay:=(hz.getD (nm:=zfm)).text;have hU:=fun(S:Nat→Prop) v V (h:RJ S V x v)=>zfo S x v zfm V h hz.pairs
   have hG:=fun(S:Nat→Prop) v V (h:RJ S V x v)=>zoa S x v zah V h hz.pairs
   have hY:=fun(S:Nat→Prop) v V (h:RJ S V ((zbw x zah).getD J.zero) v)=>zfo S ((zbw x zah).getD J.zero) v zbb V h AY.pairs
   unfold zm3 at hT;obtain⟨⟨Ut,Ub⟩,Aa⟩:∃ z,zcp x zfm=z:=⟨_,rfl⟩;have A5:((zbw x zfm).getD J.zero).text=Ut:=congrArg Prod.fst Aa;rw[A5]at Ay;obtain⟨⟨dk,dn,dt,dl,dp⟩,Ag⟩:∃ z,(zbw x zah).getD J.zero=z:=⟨_,rfl⟩;obtain⟨db,Az⟩:∃ z,(zbw x zah).isSome=z:=⟨_,rfl⟩;rw[Ag]at hc;simp only[Aa]at hU hT;simp only[Ag,Az]at hG hY hT;obtain⟨⟨Yt,Yb⟩,AZ⟩:∃ z,zcp (.mk dk dn dt dl dp) zbb=z:=⟨_,rfl⟩;have A4:((zbw (.mk dk dn dt dl dp) zbb).getD J.zero).text=Yt:=congrArg Prod.fst AZ;rw[A4]at hc;simp only[AZ]at hY hT;have hK:=fun V=>ztq Yt V hc
   have hp:=ztc (s:=Yt);obtain⟨Kb,Ae⟩:∃ z,(zkb Yt).isSome=z:=⟨_,rfl⟩;obtain⟨Kd,Ad⟩:∃ z,(zkb Yt).getD jz=z:=⟨_,rfl⟩;have Af:∀ V,Calls Tryz.prog 94 #[.string ⟨Yt.toArray⟩] V fun e V'=>e = .returned (.tuple #[.agg (Lib.byteCells Kd).toArray,.bool Kb])∧Fr NoB V V':=fun V=>(hK V).mono fun e V' ⟨h1,h2⟩=>⟨by rw[h1.eq,Ad,Ae],h2⟩
   rw[Ad]at hp hT;rw[Ae]at hT;obtain⟨xk,xn,xt,xl,xp⟩:=x;obtain⟨n1,d1,n2,d2,hv,-,-⟩:=AO.open;simp only[Value.agg.injEq,Array.mk.injEq,List.cons.injEq,and_true]at hv;obtain⟨rfl,rfl,rfl,rfl,rfl⟩:=hv;simp only[J.pairs]at hT;have hn:=jm Kd;rw[hp]at hn;have hf:=zc6 Ut Kd;have AN:=zap (nm:=Ut) hp;have hV:=zmd Ut Kd hp;have hl:=zfd Ut Kd hp;obtain⟨SC,Ac⟩:∃ z,j9 Ut Kd=z:=⟨_,rfl⟩;have AR:=all_oneCell_toArray (qv Kd);obtain⟨KC,A6⟩:∃ z,Lib.byteCells Kd=z:=⟨_,rfl⟩;simp only[A6]at Af hn AR hV;simp only[Ac]at hf AN hV hl;have Hkz:Hid ((Tryz.prog.info? 23).map (·.size)=some KC.length):=zi (by rw[j3,hn]);have Aj:Hid ((Tryz.prog.info? 23).map (·.size)=some KC.toArray.size):=zi (by rw[j3,List.size_toArray,hn]);have Ai:Hid ((#[jf jg 0,jf jg 0,jf jg 0,jf jg 0,jf jg 0,jf jg 0,jf jg 0,jf jg 0,jf jg 0,jf jg 0,jf jg 0,jf jg 0,jf jg 0,jf jg 0,jf jg 0,jf jg 0,jf jg 0,jf jg 0,jf jg 0,jf jg 0,jf jg 0,jf jg 0,jf jg 0,jf jg 0,jf jg 0,jf jg 0,jf jg 0,jf jg 0,jf jg 0,jf jg 0,jf jg 0,jf jg 0]:Array Value).size=KC.toArray.size):=zi (by rw[show KC.toArray.size=32 by rw[List.size_toArray,hn]];rfl);have BZ:=zi AR;have Hone:=zi hf;have Hsl:=zi AN;have Al:=zi hV;have Ak:=zi hl;have Bb:=zi Ac;have HU:=zi hU;have HG:=zi hG;have HY:=zi hY;have HK:=zi Af;have BL:=zi AO;have AB:=zi hT;clear hU hG hY hK Af hp hn AR hf AN hV hl Ac A6 AO hT hz AY hc Ay Aa Ag Az AZ A4 A5 Ae Ad hx hH;have hsz:(ByteArray.mk Ut.toArray).size=Ut.length:=rfl
   go_upto_region 15 with((with_reducible refine qc (w:=wr) rfl 65 _ _ rfl _ #[.int .i64 xk,.int .i64 xn,.string ⟨Array.mk xt⟩,.slice n1 xl.length d1,.slice n2 xp.length d2] wr.heap.size rfl ?_ ?_ (zgs _ _ _ _ _) (zo8 _ _ _ _ _) (zjk _ _ _ _ _ _ _ _ _) ?_);rfl;rfl)
   change Code.wp _ _ _ _ (wr.alloc (.cells #[.int .i64 xk,.int .i64 xn,.string ⟨Array.mk xt⟩,.slice n1 xl.length d1,.slice n2 xp.length d2] 65));have hB:=zo wr (.cells #[.int .i64 xk,.int .i64 xn,.string ⟨Array.mk xt⟩,.slice n1 xl.length d1,.slice n2 xp.length d2] 65);have hC:=(Fr.refl (M:=NoB)).alloc (w:=wr) (.cells #[.int .i64 xk,.int .i64 xn,.string ⟨Array.mk xt⟩,.slice n1 xl.length d1,.slice n2 xp.length d2] 65);obtain⟨Wx,hF⟩:∃ x,wr.alloc (.cells #[.int .i64 xk,.int .i64 xn,.string ⟨Array.mk xt⟩,.slice n1 xl.length d1,.slice n2 xp.length d2] 65)=x:=⟨_,rfl⟩;rw[hF]at hB hC ⊢;obtain⟨bx,hE⟩:∃ x,wr.heap.size=x:=⟨_,rfl⟩;rw[hE]at hB ⊢;have AK:=zi hC;have AM:=zi hB;clear hF hE hB hC;obtain⟨v0,v1,v2,v3,v4,vz,hI⟩:=VB.at AM.out;have Am:=zi (RJ.kp (Kp.ofFr AK.out) _ _ BL.out);clear vz hI x0 x1 x2 x3 x4 s3
   go_wp2_with fail
   refine(HU.out _ _ _ Am.out).mono ?_;rintro e w2 ⟨rfl,h7⟩;have ha:=zi h7;clear h7 v0 v1 v2 v3 v4;obtain⟨v0,v1,v2,v3,v4,vz,hI⟩:=VB.at (ha.out.block _ _ AM.out (fun h=>h));clear vz hI
   go_wp2_with fail
   refine(HG.out _ _ _ (RJ.kp (Kp.ofFr ha.out) _ _ Am.out)).mono ?_;rintro e w3 ⟨y,rfl,hy,h6⟩;obtain⟨p1,f1,p2,f2,rfl,-,-⟩:=hy.open;have BJ:=zi hy;have hZ:=zi (ha.out.trans' h6);clear hy h6 v0 v1 v2 v3 v4
   go_upto_region 17 with((with_reducible refine qc (w:=w3) rfl 65 _ _ rfl _ #[.int .i64 dk,.int .i64 dn,.string ⟨Array.mk dt⟩,.slice p1 dl.length f1,.slice p2 dp.length f2] w3.heap.size rfl ?_ ?_ (zgs _ _ _ _ _) (zo8 _ _ _ _ _) (zjk _ _ _ _ _ _ _ _ _) ?_);rfl;rfl)
   change Code.wp _ _ _ _ (w3.alloc (.cells #[.int .i64 dk,.int .i64 dn,.string ⟨Array.mk dt⟩,.slice p1 dl.length f1,.slice p2 dp.length f2] 65));have hB:=zo w3 (.cells #[.int .i64 dk,.int .i64 dn,.string ⟨Array.mk dt⟩,.slice p1 dl.length f1,.slice p2 dp.length f2] 65);have hC:=(Fr.refl (M:=NoB)).alloc (w:=w3) (.cells #[.int .i64 dk,.int .i64 dn,.string ⟨Array.mk dt⟩,.slice p1 dl.length f1,.slice p2 dp.length f2] 65);obtain⟨Wy,hF⟩:∃ x,w3.alloc (.cells #[.int .i64 dk,.int .i64 dn,.string ⟨Array.mk dt⟩,.slice p1 dl.length f1,.slice p2 dp.length f2] 65)=x:=⟨_,rfl⟩;rw[hF]at hB hC ⊢;obtain⟨by1,hE⟩:∃ x,w3.heap.size=x:=⟨_,rfl⟩;rw[hE]at hB ⊢;have AD:=zi hC;have Ar:=zi hB;clear hF hE hB hC;obtain⟨v0,v1,v2,v3,v4,vz,hI⟩:=VB.at Ar.out;clear vz hI
   go_wp2_with fail
   refine(HY.out _ _ _ (RJ.kp (Kp.ofFr AD.out) _ _ BJ.out)).mono ?_;rintro e w4 ⟨rfl,h5⟩;have AG:=zi h5;clear h5 v0 v1 v2 v3 v4
   go_wp2_with fail
   refine(HK.out _).mono ?_;rintro e w8 ⟨rfl,A7⟩;have BO:=zi (AG.out.trans' A7);clear A7
   go_upto_region 19 with((with_reducible refine qc (w:=w8) rfl 23 _ _ rfl _ KC.toArray w8.heap.size rfl ?_ ?_ Aj.out Ai.out BZ.out ?_);rfl;rfl)
   change Code.wp _ _ _ _ (w8.alloc (.cells KC.toArray 23));have hq:=j8 (zo w8 (.cells KC.toArray 23));have hr:=BO.out.alloc (.cells KC.toArray 23);obtain⟨w9,As⟩:∃ z,w8.alloc (.cells KC.toArray 23)=z:=⟨_,rfl⟩;rw[As]at hq hr ⊢;obtain⟨bh,A3⟩:∃ z,w8.heap.size=z:=⟨_,rfl⟩;rw[A3]at hq ⊢;rw[List.toList_toArray]at hq;have HQ:=zi hq;have AC:=zi hr;have AE:=zi ((hZ.out.trans' AD.out).trans' hr);have hW:=zi (AL.out.trans' (AK.out.trans' ((hZ.out.trans' AD.out).trans' hr)));have hd:=zi (zb2 Hrow.out (AK.out.trans' ((hZ.out.trans' AD.out).trans' hr)) (fun _ _ _ _ h=>h));obtain⟨-,-,-,-,x4,-,-⟩:=VB.at (AE.out.block _ _ AM.out (fun h=>h));obtain⟨-,-,-,-,y4,-,-⟩:=VB.at (AC.out.block _ _ Ar.out (fun h=>h));clear As A3 hq hr HK HY HG HU Am BJ BL ha hZ AG BO AK AD AM Ar AE AC;obtain⟨c4,h4⟩:∃ x,((xp.length:Int) != 2)=x:=⟨_,rfl⟩;obtain⟨c5,h3⟩:∃ x,((dp.length:Int) != 1)=x:=⟨_,rfl⟩;obtain⟨c6,ho⟩:∃ x,decide ((Ut.length:Int)<1)=x:=⟨_,rfl⟩;obtain⟨c7,h0⟩:∃ x,decide ((64:Int)<(Ut.length:Int))=x:=⟨_,rfl⟩
   have hH:Hid ((match (if (Ub&&(Yb&&(Kb&&(!c4&&(!c5&&(!c6 && !c7))))))=true then some (Ut,Kd) else none:Option (Bs × Bs)) with | none=>none | some s=>(zf9 (ll.drop (i+1))).map (s :: ·)).map (hP ++ ·)=R):=zi (by
    rw[← AB.out,← h4,← h3,← ho,← h0];have e6:(!decide ((Ut.length:Int)<1))=decide (1≤Ut.length):=by rw[← decide_not];exact decide_eq_decide.2 (by omega)
    have e7:(!decide ((64:Int)<(Ut.length:Int)))=decide (Ut.length≤64):=by rw[← decide_not];exact decide_eq_decide.2 (by omega)
    rw[e6,e7,bne,bne,Bool.not_not,Bool.not_not,show((xp.length:Int)==2)=decide (xp.length=2) from leq _ 2,show((dp.length:Int)==1)=decide (dp.length=1) from leq _ 1]
    rfl)
   clear AB;cases Ub
   ·go_wp2_with fail
    go_ret2;exact⟨RSubPost.no (by simpa using hH.out),hD.out.trans' hW.out⟩
   cases Yb
   ·go_wp2_with fail
    go_ret2;exact⟨RSubPost.no (by simpa using hH.out),hD.out.trans' hW.out⟩
   cases Kb
   ·go_wp2_with fail
    go_ret2;exact⟨RSubPost.no (by simpa using hH.out),hD.out.trans' hW.out⟩
   cases c4;rotate_left
   ·go_wp2_with fail
    go_ret2;exact⟨RSubPost.no (by simpa using hH.out),hD.out.trans' hW.out⟩
   cases c5;rotate_left
   ·go_wp2_with fail
    go_ret2;exact⟨RSubPost.no (by simpa using hH.out),hD.out.trans' hW.out⟩
   cases c6;rotate_left
   ·go_wp2_with fail
    go_ret2;exact⟨RSubPost.no (by simpa using hH.out),hD.out.trans' hW.out⟩
   cases c7;rotate_left
   ·go_wp2_with fail
    go_ret2;exact⟨RSubPost.no (by simpa using hH.out),hD.out.trans' hW.out⟩
   obtain⟨BR,AT,BU,BT,BS⟩:=info_parts zhd
   have An:Hid ((zf9 (ll.drop (i+1))).map ((hP++[(Ut,Kd)]) ++ ·)=R):=zi (by
    rw[← hH.out]
    cases zf9 (ll.drop (i+1))<;>simp)
   go_upto_region 21 with(fail)
   clear h4 h3 ho h0 hH
   go_wp2_with (first
    | (with_reducible refine wpList_load_mid rfl 23 _ rfl bh 0 rfl KC (.array 32 5) HQ.out ji rfl Hkz.out ?_)
    | ((with_reducible refine wpList_buildTo ?_ 79 _ rfl _ rfl SC.toArray ?_ ?_);rfl;(refine Eq.trans (congrArg (Tryz.prog.built 79) ?_) Al.out;kernel_rfl))
    | ((with_reducible refine Great.wpList_buildSliceTo ?_ 73 79 1 _ rfl w9.heap.size rfl _ rfl Tryz.underlying73 SC.toArray ?_ ?_);rfl;(refine Eq.trans (congrArg (Tryz.prog.builtSlice 79 1) ?_) Ak.out;kernel_rfl))
    | (at_builtin;refine zk9 ?_))
   refine zi ?_;refine wpList_append_own _ rfl _ _ 73 rfl W5.heap.size 79 BR (.agg #[.string ⟨#[]⟩,jf jg 0,jf jg 0,jf jg 0,jf jg 0,jf jg 0,jf jg 0,jf jg 0,jf jg 0,jf jg 0,jf jg 0,jf jg 0,jf jg 0,jf jg 0,jf jg 0,jf jg 0,jf jg 0,jf jg 0,jf jg 0,jf jg 0,jf jg 0,jf jg 0,jf jg 0,jf jg 0,jf jg 0,jf jg 0,jf jg 0,jf jg 0,jf jg 0,jf jg 0,jf jg 0,jf jg 0,jf jg 0]) 33 48 Tryz.underlying73 AT BU BT BS rfl (by decide) _ hP.length (hP.flatMap fun x=>j9 x.1 x.2) rfl (hd.out.alloc _) ⟨w9.heap.size,0,none⟩ 1 1 SC rfl (by rw[Hsl.out]) (qm w9 SC 79) Hone.out (by have:=Hal.out;unfold maxLen;omega) (by have:=Hal.out;omega) (Nat.le_trans hW.out.size (by rw[World.size_alloc];omega)) ?_;intro vo' w10 hw Ax _;have Aq:=zi ((hW.out.alloc (.cells SC.toArray 79)).trans (Fr.ofGrown Ax) (fun k _ hm => .inr (zcs (hd.out.alloc (.cells SC.toArray 79)) hm)));have Hown:=zi hw;clear hw Ax
   go_wp2_with fail
   go_roundg (BW - 1)
   case measure=>omega
   case rel =>
    refine⟨i+1,hP++[(Ut,Kd)],by simp,by omega,by omega,zi (by rw[List.length_append,Hal.out];rfl),zi ?_,Aq,An⟩;rw[List.flatMap_append,List.length_append];have e:[(Ut,Kd)].flatMap (fun x=>j9 x.1 x.2)=SC:=by rw[← Bb.out];simp
    rw[e];exact Hown.out
  obtain rfl:i=ll.length:=by omega
  have AS:decide ((ll.length:Int)<ll.length)=false:=decide_eq_false (by omega);have hR:=hH.out;rw[List.drop_length,zf9]at hR;have An:Hid (some hP=R):=zi (by simpa using hR);clear hR hH
  go_wp2_with fail
  go_ret2;refine⟨?_,hD.out.trans' AL.out⟩;rw[← An.out];exact⟨_,rfl,zdb Hrow.out Ah.out⟩
end Go.Proofs.YtffggpplnjibgaaGreatDoor
