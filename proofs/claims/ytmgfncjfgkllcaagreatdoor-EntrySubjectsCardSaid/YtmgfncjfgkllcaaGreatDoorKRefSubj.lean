/-
 The walks of the reference's text and Subjects.
-/
import Derived.Test.YtmgfncjfgkllcaaGreatDoorKTxt10
import Derived.Test.YtmgfncjfgkllcaaGreatDoorKTxt15
import Derived.Test.YtmgfncjfgkllcaaGreatDoorKSubjects
import Derived.Test.YtmgfncjfgkllcaaGreatDoorKRefUnhex
import Derived.Test.YtmgfncjfgkllcaaGreatDoorKReadB
import Derived.Great.Walk
open Go.Lib renaming hid→za
open Go renaming heap_alloc_new→zh
open Go.Value renaming int→zy
open Go.IntKind renaming u8→z6
namespace Go.Proofs.YtmgfncjfgkllcaaGreatDoor
set_option linter.unusedVariables false
set_option linter.unusedSimpArgs false
set_option linter.unusedSectionVars false
set_option maxRecDepth 100000
set_option maxHeartbeats 8000000
open Go.RowKit
variable [OldK]
def zc6 (j:J) (nm:Bs):Bs × Bool:=(((zb3 j nm).getD J.zero).text,(zb3 j nm).isSome&&(((zb3 j nm).getD J.zero).kind==3))
def zon (x:J):Option (Bs × Bs) :=
 let d:=(zb3 x zan).getD J.zero
 if ((zc6 x zf4).2&&((zc6 d zbs).2&&((zii (zc6 d zbs).1).isSome&&(decide (x.pairs.length=2)&&(decide (d.pairs.length=1)&&(decide (1≤(zc6 x zf4).1.length)&&decide ((zc6 x zf4).1.length≤64)))))))=true
 then some ((zc6 x zf4).1,(zii (zc6 d zbs).1).getD jd) else none
def zgo:List J→Option (List (Bs × Bs))
 | []=>some []
 | x :: l=>match zon x with
   | none=>none
   | some s=>(zgo l).map (s :: ·)
def zfc (s:Bs):Option (List (Bs × Bs)) :=
 let v:=(zaf s).1
 let l:=(zb3 v qy).getD J.zero
 if (decide (s.length≤2048)&&(decide ((zaf s).2=0)&&((zc6 v zd6).2&&((zc6 v j7).2&&(decide (v.pairs.length=4)&&((zc6 v zd6).1==zbl&&(zcd (zc6 v j7).1 &&
  (decide (((zb3 v j9).getD J.zero).kind=5)&&(decide (l.kind=4)&&(decide (1≤l.list.length)&&decide (l.list.length≤16)))))))))))=true then zgo l.list else none
theorem zhd (c0 c1 c2 c3 c4:Value):(Tryz.prog.info? 56).map (·.size)=some (#[c0,c1,c2,c3,c4]:Array Value).size:=by kernel_rfl
theorem zrk (c0 c1 c2 c3 c4:Value):(#[.int .i64 0,.int .i64 0,.string ⟨#[]⟩,.slice none 0 0,.slice none 0 0]:Array Value).size=(#[c0,c1,c2,c3,c4]:Array Value).size:=rfl
theorem zke (k n:Int)(t:ByteArray)(a1 a2:Option Addr)(n1 c1 n2 c2:Nat):(#[.int .i64 k,.int .i64 n,.string t,.slice a1 n1 c1,.slice a2 n2 c2]:Array Value).all (·.oneCell')=true:=by simp[Value.oneCell']
theorem zf6 (S:Nat→Prop) (j:J) (v:Value) (nm:Bs) (w:World) (h:RJ S w j v) (hpl:j.pairs.length≤67108864) :
 Calls Tryz.prog 70 #[v,.string ⟨nm.toArray⟩] w fun e w'=>e = .returned (.tuple #[.string ⟨(zc6 j nm).1.toArray⟩,.bool (zc6 j nm).2])∧Fr NoB w w':=by
 have hg:=fun V (hV:Fr NoB w V)=>zpy S j v nm V (RJ.kp (Kp.ofFr hV) _ _ h) hpl
 unfold zc6;obtain⟨hs,hC⟩:∃ x,(zb3 j nm).isSome=x:=⟨_,rfl⟩;obtain⟨⟨jk,jn,jt,jl,jp⟩,hG⟩:∃ x,(zb3 j nm).getD J.zero=x:=⟨_,rfl⟩;rw[hC,hG];simp only[hC,hG]at hg;obtain⟨k,n,t,l,p⟩:=j;obtain⟨a1,c1,a2,c2,rfl,-,-⟩:=h.open;simp only[J.text,J.kind];obtain⟨b3,hK⟩:∃ x,(jk==3)=x:=⟨_,rfl⟩;rw[hK];have hF:=(Fr.refl (M:=NoB)).alloc (w:=w) (.cells #[.int .i64 k,.int .i64 n,.string ⟨t.toArray⟩,.slice a1 l.length c1,.slice a2 p.length c2] 56);obtain⟨v0,v1,v2,v3,v4,vz,hI⟩:=VB.at (zh w (.cells #[.int .i64 k,.int .i64 n,.string ⟨t.toArray⟩,.slice a1 l.length c1,.slice a2 p.length c2] 56));have Hg:=za hg;have HF:=za hF;clear hg hF h hC hG hpl;go_enter Tryz.func70,Tryz.ntmps70
 go_wp2_with fail
 refine(Hg.out _ HF.out).mono ?_;rintro e w2 ⟨x,rfl,hx,hE⟩;obtain⟨y1,m1,y2,m2,rfl,-,-⟩:=hx.open;have hL:=za (HF.out.trans' hE);clear hx hE v0 v1 v2 v3 v4 vz hI
 go_upto_region 2 with((with_reducible refine qe (w:=w2) rfl 56 _ _ rfl _ #[.int .i64 jk,.int .i64 jn,.string ⟨jt.toArray⟩,.slice y1 jl.length m1,.slice y2 jp.length m2] w2.heap.size rfl ?_ ?_ (zhd _ _ _ _ _) (zrk _ _ _ _ _) (zke _ _ _ _ _ _ _ _ _) ?_);rfl;rfl)
 change Code.wp _ _ _ _ (w2.alloc (.cells #[.int .i64 jk,.int .i64 jn,.string ⟨jt.toArray⟩,.slice y1 jl.length m1,.slice y2 jp.length m2] 56));obtain⟨r0,-,r2,-,-,-,hJ⟩:=VB.at (zh w2 (.cells #[.int .i64 jk,.int .i64 jn,.string ⟨jt.toArray⟩,.slice y1 jl.length m1,.slice y2 jp.length m2] 56));have hD:=hL.out.alloc (.cells #[.int .i64 jk,.int .i64 jn,.string ⟨jt.toArray⟩,.slice y1 jl.length m1,.slice y2 jp.length m2] 56);obtain⟨W,hW⟩:∃ x,w2.alloc (.cells #[.int .i64 jk,.int .i64 jn,.string ⟨jt.toArray⟩,.slice y1 jl.length m1,.slice y2 jp.length m2] 56)=x:=⟨_,rfl⟩;rw[hW]at r0 r2 hD ⊢;have hH:=za hD;clear hW hD hJ;cases hs
 ·refine wp_region_held_drew (S:=fun V=>Hid (Fr NoB W V)) (by kernel_rfl) (za Fr.refl.drew) (fun hA=>?_);simp only[qV]
  iterate 10
   first
   | refine qt (v:=undef) rfl (Or.inr ⟨by rfl,rfl⟩) hA ?_
     try simp only[Act.put,qP]
   | refine qt (v:=?_) rfl (Or.inl ⟨by rfl,?_⟩) hA ?_
     rotate_left
     ·intro W hB;have h0:=Fr.cell hB.out r0;have h2:=Fr.cell hB.out r2
      try simp only[qQ]
      go_simp
      try rw[if_neg (by omega)]
      try with_reducible rfl
     try simp only[Act.put,qP]
  refine wpAnyH_done (by kernel_rfl) ?_ _;have HE:=za (hH.out.trans' hA.out);clear hA r0 r2
  go_wp2_with fail
  go_ret2;exact⟨rfl,HE.out⟩
 refine wp_region_held_drew (S:=fun V=>Hid (Fr NoB W V)) (by kernel_rfl) (za Fr.refl.drew) (fun hA=>?_);simp only[qV]
 iterate 10
  refine qt (v:=?_) rfl (Or.inl ⟨by rfl,?_⟩) hA ?_;rotate_left
  ·intro W hB;have h0:=Fr.cell hB.out r0;have h2:=Fr.cell hB.out r2
   try simp only[qQ]
   go_simp
   try rw[if_neg (by omega)]
   try with_reducible rfl
  try simp only[Act.put,qP]
 refine wpAnyH_done (by kernel_rfl) ?_ _;have HE:=za (hH.out.trans' hA.out);clear hA r0 r2
 go_wp2_with fail
 go_ret2;exact⟨rfl,HE.out⟩
theorem Fits.pairs {j:J}(h:Fits j):j.pairs.length≤67108864:=by
 obtain⟨h,-⟩:=h;cases j;exact(fits.open h).2.2.1
theorem Fits.getD {j:J} {nm:Bs} (h:Fits j):Fits ((zb3 j nm).getD J.zero):=by
 cases hg:zb3 j nm with
 | none=>exact Fits.zero
 | some v =>
   unfold zb3 at hg;split at hg
   ·obtain⟨i,hi⟩:=zmw _ _ _ hg;obtain⟨h1,h2⟩:=h;cases hj:j;rw[hj]at h1 h2 hi;exact⟨(fitsp.at _ (fits.open h1).2.2.2.2 i _ _ hi).2,(fitsp.at _ (fits.open h2).2.2.2.2 i _ _ hi).2⟩
   cases hg
theorem RSumPost.eq {r:Option Bs}{e:Ending}(h:RSumPost r e):e = .returned (.tuple #[.agg (Lib.byteCells (r.getD jd)).toArray,.bool r.isSome]):=by
 cases r with
 | some b=>exact h
 | none=>exact h
theorem zwe {s:Bs}:((zii s).getD jd).length=32:=by
 cases h:zii s with
 | none=>rfl
 | some l=>exact((zc4 _ _).1 h).2
def RSubPost (B:Nat) (r:Option (List (Bs × Bs))) (e:Ending) (W:World):Prop :=
 match r with
 | none=>e = .returned (.tuple #[.slice none 0 0,.bool false])
 | some l=>∃ v,e = .returned (.tuple #[v,.bool true])∧W.ownsRow B 51 33 v l.length (l.flatMap fun x=>jo x.1 x.2)
theorem RSubPost.no {B:Nat}{r:Option (List (Bs × Bs))}{W:World}(h:none=r):RSubPost B r (.returned (.tuple #[.slice none 0 0,.bool false])) W:=by
 subst h;rfl
theorem ieq (a b:Int):(a==b)=decide (a=b):=by rw[Bool.eq_iff_iff,beq_iff_eq,decide_eq_true_eq]
theorem leq (n k:Nat):((n:Int)==(k:Int))=decide (n=k):=by rw[Bool.eq_iff_iff,beq_iff_eq,decide_eq_true_eq];omega
def V5 (b:Nat) (v:Value) (w:World):Prop:=∃ c0 c1 c2 c3 c4,v = .agg #[c0,c1,c2,c3,c4]∧w.heap[b]? = some (.cells #[c0,c1,c2,c3,c4] 56 (0,0))
theorem zlf (S:Nat→Prop) (s:Bs) (pv:Value) (w:World) (hb:SB S s pv w) (hg:Gl w) (hlen:s.length≤1000000) :
 Calls Tryz.prog 23 #[pv] w fun e w'=>RSubPost w.heap.size (zfc s) e w'∧Fr NoB w w':=by
 obtain⟨a0,c0,rfl⟩:=hb.form;obtain⟨R,hR⟩:∃ R,zfc s=R:=⟨_,rfl⟩;rw[hR];unfold zfc at hR;by_cases A9:2048<s.length
 ·have h7:decide ((2048:Int)<(s.length:Int))=true:=decide_eq_true (by omega);have hN:decide (s.length≤2048)=false:=decide_eq_false (by omega);simp only[hN]at hR;have HR:Hid (none=R):=za (by simpa using hR);clear hR A9 hN hb;go_enter Tryz.func23,Tryz.ntmps23
  go_wp2_with fail
  go_ret2;exact⟨RSubPost.no HR.out,Fr.refl⟩
 have h7:decide ((2048:Int)<(s.length:Int))=false:=decide_eq_false (by omega);have hN:decide (s.length≤2048)=true:=decide_eq_true (by omega);simp only[hN,Bool.true_and]at hR;have hM:=zhm (s:=s) (by omega);have hJ:=zr3 S s _ w hb hg (by unfold maxLen;omega);obtain⟨j,hj⟩:∃ j,(zaf s).1=j:=⟨_,rfl⟩;obtain⟨q,hq⟩:∃ q,(zaf s).2=q:=⟨_,rfl⟩;rw[hj]at hJ hR hM;rw[hq]at hJ hR;obtain⟨qz,AO⟩:∃ z:Int,(q:Int)=z:=⟨_,rfl⟩;have At:decide (q=0)=(qz==0):=by rw[← AO,ieq];exact decide_eq_decide.2 (by omega)
 rw[At]at hR;rw[AO]at hJ;have Hpar:=za hJ;have Hfits:=za hM;clear A9 hN hb hJ hj hq hM AO At q;obtain⟨T1,Aa⟩:∃ x,zc6 j zd6=x:=⟨_,rfl⟩;obtain⟨T2,AI⟩:∃ x,zc6 j j7=x:=⟨_,rfl⟩;obtain⟨⟨qk,qn,qt,ql,qp⟩,hQ⟩:∃ x,(zb3 j j9).getD J.zero=x:=⟨_,rfl⟩;obtain⟨⟨lk,ln,lt,ll,lp⟩,hL⟩:∃ x,(zb3 j qy).getD J.zero=x:=⟨_,rfl⟩;rw[Aa,AI,hQ,hL]at hR;simp only[J.kind,J.list]at hR;have AP:=Hfits.out.pairs;have AW:=Hfits.out.getD (nm:=qy);have ha:=(Hfits.out.getD (nm:=j7)).text;rw[hL]at AW;have hs:((zb3 j j7).getD J.zero).text=T2.1:=by rw[← AI];rfl
 rw[hs]at ha;have Hft:=za ha;have Hfl:=za AW;clear ha AW hs;obtain⟨k1,Av⟩:∃ x,(zb3 j j9).isSome=x:=⟨_,rfl⟩;obtain⟨k2,Au⟩:∃ x,(zb3 j qy).isSome=x:=⟨_,rfl⟩;have hI:=fun(S:Nat→Prop) x V nm (h:RJ S V j x)=>zf6 S j x nm V h AP
 have hf:=fun(S:Nat→Prop) x V nm (h:RJ S V j x)=>zpy S j x nm V h AP
 have AH:=fun(S:Nat→Prop) x V h=>hI S x V zd6 h
 have AG:=fun(S:Nat→Prop) x V h=>hI S x V j7 h
 have AV:=fun(S:Nat→Prop) x V h=>hf S x V j9 h
 have AU:=fun(S:Nat→Prop) x V h=>hf S x V qy h
 simp only[Aa]at AH;simp only[AI]at AG;simp only[hQ,Av]at AV;simp only[hL,Au]at AU;obtain⟨jk,jn,jt,jl,jp⟩:=j;simp only[J.pairs]at hR;obtain⟨BX,BD⟩:=T1;obtain⟨BB,BC⟩:=T2;simp only at hR AH AG;have BL:=za hR;have BF:=za AH;have BE:=za AG;have BH:=za AV;have BG:=za AU;clear hI hf AH AG AV AU Aa AI hQ hL Av Au hR AP;go_enter Tryz.func23,Tryz.ntmps23
 go_wp2_with fail
 refine Hpar.out.mono ?_;rintro e w1 ⟨x,rfl,hx,A8⟩;obtain⟨y1,m1,y2,m2,rfl,-,-⟩:=hx.open;have BJ:=za hx;have BO:=za A8;clear hx A8 Hpar
 go_upto_region 4 with((with_reducible refine qe (w:=w1) rfl 56 _ _ rfl _ #[.int .i64 jk,.int .i64 jn,.string ⟨Array.mk jt⟩,.slice y1 jl.length m1,.slice y2 jp.length m2] w1.heap.size rfl ?_ ?_ (zhd _ _ _ _ _) (zrk _ _ _ _ _) (zke _ _ _ _ _ _ _ _ _) ?_);rfl;rfl)
 change Code.wp _ _ _ _ (w1.alloc (.cells #[.int .i64 jk,.int .i64 jn,.string ⟨Array.mk jt⟩,.slice y1 jl.length m1,.slice y2 jp.length m2] 56));have hA:=zh w1 (.cells #[.int .i64 jk,.int .i64 jn,.string ⟨Array.mk jt⟩,.slice y1 jl.length m1,.slice y2 jp.length m2] 56);have hB:=(Fr.refl (M:=NoB)).alloc (w:=w1) (.cells #[.int .i64 jk,.int .i64 jn,.string ⟨Array.mk jt⟩,.slice y1 jl.length m1,.slice y2 jp.length m2] 56);obtain⟨W1,hE⟩:∃ x,w1.alloc (.cells #[.int .i64 jk,.int .i64 jn,.string ⟨Array.mk jt⟩,.slice y1 jl.length m1,.slice y2 jp.length m2] 56)=x:=⟨_,rfl⟩;rw[hE]at hA hB ⊢;obtain⟨bv,hD⟩:∃ x,w1.heap.size=x:=⟨_,rfl⟩;rw[hD]at hA ⊢;have An:=za hB;have hr:=za hA;clear hE hD hA hB;obtain⟨v0,v1,v2,v3,v4,vz,hH⟩:=VB.at hr.out;have h9:=za (RJ.kp (Kp.ofFr An.out) _ _ BJ.out);clear vz hH
 go_wp2_with fail
 refine(BF.out _ _ _ h9.out).mono ?_;rintro e w2 ⟨rfl,h6⟩;have hZ:=za h6;clear h6 v0 v1 v2 v3 v4;obtain⟨v0,v1,v2,v3,v4,vz,hH⟩:=VB.at (hZ.out.block _ _ hr.out (fun h=>h));clear vz hH
 go_wp2_with fail
 refine(BE.out _ _ _ (RJ.kp (Kp.ofFr hZ.out) _ _ h9.out)).mono ?_;rintro e w3 ⟨rfl,h5⟩;have hX:=za (hZ.out.trans' h5);clear h5 v0 v1 v2 v3 v4;obtain⟨v0,v1,v2,v3,v4,vz,hH⟩:=VB.at (hX.out.block _ _ hr.out (fun h=>h));clear vz hH
 go_wp2_with fail
 refine(BH.out _ _ _ (RJ.kp (Kp.ofFr hX.out) _ _ h9.out)).mono ?_;rintro e w4 ⟨x,rfl,hx,h4⟩;obtain⟨z1,i1,z2,i2,rfl,-,-⟩:=hx.open;have AF:=za (hX.out.trans' h4);clear hx h4 v0 v1 v2 v3 v4
 go_upto_region 7 with((with_reducible refine qe (w:=w4) rfl 56 _ _ rfl _ #[.int .i64 qk,.int .i64 qn,.string ⟨Array.mk qt⟩,.slice z1 ql.length i1,.slice z2 qp.length i2] w4.heap.size rfl ?_ ?_ (zhd _ _ _ _ _) (zrk _ _ _ _ _) (zke _ _ _ _ _ _ _ _ _) ?_);rfl;rfl)
 change Code.wp _ _ _ _ (w4.alloc (.cells #[.int .i64 qk,.int .i64 qn,.string ⟨Array.mk qt⟩,.slice z1 ql.length i1,.slice z2 qp.length i2] 56));have hA:=zh w4 (.cells #[.int .i64 qk,.int .i64 qn,.string ⟨Array.mk qt⟩,.slice z1 ql.length i1,.slice z2 qp.length i2] 56);have hB:=(Fr.refl (M:=NoB)).alloc (w:=w4) (.cells #[.int .i64 qk,.int .i64 qn,.string ⟨Array.mk qt⟩,.slice z1 ql.length i1,.slice z2 qp.length i2] 56);obtain⟨W4,hE⟩:∃ x,w4.alloc (.cells #[.int .i64 qk,.int .i64 qn,.string ⟨Array.mk qt⟩,.slice z1 ql.length i1,.slice z2 qp.length i2] 56)=x:=⟨_,rfl⟩;rw[hE]at hA hB ⊢;obtain⟨bq,hD⟩:∃ x,w4.heap.size=x:=⟨_,rfl⟩;rw[hD]at hA ⊢;have BM:=za hB;have BP:=za hA;clear hE hD hA hB;have hP:=za (AF.out.trans' BM.out);obtain⟨v0,v1,v2,v3,v4,vz,hH⟩:=VB.at (hP.out.block _ _ hr.out (fun h=>h));clear vz hH
 go_wp2_with fail
 refine(BG.out _ _ _ (RJ.kp (Kp.ofFr hP.out) _ _ h9.out)).mono ?_;rintro e w5 ⟨x,rfl,hx,A7⟩;obtain⟨g1,e1,g2,e2,rfl,As,-⟩:=hx.open;have BZ:=za hx;have h8:=za As;have AE:=za A7;clear hx A7 As v0 v1 v2 v3 v4
 go_upto_region 8 with((with_reducible refine qe (w:=w5) rfl 56 _ _ rfl _ #[.int .i64 lk,.int .i64 ln,.string ⟨Array.mk lt⟩,.slice g1 ll.length e1,.slice g2 lp.length e2] w5.heap.size rfl ?_ ?_ (zhd _ _ _ _ _) (zrk _ _ _ _ _) (zke _ _ _ _ _ _ _ _ _) ?_);rfl;rfl)
 change Code.wp _ _ _ _ (w5.alloc (.cells #[.int .i64 lk,.int .i64 ln,.string ⟨Array.mk lt⟩,.slice g1 ll.length e1,.slice g2 lp.length e2] 56));have hA:=zh w5 (.cells #[.int .i64 lk,.int .i64 ln,.string ⟨Array.mk lt⟩,.slice g1 ll.length e1,.slice g2 lp.length e2] 56);have hB:=(Fr.refl (M:=NoB)).alloc (w:=w5) (.cells #[.int .i64 lk,.int .i64 ln,.string ⟨Array.mk lt⟩,.slice g1 ll.length e1,.slice g2 lp.length e2] 56);obtain⟨W5,hE⟩:∃ x,w5.alloc (.cells #[.int .i64 lk,.int .i64 ln,.string ⟨Array.mk lt⟩,.slice g1 ll.length e1,.slice g2 lp.length e2] 56)=x:=⟨_,rfl⟩;rw[hE]at hA hB ⊢;obtain⟨bs,hD⟩:∃ x,w5.heap.size=x:=⟨_,rfl⟩;rw[hD]at hA ⊢;have Ao:=za hB;have Bd:=za hA;clear hE hD hA hB;have hW:=za (AE.out.trans' Ao.out);have hC:=za (BO.out.trans' (An.out.trans' (hP.out.trans' hW.out)));have Hrl:=za (h8.out.kp (Kp.ofFr Ao.out));obtain⟨-,-,-,-,v4,-,-⟩:=VB.at ((hP.out.trans' hW.out).block _ _ hr.out (fun h=>h));obtain⟨q0,-,-,-,-,-,-⟩:=VB.at (hW.out.block _ _ BP.out (fun h=>h));obtain⟨s0,-,-,s3,-,-,-⟩:=VB.at Bd.out;obtain⟨c1,A1⟩:∃ x,(qz != 0)=x:=⟨_,rfl⟩;obtain⟨c4,h3⟩:∃ x,((jp.length:Int) != 4)=x:=⟨_,rfl⟩;obtain⟨c5,h0⟩:∃ x,(BX==[104,116,116,112,115,58,47,47,105,110,45,116,111,116,111,46,105,111,47,83,116,97,116,101,109,101,110,116,47,118,49])=x:=⟨_,rfl⟩;obtain⟨c6,hn⟩:∃ x,zcd BB=x:=⟨_,rfl⟩;obtain⟨c7,hz⟩:∃ x,(qk != 5)=x:=⟨_,rfl⟩;obtain⟨c8,A0⟩:∃ x,(lk != 4)=x:=⟨_,rfl⟩;obtain⟨c9,Az⟩:∃ x,decide ((ll.length:Int)<1)=x:=⟨_,rfl⟩;obtain⟨BA,hh⟩:∃ x,decide ((16:Int)<(ll.length:Int))=x:=⟨_,rfl⟩;have hd:=fun V=>zr2 BB V Hft.out
 simp only[hn]at hd
 have HR:Hid ((if (!c1&&(BD&&(BC&&(!c4&&(c5&&(c6&&(!c7&&(!c8&&(!c9 && !BA)))))))))=true then zgo ll else none)=R):=za (by
  rw[← BL.out,← A1,← h3,← h0,← hn,← hz,← A0,← Az,← hh];have e9:(!decide ((ll.length:Int)<1))=decide (1≤ll.length):=by rw[← decide_not];exact decide_eq_decide.2 (by omega)
  have BW:(!decide ((16:Int)<(ll.length:Int)))=decide (ll.length≤16):=by rw[← decide_not];exact decide_eq_decide.2 (by omega)
  rw[e9,BW,bne,bne,bne,bne,Bool.not_not,Bool.not_not,Bool.not_not,Bool.not_not,ieq qk,ieq lk,show((jp.length:Int)==4)=decide (jp.length=4) from leq _ 4]
  rfl)
 have Htyp:=za hd;clear BL hd hn BF BE BH BG h9 hr BP BO An hZ hX AF BM hP hW AE Ao BJ BZ h8;cases c1;rotate_left
 ·go_wp2_with fail
  go_ret2;exact⟨RSubPost.no (by simpa using HR.out),hC.out⟩
 cases BD
 ·go_wp2_with fail
  go_ret2;exact⟨RSubPost.no (by simpa using HR.out),hC.out⟩
 cases BC
 ·go_wp2_with fail
  go_ret2;exact⟨RSubPost.no (by simpa using HR.out),hC.out⟩
 cases c4;rotate_left
 ·go_wp2_with fail
  go_ret2;exact⟨RSubPost.no (by simpa using HR.out),hC.out⟩
 cases c5
 ·go_wp2_with fail
  go_ret2;exact⟨RSubPost.no (by simpa using HR.out),hC.out⟩
 cases c6
 ·go_wp2_with fail
  refine(Htyp.out _).mono ?_;rintro e w6 ⟨rfl,rfl⟩
  go_wp2_with fail
  go_ret2;exact⟨RSubPost.no (by simpa using HR.out),hC.out⟩
 cases c7;rotate_left
 ·go_wp2_with fail
  refine(Htyp.out _).mono ?_;rintro e w6 ⟨rfl,rfl⟩
  go_wp2_with fail
  go_ret2;exact⟨RSubPost.no (by simpa using HR.out),hC.out⟩
 cases c8;rotate_left
 ·go_wp2_with fail
  refine(Htyp.out _).mono ?_;rintro e w6 ⟨rfl,rfl⟩
  go_wp2_with fail
  go_ret2;exact⟨RSubPost.no (by simpa using HR.out),hC.out⟩
 cases c9;rotate_left
 ·go_wp2_with fail
  refine(Htyp.out _).mono ?_;rintro e w6 ⟨rfl,rfl⟩
  go_wp2_with fail
  go_ret2;exact⟨RSubPost.no (by simpa using HR.out),hC.out⟩
 cases BA;rotate_left
 ·go_wp2_with fail
  refine(Htyp.out _).mono ?_;rintro e w6 ⟨rfl,rfl⟩
  go_wp2_with fail
  go_ret2;exact⟨RSubPost.no (by simpa using HR.out),hC.out⟩
 have hl16:ll.length≤16:=by have:=of_decide_eq_false hh;omega
 have Bc:Hid ((zgo (ll.drop 0)).map ([] ++ ·)=R):=za (by
  have h:zgo ll=R:=HR.out;rw[← h,List.drop_zero]
  cases zgo ll<;>rfl)
 have Bb:=za s3;have hgs:=hg.size;have ht:=hC.out.size;have Ag:=za ht;clear HR ht h7
 go_wp2_with fail
 refine(Htyp.out _).mono ?_;rintro e w6 ⟨rfl,rfl⟩
 go_wp2_with fail
 clear Az hh A0 hz h0 h3 A1
 go_loopg [14,15] (ll.length+1) (fun gf vo vi wr=>∃ (i:Nat) (hO:List (Bs × Bs)),vi = .int .i64 i∧i≤ll.length∧i+gf=ll.length+1∧Hid (hO.length=i)∧Hid (wr.ownsRow W5.heap.size 51 33 vo hO.length (hO.flatMap fun x=>jo x.1 x.2))∧Hid (Fr NoB W5 wr)∧Hid ((zgo (ll.drop i)).map (hO ++ ·)=R))
 case atStart=>exact⟨0,[],rfl,by omega,by omega,za rfl,za ⟨rfl,.inl ⟨rfl,rfl⟩⟩,za Fr.refl,Bc⟩
 case round =>
  obtain⟨i,hO,rfl,hi,hig,Hal,Hrow,AK,hF⟩:=hrel;obtain⟨BV,AT⟩:∃ x,x=gk:=⟨_,rfl⟩;subst AT;have s3:=Fr.cell AK.out Bb.out;by_cases BU:i<ll.length
  ·have AR:decide ((i:Int)<ll.length)=true:=decide_eq_true (by omega);obtain⟨x,hx⟩:∃ x,ll[i]? = some x:=⟨_,List.getElem?_eq_getElem BU⟩;obtain⟨b,o,k0,k1,k2,k3,k4,rfl,hbl,x0,x1,x2,x3,x4,AN⟩:=(Hrl.out.kp (Kp.ofFr AK.out)).at hx;have hS:=hF.out;rw[zdj hx,zgo]at hS;have hw:=Fits.at (j := .mk lk ln lt ll lp) Hfl.out hx;have AX:=hw.getD (nm:=zan);have ha:=(AX.getD (nm:=zbs)).text;have Ax:=(hw.getD (nm:=zf4)).text;have hU:=fun(S:Nat→Prop) v V (h:RJ S V x v)=>zf6 S x v zf4 V h hw.pairs
   have hG:=fun(S:Nat→Prop) v V (h:RJ S V x v)=>zpy S x v zan V h hw.pairs
   have hY:=fun(S:Nat→Prop) v V (h:RJ S V ((zb3 x zan).getD J.zero) v)=>zf6 S ((zb3 x zan).getD J.zero) v zbs V h AX.pairs
   unfold zon at hS;obtain⟨⟨Ut,Ub⟩,AZ⟩:∃ z,zc6 x zf4=z:=⟨_,rfl⟩;have A4:((zb3 x zf4).getD J.zero).text=Ut:=congrArg Prod.fst AZ;rw[A4]at Ax;obtain⟨⟨dk,dn,dt,dl,dp⟩,Af⟩:∃ z,(zb3 x zan).getD J.zero=z:=⟨_,rfl⟩;obtain⟨db,Ay⟩:∃ z,(zb3 x zan).isSome=z:=⟨_,rfl⟩;rw[Af]at ha;simp only[AZ]at hU hS;simp only[Af,Ay]at hG hY hS;obtain⟨⟨Yt,Yb⟩,AY⟩:∃ z,zc6 (.mk dk dn dt dl dp) zbs=z:=⟨_,rfl⟩;have A3:((zb3 (.mk dk dn dt dl dp) zbs).getD J.zero).text=Yt:=congrArg Prod.fst AY;rw[A3]at ha;simp only[AY]at hY hS;have hK:=fun V=>zww Yt V ha
   have ho:=zwe (s:=Yt);obtain⟨Kb,Ad⟩:∃ z,(zii Yt).isSome=z:=⟨_,rfl⟩;obtain⟨Kd,Ac⟩:∃ z,(zii Yt).getD jd=z:=⟨_,rfl⟩;have Ae:∀ V,Calls Tryz.prog 73 #[.string ⟨Yt.toArray⟩] V fun e V'=>e = .returned (.tuple #[.agg (Lib.byteCells Kd).toArray,.bool Kb])∧Fr NoB V V':=fun V=>(hK V).mono fun e V' ⟨h1,h2⟩=>⟨by rw[h1.eq,Ac,Ad],h2⟩
   rw[Ac]at ho hS;rw[Ad]at hS;obtain⟨xk,xn,xt,xl,xp⟩:=x;obtain⟨n1,d1,n2,d2,hv,-,-⟩:=AN.open;simp only[Value.agg.injEq,Array.mk.injEq,List.cons.injEq,and_true]at hv;obtain⟨rfl,rfl,rfl,rfl,rfl⟩:=hv;simp only[J.pairs]at hS;have hl:=je Kd;rw[ho]at hl;have he:=zdt Ut Kd;have AM:=za2 (nm:=Ut) ho;have hT:=znk Ut Kd ho;have hk:=zfv Ut Kd ho;obtain⟨SC,Ab⟩:∃ z,jo Ut Kd=z:=⟨_,rfl⟩;have AQ:=all_oneCell_toArray (zau Kd);obtain⟨KC,A5⟩:∃ z,Lib.byteCells Kd=z:=⟨_,rfl⟩;simp only[A5]at Ae hl AQ hT;simp only[Ab]at he AM hT hk;have Hkz:Hid ((Tryz.prog.info? 23).map (·.size)=some KC.length):=za (by rw[jr,hl]);have Ai:Hid ((Tryz.prog.info? 23).map (·.size)=some KC.toArray.size):=za (by rw[jr,List.size_toArray,hl]);have Ah:Hid ((#[zy z6 0,zy z6 0,zy z6 0,zy z6 0,zy z6 0,zy z6 0,zy z6 0,zy z6 0,zy z6 0,zy z6 0,zy z6 0,zy z6 0,zy z6 0,zy z6 0,zy z6 0,zy z6 0,zy z6 0,zy z6 0,zy z6 0,zy z6 0,zy z6 0,zy z6 0,zy z6 0,zy z6 0,zy z6 0,zy z6 0,zy z6 0,zy z6 0,zy z6 0,zy z6 0,zy z6 0,zy z6 0]:Array Value).size=KC.toArray.size):=za (by rw[show KC.toArray.size=32 by rw[List.size_toArray,hl]];rfl);have BY:=za AQ;have Hone:=za he;have Hsl:=za AM;have Ak:=za hT;have Aj:=za hk;have Ba:=za Ab;have HU:=za hU;have HG:=za hG;have HY:=za hY;have HK:=za Ae;have BK:=za AN;have AA:=za hS;clear hU hG hY hK Ae ho hl AQ he AM hT hk Ab A5 AN hS hw AX ha Ax AZ Af Ay AY A3 A4 Ad Ac hx hF;have hsz:(ByteArray.mk Ut.toArray).size=Ut.length:=rfl
   go_upto_region 15 with((with_reducible refine qe (w:=wr) rfl 56 _ _ rfl _ #[.int .i64 xk,.int .i64 xn,.string ⟨Array.mk xt⟩,.slice n1 xl.length d1,.slice n2 xp.length d2] wr.heap.size rfl ?_ ?_ (zhd _ _ _ _ _) (zrk _ _ _ _ _) (zke _ _ _ _ _ _ _ _ _) ?_);rfl;rfl)
   change Code.wp _ _ _ _ (wr.alloc (.cells #[.int .i64 xk,.int .i64 xn,.string ⟨Array.mk xt⟩,.slice n1 xl.length d1,.slice n2 xp.length d2] 56));have hA:=zh wr (.cells #[.int .i64 xk,.int .i64 xn,.string ⟨Array.mk xt⟩,.slice n1 xl.length d1,.slice n2 xp.length d2] 56);have hB:=(Fr.refl (M:=NoB)).alloc (w:=wr) (.cells #[.int .i64 xk,.int .i64 xn,.string ⟨Array.mk xt⟩,.slice n1 xl.length d1,.slice n2 xp.length d2] 56);obtain⟨Wx,hE⟩:∃ x,wr.alloc (.cells #[.int .i64 xk,.int .i64 xn,.string ⟨Array.mk xt⟩,.slice n1 xl.length d1,.slice n2 xp.length d2] 56)=x:=⟨_,rfl⟩;rw[hE]at hA hB ⊢;obtain⟨bx,hD⟩:∃ x,wr.heap.size=x:=⟨_,rfl⟩;rw[hD]at hA ⊢;have AJ:=za hB;have AL:=za hA;clear hE hD hA hB;obtain⟨v0,v1,v2,v3,v4,vz,hH⟩:=VB.at AL.out;have Al:=za (RJ.kp (Kp.ofFr AJ.out) _ _ BK.out);clear vz hH x0 x1 x2 x3 x4 s3
   go_wp2_with fail
   refine(HU.out _ _ _ Al.out).mono ?_;rintro e w2 ⟨rfl,h6⟩;have hZ:=za h6;clear h6 v0 v1 v2 v3 v4;obtain⟨v0,v1,v2,v3,v4,vz,hH⟩:=VB.at (hZ.out.block _ _ AL.out (fun h=>h));clear vz hH
   go_wp2_with fail
   refine(HG.out _ _ _ (RJ.kp (Kp.ofFr hZ.out) _ _ Al.out)).mono ?_;rintro e w3 ⟨y,rfl,hy,h5⟩;obtain⟨p1,f1,p2,f2,rfl,-,-⟩:=hy.open;have BI:=za hy;have hX:=za (hZ.out.trans' h5);clear hy h5 v0 v1 v2 v3 v4
   go_upto_region 17 with((with_reducible refine qe (w:=w3) rfl 56 _ _ rfl _ #[.int .i64 dk,.int .i64 dn,.string ⟨Array.mk dt⟩,.slice p1 dl.length f1,.slice p2 dp.length f2] w3.heap.size rfl ?_ ?_ (zhd _ _ _ _ _) (zrk _ _ _ _ _) (zke _ _ _ _ _ _ _ _ _) ?_);rfl;rfl)
   change Code.wp _ _ _ _ (w3.alloc (.cells #[.int .i64 dk,.int .i64 dn,.string ⟨Array.mk dt⟩,.slice p1 dl.length f1,.slice p2 dp.length f2] 56));have hA:=zh w3 (.cells #[.int .i64 dk,.int .i64 dn,.string ⟨Array.mk dt⟩,.slice p1 dl.length f1,.slice p2 dp.length f2] 56);have hB:=(Fr.refl (M:=NoB)).alloc (w:=w3) (.cells #[.int .i64 dk,.int .i64 dn,.string ⟨Array.mk dt⟩,.slice p1 dl.length f1,.slice p2 dp.length f2] 56);obtain⟨Wy,hE⟩:∃ x,w3.alloc (.cells #[.int .i64 dk,.int .i64 dn,.string ⟨Array.mk dt⟩,.slice p1 dl.length f1,.slice p2 dp.length f2] 56)=x:=⟨_,rfl⟩;rw[hE]at hA hB ⊢;obtain⟨by1,hD⟩:∃ x,w3.heap.size=x:=⟨_,rfl⟩;rw[hD]at hA ⊢;have AC:=za hB;have Aq:=za hA;clear hE hD hA hB;obtain⟨v0,v1,v2,v3,v4,vz,hH⟩:=VB.at Aq.out;clear vz hH
   go_wp2_with fail
   refine(HY.out _ _ _ (RJ.kp (Kp.ofFr AC.out) _ _ BI.out)).mono ?_;rintro e w4 ⟨rfl,h4⟩;have AF:=za h4;clear h4 v0 v1 v2 v3 v4
   go_wp2_with fail
   refine(HK.out _).mono ?_;rintro e w8 ⟨rfl,A6⟩;have BN:=za (AF.out.trans' A6);clear A6
   go_upto_region 19 with((with_reducible refine qe (w:=w8) rfl 23 _ _ rfl _ KC.toArray w8.heap.size rfl ?_ ?_ Ai.out Ah.out BY.out ?_);rfl;rfl)
   change Code.wp _ _ _ _ (w8.alloc (.cells KC.toArray 23));have hq:=jm (zh w8 (.cells KC.toArray 23));have hp:=BN.out.alloc (.cells KC.toArray 23);obtain⟨w9,Ar⟩:∃ z,w8.alloc (.cells KC.toArray 23)=z:=⟨_,rfl⟩;rw[Ar]at hq hp ⊢;obtain⟨bh,A2⟩:∃ z,w8.heap.size=z:=⟨_,rfl⟩;rw[A2]at hq ⊢;rw[List.toList_toArray]at hq;have HQ:=za hq;have AB:=za hp;have AD:=za ((hX.out.trans' AC.out).trans' hp);have hV:=za (AK.out.trans' (AJ.out.trans' ((hX.out.trans' AC.out).trans' hp)));have hc:=za (zfr Hrow.out (AJ.out.trans' ((hX.out.trans' AC.out).trans' hp)) (fun _ _ _ _ h=>h));obtain⟨-,-,-,-,x4,-,-⟩:=VB.at (AD.out.block _ _ AL.out (fun h=>h));obtain⟨-,-,-,-,y4,-,-⟩:=VB.at (AB.out.block _ _ Aq.out (fun h=>h));clear Ar A2 hq hp HK HY HG HU Al BI BK hZ hX AF BN AJ AC AL Aq AD AB;obtain⟨c4,h3⟩:∃ x,((xp.length:Int) != 2)=x:=⟨_,rfl⟩;obtain⟨c5,h0⟩:∃ x,((dp.length:Int) != 1)=x:=⟨_,rfl⟩;obtain⟨c6,hn⟩:∃ x,decide ((Ut.length:Int)<1)=x:=⟨_,rfl⟩;obtain⟨c7,hz⟩:∃ x,decide ((64:Int)<(Ut.length:Int))=x:=⟨_,rfl⟩
   have hF:Hid ((match (if (Ub&&(Yb&&(Kb&&(!c4&&(!c5&&(!c6 && !c7))))))=true then some (Ut,Kd) else none:Option (Bs × Bs)) with | none=>none | some s=>(zgo (ll.drop (i+1))).map (s :: ·)).map (hO ++ ·)=R):=za (by
    rw[← AA.out,← h3,← h0,← hn,← hz];have e6:(!decide ((Ut.length:Int)<1))=decide (1≤Ut.length):=by rw[← decide_not];exact decide_eq_decide.2 (by omega)
    have e7:(!decide ((64:Int)<(Ut.length:Int)))=decide (Ut.length≤64):=by rw[← decide_not];exact decide_eq_decide.2 (by omega)
    rw[e6,e7,bne,bne,Bool.not_not,Bool.not_not,show((xp.length:Int)==2)=decide (xp.length=2) from leq _ 2,show((dp.length:Int)==1)=decide (dp.length=1) from leq _ 1]
    rfl)
   clear AA;cases Ub
   ·go_wp2_with fail
    go_ret2;exact⟨RSubPost.no (by simpa using hF.out),hC.out.trans' hV.out⟩
   cases Yb
   ·go_wp2_with fail
    go_ret2;exact⟨RSubPost.no (by simpa using hF.out),hC.out.trans' hV.out⟩
   cases Kb
   ·go_wp2_with fail
    go_ret2;exact⟨RSubPost.no (by simpa using hF.out),hC.out.trans' hV.out⟩
   cases c4;rotate_left
   ·go_wp2_with fail
    go_ret2;exact⟨RSubPost.no (by simpa using hF.out),hC.out.trans' hV.out⟩
   cases c5;rotate_left
   ·go_wp2_with fail
    go_ret2;exact⟨RSubPost.no (by simpa using hF.out),hC.out.trans' hV.out⟩
   cases c6;rotate_left
   ·go_wp2_with fail
    go_ret2;exact⟨RSubPost.no (by simpa using hF.out),hC.out.trans' hV.out⟩
   cases c7;rotate_left
   ·go_wp2_with fail
    go_ret2;exact⟨RSubPost.no (by simpa using hF.out),hC.out.trans' hV.out⟩
   obtain⟨BQ,AS,BT,BS,BR⟩:=info_parts zh1
   have Am:Hid ((zgo (ll.drop (i+1))).map ((hO++[(Ut,Kd)]) ++ ·)=R):=za (by
    rw[← hF.out]
    cases zgo (ll.drop (i+1))<;>simp)
   go_upto_region 21 with(fail)
   clear h3 h0 hn hz hF
   go_wp2_with (first
    | (with_reducible refine wpList_load_mid rfl 23 _ rfl bh 0 rfl KC (.array 32 5) HQ.out jh rfl Hkz.out ?_)
    | ((with_reducible refine wpList_buildTo ?_ 51 _ rfl _ rfl SC.toArray ?_ ?_);rfl;(refine Eq.trans (congrArg (Tryz.prog.built 51) ?_) Ak.out;kernel_rfl))
    | ((with_reducible refine Great.wpList_buildSliceTo ?_ 43 51 1 _ rfl w9.heap.size rfl _ rfl Tryz.underlying43 SC.toArray ?_ ?_);rfl;(refine Eq.trans (congrArg (Tryz.prog.builtSlice 51 1) ?_) Aj.out;kernel_rfl))
    | (at_builtin;refine ztk ?_))
   refine za ?_;refine wpList_append_own _ rfl _ _ 43 rfl W5.heap.size 51 BQ (.agg #[.string ⟨#[]⟩,zy z6 0,zy z6 0,zy z6 0,zy z6 0,zy z6 0,zy z6 0,zy z6 0,zy z6 0,zy z6 0,zy z6 0,zy z6 0,zy z6 0,zy z6 0,zy z6 0,zy z6 0,zy z6 0,zy z6 0,zy z6 0,zy z6 0,zy z6 0,zy z6 0,zy z6 0,zy z6 0,zy z6 0,zy z6 0,zy z6 0,zy z6 0,zy z6 0,zy z6 0,zy z6 0,zy z6 0,zy z6 0]) 33 48 Tryz.underlying43 AS BT BS BR rfl (by decide) _ hO.length (hO.flatMap fun x=>jo x.1 x.2) rfl (hc.out.alloc _) ⟨w9.heap.size,0,none⟩ 1 1 SC rfl (by rw[Hsl.out]) (zgu w9 SC 51) Hone.out (by have:=Hal.out;unfold maxLen;omega) (by have:=Hal.out;omega) (Nat.le_trans hV.out.size (by rw[World.size_alloc];omega)) ?_;intro vo' w10 hu Aw _;have Ap:=za ((hV.out.alloc (.cells SC.toArray 51)).trans (Fr.ofGrown Aw) (fun k _ hm => .inr (zc9 (hc.out.alloc (.cells SC.toArray 51)) hm)));have Hown:=za hu;clear hu Aw
   go_wp2_with fail
   go_roundg (BV - 1)
   case measure=>omega
   case rel =>
    refine⟨i+1,hO++[(Ut,Kd)],by simp,by omega,by omega,za (by rw[List.length_append,Hal.out];rfl),za ?_,Ap,Am⟩;rw[List.flatMap_append,List.length_append];have e:[(Ut,Kd)].flatMap (fun x=>jo x.1 x.2)=SC:=by rw[← Ba.out];simp
    rw[e];exact Hown.out
  obtain rfl:i=ll.length:=by omega
  have AR:decide ((ll.length:Int)<ll.length)=false:=decide_eq_false (by omega);have hR:=hF.out;rw[List.drop_length,zgo]at hR;have Am:Hid (some hO=R):=za (by simpa using hR);clear hR hF
  go_wp2_with fail
  go_ret2;refine⟨?_,hC.out.trans' AK.out⟩;rw[← Am.out];exact⟨_,rfl,zdx Hrow.out Ag.out⟩
end Go.Proofs.YtmgfncjfgkllcaaGreatDoor
