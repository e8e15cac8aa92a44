/-
 The walk of entry.blank.
-/
import Derived.Test.YtmgfncjfgkllcaaGreatDoorKEnAt
import Derived.Test.YtmgfncjfgkllcaaGreatDoorKSigEq
import Derived.Test.YtmgfncjfgkllcaaGreatDoorKNum
import Derived.Deep.LoopGhost
import Derived.Deep.QuietTactic
import Derived.BigQuiet
import Derived.KernelRfl
import Derived.OrdersHeld
import Derived.Deep.RegionHeld3
open Go.Lib renaming hid→za,byteCells→zb
open Go.Proofs.Tryz renaming prog→ze
open Go.World renaming rangeAt_setCells_same→zg
open Go renaming heap_alloc_new→zh,wpList_load_mid→zi,yieldsIf_load_mid→zj
open Or renaming inl→zv
open Go.Value renaming int→zy
open Go.IntKind renaming u8→z6
namespace Go.Proofs.YtmgfncjfgkllcaaGreatDoor
set_option linter.unusedVariables false
set_option linter.unusedSimpArgs false
set_option linter.unusedSectionVars false
set_option maxRecDepth 100000
set_option maxHeartbeats 4000000
section
open Go.RowKit
variable [OldK]
theorem zl8:((Tryz.prog.underlying 28).any (·.isRow))=true:=by kernel_rfl
theorem zab:∃ d,Tryz.prog.underlying 28=some d∧d.isRow=true:=by
 have h:=zl8;cases hq:Tryz.prog.underlying 28 with
 | none=>rw[hq]at h;simp at h
 | some d=>rw[hq]at h;exact⟨d,rfl,by simpa using h⟩
theorem jc:(Tryz.prog.info? 28).map (·.size)=some 70:=by kernel_rfl
def zx7 (e:En) (pv:Value):Value:=if e.kind=2∨e.kind=3 then .slice none 0 0 else pv
theorem z0g (e:En) (pv sv:Value) (w:World) (hok:e.ok) (hp:pv.oneCell'=true) (hs:sv.oneCell'=true) :
 Calls ze 150 #[.agg (e.cells pv sv).toArray] w fun r w'=>r = .returned (.agg ((zbz e).cells (zx7 e pv) sv).toArray)∧Fr NoB w w':=by
 have hw:=En.size hok pv sv;have hh:=En.size (zmx hok) (zx7 e pv) sv;obtain⟨d,hu,hd⟩:=zab;have hR:((w.alloc (.cells (e.cells pv sv).toArray 28)).alloc (.cells Tryz.zeroCells28 28)).rangeAt w.heap.size 0 (e.cells pv sv):=World.rangeAt_alloc (by simpa using jm (zh w (.cells (e.cells pv sv).toArray 28))) _;have hY:((w.alloc (.cells (e.cells pv sv).toArray 28)).alloc (.cells Tryz.zeroCells28 28)).there w.heap.size 0 70:=World.there_alloc (jf (zh w _) (by simp[hw])) _
 have hb:((w.alloc (.cells (e.cells pv sv).toArray 28)).alloc (.cells Tryz.zeroCells28 28)).there (w.heap.size+1) 0 70:=by
  have:=jf (zh (w.alloc (.cells (e.cells pv sv).toArray 28)) (.cells Tryz.zeroCells28 28)) (n:=70) (Nat.le_refl _)
  rwa [World.size_alloc]at this
 have hF:Fr NoB w ((w.alloc (.cells (e.cells pv sv).toArray 28)).alloc (.cells Tryz.zeroCells28 28)):=(Fr.refl.alloc _).alloc _;obtain⟨c0,-,-,-,c4,-,-,-⟩:=En.parts hok hR;have h0:=En.one (e:=e) hp hs;obtain⟨cs,hy⟩:∃ cs,(e.cells pv sv).toArray=cs:=⟨_,rfl⟩;rw[hy]at hR hY hb hF c0 c4 ⊢;clear hy;obtain⟨R,hl⟩:∃ R,((zbz e).cells (zx7 e pv) sv).toArray=R:=⟨_,rfl⟩;rw[hl];have hL:=za hl;clear hl;go_enter Tryz.func150,Tryz.ntmps150
 go_upto_region 1 with(fail)
 change Code.wp _ _ _ _ ((w.alloc (.cells cs 28)).alloc (.cells Tryz.zeroCells28 28));obtain⟨W,hW⟩:∃ W,(w.alloc (.cells cs 28)).alloc (.cells Tryz.zeroCells28 28)=W:=⟨_,rfl⟩;rw[hW]at hR hY hb hF c0 c4 ⊢;obtain⟨p,hi⟩:∃ p,w.heap.size=p:=⟨_,rfl⟩;obtain⟨q,hq⟩:∃ q,p+1=q:=⟨_,rfl⟩;have hpq:p<q:=by omega
 have hS:w.heap.size≤p:=by omega
 rw[hi]at hR hY hb c0 c4;rw[hi,hq];rw[hq]at hb;clear hW hi hq;have HR:=za hR;have hg:=za hY;have hQ:=za hb;have HF:=za hF;have Hok:=za hok;have Hu:=za hu;have Hd:=za hd;have h6:=za (show((#[zy z6 0,zy z6 0,zy z6 0,zy z6 0,zy z6 0,zy z6 0,zy z6 0,zy z6 0,zy z6 0,zy z6 0,zy z6 0,zy z6 0,zy z6 0,zy z6 0,zy z6 0,zy z6 0,zy z6 0,zy z6 0,zy z6 0,zy z6 0,zy z6 0,zy z6 0,zy z6 0,zy z6 0,zy z6 0,zy z6 0,zy z6 0,zy z6 0,zy z6 0,zy z6 0,zy z6 0,zy z6 0]:Array Value).all (·.oneCell'))=true by simp[Value.oneCell']);have AE:=za (show W.there p 1 32 from fun j hj=>by have:=hY (1+j) (by omega);rwa [Nat.zero_add]at this);have hv:=za (show W.there p 37 32 from fun j hj=>by have:=hY (37+j) (by omega);rwa [Nat.zero_add]at this);have HO1:=za h0;clear hR hY hb hF hok hu hd hw hh h0;obtain⟨k,dg,ty,pl,op,hA,ky,sg⟩:=e;simp only at c0 c4;by_cases h1:k=1
 ·subst h1;have hB:En.ok ⟨1,jd,ty,pl,op,hA,ky,sg⟩:=⟨rfl,Hok.out.2⟩;have hK:=En.setDigest Hok.out HR.out jd rfl;have hP:=HF.out.trans (z8 p (zb jd) 1 W) (fun k _ hm => .inr (by omega));clear c4;have Hbl:=za (show(En.cells ⟨1,jd,ty,pl,op,hA,ky,sg⟩ pv sv).toArray=R from hL.out);have Hz:=za (show(Tryz.prog.info? 28).map (·.size)=some (En.cells ⟨1,jd,ty,pl,op,hA,ky,sg⟩ pv sv).length by rw[jc,En.size hB]);have hI:=za (show(Tryz.prog.info? 28).map (·.size)=some (En.cells ⟨1,jd,ty,pl,op,hA,ky,sg⟩ pv sv).toArray.size by rw[jc];simp[En.size hB]);have HO:=za (En.one (e:=⟨1,jd,ty,pl,op,hA,ky,sg⟩) (pv:=pv) (by first | exact hp | rfl) hs);have hE:=za hK;have hJ:=za hP;have hO:=hQ.out
  have hC:=za (show(W.setCells p 1 (zb jd)).there q 0 (En.cells ⟨1,jd,ty,pl,op,hA,ky,sg⟩ pv sv).toArray.size by
   rw[show(En.cells ⟨1,jd,ty,pl,op,hA,ky,sg⟩ pv sv).toArray.size=70 by simp[En.size hB]]
   repeat (first | with_reducible exact hO | with_reducible refine World.there_setCells ?_ _ _ _ | with_reducible refine zar ?_ _ _ _))
  obtain⟨W1,hD⟩:∃ W1,W.setCells p 1 (zb jd)=W1:=⟨_,rfl⟩;obtain⟨C1,hH⟩:∃ C,En.cells ⟨1,jd,ty,pl,op,hA,ky,sg⟩ pv sv=C:=⟨_,rfl⟩;rw[hH]at Hbl Hz hI HO hC hE;rw[hD]at hE hJ hC;have hN:=za hD;clear hD hH
  go_upto_region 12 with(refine wpList_store_mid rfl 23 _ _ rfl p 1 #[zy z6 0,zy z6 0,zy z6 0,zy z6 0,zy z6 0,zy z6 0,zy z6 0,zy z6 0,zy z6 0,zy z6 0,zy z6 0,zy z6 0,zy z6 0,zy z6 0,zy z6 0,zy z6 0,zy z6 0,zy z6 0,zy z6 0,zy z6 0,zy z6 0,zy z6 0,zy z6 0,zy z6 0,zy z6 0,zy z6 0,zy z6 0,zy z6 0,zy z6 0,zy z6 0,zy z6 0,zy z6 0] rfl rfl AE.out jr h6.out ?_)
  change Code.wp _ _ _ _ (W.setCells p 1 (zb jd));rw[hN.out]
  go_wp2_with(first | (refine zi rfl 28 _ rfl p 0 rfl C1 d hE.out Hu.out Hd.out Hz.out ?_) | (refine wpList_store_mid rfl 28 _ _ rfl q 0 C1.toArray rfl rfl hC.out hI.out HO.out ?_))
  have hM:=run_loadVar_mid (P:=ze) _ q 0 28 C1 d (zg W1 q 0 C1 (by simpa using hC.out)) Hu.out Hd.out Hz.out;refine bodyPost_ret (v := .agg R) ?_ rfl ⟨rfl,(hJ.out).trans (z8 _ _ _ _) (fun k _ hm => .inr (by omega))⟩;rw[qs rfl];simp[asAddr,Result.andThen,hM,Hbl.out,Act.put]
 by_cases h2:k=2
 ·subst h2;have hB:En.ok ⟨2,dg,[],pl,op,hA,ky,sg⟩:=Hok.out;have hG:En.ok ⟨2,dg,[],[],op,hA,ky,sg⟩:=Hok.out;have hK:=En.setTyp Hok.out HR.out [];have hZ:=En.setPay hB hK (.slice none 0 0) [];have hP:Fr NoB w ((W.setCell ⟨p,33,none⟩ (.string ⟨#[]⟩)).setCell ⟨p,34,none⟩ (.slice none 0 0)):=(HF.out.setNew _ _ hS).setNew _ _ hS;clear c4 hK;have hk:((2:Int)==1)=false:=rfl;have hC33:W.frozen? ⟨p,33,none⟩=false:=(hg.out 33 (by omega)).2;have hr:W.frozen? ⟨p,34,none⟩=false:=(hg.out 34 (by omega)).2;obtain⟨-,-,c33,AD,-,-,-,-⟩:=En.parts Hok.out HR.out;have Hbl:=za (show(En.cells ⟨2,dg,[],[],op,hA,ky,sg⟩ (.slice none 0 0) sv).toArray=R from hL.out);have Hz:=za (show(Tryz.prog.info? 28).map (·.size)=some (En.cells ⟨2,dg,[],[],op,hA,ky,sg⟩ (.slice none 0 0) sv).length by rw[jc,En.size hG]);have hI:=za (show(Tryz.prog.info? 28).map (·.size)=some (En.cells ⟨2,dg,[],[],op,hA,ky,sg⟩ (.slice none 0 0) sv).toArray.size by rw[jc];simp[En.size hG]);have HO:=za (En.one (e:=⟨2,dg,[],[],op,hA,ky,sg⟩) (pv:=(.slice none 0 0)) (by first | exact hp | rfl) hs);have hE:=za hZ;have hJ:=za hP;have hO:=hQ.out
  have hC:=za (show((W.setCell ⟨p,33,none⟩ (.string ⟨#[]⟩)).setCell ⟨p,34,none⟩ (.slice none 0 0)).there q 0 (En.cells ⟨2,dg,[],[],op,hA,ky,sg⟩ (.slice none 0 0) sv).toArray.size by
   rw[show(En.cells ⟨2,dg,[],[],op,hA,ky,sg⟩ (.slice none 0 0) sv).toArray.size=70 by simp[En.size hG]]
   repeat (first | with_reducible exact hO | with_reducible refine World.there_setCells ?_ _ _ _ | with_reducible refine zar ?_ _ _ _))
  obtain⟨W1,hD⟩:∃ W1,(W.setCell ⟨p,33,none⟩ (.string ⟨#[]⟩)).setCell ⟨p,34,none⟩ (.slice none 0 0)=W1:=⟨_,rfl⟩;obtain⟨C1,hH⟩:∃ C,En.cells ⟨2,dg,[],[],op,hA,ky,sg⟩ (.slice none 0 0) sv=C:=⟨_,rfl⟩;rw[hH]at Hbl Hz hI HO hC hE;rw[hD]at hE hJ hC;have hN:=za hD;clear hD hH
  go_upto_region 12 with(fail)
  change Code.wp _ _ _ _ ((W.setCell ⟨p,33,none⟩ (.string ⟨#[]⟩)).setCell ⟨p,34,none⟩ (.slice none 0 0));rw[hN.out]
  go_wp2_with(first | (refine zi rfl 28 _ rfl p 0 rfl C1 d hE.out Hu.out Hd.out Hz.out ?_) | (refine wpList_store_mid rfl 28 _ _ rfl q 0 C1.toArray rfl rfl hC.out hI.out HO.out ?_))
  have hM:=run_loadVar_mid (P:=ze) _ q 0 28 C1 d (zg W1 q 0 C1 (by simpa using hC.out)) Hu.out Hd.out Hz.out;refine bodyPost_ret (v := .agg R) ?_ rfl ⟨rfl,(hJ.out).trans (z8 _ _ _ _) (fun k _ hm => .inr (by omega))⟩;rw[qs rfl];simp[asAddr,Result.andThen,hM,Hbl.out,Act.put]
 by_cases h3:k=3
 ·subst h3;have hB:En.ok ⟨3,dg,ty,[],op,hA,ky,sg⟩:=Hok.out;have hK:=En.setPay Hok.out HR.out (.slice none 0 0) [];have hP:Fr NoB w (W.setCell ⟨p,34,none⟩ (.slice none 0 0)):=HF.out.setNew _ _ hS;clear c4;have hk:((3:Int)==1)=false:=rfl;have hx:((3:Int)==2)=false:=rfl;have hr:W.frozen? ⟨p,34,none⟩=false:=(hg.out 34 (by omega)).2;obtain⟨-,-,-,AD,-,-,-,-⟩:=En.parts Hok.out HR.out;have Hbl:=za (show(En.cells ⟨3,dg,ty,[],op,hA,ky,sg⟩ (.slice none 0 0) sv).toArray=R from hL.out);have Hz:=za (show(Tryz.prog.info? 28).map (·.size)=some (En.cells ⟨3,dg,ty,[],op,hA,ky,sg⟩ (.slice none 0 0) sv).length by rw[jc,En.size hB]);have hI:=za (show(Tryz.prog.info? 28).map (·.size)=some (En.cells ⟨3,dg,ty,[],op,hA,ky,sg⟩ (.slice none 0 0) sv).toArray.size by rw[jc];simp[En.size hB]);have HO:=za (En.one (e:=⟨3,dg,ty,[],op,hA,ky,sg⟩) (pv:=(.slice none 0 0)) (by first | exact hp | rfl) hs);have hE:=za hK;have hJ:=za hP;have hO:=hQ.out
  have hC:=za (show(W.setCell ⟨p,34,none⟩ (.slice none 0 0)).there q 0 (En.cells ⟨3,dg,ty,[],op,hA,ky,sg⟩ (.slice none 0 0) sv).toArray.size by
   rw[show(En.cells ⟨3,dg,ty,[],op,hA,ky,sg⟩ (.slice none 0 0) sv).toArray.size=70 by simp[En.size hB]]
   repeat (first | with_reducible exact hO | with_reducible refine World.there_setCells ?_ _ _ _ | with_reducible refine zar ?_ _ _ _))
  obtain⟨W1,hD⟩:∃ W1,W.setCell ⟨p,34,none⟩ (.slice none 0 0)=W1:=⟨_,rfl⟩;obtain⟨C1,hH⟩:∃ C,En.cells ⟨3,dg,ty,[],op,hA,ky,sg⟩ (.slice none 0 0) sv=C:=⟨_,rfl⟩;rw[hH]at Hbl Hz hI HO hC hE;rw[hD]at hE hJ hC;have hN:=za hD;clear hD hH
  go_upto_region 12 with(fail)
  change Code.wp _ _ _ _ (W.setCell ⟨p,34,none⟩ (.slice none 0 0));rw[hN.out]
  go_wp2_with(first | (refine zi rfl 28 _ rfl p 0 rfl C1 d hE.out Hu.out Hd.out Hz.out ?_) | (refine wpList_store_mid rfl 28 _ _ rfl q 0 C1.toArray rfl rfl hC.out hI.out HO.out ?_))
  have hM:=run_loadVar_mid (P:=ze) _ q 0 28 C1 d (zg W1 q 0 C1 (by simpa using hC.out)) Hu.out Hd.out Hz.out;refine bodyPost_ret (v := .agg R) ?_ rfl ⟨rfl,(hJ.out).trans (z8 _ _ _ _) (fun k _ hm => .inr (by omega))⟩;rw[qs rfl];simp[asAddr,Result.andThen,hM,Hbl.out,Act.put]
 by_cases h4:k=4
 ·subst h4;have hk:((4:Int)==1)=false:=rfl;have hx:((4:Int)==2)=false:=rfl;have h8:((4:Int)==3)=false:=rfl;have hf:W.frozen? ⟨p,35,none⟩=false:=(hg.out 35 (by omega)).2;have he:W.frozen? ⟨p,36,none⟩=false:=(hg.out 36 (by omega)).2;obtain⟨-,-,-,-,-,AC,-,-⟩:=En.parts Hok.out HR.out;by_cases h5:op=3
  ·subst h5;have h7:((3:Int) != 3)=false:=rfl;have hB:En.ok ⟨4,dg,ty,pl,0,hA,ky,sg⟩:=Hok.out;have hG:En.ok ⟨4,dg,ty,pl,0,[],ky,sg⟩:=Hok.out;have hK:=En.setOp Hok.out HR.out 0;have hZ:=En.setIdent hB hK [];have hP:Fr NoB w ((W.setCell ⟨p,35,none⟩ (.int .i64 0)).setCell ⟨p,36,none⟩ (.string ⟨#[]⟩)):=(HF.out.setNew _ _ hS).setNew _ _ hS;clear hK;have Hbl:=za (show(En.cells ⟨4,dg,ty,pl,0,[],ky,sg⟩ pv sv).toArray=R from hL.out);have Hz:=za (show(Tryz.prog.info? 28).map (·.size)=some (En.cells ⟨4,dg,ty,pl,0,[],ky,sg⟩ pv sv).length by rw[jc,En.size hG]);have hI:=za (show(Tryz.prog.info? 28).map (·.size)=some (En.cells ⟨4,dg,ty,pl,0,[],ky,sg⟩ pv sv).toArray.size by rw[jc];simp[En.size hG]);have HO:=za (En.one (e:=⟨4,dg,ty,pl,0,[],ky,sg⟩) (pv:=pv) (by first | exact hp | rfl) hs);have hE:=za hZ;have hJ:=za hP;have hO:=hQ.out
   have hC:=za (show((W.setCell ⟨p,35,none⟩ (.int .i64 0)).setCell ⟨p,36,none⟩ (.string ⟨#[]⟩)).there q 0 (En.cells ⟨4,dg,ty,pl,0,[],ky,sg⟩ pv sv).toArray.size by
    rw[show(En.cells ⟨4,dg,ty,pl,0,[],ky,sg⟩ pv sv).toArray.size=70 by simp[En.size hG]]
    repeat (first | with_reducible exact hO | with_reducible refine World.there_setCells ?_ _ _ _ | with_reducible refine zar ?_ _ _ _))
   obtain⟨W1,hD⟩:∃ W1,(W.setCell ⟨p,35,none⟩ (.int .i64 0)).setCell ⟨p,36,none⟩ (.string ⟨#[]⟩)=W1:=⟨_,rfl⟩;obtain⟨C1,hH⟩:∃ C,En.cells ⟨4,dg,ty,pl,0,[],ky,sg⟩ pv sv=C:=⟨_,rfl⟩;rw[hH]at Hbl Hz hI HO hC hE;rw[hD]at hE hJ hC;have hN:=za hD;clear hD hH
   go_upto_region 12 with(fail)
   change Code.wp _ _ _ _ ((W.setCell ⟨p,35,none⟩ (.int .i64 0)).setCell ⟨p,36,none⟩ (.string ⟨#[]⟩));rw[hN.out]
   go_wp2_with(first | (refine zi rfl 28 _ rfl p 0 rfl C1 d hE.out Hu.out Hd.out Hz.out ?_) | (refine wpList_store_mid rfl 28 _ _ rfl q 0 C1.toArray rfl rfl hC.out hI.out HO.out ?_))
   have hM:=run_loadVar_mid (P:=ze) _ q 0 28 C1 d (zg W1 q 0 C1 (by simpa using hC.out)) Hu.out Hd.out Hz.out;refine bodyPost_ret (v := .agg R) ?_ rfl ⟨rfl,(hJ.out).trans (z8 _ _ _ _) (fun k _ hm => .inr (by omega))⟩;rw[qs rfl];simp[asAddr,Result.andThen,hM,Hbl.out,Act.put]
  have h7:(op != 3)=true:=by simpa using h5
  have ha:=za (show(En.cells ⟨4,dg,ty,pl,0,[],jd,sg⟩ pv sv).toArray=R by
   have:=hL.out
   simpa[zbz,zx7,h5] using this)
  clear hL;have hL:=ha;have hB:En.ok ⟨4,dg,ty,pl,op,hA,jd,sg⟩:=⟨Hok.out.1,rfl,Hok.out.2.2⟩;have hG:En.ok ⟨4,dg,ty,pl,0,hA,jd,sg⟩:=hB;have hT:En.ok ⟨4,dg,ty,pl,0,[],jd,sg⟩:=hB;have hK:=En.setKey Hok.out HR.out jd rfl;have hZ:=En.setOp hB hK 0;have hz:=En.setIdent hG hZ [];have hc:=HF.out.trans (z8 p (zb jd) 37 W) (fun k _ hm => .inr (by omega));obtain⟨-,-,-,-,AB,AA,-,-⟩:=En.parts hB hK;have ho:(W.setCells p 37 (zb jd)).frozen? ⟨p,35,none⟩=false:=by rw[World.frozen?_setCells];exact hf
  have hn:(W.setCells p 37 (zb jd)).frozen? ⟨p,36,none⟩=false:=by rw[World.frozen?_setCells];exact he
  have hX:(W.setCells p 37 (zb jd)).there q 0 70:=World.there_setCells hQ.out _ _ _;clear hf he AC
  go_upto_region 11 with(refine wpList_store_mid rfl 25 _ _ rfl p 37 #[zy z6 0,zy z6 0,zy z6 0,zy z6 0,zy z6 0,zy z6 0,zy z6 0,zy z6 0,zy z6 0,zy z6 0,zy z6 0,zy z6 0,zy z6 0,zy z6 0,zy z6 0,zy z6 0,zy z6 0,zy z6 0,zy z6 0,zy z6 0,zy z6 0,zy z6 0,zy z6 0,zy z6 0,zy z6 0,zy z6 0,zy z6 0,zy z6 0,zy z6 0,zy z6 0,zy z6 0,zy z6 0] rfl rfl hv.out za3 h6.out ?_)
  change Code.wp _ _ _ _ (W.setCells p 37 (zb jd));obtain⟨V,hV⟩:∃ V,W.setCells p 37 (zb jd)=V:=⟨_,rfl⟩;rw[hV]at hZ hz hc AB AA ho hn hX ⊢;have ht:=za hX;clear hV hK hZ hQ hX c0 c4;have hQ:=ht;have hP:Fr NoB w ((V.setCell ⟨p,35,none⟩ (.int .i64 0)).setCell ⟨p,36,none⟩ (.string ⟨#[]⟩)):=(hc.setNew _ _ hS).setNew _ _ hS;clear hc;have Hbl:=za (show(En.cells ⟨4,dg,ty,pl,0,[],jd,sg⟩ pv sv).toArray=R from hL.out);have Hz:=za (show(Tryz.prog.info? 28).map (·.size)=some (En.cells ⟨4,dg,ty,pl,0,[],jd,sg⟩ pv sv).length by rw[jc,En.size hT]);have hI:=za (show(Tryz.prog.info? 28).map (·.size)=some (En.cells ⟨4,dg,ty,pl,0,[],jd,sg⟩ pv sv).toArray.size by rw[jc];simp[En.size hT]);have HO:=za (En.one (e:=⟨4,dg,ty,pl,0,[],jd,sg⟩) (pv:=pv) (by first | exact hp | rfl) hs);have hE:=za hz;have hJ:=za hP;have hO:=hQ.out
  have hC:=za (show((V.setCell ⟨p,35,none⟩ (.int .i64 0)).setCell ⟨p,36,none⟩ (.string ⟨#[]⟩)).there q 0 (En.cells ⟨4,dg,ty,pl,0,[],jd,sg⟩ pv sv).toArray.size by
   rw[show(En.cells ⟨4,dg,ty,pl,0,[],jd,sg⟩ pv sv).toArray.size=70 by simp[En.size hT]]
   repeat (first | with_reducible exact hO | with_reducible refine World.there_setCells ?_ _ _ _ | with_reducible refine zar ?_ _ _ _))
  obtain⟨W1,hD⟩:∃ W1,(V.setCell ⟨p,35,none⟩ (.int .i64 0)).setCell ⟨p,36,none⟩ (.string ⟨#[]⟩)=W1:=⟨_,rfl⟩;obtain⟨C1,hH⟩:∃ C,En.cells ⟨4,dg,ty,pl,0,[],jd,sg⟩ pv sv=C:=⟨_,rfl⟩;rw[hH]at Hbl Hz hI HO hC hE;rw[hD]at hE hJ hC;have hN:=za hD;clear hD hH
  go_upto_region 12 with(fail)
  change Code.wp _ _ _ _ ((V.setCell ⟨p,35,none⟩ (.int .i64 0)).setCell ⟨p,36,none⟩ (.string ⟨#[]⟩));rw[hN.out]
  go_wp2_with(first | (refine zi rfl 28 _ rfl p 0 rfl C1 d hE.out Hu.out Hd.out Hz.out ?_) | (refine wpList_store_mid rfl 28 _ _ rfl q 0 C1.toArray rfl rfl hC.out hI.out HO.out ?_))
  have hM:=run_loadVar_mid (P:=ze) _ q 0 28 C1 d (zg W1 q 0 C1 (by simpa using hC.out)) Hu.out Hd.out Hz.out;refine bodyPost_ret (v := .agg R) ?_ rfl ⟨rfl,(hJ.out).trans (z8 _ _ _ _) (fun k _ hm => .inr (by omega))⟩;rw[qs rfl];simp[asAddr,Result.andThen,hM,Hbl.out,Act.put]
 have hk:(k==1)=false:=by simpa using h1
 have hx:(k==2)=false:=by simpa using h2
 have h8:(k==3)=false:=by simpa using h3
 have hk4:(k==4)=false:=by simpa using h4
 have ha:=za (show(En.cells ⟨k,dg,ty,pl,op,hA,ky,sg⟩ pv sv).toArray=R by
  have:=hL.out
  simpa[zbz,zx7,h1,h2,h3,h4] using this)
 clear hL h1 h2 h3 h4 c4;have hL:=ha;have hU:=Hok.out;have h9:=HR.out;have hc:=HF.out;have Hbl:=za (show(En.cells ⟨k,dg,ty,pl,op,hA,ky,sg⟩ pv sv).toArray=R from hL.out);have Hz:=za (show(Tryz.prog.info? 28).map (·.size)=some (En.cells ⟨k,dg,ty,pl,op,hA,ky,sg⟩ pv sv).length by rw[jc,En.size hU]);have hI:=za (show(Tryz.prog.info? 28).map (·.size)=some (En.cells ⟨k,dg,ty,pl,op,hA,ky,sg⟩ pv sv).toArray.size by rw[jc];simp[En.size hU]);have HO:=za (En.one (e:=⟨k,dg,ty,pl,op,hA,ky,sg⟩) (pv:=pv) (by first | exact hp | rfl) hs);have hE:=za h9;have hJ:=za hc;have hO:=hQ.out
 have hC:=za (show(W).there q 0 (En.cells ⟨k,dg,ty,pl,op,hA,ky,sg⟩ pv sv).toArray.size by
  rw[show(En.cells ⟨k,dg,ty,pl,op,hA,ky,sg⟩ pv sv).toArray.size=70 by simp[En.size hU]]
  repeat (first | with_reducible exact hO | with_reducible refine World.there_setCells ?_ _ _ _ | with_reducible refine zar ?_ _ _ _))
 obtain⟨W1,hD⟩:∃ W1,W=W1:=⟨_,rfl⟩;obtain⟨C1,hH⟩:∃ C,En.cells ⟨k,dg,ty,pl,op,hA,ky,sg⟩ pv sv=C:=⟨_,rfl⟩;rw[hH]at Hbl Hz hI HO hC hE;rw[hD]at hE hJ hC;have hN:=za hD;clear hD hH
 go_upto_region 12 with(fail)
 change Code.wp _ _ _ _ (W);rw[hN.out]
 go_wp2_with(first | (refine zi rfl 28 _ rfl p 0 rfl C1 d hE.out Hu.out Hd.out Hz.out ?_) | (refine wpList_store_mid rfl 28 _ _ rfl q 0 C1.toArray rfl rfl hC.out hI.out HO.out ?_))
 have hM:=run_loadVar_mid (P:=ze) _ q 0 28 C1 d (zg W1 q 0 C1 (by simpa using hC.out)) Hu.out Hd.out Hz.out;refine bodyPost_ret (v := .agg R) ?_ rfl ⟨rfl,(hJ.out).trans (z8 _ _ _ _) (fun k _ hm => .inr (by omega))⟩;rw[qs rfl];simp[asAddr,Result.andThen,hM,Hbl.out,Act.put]
end
section
open Go.RowKit
variable [OldK]
def zv1 (b:Bool) (r:Ending):Prop:=∃ v er,r = .returned (.tuple #[v,er])∧er=if b then .nilIface else .iface 49 (.int .i64 11)
def SubC (sub:Bs→Bool) (e:En) (pv:Value) (w:World):Prop :=
 e.kind=3→∀ W,Fr NoB w W→Calls ze 22 #[pv] W fun r W'=>zv1 (sub e.payload) r∧Fr NoB W W'
theorem SubC.fr {sub:Bs→Bool}{e:En}{pv:Value}{w w1:World}(h:SubC sub e pv w)(hF:Fr NoB w w1):SubC sub e pv w1 :=
 fun hk W hW=>h hk W (hF.trans' hW)
theorem z18 (sub:Bs→Bool) (e:En) (a:Option Addr) (cap:Nat) (sv:Value) (w:World) (hok:e.ok) (hsub:SubC sub e (.slice a e.payload.length cap) w) (hty:e.typ.length≤1000000) (hid:e.ident.length≤1000000) (hpl:e.payload.length≤1000000000) :
 Calls ze 148 #[.agg (e.cells (.slice a e.payload.length cap) sv).toArray] w fun r w'=>r = .returned (.bool (zuf sub e))∧Fr NoB w w':=by
 have hR:(w.alloc (.cells (e.cells (.slice a e.payload.length cap) sv).toArray 28)).rangeAt w.heap.size 0 (e.cells (.slice a e.payload.length cap) sv):=by simpa using jm (zh w (.cells (e.cells (.slice a e.payload.length cap) sv).toArray 28))
 have hF:Fr NoB w (w.alloc (.cells (e.cells (.slice a e.payload.length cap) sv).toArray 28)):=Fr.refl.alloc _;obtain⟨c0,-,hM,hG,hL,hK,-,-⟩:=En.parts hok hR;obtain⟨R,hQ⟩:∃ R,zuf sub e=R:=⟨_,rfl⟩;rw[hQ];have hI:=za hQ;obtain⟨cs,hU⟩:∃ cs,(e.cells (.slice a e.payload.length cap) sv).toArray=cs:=⟨_,rfl⟩;rw[hU]at hF c0 hM hG hL hK ⊢;clear hU hQ hR;go_enter Tryz.func148,Tryz.ntmps148
 go_upto_region 1 with(fail)
 change Code.wp _ _ _ _ (w.alloc (.cells cs 28));obtain⟨W,hW⟩:∃ W,w.alloc (.cells cs 28)=W:=⟨_,rfl⟩;rw[hW]at hF c0 hM hG hL hK ⊢;obtain⟨p,hN⟩:∃ p,w.heap.size=p:=⟨_,rfl⟩;rw[hN]at c0 hM hG hL hK;rw[hN];clear hW hN;have HF:=za hF;have hB:=hsub.fr hF;have hH:=za hB;clear hF hsub hB hok;obtain⟨k,dg,ty,pl,op,hS,ky,sg⟩:=e;simp only at c0 hM hG hL hK hty hid hpl;by_cases h1:k=1
 ·subst h1;have HP:Hid (true=R):=za (by simpa[zuf] using hI.out)
  go_wp2_with fail
  go_ret;exact⟨jy HP.out,HF.out⟩
 by_cases h2:k=2
 ·subst h2;have hO:((2:Int)==1)=false:=rfl;obtain⟨b1,hE⟩:∃ b,zcd ty=b:=⟨_,rfl⟩;obtain⟨b2,hP⟩:∃ b,decide ((pl.length:Int)≤2048)=b:=⟨_,rfl⟩;have hD:decide (pl.length≤2048)=b2:=by rw[← hP];exact decide_eq_decide.2 (by omega)
  have HP:Hid ((b1&&b2)=R):=za (by rw[← hE,← hD];simpa[zuf] using hI.out);have hC:=ztc ty W (by omega);rw[hE]at hC;have Hty:=za hC;clear hD hC hE h1;cases b1<;>cases b2
  all_goals
   go_wp2_with fail
   refine Hty.out.mono ?_;rintro e w1 ⟨rfl,hA⟩;have c34':=(Fr.cell hA hG);have hJ:=za (HF.out.trans' hA);clear hA
   go_wp2_with fail
   go_ret;exact⟨jy HP.out,hJ.out⟩
 by_cases h3:k=3
 ·subst h3;have hO:((3:Int)==1)=false:=rfl;have hT:((3:Int)==2)=false:=rfl;obtain⟨b,hb⟩:∃ b,sub pl=b:=⟨_,rfl⟩;have HP:Hid (b=R):=za (by rw[← hb];simpa[zuf] using hI.out);have hs:=hH.out rfl W Fr.refl;simp only at hs;rw[hb]at hs;have Hs:=za hs;clear hs hb h1 h2;cases b
  all_goals
   go_wp2_with fail
   refine Hs.out.mono ?_;rintro r w1 ⟨⟨v,er,rfl,rfl⟩,hA⟩;have hJ:=za (HF.out.trans' hA);clear hA
   go_wp2_with fail
   go_ret;exact⟨jy HP.out,hJ.out⟩
 by_cases h4:k=4
 ·subst h4;have hO:((4:Int)==1)=false:=rfl;have hT:((4:Int)==2)=false:=rfl;have hV:((4:Int)==3)=false:=rfl;obtain⟨b1,hE⟩:∃ b,decide (1≤op)=b:=⟨_,rfl⟩;obtain⟨b2,hP⟩:∃ b,decide (op≤3)=b:=⟨_,rfl⟩;obtain⟨b3,hD⟩:∃ b,za0 hS=b:=⟨_,rfl⟩;have HP:Hid ((b1&&(b2&&b3))=R):=za (by rw[← hE,← hP,← hD];simpa[zuf] using hI.out);have hn:=zo0 hS W (by omega);rw[hD]at hn;have Hn:=za hn;clear hn hD h1 h2 h3;cases b1
  ·go_wp2_with fail
   go_ret;exact⟨jy HP.out,HF.out⟩
  cases b2
  ·go_wp2_with fail
   go_ret;exact⟨jy HP.out,HF.out⟩
  go_wp2_with fail
  refine Hn.out.mono ?_;rintro e w1 ⟨rfl,hA⟩;have hJ:=za (HF.out.trans' hA);clear hA
  go_wp2_with fail
  go_ret;exact⟨jy HP.out,hJ.out⟩
 have hO:(k==1)=false:=by simpa using h1
 have hT:(k==2)=false:=by simpa using h2
 have hV:(k==3)=false:=by simpa using h3
 have hk4:(k==4)=false:=by simpa using h4
 have HP:Hid (false=R):=za (by simpa[zuf,h1,h2,h3,h4] using hI.out);clear h1 h2 h3 h4
 go_wp2_with fail
 go_ret;exact⟨jy HP.out,HF.out⟩
end
section
open Go.RowKit
variable [OldK]
theorem SB.drewN {S:Nat→Prop}{l:Bs}{v:Value}{w:World}(h:SB S l v w)(q:Nat):SB S l v (w.drewN q):=h.fr (zct w q) (fun _ _ _ _ h=>h)
theorem z0b (S S':Nat→Prop) (l m:Bs) (v u:Value) (w:World) (hv:SB S l v w) (hu:SB S' m u w) (hl:l.length≤9007199254740992) :
 Calls ze 62 #[v,u] w fun e w'=>e = .returned (.bool (l==m))∧∃ q,w'=w.drewN q:=by
 obtain⟨a1,c1,hA⟩:=hv.form;obtain⟨a2,c2,hB⟩:=hu.form;by_cases hF:l.length=m.length
 ·generalize hR:(l==m)=R;have HR:=za hR;subst hA hB;have Hv:=za hv;have Hu:=za hu;have Hlm:=za hF;rw[← hF];clear hR hv hu hF;go_enter Tryz.func62,Tryz.ntmps62
  go_wp2_with fail
  go_loopg [13] (l.length+1) (fun g vi wr=>∃ (i q:Nat),vi = .int .i64 i∧i≤l.length∧i+g=l.length+1∧Hid (wr=w.drewN q)∧Hid ((l.drop i==m.drop i)=R))
  case atStart=>exact⟨0,0,rfl,by omega,by omega,(World.drewN_zero _).symm,HR⟩
  case round =>
   obtain⟨i,q,rfl,hi,hgk,Hw,HS⟩:=hrel;rcases Nat.lt_or_ge i l.length with hlt | hge
   ·obtain ⟨x,hx⟩:∃ x,l[i]? = some x:=⟨_,List.getElem?_eq_getElem hlt⟩;obtain⟨y,hy⟩:∃ y,m[i]? = some y:=⟨_,List.getElem?_eq_getElem (by have:=Hlm.out;omega)⟩;have hD:=Hv.out.drewN q;have hE:=Hu.out.drewN q;rw[← Hw.out]at hD hE;obtain⟨b1,o1,hI,hA,k1⟩:=hD.at hx;obtain⟨b2,o2,hH,hB,k2⟩:=hE.at hy;obtain⟨rfl,rfl⟩:a1=some ⟨b1,o1,none⟩∧c1=hI:=by simpa using hA
    obtain⟨rfl,rfl⟩:a2=some ⟨b2,o2,none⟩∧c2=hH:=by simpa using hB
    have hS:=HS.out;rw[zdj hx,zdj hy,List.cons_beq_cons]at hS
    have hJ:((x.toNat:Int) != (y.toNat:Int)) = !(x==y):=by
     rw[Bool.eq_iff_iff];simp only[bne_iff_ne,ne_eq,Bool.not_eq_true',beq_eq_false_iff_ne];constructor
     ·intro h e;exact h (by rw[e])
     intro h e;exact h (UInt8.toNat_inj.1 (by omega))
    cases hG:(x==y) with
    | true =>
      rw[hG]at hS hJ;simp only[Bool.true_and]at hS;have hC:=za hS;clear hS HS hG hD hE hx hy hA hB
      go_wp2_with fail
      go_quiet (fail)
      go_wp2_with fail
      go_roundg (gk - 1)
      case measure=>omega
      case rel=>exact⟨i+1,q+nq,by simp,by omega,by omega,za (by rw[Hw.out,World.drewN_drewN]),hC⟩
    | false =>
      rw[hG]at hS hJ;simp only[Bool.false_and]at hS;have hC:=za hS;clear hS HS hG hD hE hx hy hA hB
      go_wp2_with fail
      go_quiet (fail)
      go_wp2_with fail
      go_ret;rw[← hC.out,Hw.out,World.drewN_drewN];exact⟨rfl,_,rfl⟩
   obtain rfl:i=l.length:=by omega
   have hS:=HS.out;rw[List.drop_length,Hlm.out,List.drop_length]at hS;have hC:=za hS;clear hS HS
   go_wp2_with fail
   go_ret;rw[← hC.out,Hw.out];exact⟨rfl,q,rfl⟩
 have hK:(l==m)=false:=by
  rw[beq_eq_false_iff_ne];rintro rfl;exact hF rfl
 have hln:((l.length:Int) != (m.length:Int))=true:=by
  rw[bne_iff_ne];omega
 rw[hK];subst hA hB;clear hv hu hK;go_enter Tryz.func62,Tryz.ntmps62
 go_wp2_with fail
 go_ret;exact⟨rfl,0,(World.drewN_zero _).symm⟩
end
section
open Go.RowKit
variable [OldK]
theorem zyu (S S' T T':Nat→Prop) (a b:En) (pa pb sa sb:Value) (w:World) (oka:a.ok) (okb:b.ok) (ha:SB S a.payload pa w) (hb:SB S' b.payload pb w) (ga:GS T a.sigs sa w) (gb:GS T' b.sigs sb w)
 (hl:a.payload.length≤9007199254740992) (hl2:a.sigs.length≤1000000) :
 Calls ze 19 #[.agg (a.cells pa sa).toArray,.agg (b.cells pb sb).toArray] w fun r w'=>r = .returned (.bool (zsr a b))∧Fr NoB w w':=by
 obtain⟨a1,c1,ea⟩:=ha.form;obtain⟨a2,c2,eb⟩:=hb.form;obtain⟨a3,c3,ec,-⟩:=id ga;obtain⟨a4,c4,ed,-⟩:=id gb;have hm:((w.alloc (.cells (a.cells pa sa).toArray 28)).alloc (.cells (b.cells pb sb).toArray 28)).rangeAt w.heap.size 0 (a.cells pa sa):=World.rangeAt_alloc (by simpa using jm (zh w (.cells (a.cells pa sa).toArray 28))) _
 have hk:((w.alloc (.cells (a.cells pa sa).toArray 28)).alloc (.cells (b.cells pb sb).toArray 28)).rangeAt (w.heap.size+1) 0 (b.cells pb sb):=by
  have:=jm (zh (w.alloc (.cells (a.cells pa sa).toArray 28)) (.cells (b.cells pb sb).toArray 28));rw[World.size_alloc]at this;simpa using this
 have hF:Fr NoB w ((w.alloc (.cells (a.cells pa sa).toArray 28)).alloc (.cells (b.cells pb sb).toArray 28)):=(Fr.refl.alloc _).alloc _;obtain⟨p0,p1,hQ,hP,hI,hN,hM,hL⟩:=En.parts oka hm;obtain⟨q0,q1,hK,hJ,hD,hH,hG,hE⟩:=En.parts okb hk;obtain⟨R,hd⟩:∃ R,zsr a b=R:=⟨_,rfl⟩;rw[hd];have ho:=za hd;have hB:=fun W (h:Fr NoB w W)=>z0b S S' a.payload b.payload pa pb W (ha.fr h (fun _ _ _ _ h=>h)) (hb.fr h (fun _ _ _ _ h=>h)) hl
 have hA:=fun W (h:Fr NoB w W)=>zwo (ga.fr h (fun _ _ _ h=>h)) (gb.fr h (fun _ _ _ h=>h)) hl2 oka.2.2 okb.2.2
 obtain⟨cs,hj⟩:∃ cs,(a.cells pa sa).toArray=cs:=⟨_,rfl⟩;obtain⟨ct,hi⟩:∃ ct,(b.cells pb sb).toArray=ct:=⟨_,rfl⟩;rw[hj,hi]at hF p0 p1 hQ hP hI hN hM hL q0 q1 hK hJ hD hH hG hE ⊢;clear hj hi hd hm hk ha hb ga gb;go_enter Tryz.func19,Tryz.ntmps19
 go_upto_region 1 with(fail)
 change Code.wp _ _ _ _ ((w.alloc (.cells cs 28)).alloc (.cells ct 28));obtain⟨W,hW⟩:∃ W,(w.alloc (.cells cs 28)).alloc (.cells ct 28)=W:=⟨_,rfl⟩;rw[hW]at hF p0 p1 hQ hP hI hN hM hL q0 q1 hK hJ hD hH hG hE ⊢;obtain⟨p,hV⟩:∃ p,w.heap.size=p:=⟨_,rfl⟩;obtain⟨q,hq⟩:∃ q,p+1=q:=⟨_,rfl⟩;rw[hV]at p0 p1 hQ hP hI hN hM hL q0 q1 hK hJ hD hH hG hE;rw[hV,hq];rw[hq]at q0 q1 hK hJ hD hH hG hE;clear hW hV hq;have HF:=za hF;have Heqb:=za hB;have Heqs:=za hA;have Hoa:=za oka;have Hob:=za okb;clear hF hB hA oka okb hl hl2;obtain⟨k,dg,ty,pl,op,hu,ky,sg⟩:=a;obtain⟨k2,hO,hr,ht,he,hU,hR,hs⟩:=b;simp only at p0 p1 hQ hP hI hN hM hL q0 q1 hK hJ hD hH hG hE ea eb ec ed;subst ea eb ec ed;obtain⟨b1,hy⟩:∃ x,(k==k2)=x:=⟨_,rfl⟩;obtain⟨b2,hc⟩:∃ x,(dg==hO)=x:=⟨_,rfl⟩;obtain⟨b3,hx⟩:∃ x,(ty==hr)=x:=⟨_,rfl⟩;obtain⟨b4,hZ⟩:∃ x,(pl==ht)=x:=⟨_,rfl⟩;obtain⟨b5,hw⟩:∃ x,(op==he)=x:=⟨_,rfl⟩;obtain⟨b6,hv⟩:∃ x,(hu==hU)=x:=⟨_,rfl⟩;obtain⟨b7,hY⟩:∃ x,(ky==hR)=x:=⟨_,rfl⟩;obtain⟨b8,hX⟩:∃ x,zf2 sg hs=x:=⟨_,rfl⟩;have hh:decide (k=k2)=b1:=hy;have hg:decide (op=he)=b5:=hw
 have HP:Hid ((b1&&(b2&&(b3&&(b4&&(b5&&(b6&&(b7&&b8)))))))=R):=za (by
  have:=ho.out;unfold zsr at this;simp only at this
  rwa [hh,hc,hx,hZ,hg,hv,hY,hX]at this)
 have e2:=zxw dg hO Hoa.out.1 Hob.out.1;have e7:=zqs ky hR Hoa.out.2.1 Hob.out.2.1;have hB:=Heqb.out;have hA:=Heqs.out;simp only at hB hA;rw[hc]at e2;rw[hY]at e7;rw[hZ]at hB;rw[hX]at hA;have E2:=za e2;have E7:=za e7;have hT:=za hB;have hS:=za hA;have R1:=za p1;have R2:=za q1;have R3:=za hM;have R4:=za hG;have Z1:=za (show(Tryz.prog.info? 23).map (·.size)=some (zb dg).length by rw[jr,je,Hoa.out.1]);have Z2:=za (show(Tryz.prog.info? 23).map (·.size)=some (zb hO).length by rw[jr,je,Hob.out.1]);have Z3:=za (show(Tryz.prog.info? 25).map (·.size)=some (zb ky).length by rw[za3,je,Hoa.out.2.1]);have Z4:=za (show(Tryz.prog.info? 25).map (·.size)=some (zb hR).length by rw[za3,je,Hob.out.2.1]);clear p1 q1 hM hG ho hh hg hc hZ hY hX e2 e7 hB hA Heqb Heqs Hoa Hob;cases b1
 ·go_wp2_with fail
  go_ret;exact⟨jy HP.out,HF.out⟩
 have e2:=E2.out;cases b2
 ·go_wp2_with(first | ((with_reducible refine qh 23 _ rfl p 1 ?_ (zb dg) _ R1.out jh ?_ Z1.out ?_ ?_);rfl;rfl;rfl) | ((with_reducible refine qh 23 _ rfl q 1 ?_ (zb hO) _ R2.out jh ?_ Z2.out ?_ ?_);rfl;rfl;rfl))
  go_ret;exact⟨jy HP.out,HF.out⟩
 cases b3
 ·go_wp2_with(first | ((with_reducible refine qh 23 _ rfl p 1 ?_ (zb dg) _ R1.out jh ?_ Z1.out ?_ ?_);rfl;rfl;rfl) | ((with_reducible refine qh 23 _ rfl q 1 ?_ (zb hO) _ R2.out jh ?_ Z2.out ?_ ?_);rfl;rfl;rfl))
  go_ret;exact⟨jy HP.out,HF.out⟩
 go_wp2_with(first | ((with_reducible refine qh 23 _ rfl p 1 ?_ (zb dg) _ R1.out jh ?_ Z1.out ?_ ?_);rfl;rfl;rfl) | ((with_reducible refine qh 23 _ rfl q 1 ?_ (zb hO) _ R2.out jh ?_ Z2.out ?_ ?_);rfl;rfl;rfl))
 refine(hT.out _ HF.out).mono ?_;rintro e w1 ⟨rfl,n1,hf⟩;have hC:Fr NoB W w1:=by rw[hf];exact zct W n1
 have x35:=Fr.cell hC hI;have x36:=Fr.cell hC hN;have x69:=Fr.cell hC hL;have y35:=Fr.cell hC hD;have y36:=Fr.cell hC hH;have y69:=Fr.cell hC hE;have X3:=za (ji R3.out hC (World.block_lt_of_cell? _ _ hI) (fun _ h=>h));have X4:=za (ji R4.out hC (World.block_lt_of_cell? _ _ hD) (fun _ h=>h));have hp:=za (HF.out.trans' hC);clear R1 R2 R3 R4 hf hC p0 hQ hP hI hN hL q0 hK hJ hD hH hE e2 E2 Z1 Z2 HF;have R3:=X3;have R4:=X4;have HF:=hp;clear X3 X4 hp;cases b4
 ·go_wp2_with fail
  go_ret;exact⟨jy HP.out,HF.out⟩
 cases b5
 ·go_wp2_with fail
  go_ret;exact⟨jy HP.out,HF.out⟩
 cases b6
 ·go_wp2_with fail
  go_ret;exact⟨jy HP.out,HF.out⟩
 have e7:=E7.out;cases b7
 ·go_wp2_with(first | ((with_reducible refine qh 25 _ rfl p 37 ?_ (zb ky) _ R3.out zag ?_ Z3.out ?_ ?_);rfl;rfl;rfl) | ((with_reducible refine qh 25 _ rfl q 37 ?_ (zb hR) _ R4.out zag ?_ Z4.out ?_ ?_);rfl;rfl;rfl))
  go_ret;exact⟨jy HP.out,HF.out⟩
 go_wp2_with(first | ((with_reducible refine qh 25 _ rfl p 37 ?_ (zb ky) _ R3.out zag ?_ Z3.out ?_ ?_);rfl;rfl;rfl) | ((with_reducible refine qh 25 _ rfl q 37 ?_ (zb hR) _ R4.out zag ?_ Z4.out ?_ ?_);rfl;rfl;rfl))
 refine(hS.out _ HF.out).mono ?_;rintro e w2 ⟨rfl,hn⟩;have hz:=za (HF.out.trans' hn);clear hn
 go_wp2_with fail
 go_ret;exact⟨jy HP.out,hz.out⟩
end
section
open Go.RowKit
variable [OldK]
theorem zna (k:Int)(l:List Sg)(a:Option Addr)(n c:Nat):((zat k l).cells (.slice none 0 0) (.slice a n c)).toArray =
 #[.int .i64 k,zy z6 0,zy z6 0,zy z6 0,zy z6 0,zy z6 0,zy z6 0,zy z6 0,zy z6 0,zy z6 0,zy z6 0,zy z6 0,zy z6 0,zy z6 0,zy z6 0,zy z6 0,zy z6 0,zy z6 0,zy z6 0,zy z6 0,zy z6 0,zy z6 0,zy z6 0,zy z6 0,zy z6 0,zy z6 0,zy z6 0,zy z6 0,zy z6 0,zy z6 0,zy z6 0,zy z6 0,zy z6 0,.string ⟨#[]⟩,.slice none 0 0,.int .i64 0,.string ⟨#[]⟩,zy z6 0,zy z6 0,zy z6 0,zy z6 0,zy z6 0,zy z6 0,zy z6 0,zy z6 0,zy z6 0,zy z6 0,zy z6 0,zy z6 0,zy z6 0,zy z6 0,zy z6 0,zy z6 0,zy z6 0,zy z6 0,zy z6 0,zy z6 0,zy z6 0,zy z6 0,zy z6 0,zy z6 0,zy z6 0,zy z6 0,zy z6 0,zy z6 0,zy z6 0,zy z6 0,zy z6 0,zy z6 0,.slice a n c]:=rfl
theorem zjd (e:En):(zbz e).sigs=e.sigs:=by
 unfold zbz
 repeat' split
 all_goals rfl
theorem zsc (e:En):(zbz e).payload.length≤e.payload.length:=by
 unfold zbz
 repeat' split
 all_goals simp
theorem zsb {S:Nat→Prop}{e:En}{pv:Value}{w:World}(h:SB S e.payload pv w):SB S (zbz e).payload (zx7 e pv) w:=by
 unfold zbz zx7;by_cases h1:e.kind=1
 ·rw[if_pos h1,if_neg (show ¬ (e.kind=2∨e.kind=3) by omega)];exact h
 by_cases h2:e.kind=2
 ·rw[if_neg h1,if_pos h2,if_pos (.inl h2)];exact SB.nil S w 0
 by_cases h3:e.kind=3
 ·rw[if_neg h1,if_neg h2,if_pos h3,if_pos (.inr h3)];exact SB.nil S w 0
 by_cases h4:e.kind=4
 ·rw[if_neg h1,if_neg h2,if_neg h3,if_pos h4,if_neg (show ¬ (e.kind=2∨e.kind=3) by omega)];exact h
 rw[if_neg h1,if_neg h2,if_neg h3,if_neg h4,if_neg (show ¬ (e.kind=2∨e.kind=3) by omega)];exact h
def z1n (b:Bool):Value:=if b then .nilIface else .iface 49 (.int .i64 11)
theorem znj (sub:Bs→Bool) (S S':Nat→Prop) (e:En) (pv sv:Value) (w:World) (hok:e.ok) (hb:SB S e.payload pv w) (hg:GS S' e.sigs sv w) (hsub:SubC sub e pv w)
 (hty:e.typ.length≤1000000) (hid:e.ident.length≤1000000) (hpl:e.payload.length≤1000000000) (hsl:e.sigs.length≤1000000) (hsi:∀ s∈e.sigs,s.id.length≤1000000) :
 Calls ze 85 #[.agg (e.cells pv sv).toArray] w fun r w'=>r = .returned (z1n (zce sub e))∧Fr NoB w w':=by
 obtain⟨a1,c1,ea⟩:=hb.form;obtain⟨a3,c3,rfl,-⟩:=id hg;have he:pv.oneCell'=true:=by rw[ea];rfl
 have hc:(Value.slice a3 e.sigs.length c3).oneCell'=true:=rfl;have hR:(w.alloc (.cells (e.cells pv (.slice a3 e.sigs.length c3)).toArray 28)).rangeAt w.heap.size 0 (e.cells pv (.slice a3 e.sigs.length c3)):=by simpa using jm (zh w (.cells (e.cells pv (.slice a3 e.sigs.length c3)).toArray 28))
 have hF:Fr NoB w (w.alloc (.cells (e.cells pv (.slice a3 e.sigs.length c3)).toArray 28)):=Fr.refl.alloc _;obtain⟨c0,-,-,-,-,-,-,hN⟩:=En.parts hok hR;have hG:=fun V (h:Fr NoB w V)=>z18 sub e a1 c1 (.slice a3 e.sigs.length c3) V hok (by rw[← ea];exact hsub.fr h) hty hid hpl
 rw[← ea]at hG;have hJ:=fun V (h:Fr NoB w V)=>zts (hg.fr h (fun _ _ _ h=>h)) hsl (fun s hs=>⟨hok.2.2 s hs,hsi s hs⟩)
 have hQ:=fun V=>z0g e pv (.slice a3 e.sigs.length c3) V hok he hc
 have hM:=fun V (h:Fr NoB w V)=>zyu S S S' S' (zbz e) (zat e.kind e.sigs) (zx7 e pv) (.slice none 0 0) (.slice a3 e.sigs.length c3) (.slice a3 e.sigs.length c3) V (zmx hok) (zdi hok.2.2) (zsb (hb.fr h (fun _ _ _ _ h=>h))) (SB.nil S V 0)
  (by rw[zjd];exact hg.fr h (fun _ _ _ h=>h)) (hg.fr h (fun _ _ _ h=>h)) (by have:=zsc e;omega) (by rw[zjd];exact hsl)
 have ha:=En.size hok pv (.slice a3 e.sigs.length c3);obtain⟨d,hu,hd⟩:=zab;have hz:(Tryz.prog.info? 28).map (·.size)=some (e.cells pv (.slice a3 e.sigs.length c3)).length:=by rw[jc,ha]
 obtain⟨R,hZ⟩:∃ R,zce sub e=R:=⟨_,rfl⟩;obtain⟨b1,hY⟩:∃ x,zuf sub e=x:=⟨_,rfl⟩;obtain⟨b2,hX⟩:∃ x,zfe e.sigs=x:=⟨_,rfl⟩;obtain⟨b3,hS⟩:∃ x,zsr (zbz e) (zat e.kind e.sigs)=x:=⟨_,rfl⟩;have HP:Hid ((b1&&(b2&&b3))=R):=za (by rw[← hZ,← hY,← hX,← hS];rfl);obtain⟨k,hk⟩:∃ k,e.kind=k:=⟨_,rfl⟩;rw[hk]at hM;simp only[zna]at hM;rw[hY]at hG;rw[hX]at hJ;rw[hk]at hS;rw[hk]at c0;rw[hZ];obtain⟨CB,hf⟩:∃ C,((zbz e).cells (zx7 e pv) (.slice a3 e.sigs.length c3)).toArray=C:=⟨_,rfl⟩;obtain⟨C,hC⟩:∃ C,e.cells pv (.slice a3 e.sigs.length c3)=C:=⟨_,rfl⟩;obtain⟨n,hn⟩:∃ n,e.sigs.length=n:=⟨_,rfl⟩;simp only[hS]at hM;rw[hf]at hQ hM;rw[hC]at hR hF c0 hN hG hQ hz ⊢;rw[hn]at hN hM hJ;have Hown:=za hG;have Hsig:=za hJ;have Hbl:=za hQ;have Heq:=za hM;have Hz:=za hz;have Hu:=za hu;have Hd:=za hd;clear hG hJ hQ hM hz hu hd ha hf hC hY hX hS hZ hk ea hok hb hg hsub hty hid hpl hsl hsi he hc;go_enter Tryz.func85,Tryz.ntmps85
 go_upto_region 1 with(fail)
 change Code.wp _ _ _ _ (w.alloc (.cells C.toArray 28));obtain⟨W,hW⟩:∃ W,w.alloc (.cells C.toArray 28)=W:=⟨_,rfl⟩;rw[hW]at hR hF c0 hN ⊢;obtain⟨p,hV⟩:∃ p,w.heap.size=p:=⟨_,rfl⟩;rw[hV]at hR c0 hN;rw[hV];have hP:p<W.heap.size:=World.block_lt_of_cell? _ _ c0;clear hW hV hn;have HR:=za hR;have HF:=za hF;have hH:Hid (Fr NoB W W.drew)∧W.drew.cell? ⟨p,0,none⟩=some (.int .i64 k)∧W.drew.cell? ⟨p,69,none⟩=some (.slice a3 n c3):=⟨za Fr.refl.drew,by simpa using c0,by simpa using hN⟩;have HH:=za hH;clear hH hR hF c0 hN;cases b1
 ·refine wp_region_held_drew (S:=fun V=>Hid (Fr NoB W V)∧V.cell? ⟨p,0,none⟩=some (.int .i64 k)∧V.cell? ⟨p,69,none⟩=some (.slice a3 n c3)) (by kernel_rfl) HH.out (fun hA=>?_);simp only[qV];refine qi (i:=0) rfl (zj (by rfl) 28 _ rfl p 0 rfl C d (fun V h=>ji HR.out h.1.out hP (fun _ h=>h)) Hu.out Hd.out Hz.out) hA ?_
  try simp only[Act.put,qP]
  refine qr (i:=1) (by kernel_rfl) rfl (fun K hK=>?_)
  try simp only[qQ]
  go_simp;refine(Hown.out _ (HF.out.trans' hA.1.out)).mono ?_;rintro r w1 ⟨rfl,hE⟩;refine hK.out _ _ ⟨za (hA.1.out.trans' hE),Fr.cell hE hA.2.1,Fr.cell hE hA.2.2⟩ (fun hA=>?_);clear hK K
  try simp only[Act.put,qP]
  have hO:=za hA.1.out;clear hE
  iterate 18
   first
   | refine qt (v:=undef) rfl (Or.inr ⟨by rfl,rfl⟩) hA ?_
     try simp only[Act.put,qP]
   | refine qt (v:=?_) rfl (zv ⟨by rfl,?_⟩) hA ?_
     rotate_left
     ·intro W hD;obtain⟨-,hI,hB⟩:=hD
      try simp only[qQ]
      go_simp
      try rw[if_neg (by omega)]
      try with_reducible rfl
     try simp only[Act.put,qP]
  refine wpAnyH_done (by kernel_rfl) ?_ _;clear hA
  go_wp2_with fail
  go_ret;exact⟨by rw[← HP.out];rfl,HF.out.trans' hO.out⟩
 cases b2
 ·refine wp_region_held_drew (S:=fun V=>Hid (Fr NoB W V)∧V.cell? ⟨p,0,none⟩=some (.int .i64 k)∧V.cell? ⟨p,69,none⟩=some (.slice a3 n c3)) (by kernel_rfl) HH.out (fun hA=>?_);simp only[qV];refine qi (i:=0) rfl (zj (by rfl) 28 _ rfl p 0 rfl C d (fun V h=>ji HR.out h.1.out hP (fun _ h=>h)) Hu.out Hd.out Hz.out) hA ?_
  try simp only[Act.put,qP]
  refine qr (i:=1) (by kernel_rfl) rfl (fun K hK=>?_)
  try simp only[qQ]
  go_simp;refine(Hown.out _ (HF.out.trans' hA.1.out)).mono ?_;rintro r w1 ⟨rfl,hE⟩;refine hK.out _ _ ⟨za (hA.1.out.trans' hE),Fr.cell hE hA.2.1,Fr.cell hE hA.2.2⟩ (fun hA=>?_);clear hK K
  try simp only[Act.put,qP]
  have hO:=za hA.1.out;clear hE
  iterate 4
   refine qt (v:=?_) rfl (zv ⟨by rfl,?_⟩) hA ?_;rotate_left
   ·intro W hD;obtain⟨-,hI,hB⟩:=hD
    try simp only[qQ]
    go_simp
    try rw[if_neg (by omega)]
    try with_reducible rfl
   try simp only[Act.put,qP]
  refine qr (i:=6) (by kernel_rfl) rfl (fun K hK=>?_)
  try simp only[qQ]
  go_simp;refine(Hsig.out _ (HF.out.trans' hO.out)).mono ?_;rintro r w2 ⟨rfl,hL⟩;refine hK.out _ _ ⟨za (hA.1.out.trans' hL),Fr.cell hL hA.2.1,Fr.cell hL hA.2.2⟩ (fun hA=>?_);clear hK K
  try simp only[Act.put,qP]
  have hh:=za hA.1.out;clear hL
  iterate 13
   first
   | refine qt (v:=undef) rfl (Or.inr ⟨by rfl,rfl⟩) hA ?_
     try simp only[Act.put,qP]
   | refine qt (v:=?_) rfl (zv ⟨by rfl,?_⟩) hA ?_
     rotate_left
     ·intro W hD;obtain⟨-,hI,hB⟩:=hD
      try simp only[qQ]
      go_simp
      try rw[if_neg (by omega)]
      try with_reducible rfl
     try simp only[Act.put,qP]
  refine wpAnyH_done (by kernel_rfl) ?_ _;clear hA
  go_wp2_with fail
  go_ret;exact⟨by rw[← HP.out];rfl,HF.out.trans' hh.out⟩
 cases b3
 all_goals
  refine wp_region_held_drew (S:=fun V=>Hid (Fr NoB W V)∧V.cell? ⟨p,0,none⟩=some (.int .i64 k)∧V.cell? ⟨p,69,none⟩=some (.slice a3 n c3)) (by kernel_rfl) HH.out (fun hA=>?_);simp only[qV];refine qi (i:=0) rfl (zj (by rfl) 28 _ rfl p 0 rfl C d (fun V h=>ji HR.out h.1.out hP (fun _ h=>h)) Hu.out Hd.out Hz.out) hA ?_
  try simp only[Act.put,qP]
  refine qr (i:=1) (by kernel_rfl) rfl (fun K hK=>?_)
  try simp only[qQ]
  go_simp;refine(Hown.out _ (HF.out.trans' hA.1.out)).mono ?_;rintro r w1 ⟨rfl,hE⟩;refine hK.out _ _ ⟨za (hA.1.out.trans' hE),Fr.cell hE hA.2.1,Fr.cell hE hA.2.2⟩ (fun hA=>?_);clear hK K
  try simp only[Act.put,qP]
  have hO:=za hA.1.out;clear hE
  iterate 4
   refine qt (v:=?_) rfl (zv ⟨by rfl,?_⟩) hA ?_;rotate_left
   ·intro W hD;obtain⟨-,hI,hB⟩:=hD
    try simp only[qQ]
    go_simp
    try rw[if_neg (by omega)]
    try with_reducible rfl
   try simp only[Act.put,qP]
  refine qr (i:=6) (by kernel_rfl) rfl (fun K hK=>?_)
  try simp only[qQ]
  go_simp;refine(Hsig.out _ (HF.out.trans' hO.out)).mono ?_;rintro r w2 ⟨rfl,hL⟩;refine hK.out _ _ ⟨za (hA.1.out.trans' hL),Fr.cell hL hA.2.1,Fr.cell hL hA.2.2⟩ (fun hA=>?_);clear hK K
  try simp only[Act.put,qP]
  have hh:=za hA.1.out;clear hL
  iterate 3
   refine qt (v:=?_) rfl (zv ⟨by rfl,?_⟩) hA ?_;rotate_left
   ·intro W hD;obtain⟨-,hI,hB⟩:=hD
    try simp only[qQ]
    go_simp
    try rw[if_neg (by omega)]
    try with_reducible rfl
   try simp only[Act.put,qP]
  refine qi (i:=10) rfl (zj (by rfl) 28 _ rfl p 0 rfl C d (fun V h=>ji HR.out h.1.out hP (fun _ h=>h)) Hu.out Hd.out Hz.out) hA ?_
  try simp only[Act.put,qP]
  refine qi (i:=12) (v:=?_) rfl (zv ⟨by rfl,?_⟩) hA ?_;rotate_left
  ·intro W hD;obtain⟨-,hI,hB⟩:=hD
   try simp only[qQ]
   go_simp
   try rw[if_neg (by omega)]
   try with_reducible rfl
  try simp only[Act.put,qP]
  refine qi (i:=13) (v:=?_) rfl (zv ⟨by rfl,?_⟩) hA ?_;rotate_left
  ·intro W hD;obtain⟨-,hI,hB⟩:=hD
   try simp only[qQ]
   go_simp
   try rw[if_neg (by omega)]
   try with_reducible rfl
  try simp only[Act.put,qP]
  refine qi (i:=14) (v:=?_) rfl (zv ⟨by rfl,?_⟩) hA ?_;rotate_left
  ·intro W hD;obtain⟨-,hI,hB⟩:=hD
   try simp only[qQ]
   go_simp
   try rw[if_neg (by omega)]
   try with_reducible rfl
  try simp only[Act.put,qP]
  refine qi (i:=15) (v:=?_) rfl (zv ⟨by rfl,?_⟩) hA ?_;rotate_left
  ·intro W hD;obtain⟨-,hI,hB⟩:=hD
   try simp only[qQ]
   go_simp
   try rw[if_neg (by omega)]
   try with_reducible rfl
  try simp only[Act.put,qP]
  refine qi (i:=16) (v:=?_) rfl (zv ⟨by rfl,?_⟩) hA ?_;rotate_left
  ·intro W hD;obtain⟨-,hI,hB⟩:=hD
   try simp only[qQ]
   go_simp
   try rw[if_neg (by omega)]
   try with_reducible rfl
  try simp only[Act.put,qP]
  refine qr (i:=11) (by kernel_rfl) rfl (fun K hK=>?_)
  try simp only[qQ]
  go_simp;refine(Hbl.out _).mono ?_;rintro r w3 ⟨rfl,hU⟩;refine hK.out _ _ ⟨za (hA.1.out.trans' hU),Fr.cell hU hA.2.1,Fr.cell hU hA.2.2⟩ (fun hA=>?_);clear hK K
  try simp only[Act.put,qP]
  have hj:=za hA.1.out;clear hU;refine qr (i:=17) (by kernel_rfl) rfl (fun K hK=>?_)
  try simp only[qQ]
  go_simp;refine(Heq.out _ (HF.out.trans' hj.out)).mono ?_;rintro r w4 ⟨rfl,hT⟩;refine hK.out _ _ ⟨za (hA.1.out.trans' hT),Fr.cell hT hA.2.1,Fr.cell hT hA.2.2⟩ (fun hA=>?_);clear hK K
  try simp only[Act.put,qP]
  have hi:=za hA.1.out;clear hT
  iterate 2
   refine qt (v:=?_) rfl (zv ⟨by rfl,?_⟩) hA ?_;rotate_left
   ·intro W hD;obtain⟨-,hI,hB⟩:=hD
    try simp only[qQ]
    go_simp
    try rw[if_neg (by omega)]
    try with_reducible rfl
   try simp only[Act.put,qP]
  refine wpAnyH_done (by kernel_rfl) ?_ _;clear hA
  go_wp2_with fail
  go_ret;exact⟨by rw[← HP.out];rfl,HF.out.trans' hi.out⟩
theorem zqz (sub:Bs→Bool)(S S':Nat→Prop)(e:En)(pv sv:Value)(w:World)(hok:e.ok)(hb:SB S e.payload pv w)(hg:GS S' e.sigs sv w)(hsub:SubC sub e pv w)
 (hty:e.typ.length≤1000000) (hid:e.ident.length≤1000000) (hpl:e.payload.length≤1000000000) (hsl:e.sigs.length≤1000) (hsi:∀ s∈e.sigs,s.id.length≤1000000) :
 Calls ze 85 #[.agg (e.cells pv sv).toArray] w fun r w'=>r = .returned (z1n (zce sub e))∧Fr NoB w w' :=
 znj sub S S' e pv sv w hok hb hg hsub hty hid hpl (by omega) hsi
end
end Go.Proofs.YtmgfncjfgkllcaaGreatDoor
