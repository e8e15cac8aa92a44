/-
 The walk of entry.blank.
-/
import Derived.Test.YtmgfncjfgkllcaaGreatDoorKRefHex
import Derived.Test.YtmgfncjfgkllcaaGreatDoorKSigEq
import Derived.Test.YtmgfncjfgkllcaaGreatDoorKB64
open Go.Lib renaming hid→za,byteCells→zb
open Go.Proofs.Tryz renaming prog→ze
open Go.World renaming rangeAt_setCells_same→zg
open Go renaming heap_alloc_new→zh,wpList_load_mid→zi
open Go.Value renaming int→zy
open Go.IntKind renaming u8→z6
namespace Go.Proofs.YtmgfncjfgkllcaaGreatDoor
set_option linter.unusedVariables false
set_option linter.unusedSimpArgs false
set_option linter.unusedSectionVars false
set_option maxRecDepth 100000
set_option maxHeartbeats 2000000
section
open Go.RowKit
variable [OldK]
theorem zj1:((Tryz.prog.underlying 28).any (·.isRow))=true:=by kernel_rfl
theorem j7:∃ d,Tryz.prog.underlying 28=some d∧d.isRow=true:=by
 have h:=zj1;cases hq:Tryz.prog.underlying 28 with
 | none=>rw[hq]at h;simp at h
 | some d=>rw[hq]at h;exact⟨d,rfl,by simpa using h⟩
theorem ja:(Tryz.prog.info? 28).map (·.size)=some 70:=by kernel_rfl
def zum (e:En) (pv:Value):Value:=if e.kind=2∨e.kind=3 then .slice none 0 0 else pv
theorem zwf (e:En) (pv sv:Value) (w:World) (hok:e.ok) (hp:pv.oneCell'=true) (hs:sv.oneCell'=true) :
 Calls ze 150 #[.agg (e.cells pv sv).toArray] w fun r w'=>r = .returned (.agg ((zab e).cells (zum e pv) sv).toArray)∧Fr NoB w w':=by
 have hw:=En.size hok pv sv;have hh:=En.size (zkm hok) (zum e pv) sv;obtain⟨d,hu,hd⟩:=j7;have hR:((w.alloc (.cells (e.cells pv sv).toArray 28)).alloc (.cells Tryz.zeroCells28 28)).rangeAt w.heap.size 0 (e.cells pv sv):=World.rangeAt_alloc (by simpa using jh (zh w (.cells (e.cells pv sv).toArray 28))) _;have hY:((w.alloc (.cells (e.cells pv sv).toArray 28)).alloc (.cells Tryz.zeroCells28 28)).there w.heap.size 0 70:=World.there_alloc (je (zh w _) (by simp[hw])) _
 have hb:((w.alloc (.cells (e.cells pv sv).toArray 28)).alloc (.cells Tryz.zeroCells28 28)).there (w.heap.size+1) 0 70:=by
  have:=je (zh (w.alloc (.cells (e.cells pv sv).toArray 28)) (.cells Tryz.zeroCells28 28)) (n:=70) (Nat.le_refl _)
  rwa [World.size_alloc]at this
 have hF:Fr NoB w ((w.alloc (.cells (e.cells pv sv).toArray 28)).alloc (.cells Tryz.zeroCells28 28)):=(Fr.refl.alloc _).alloc _;obtain⟨c0,-,-,-,c4,-,-,-⟩:=En.parts hok hR;have h0:=En.one (e:=e) hp hs;obtain⟨cs,hy⟩:∃ cs,(e.cells pv sv).toArray=cs:=⟨_,rfl⟩;rw[hy]at hR hY hb hF c0 c4 ⊢;clear hy;obtain⟨R,hl⟩:∃ R,((zab e).cells (zum e pv) sv).toArray=R:=⟨_,rfl⟩;rw[hl];have hL:=za hl;clear hl;go_enter Tryz.func150,Tryz.ntmps150
 go_upto_region 1 with(fail)
 change Code.wp _ _ _ _ ((w.alloc (.cells cs 28)).alloc (.cells Tryz.zeroCells28 28));obtain⟨W,hW⟩:∃ W,(w.alloc (.cells cs 28)).alloc (.cells Tryz.zeroCells28 28)=W:=⟨_,rfl⟩;rw[hW]at hR hY hb hF c0 c4 ⊢;obtain⟨p,hi⟩:∃ p,w.heap.size=p:=⟨_,rfl⟩;obtain⟨q,hq⟩:∃ q,p+1=q:=⟨_,rfl⟩;have hpq:p<q:=by omega
 have hS:w.heap.size≤p:=by omega
 rw[hi]at hR hY hb c0 c4;rw[hi,hq];rw[hq]at hb;clear hW hi hq;have HR:=za hR;have hg:=za hY;have hQ:=za hb;have HF:=za hF;have Hok:=za hok;have Hu:=za hu;have Hd:=za hd;have h6:=za (show((#[zy z6 0,zy z6 0,zy z6 0,zy z6 0,zy z6 0,zy z6 0,zy z6 0,zy z6 0,zy z6 0,zy z6 0,zy z6 0,zy z6 0,zy z6 0,zy z6 0,zy z6 0,zy z6 0,zy z6 0,zy z6 0,zy z6 0,zy z6 0,zy z6 0,zy z6 0,zy z6 0,zy z6 0,zy z6 0,zy z6 0,zy z6 0,zy z6 0,zy z6 0,zy z6 0,zy z6 0,zy z6 0]:Array Value).all (·.oneCell'))=true by simp[Value.oneCell']);have AE:=za (show W.there p 1 32 from fun j hj=>by have:=hY (1+j) (by omega);rwa [Nat.zero_add]at this);have hv:=za (show W.there p 37 32 from fun j hj=>by have:=hY (37+j) (by omega);rwa [Nat.zero_add]at this);have HO1:=za h0;clear hR hY hb hF hok hu hd hw hh h0;obtain⟨k,dg,ty,pl,op,hA,ky,sg⟩:=e;simp only at c0 c4;by_cases h1:k=1
 ·subst h1;have hB:En.ok ⟨1,jc,ty,pl,op,hA,ky,sg⟩:=⟨rfl,Hok.out.2⟩;have hK:=En.setDigest Hok.out HR.out jc rfl;have hP:=HF.out.trans (z8 p (zb jc) 1 W) (fun k _ hm => .inr (by omega));clear c4;have Hbl:=za (show(En.cells ⟨1,jc,ty,pl,op,hA,ky,sg⟩ pv sv).toArray=R from hL.out);have Hz:=za (show(Tryz.prog.info? 28).map (·.size)=some (En.cells ⟨1,jc,ty,pl,op,hA,ky,sg⟩ pv sv).length by rw[ja,En.size hB]);have hI:=za (show(Tryz.prog.info? 28).map (·.size)=some (En.cells ⟨1,jc,ty,pl,op,hA,ky,sg⟩ pv sv).toArray.size by rw[ja];simp[En.size hB]);have HO:=za (En.one (e:=⟨1,jc,ty,pl,op,hA,ky,sg⟩) (pv:=pv) (by first | exact hp | rfl) hs);have hE:=za hK;have hJ:=za hP;have hO:=hQ.out
  have hC:=za (show(W.setCells p 1 (zb jc)).there q 0 (En.cells ⟨1,jc,ty,pl,op,hA,ky,sg⟩ pv sv).toArray.size by
   rw[show(En.cells ⟨1,jc,ty,pl,op,hA,ky,sg⟩ pv sv).toArray.size=70 by simp[En.size hB]]
   repeat (first | with_reducible exact hO | with_reducible refine World.there_setCells ?_ _ _ _ | with_reducible refine zaq ?_ _ _ _))
  obtain⟨W1,hD⟩:∃ W1,W.setCells p 1 (zb jc)=W1:=⟨_,rfl⟩;obtain⟨C1,hH⟩:∃ C,En.cells ⟨1,jc,ty,pl,op,hA,ky,sg⟩ pv sv=C:=⟨_,rfl⟩;rw[hH]at Hbl Hz hI HO hC hE;rw[hD]at hE hJ hC;have hN:=za hD;clear hD hH
  go_upto_region 12 with(refine wpList_store_mid rfl 23 _ _ rfl p 1 #[zy z6 0,zy z6 0,zy z6 0,zy z6 0,zy z6 0,zy z6 0,zy z6 0,zy z6 0,zy z6 0,zy z6 0,zy z6 0,zy z6 0,zy z6 0,zy z6 0,zy z6 0,zy z6 0,zy z6 0,zy z6 0,zy z6 0,zy z6 0,zy z6 0,zy z6 0,zy z6 0,zy z6 0,zy z6 0,zy z6 0,zy z6 0,zy z6 0,zy z6 0,zy z6 0,zy z6 0,zy z6 0] rfl rfl AE.out j8 h6.out ?_)
  change Code.wp _ _ _ _ (W.setCells p 1 (zb jc));rw[hN.out]
  go_wp2_with(first | (refine zi rfl 28 _ rfl p 0 rfl C1 d hE.out Hu.out Hd.out Hz.out ?_) | (refine wpList_store_mid rfl 28 _ _ rfl q 0 C1.toArray rfl rfl hC.out hI.out HO.out ?_))
  have hM:=run_loadVar_mid (P:=ze) _ q 0 28 C1 d (zg W1 q 0 C1 (by simpa using hC.out)) Hu.out Hd.out Hz.out;refine bodyPost_ret (v := .agg R) ?_ rfl ⟨rfl,(hJ.out).trans (z8 _ _ _ _) (fun k _ hm => .inr (by omega))⟩;rw[j5 rfl];simp[asAddr,Result.andThen,hM,Hbl.out,Act.put]
 by_cases h2:k=2
 ·subst h2;have hB:En.ok ⟨2,dg,[],pl,op,hA,ky,sg⟩:=Hok.out;have hG:En.ok ⟨2,dg,[],[],op,hA,ky,sg⟩:=Hok.out;have hK:=En.setTyp Hok.out HR.out [];have hZ:=En.setPay hB hK (.slice none 0 0) [];have hP:Fr NoB w ((W.setCell ⟨p,33,none⟩ (.string ⟨#[]⟩)).setCell ⟨p,34,none⟩ (.slice none 0 0)):=(HF.out.setNew _ _ hS).setNew _ _ hS;clear c4 hK;have hk:((2:Int)==1)=false:=rfl;have hC33:W.frozen? ⟨p,33,none⟩=false:=(hg.out 33 (by omega)).2;have hr:W.frozen? ⟨p,34,none⟩=false:=(hg.out 34 (by omega)).2;obtain⟨-,-,c33,AD,-,-,-,-⟩:=En.parts Hok.out HR.out;have Hbl:=za (show(En.cells ⟨2,dg,[],[],op,hA,ky,sg⟩ (.slice none 0 0) sv).toArray=R from hL.out);have Hz:=za (show(Tryz.prog.info? 28).map (·.size)=some (En.cells ⟨2,dg,[],[],op,hA,ky,sg⟩ (.slice none 0 0) sv).length by rw[ja,En.size hG]);have hI:=za (show(Tryz.prog.info? 28).map (·.size)=some (En.cells ⟨2,dg,[],[],op,hA,ky,sg⟩ (.slice none 0 0) sv).toArray.size by rw[ja];simp[En.size hG]);have HO:=za (En.one (e:=⟨2,dg,[],[],op,hA,ky,sg⟩) (pv:=(.slice none 0 0)) (by first | exact hp | rfl) hs);have hE:=za hZ;have hJ:=za hP;have hO:=hQ.out
  have hC:=za (show((W.setCell ⟨p,33,none⟩ (.string ⟨#[]⟩)).setCell ⟨p,34,none⟩ (.slice none 0 0)).there q 0 (En.cells ⟨2,dg,[],[],op,hA,ky,sg⟩ (.slice none 0 0) sv).toArray.size by
   rw[show(En.cells ⟨2,dg,[],[],op,hA,ky,sg⟩ (.slice none 0 0) sv).toArray.size=70 by simp[En.size hG]]
   repeat (first | with_reducible exact hO | with_reducible refine World.there_setCells ?_ _ _ _ | with_reducible refine zaq ?_ _ _ _))
  obtain⟨W1,hD⟩:∃ W1,(W.setCell ⟨p,33,none⟩ (.string ⟨#[]⟩)).setCell ⟨p,34,none⟩ (.slice none 0 0)=W1:=⟨_,rfl⟩;obtain⟨C1,hH⟩:∃ C,En.cells ⟨2,dg,[],[],op,hA,ky,sg⟩ (.slice none 0 0) sv=C:=⟨_,rfl⟩;rw[hH]at Hbl Hz hI HO hC hE;rw[hD]at hE hJ hC;have hN:=za hD;clear hD hH
  go_upto_region 12 with(fail)
  change Code.wp _ _ _ _ ((W.setCell ⟨p,33,none⟩ (.string ⟨#[]⟩)).setCell ⟨p,34,none⟩ (.slice none 0 0));rw[hN.out]
  go_wp2_with(first | (refine zi rfl 28 _ rfl p 0 rfl C1 d hE.out Hu.out Hd.out Hz.out ?_) | (refine wpList_store_mid rfl 28 _ _ rfl q 0 C1.toArray rfl rfl hC.out hI.out HO.out ?_))
  have hM:=run_loadVar_mid (P:=ze) _ q 0 28 C1 d (zg W1 q 0 C1 (by simpa using hC.out)) Hu.out Hd.out Hz.out;refine bodyPost_ret (v := .agg R) ?_ rfl ⟨rfl,(hJ.out).trans (z8 _ _ _ _) (fun k _ hm => .inr (by omega))⟩;rw[j5 rfl];simp[asAddr,Result.andThen,hM,Hbl.out,Act.put]
 by_cases h3:k=3
 ·subst h3;have hB:En.ok ⟨3,dg,ty,[],op,hA,ky,sg⟩:=Hok.out;have hK:=En.setPay Hok.out HR.out (.slice none 0 0) [];have hP:Fr NoB w (W.setCell ⟨p,34,none⟩ (.slice none 0 0)):=HF.out.setNew _ _ hS;clear c4;have hk:((3:Int)==1)=false:=rfl;have hx:((3:Int)==2)=false:=rfl;have hr:W.frozen? ⟨p,34,none⟩=false:=(hg.out 34 (by omega)).2;obtain⟨-,-,-,AD,-,-,-,-⟩:=En.parts Hok.out HR.out;have Hbl:=za (show(En.cells ⟨3,dg,ty,[],op,hA,ky,sg⟩ (.slice none 0 0) sv).toArray=R from hL.out);have Hz:=za (show(Tryz.prog.info? 28).map (·.size)=some (En.cells ⟨3,dg,ty,[],op,hA,ky,sg⟩ (.slice none 0 0) sv).length by rw[ja,En.size hB]);have hI:=za (show(Tryz.prog.info? 28).map (·.size)=some (En.cells ⟨3,dg,ty,[],op,hA,ky,sg⟩ (.slice none 0 0) sv).toArray.size by rw[ja];simp[En.size hB]);have HO:=za (En.one (e:=⟨3,dg,ty,[],op,hA,ky,sg⟩) (pv:=(.slice none 0 0)) (by first | exact hp | rfl) hs);have hE:=za hK;have hJ:=za hP;have hO:=hQ.out
  have hC:=za (show(W.setCell ⟨p,34,none⟩ (.slice none 0 0)).there q 0 (En.cells ⟨3,dg,ty,[],op,hA,ky,sg⟩ (.slice none 0 0) sv).toArray.size by
   rw[show(En.cells ⟨3,dg,ty,[],op,hA,ky,sg⟩ (.slice none 0 0) sv).toArray.size=70 by simp[En.size hB]]
   repeat (first | with_reducible exact hO | with_reducible refine World.there_setCells ?_ _ _ _ | with_reducible refine zaq ?_ _ _ _))
  obtain⟨W1,hD⟩:∃ W1,W.setCell ⟨p,34,none⟩ (.slice none 0 0)=W1:=⟨_,rfl⟩;obtain⟨C1,hH⟩:∃ C,En.cells ⟨3,dg,ty,[],op,hA,ky,sg⟩ (.slice none 0 0) sv=C:=⟨_,rfl⟩;rw[hH]at Hbl Hz hI HO hC hE;rw[hD]at hE hJ hC;have hN:=za hD;clear hD hH
  go_upto_region 12 with(fail)
  change Code.wp _ _ _ _ (W.setCell ⟨p,34,none⟩ (.slice none 0 0));rw[hN.out]
  go_wp2_with(first | (refine zi rfl 28 _ rfl p 0 rfl C1 d hE.out Hu.out Hd.out Hz.out ?_) | (refine wpList_store_mid rfl 28 _ _ rfl q 0 C1.toArray rfl rfl hC.out hI.out HO.out ?_))
  have hM:=run_loadVar_mid (P:=ze) _ q 0 28 C1 d (zg W1 q 0 C1 (by simpa using hC.out)) Hu.out Hd.out Hz.out;refine bodyPost_ret (v := .agg R) ?_ rfl ⟨rfl,(hJ.out).trans (z8 _ _ _ _) (fun k _ hm => .inr (by omega))⟩;rw[j5 rfl];simp[asAddr,Result.andThen,hM,Hbl.out,Act.put]
 by_cases h4:k=4
 ·subst h4;have hk:((4:Int)==1)=false:=rfl;have hx:((4:Int)==2)=false:=rfl;have h8:((4:Int)==3)=false:=rfl;have hf:W.frozen? ⟨p,35,none⟩=false:=(hg.out 35 (by omega)).2;have he:W.frozen? ⟨p,36,none⟩=false:=(hg.out 36 (by omega)).2;obtain⟨-,-,-,-,-,AC,-,-⟩:=En.parts Hok.out HR.out;by_cases h5:op=3
  ·subst h5;have h7:((3:Int) != 3)=false:=rfl;have hB:En.ok ⟨4,dg,ty,pl,0,hA,ky,sg⟩:=Hok.out;have hG:En.ok ⟨4,dg,ty,pl,0,[],ky,sg⟩:=Hok.out;have hK:=En.setOp Hok.out HR.out 0;have hZ:=En.setIdent hB hK [];have hP:Fr NoB w ((W.setCell ⟨p,35,none⟩ (.int .i64 0)).setCell ⟨p,36,none⟩ (.string ⟨#[]⟩)):=(HF.out.setNew _ _ hS).setNew _ _ hS;clear hK;have Hbl:=za (show(En.cells ⟨4,dg,ty,pl,0,[],ky,sg⟩ pv sv).toArray=R from hL.out);have Hz:=za (show(Tryz.prog.info? 28).map (·.size)=some (En.cells ⟨4,dg,ty,pl,0,[],ky,sg⟩ pv sv).length by rw[ja,En.size hG]);have hI:=za (show(Tryz.prog.info? 28).map (·.size)=some (En.cells ⟨4,dg,ty,pl,0,[],ky,sg⟩ pv sv).toArray.size by rw[ja];simp[En.size hG]);have HO:=za (En.one (e:=⟨4,dg,ty,pl,0,[],ky,sg⟩) (pv:=pv) (by first | exact hp | rfl) hs);have hE:=za hZ;have hJ:=za hP;have hO:=hQ.out
   have hC:=za (show((W.setCell ⟨p,35,none⟩ (.int .i64 0)).setCell ⟨p,36,none⟩ (.string ⟨#[]⟩)).there q 0 (En.cells ⟨4,dg,ty,pl,0,[],ky,sg⟩ pv sv).toArray.size by
    rw[show(En.cells ⟨4,dg,ty,pl,0,[],ky,sg⟩ pv sv).toArray.size=70 by simp[En.size hG]]
    repeat (first | with_reducible exact hO | with_reducible refine World.there_setCells ?_ _ _ _ | with_reducible refine zaq ?_ _ _ _))
   obtain⟨W1,hD⟩:∃ W1,(W.setCell ⟨p,35,none⟩ (.int .i64 0)).setCell ⟨p,36,none⟩ (.string ⟨#[]⟩)=W1:=⟨_,rfl⟩;obtain⟨C1,hH⟩:∃ C,En.cells ⟨4,dg,ty,pl,0,[],ky,sg⟩ pv sv=C:=⟨_,rfl⟩;rw[hH]at Hbl Hz hI HO hC hE;rw[hD]at hE hJ hC;have hN:=za hD;clear hD hH
   go_upto_region 12 with(fail)
   change Code.wp _ _ _ _ ((W.setCell ⟨p,35,none⟩ (.int .i64 0)).setCell ⟨p,36,none⟩ (.string ⟨#[]⟩));rw[hN.out]
   go_wp2_with(first | (refine zi rfl 28 _ rfl p 0 rfl C1 d hE.out Hu.out Hd.out Hz.out ?_) | (refine wpList_store_mid rfl 28 _ _ rfl q 0 C1.toArray rfl rfl hC.out hI.out HO.out ?_))
   have hM:=run_loadVar_mid (P:=ze) _ q 0 28 C1 d (zg W1 q 0 C1 (by simpa using hC.out)) Hu.out Hd.out Hz.out;refine bodyPost_ret (v := .agg R) ?_ rfl ⟨rfl,(hJ.out).trans (z8 _ _ _ _) (fun k _ hm => .inr (by omega))⟩;rw[j5 rfl];simp[asAddr,Result.andThen,hM,Hbl.out,Act.put]
  have h7:(op != 3)=true:=by simpa using h5
  have ha:=za (show(En.cells ⟨4,dg,ty,pl,0,[],jc,sg⟩ pv sv).toArray=R by
   have:=hL.out
   simpa[zab,zum,h5] using this)
  clear hL;have hL:=ha;have hB:En.ok ⟨4,dg,ty,pl,op,hA,jc,sg⟩:=⟨Hok.out.1,rfl,Hok.out.2.2⟩;have hG:En.ok ⟨4,dg,ty,pl,0,hA,jc,sg⟩:=hB;have hT:En.ok ⟨4,dg,ty,pl,0,[],jc,sg⟩:=hB;have hK:=En.setKey Hok.out HR.out jc rfl;have hZ:=En.setOp hB hK 0;have hz:=En.setIdent hG hZ [];have hc:=HF.out.trans (z8 p (zb jc) 37 W) (fun k _ hm => .inr (by omega));obtain⟨-,-,-,-,AB,AA,-,-⟩:=En.parts hB hK;have ho:(W.setCells p 37 (zb jc)).frozen? ⟨p,35,none⟩=false:=by rw[World.frozen?_setCells];exact hf
  have hn:(W.setCells p 37 (zb jc)).frozen? ⟨p,36,none⟩=false:=by rw[World.frozen?_setCells];exact he
  have hX:(W.setCells p 37 (zb jc)).there q 0 70:=World.there_setCells hQ.out _ _ _;clear hf he AC
  go_upto_region 11 with(refine wpList_store_mid rfl 25 _ _ rfl p 37 #[zy z6 0,zy z6 0,zy z6 0,zy z6 0,zy z6 0,zy z6 0,zy z6 0,zy z6 0,zy z6 0,zy z6 0,zy z6 0,zy z6 0,zy z6 0,zy z6 0,zy z6 0,zy z6 0,zy z6 0,zy z6 0,zy z6 0,zy z6 0,zy z6 0,zy z6 0,zy z6 0,zy z6 0,zy z6 0,zy z6 0,zy z6 0,zy z6 0,zy z6 0,zy z6 0,zy z6 0,zy z6 0] rfl rfl hv.out zaf h6.out ?_)
  change Code.wp _ _ _ _ (W.setCells p 37 (zb jc));obtain⟨V,hV⟩:∃ V,W.setCells p 37 (zb jc)=V:=⟨_,rfl⟩;rw[hV]at hZ hz hc AB AA ho hn hX ⊢;have ht:=za hX;clear hV hK hZ hQ hX c0 c4;have hQ:=ht;have hP:Fr NoB w ((V.setCell ⟨p,35,none⟩ (.int .i64 0)).setCell ⟨p,36,none⟩ (.string ⟨#[]⟩)):=(hc.setNew _ _ hS).setNew _ _ hS;clear hc;have Hbl:=za (show(En.cells ⟨4,dg,ty,pl,0,[],jc,sg⟩ pv sv).toArray=R from hL.out);have Hz:=za (show(Tryz.prog.info? 28).map (·.size)=some (En.cells ⟨4,dg,ty,pl,0,[],jc,sg⟩ pv sv).length by rw[ja,En.size hT]);have hI:=za (show(Tryz.prog.info? 28).map (·.size)=some (En.cells ⟨4,dg,ty,pl,0,[],jc,sg⟩ pv sv).toArray.size by rw[ja];simp[En.size hT]);have HO:=za (En.one (e:=⟨4,dg,ty,pl,0,[],jc,sg⟩) (pv:=pv) (by first | exact hp | rfl) hs);have hE:=za hz;have hJ:=za hP;have hO:=hQ.out
  have hC:=za (show((V.setCell ⟨p,35,none⟩ (.int .i64 0)).setCell ⟨p,36,none⟩ (.string ⟨#[]⟩)).there q 0 (En.cells ⟨4,dg,ty,pl,0,[],jc,sg⟩ pv sv).toArray.size by
   rw[show(En.cells ⟨4,dg,ty,pl,0,[],jc,sg⟩ pv sv).toArray.size=70 by simp[En.size hT]]
   repeat (first | with_reducible exact hO | with_reducible refine World.there_setCells ?_ _ _ _ | with_reducible refine zaq ?_ _ _ _))
  obtain⟨W1,hD⟩:∃ W1,(V.setCell ⟨p,35,none⟩ (.int .i64 0)).setCell ⟨p,36,none⟩ (.string ⟨#[]⟩)=W1:=⟨_,rfl⟩;obtain⟨C1,hH⟩:∃ C,En.cells ⟨4,dg,ty,pl,0,[],jc,sg⟩ pv sv=C:=⟨_,rfl⟩;rw[hH]at Hbl Hz hI HO hC hE;rw[hD]at hE hJ hC;have hN:=za hD;clear hD hH
  go_upto_region 12 with(fail)
  change Code.wp _ _ _ _ ((V.setCell ⟨p,35,none⟩ (.int .i64 0)).setCell ⟨p,36,none⟩ (.string ⟨#[]⟩));rw[hN.out]
  go_wp2_with(first | (refine zi rfl 28 _ rfl p 0 rfl C1 d hE.out Hu.out Hd.out Hz.out ?_) | (refine wpList_store_mid rfl 28 _ _ rfl q 0 C1.toArray rfl rfl hC.out hI.out HO.out ?_))
  have hM:=run_loadVar_mid (P:=ze) _ q 0 28 C1 d (zg W1 q 0 C1 (by simpa using hC.out)) Hu.out Hd.out Hz.out;refine bodyPost_ret (v := .agg R) ?_ rfl ⟨rfl,(hJ.out).trans (z8 _ _ _ _) (fun k _ hm => .inr (by omega))⟩;rw[j5 rfl];simp[asAddr,Result.andThen,hM,Hbl.out,Act.put]
 have hk:(k==1)=false:=by simpa using h1
 have hx:(k==2)=false:=by simpa using h2
 have h8:(k==3)=false:=by simpa using h3
 have hk4:(k==4)=false:=by simpa using h4
 have ha:=za (show(En.cells ⟨k,dg,ty,pl,op,hA,ky,sg⟩ pv sv).toArray=R by
  have:=hL.out
  simpa[zab,zum,h1,h2,h3,h4] using this)
 clear hL h1 h2 h3 h4 c4;have hL:=ha;have hU:=Hok.out;have h9:=HR.out;have hc:=HF.out;have Hbl:=za (show(En.cells ⟨k,dg,ty,pl,op,hA,ky,sg⟩ pv sv).toArray=R from hL.out);have Hz:=za (show(Tryz.prog.info? 28).map (·.size)=some (En.cells ⟨k,dg,ty,pl,op,hA,ky,sg⟩ pv sv).length by rw[ja,En.size hU]);have hI:=za (show(Tryz.prog.info? 28).map (·.size)=some (En.cells ⟨k,dg,ty,pl,op,hA,ky,sg⟩ pv sv).toArray.size by rw[ja];simp[En.size hU]);have HO:=za (En.one (e:=⟨k,dg,ty,pl,op,hA,ky,sg⟩) (pv:=pv) (by first | exact hp | rfl) hs);have hE:=za h9;have hJ:=za hc;have hO:=hQ.out
 have hC:=za (show(W).there q 0 (En.cells ⟨k,dg,ty,pl,op,hA,ky,sg⟩ pv sv).toArray.size by
  rw[show(En.cells ⟨k,dg,ty,pl,op,hA,ky,sg⟩ pv sv).toArray.size=70 by simp[En.size hU]]
  repeat (first | with_reducible exact hO | with_reducible refine World.there_setCells ?_ _ _ _ | with_reducible refine zaq ?_ _ _ _))
 obtain⟨W1,hD⟩:∃ W1,W=W1:=⟨_,rfl⟩;obtain⟨C1,hH⟩:∃ C,En.cells ⟨k,dg,ty,pl,op,hA,ky,sg⟩ pv sv=C:=⟨_,rfl⟩;rw[hH]at Hbl Hz hI HO hC hE;rw[hD]at hE hJ hC;have hN:=za hD;clear hD hH
 go_upto_region 12 with(fail)
 change Code.wp _ _ _ _ (W);rw[hN.out]
 go_wp2_with(first | (refine zi rfl 28 _ rfl p 0 rfl C1 d hE.out Hu.out Hd.out Hz.out ?_) | (refine wpList_store_mid rfl 28 _ _ rfl q 0 C1.toArray rfl rfl hC.out hI.out HO.out ?_))
 have hM:=run_loadVar_mid (P:=ze) _ q 0 28 C1 d (zg W1 q 0 C1 (by simpa using hC.out)) Hu.out Hd.out Hz.out;refine bodyPost_ret (v := .agg R) ?_ rfl ⟨rfl,(hJ.out).trans (z8 _ _ _ _) (fun k _ hm => .inr (by omega))⟩;rw[j5 rfl];simp[asAddr,Result.andThen,hM,Hbl.out,Act.put]
end
section
open Go.RowKit
variable [OldK]
def zsu (b:Bool) (r:Ending):Prop:=∃ v er,r = .returned (.tuple #[v,er])∧er=if b then .nilIface else .iface 49 (.int .i64 11)
def SubC (sub:Bs→Bool) (e:En) (pv:Value) (w:World):Prop :=
 e.kind=3→∀ W,Fr NoB w W→Calls ze 22 #[pv] W fun r W'=>zsu (sub e.payload) r∧Fr NoB W W'
theorem SubC.fr {sub:Bs→Bool}{e:En}{pv:Value}{w w1:World}(h:SubC sub e pv w)(hF:Fr NoB w w1):SubC sub e pv w1 :=
 fun hk W hW=>h hk W (hF.trans' hW)
theorem zx0 (sub:Bs→Bool) (e:En) (a:Option Addr) (cap:Nat) (sv:Value) (w:World) (hok:e.ok) (hsub:SubC sub e (.slice a e.payload.length cap) w) (hty:e.typ.length≤1000000) (hid:e.ident.length≤1000000) (hpl:e.payload.length≤1000000000) :
 Calls ze 148 #[.agg (e.cells (.slice a e.payload.length cap) sv).toArray] w fun r w'=>r = .returned (.bool (zra sub e))∧Fr NoB w w':=by
 have hR:(w.alloc (.cells (e.cells (.slice a e.payload.length cap) sv).toArray 28)).rangeAt w.heap.size 0 (e.cells (.slice a e.payload.length cap) sv):=by simpa using jh (zh w (.cells (e.cells (.slice a e.payload.length cap) sv).toArray 28))
 have hF:Fr NoB w (w.alloc (.cells (e.cells (.slice a e.payload.length cap) sv).toArray 28)):=Fr.refl.alloc _;obtain⟨c0,-,hM,hG,hL,hK,-,-⟩:=En.parts hok hR;obtain⟨R,hQ⟩:∃ R,zra sub e=R:=⟨_,rfl⟩;rw[hQ];have hI:=za hQ;obtain⟨cs,hU⟩:∃ cs,(e.cells (.slice a e.payload.length cap) sv).toArray=cs:=⟨_,rfl⟩;rw[hU]at hF c0 hM hG hL hK ⊢;clear hU hQ hR;go_enter Tryz.func148,Tryz.ntmps148
 go_upto_region 1 with(fail)
 change Code.wp _ _ _ _ (w.alloc (.cells cs 28));obtain⟨W,hW⟩:∃ W,w.alloc (.cells cs 28)=W:=⟨_,rfl⟩;rw[hW]at hF c0 hM hG hL hK ⊢;obtain⟨p,hN⟩:∃ p,w.heap.size=p:=⟨_,rfl⟩;rw[hN]at c0 hM hG hL hK;rw[hN];clear hW hN;have HF:=za hF;have hB:=hsub.fr hF;have hH:=za hB;clear hF hsub hB hok;obtain⟨k,dg,ty,pl,op,hS,ky,sg⟩:=e;simp only at c0 hM hG hL hK hty hid hpl;by_cases h1:k=1
 ·subst h1;have HP:Hid (true=R):=za (by simpa[zra] using hI.out)
  go_wp2_with fail
  go_ret;exact⟨ju HP.out,HF.out⟩
 by_cases h2:k=2
 ·subst h2;have hO:((2:Int)==1)=false:=rfl;obtain⟨b1,hE⟩:∃ b,zdk ty=b:=⟨_,rfl⟩;obtain⟨b2,hP⟩:∃ b,decide ((pl.length:Int)≤2048)=b:=⟨_,rfl⟩;have hD:decide (pl.length≤2048)=b2:=by rw[← hP];exact decide_eq_decide.2 (by omega)
  have HP:Hid ((b1&&b2)=R):=za (by rw[← hE,← hD];simpa[zra] using hI.out);have hC:=zqk ty W (by omega);rw[hE]at hC;have Hty:=za hC;clear hD hC hE h1;cases b1<;>cases b2
  all_goals
   go_wp2_with fail
   refine Hty.out.mono ?_;rintro e w1 ⟨rfl,hA⟩;have c34':=(Fr.cell hA hG);have hJ:=za (HF.out.trans' hA);clear hA
   go_wp2_with fail
   go_ret;exact⟨ju HP.out,hJ.out⟩
 by_cases h3:k=3
 ·subst h3;have hO:((3:Int)==1)=false:=rfl;have hT:((3:Int)==2)=false:=rfl;obtain⟨b,hb⟩:∃ b,sub pl=b:=⟨_,rfl⟩;have HP:Hid (b=R):=za (by rw[← hb];simpa[zra] using hI.out);have hs:=hH.out rfl W Fr.refl;simp only at hs;rw[hb]at hs;have Hs:=za hs;clear hs hb h1 h2;cases b
  all_goals
   go_wp2_with fail
   refine Hs.out.mono ?_;rintro r w1 ⟨⟨v,er,rfl,rfl⟩,hA⟩;have hJ:=za (HF.out.trans' hA);clear hA
   go_wp2_with fail
   go_ret;exact⟨ju HP.out,hJ.out⟩
 by_cases h4:k=4
 ·subst h4;have hO:((4:Int)==1)=false:=rfl;have hT:((4:Int)==2)=false:=rfl;have hV:((4:Int)==3)=false:=rfl;obtain⟨b1,hE⟩:∃ b,decide (1≤op)=b:=⟨_,rfl⟩;obtain⟨b2,hP⟩:∃ b,decide (op≤3)=b:=⟨_,rfl⟩;obtain⟨b3,hD⟩:∃ b,zaa hS=b:=⟨_,rfl⟩;have HP:Hid ((b1&&(b2&&b3))=R):=za (by rw[← hE,← hP,← hD];simpa[zra] using hI.out);have hn:=zms hS W (by omega);rw[hD]at hn;have Hn:=za hn;clear hn hD h1 h2 h3;cases b1
  ·go_wp2_with fail
   go_ret;exact⟨ju HP.out,HF.out⟩
  cases b2
  ·go_wp2_with fail
   go_ret;exact⟨ju HP.out,HF.out⟩
  go_wp2_with fail
  refine Hn.out.mono ?_;rintro e w1 ⟨rfl,hA⟩;have hJ:=za (HF.out.trans' hA);clear hA
  go_wp2_with fail
  go_ret;exact⟨ju HP.out,hJ.out⟩
 have hO:(k==1)=false:=by simpa using h1
 have hT:(k==2)=false:=by simpa using h2
 have hV:(k==3)=false:=by simpa using h3
 have hk4:(k==4)=false:=by simpa using h4
 have HP:Hid (false=R):=za (by simpa[zra,h1,h2,h3,h4] using hI.out);clear h1 h2 h3 h4
 go_wp2_with fail
 go_ret;exact⟨ju HP.out,HF.out⟩
end
end Go.Proofs.YtmgfncjfgkllcaaGreatDoor
