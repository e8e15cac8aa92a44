/-
 The walk of entry.blank.
-/
import Derived.Test.YtffggpplnjibgaaGreatDoorKConcat
import Derived.Test.YtffggpplnjibgaaGreatDoorKSigEq
import Derived.Test.YtffggpplnjibgaaGreatDoorKSpecBind
open Go.Lib renaming hid→zi,byteCells→zj
open Go.Proofs.Tryz renaming prog→zl
open Go.World renaming rangeAt_setCells_same→zn
open Go renaming heap_alloc_new→zo,wpList_load_mid→zq
open Go.Value renaming int→jf
open Go.IntKind renaming u8→jg
namespace Go.Proofs.YtffggpplnjibgaaGreatDoor
set_option linter.unusedVariables false
set_option linter.unusedSimpArgs false
set_option linter.unusedSectionVars false
set_option maxRecDepth 100000
set_option maxHeartbeats 2000000
section
open Go.RowKit
variable [OldK]
theorem zk2:((Tryz.prog.underlying 28).any (·.isRow))=true:=by kernel_rfl
theorem zaq:∃ d,Tryz.prog.underlying 28=some d∧d.isRow=true:=by
 have h:=zk2;cases hq:Tryz.prog.underlying 28 with
 | none=>rw[hq]at h;simp at h
 | some d=>rw[hq]at h;exact⟨d,rfl,by simpa using h⟩
theorem j4:(Tryz.prog.info? 28).map (·.size)=some 70:=by kernel_rfl
def zo0 (e:En) (pv:Value):Value:=if e.kind=2∨e.kind=3 then .slice none 0 0 else pv
theorem zw2 (e:En) (pv sv:Value) (w:World) (hok:e.ok) (hp:pv.oneCell'=true) (hs:sv.oneCell'=true) :
 Calls zl 115 #[.agg (e.cells pv sv).toArray] w fun r w'=>r = .returned (.agg ((zav e).cells (zo0 e pv) sv).toArray)∧Fr NoB w w':=by
 have hx:=En.size hok pv sv;have hi:=En.size (zlu hok) (zo0 e pv) sv;obtain⟨d,hu,hd⟩:=zaq;have hR:((w.alloc (.cells (e.cells pv sv).toArray 28)).alloc (.cells Tryz.zeroCells28 28)).rangeAt w.heap.size 0 (e.cells pv sv):=World.rangeAt_alloc (by simpa using j8 (zo w (.cells (e.cells pv sv).toArray 28))) _;have hZ:((w.alloc (.cells (e.cells pv sv).toArray 28)).alloc (.cells Tryz.zeroCells28 28)).there w.heap.size 0 70:=World.there_alloc (qa (zo w _) (by simp[hx])) _
 have hc:((w.alloc (.cells (e.cells pv sv).toArray 28)).alloc (.cells Tryz.zeroCells28 28)).there (w.heap.size+1) 0 70:=by
  have:=qa (zo (w.alloc (.cells (e.cells pv sv).toArray 28)) (.cells Tryz.zeroCells28 28)) (n:=70) (Nat.le_refl _)
  rwa [World.size_alloc]at this
 have hF:Fr NoB w ((w.alloc (.cells (e.cells pv sv).toArray 28)).alloc (.cells Tryz.zeroCells28 28)):=(Fr.refl.alloc _).alloc _;obtain⟨c0,-,-,-,c4,-,-,-⟩:=En.parts hok hR;have h6:=En.one (e:=e) hp hs;obtain⟨cs,hz⟩:∃ cs,(e.cells pv sv).toArray=cs:=⟨_,rfl⟩;rw[hz]at hR hZ hc hF c0 c4 ⊢;clear hz;obtain⟨R,hn⟩:∃ R,((zav e).cells (zo0 e pv) sv).toArray=R:=⟨_,rfl⟩;rw[hn];have hM:=zi hn;clear hn;go_enter Tryz.func115,Tryz.ntmps115
 go_upto_region 1 with(fail)
 change Code.wp _ _ _ _ ((w.alloc (.cells cs 28)).alloc (.cells Tryz.zeroCells28 28));obtain⟨W,hW⟩:∃ W,(w.alloc (.cells cs 28)).alloc (.cells Tryz.zeroCells28 28)=W:=⟨_,rfl⟩;rw[hW]at hR hZ hc hF c0 c4 ⊢;obtain⟨p,hk⟩:∃ p,w.heap.size=p:=⟨_,rfl⟩;obtain⟨q,hq⟩:∃ q,p+1=q:=⟨_,rfl⟩;have hpq:p<q:=by omega
 have hT:w.heap.size≤p:=by omega
 rw[hk]at hR hZ hc c0 c4;rw[hk,hq];rw[hq]at hc;clear hW hk hq;have HR:=zi hR;have hh:=zi hZ;have hS:=zi hc;have HF:=zi hF;have Hok:=zi hok;have Hu:=zi hu;have Hd:=zi hd;have h7:=zi (show((#[jf jg 0,jf jg 0,jf jg 0,jf jg 0,jf jg 0,jf jg 0,jf jg 0,jf jg 0,jf jg 0,jf jg 0,jf jg 0,jf jg 0,jf jg 0,jf jg 0,jf jg 0,jf jg 0,jf jg 0,jf jg 0,jf jg 0,jf jg 0,jf jg 0,jf jg 0,jf jg 0,jf jg 0,jf jg 0,jf jg 0,jf jg 0,jf jg 0,jf jg 0,jf jg 0,jf jg 0,jf jg 0]:Array Value).all (·.oneCell'))=true by simp[Value.oneCell']);have AF:=zi (show W.there p 1 32 from fun j hj=>by have:=hZ (1+j) (by omega);rwa [Nat.zero_add]at this);have hw:=zi (show W.there p 37 32 from fun j hj=>by have:=hZ (37+j) (by omega);rwa [Nat.zero_add]at this);have HO1:=zi h6;clear hR hZ hc hF hok hu hd hx hi h6;obtain⟨k,dg,ty,pl,op,hB,ky,sg⟩:=e;simp only at c0 c4;by_cases h1:k=1
 ·subst h1;have hC:En.ok ⟨1,jz,ty,pl,op,hB,ky,sg⟩:=⟨rfl,Hok.out.2⟩;have hL:=En.setDigest Hok.out HR.out jz rfl;have hQ:=HF.out.trans (jr p (zj jz) 1 W) (fun k _ hm => .inr (by omega));clear c4;have Hbl:=zi (show(En.cells ⟨1,jz,ty,pl,op,hB,ky,sg⟩ pv sv).toArray=R from hM.out);have Hz:=zi (show(Tryz.prog.info? 28).map (·.size)=some (En.cells ⟨1,jz,ty,pl,op,hB,ky,sg⟩ pv sv).length by rw[j4,En.size hC]);have hJ:=zi (show(Tryz.prog.info? 28).map (·.size)=some (En.cells ⟨1,jz,ty,pl,op,hB,ky,sg⟩ pv sv).toArray.size by rw[j4];simp[En.size hC]);have HO:=zi (En.one (e:=⟨1,jz,ty,pl,op,hB,ky,sg⟩) (pv:=pv) (by first | exact hp | rfl) hs);have hG:=zi hL;have hK:=zi hQ;have hP:=hS.out
  have hD:=zi (show(W.setCells p 1 (zj jz)).there q 0 (En.cells ⟨1,jz,ty,pl,op,hB,ky,sg⟩ pv sv).toArray.size by
   rw[show(En.cells ⟨1,jz,ty,pl,op,hB,ky,sg⟩ pv sv).toArray.size=70 by simp[En.size hC]]
   repeat (first | with_reducible exact hP | with_reducible refine World.there_setCells ?_ _ _ _ | with_reducible refine zai ?_ _ _ _))
  obtain⟨W1,hE⟩:∃ W1,W.setCells p 1 (zj jz)=W1:=⟨_,rfl⟩;obtain⟨C1,hI⟩:∃ C,En.cells ⟨1,jz,ty,pl,op,hB,ky,sg⟩ pv sv=C:=⟨_,rfl⟩;rw[hI]at Hbl Hz hJ HO hD hG;rw[hE]at hG hK hD;have hO:=zi hE;clear hE hI
  go_upto_region 12 with(refine wpList_store_mid rfl 23 _ _ rfl p 1 #[jf jg 0,jf jg 0,jf jg 0,jf jg 0,jf jg 0,jf jg 0,jf jg 0,jf jg 0,jf jg 0,jf jg 0,jf jg 0,jf jg 0,jf jg 0,jf jg 0,jf jg 0,jf jg 0,jf jg 0,jf jg 0,jf jg 0,jf jg 0,jf jg 0,jf jg 0,jf jg 0,jf jg 0,jf jg 0,jf jg 0,jf jg 0,jf jg 0,jf jg 0,jf jg 0,jf jg 0,jf jg 0] rfl rfl AF.out j3 h7.out ?_)
  change Code.wp _ _ _ _ (W.setCells p 1 (zj jz));rw[hO.out]
  go_wp2_with(first | (refine zq rfl 28 _ rfl p 0 rfl C1 d hG.out Hu.out Hd.out Hz.out ?_) | (refine wpList_store_mid rfl 28 _ _ rfl q 0 C1.toArray rfl rfl hD.out hJ.out HO.out ?_))
  have hN:=run_loadVar_mid (P:=zl) _ q 0 28 C1 d (zn W1 q 0 C1 (by simpa using hD.out)) Hu.out Hd.out Hz.out;refine bodyPost_ret (v := .agg R) ?_ rfl ⟨rfl,(hK.out).trans (jr _ _ _ _) (fun k _ hm => .inr (by omega))⟩;rw[qu rfl];simp[asAddr,Result.andThen,hN,Hbl.out,Act.put]
 by_cases h2:k=2
 ·subst h2;have hC:En.ok ⟨2,dg,[],pl,op,hB,ky,sg⟩:=Hok.out;have hH:En.ok ⟨2,dg,[],[],op,hB,ky,sg⟩:=Hok.out;have hL:=En.setTyp Hok.out HR.out [];have ha:=En.setPay hC hL (.slice none 0 0) [];have hQ:Fr NoB w ((W.setCell ⟨p,33,none⟩ (.string ⟨#[]⟩)).setCell ⟨p,34,none⟩ (.slice none 0 0)):=(HF.out.setNew _ _ hT).setNew _ _ hT;clear c4 hL;have hl:((2:Int)==1)=false:=rfl;have hC33:W.frozen? ⟨p,33,none⟩=false:=(hh.out 33 (by omega)).2;have ht:W.frozen? ⟨p,34,none⟩=false:=(hh.out 34 (by omega)).2;obtain⟨-,-,c33,AE,-,-,-,-⟩:=En.parts Hok.out HR.out;have Hbl:=zi (show(En.cells ⟨2,dg,[],[],op,hB,ky,sg⟩ (.slice none 0 0) sv).toArray=R from hM.out);have Hz:=zi (show(Tryz.prog.info? 28).map (·.size)=some (En.cells ⟨2,dg,[],[],op,hB,ky,sg⟩ (.slice none 0 0) sv).length by rw[j4,En.size hH]);have hJ:=zi (show(Tryz.prog.info? 28).map (·.size)=some (En.cells ⟨2,dg,[],[],op,hB,ky,sg⟩ (.slice none 0 0) sv).toArray.size by rw[j4];simp[En.size hH]);have HO:=zi (En.one (e:=⟨2,dg,[],[],op,hB,ky,sg⟩) (pv:=(.slice none 0 0)) (by first | exact hp | rfl) hs);have hG:=zi ha;have hK:=zi hQ;have hP:=hS.out
  have hD:=zi (show((W.setCell ⟨p,33,none⟩ (.string ⟨#[]⟩)).setCell ⟨p,34,none⟩ (.slice none 0 0)).there q 0 (En.cells ⟨2,dg,[],[],op,hB,ky,sg⟩ (.slice none 0 0) sv).toArray.size by
   rw[show(En.cells ⟨2,dg,[],[],op,hB,ky,sg⟩ (.slice none 0 0) sv).toArray.size=70 by simp[En.size hH]]
   repeat (first | with_reducible exact hP | with_reducible refine World.there_setCells ?_ _ _ _ | with_reducible refine zai ?_ _ _ _))
  obtain⟨W1,hE⟩:∃ W1,(W.setCell ⟨p,33,none⟩ (.string ⟨#[]⟩)).setCell ⟨p,34,none⟩ (.slice none 0 0)=W1:=⟨_,rfl⟩;obtain⟨C1,hI⟩:∃ C,En.cells ⟨2,dg,[],[],op,hB,ky,sg⟩ (.slice none 0 0) sv=C:=⟨_,rfl⟩;rw[hI]at Hbl Hz hJ HO hD hG;rw[hE]at hG hK hD;have hO:=zi hE;clear hE hI
  go_upto_region 12 with(fail)
  change Code.wp _ _ _ _ ((W.setCell ⟨p,33,none⟩ (.string ⟨#[]⟩)).setCell ⟨p,34,none⟩ (.slice none 0 0));rw[hO.out]
  go_wp2_with(first | (refine zq rfl 28 _ rfl p 0 rfl C1 d hG.out Hu.out Hd.out Hz.out ?_) | (refine wpList_store_mid rfl 28 _ _ rfl q 0 C1.toArray rfl rfl hD.out hJ.out HO.out ?_))
  have hN:=run_loadVar_mid (P:=zl) _ q 0 28 C1 d (zn W1 q 0 C1 (by simpa using hD.out)) Hu.out Hd.out Hz.out;refine bodyPost_ret (v := .agg R) ?_ rfl ⟨rfl,(hK.out).trans (jr _ _ _ _) (fun k _ hm => .inr (by omega))⟩;rw[qu rfl];simp[asAddr,Result.andThen,hN,Hbl.out,Act.put]
 by_cases h3:k=3
 ·subst h3;have hC:En.ok ⟨3,dg,ty,[],op,hB,ky,sg⟩:=Hok.out;have hL:=En.setPay Hok.out HR.out (.slice none 0 0) [];have hQ:Fr NoB w (W.setCell ⟨p,34,none⟩ (.slice none 0 0)):=HF.out.setNew _ _ hT;clear c4;have hl:((3:Int)==1)=false:=rfl;have hy:((3:Int)==2)=false:=rfl;have ht:W.frozen? ⟨p,34,none⟩=false:=(hh.out 34 (by omega)).2;obtain⟨-,-,-,AE,-,-,-,-⟩:=En.parts Hok.out HR.out;have Hbl:=zi (show(En.cells ⟨3,dg,ty,[],op,hB,ky,sg⟩ (.slice none 0 0) sv).toArray=R from hM.out);have Hz:=zi (show(Tryz.prog.info? 28).map (·.size)=some (En.cells ⟨3,dg,ty,[],op,hB,ky,sg⟩ (.slice none 0 0) sv).length by rw[j4,En.size hC]);have hJ:=zi (show(Tryz.prog.info? 28).map (·.size)=some (En.cells ⟨3,dg,ty,[],op,hB,ky,sg⟩ (.slice none 0 0) sv).toArray.size by rw[j4];simp[En.size hC]);have HO:=zi (En.one (e:=⟨3,dg,ty,[],op,hB,ky,sg⟩) (pv:=(.slice none 0 0)) (by first | exact hp | rfl) hs);have hG:=zi hL;have hK:=zi hQ;have hP:=hS.out
  have hD:=zi (show(W.setCell ⟨p,34,none⟩ (.slice none 0 0)).there q 0 (En.cells ⟨3,dg,ty,[],op,hB,ky,sg⟩ (.slice none 0 0) sv).toArray.size by
   rw[show(En.cells ⟨3,dg,ty,[],op,hB,ky,sg⟩ (.slice none 0 0) sv).toArray.size=70 by simp[En.size hC]]
   repeat (first | with_reducible exact hP | with_reducible refine World.there_setCells ?_ _ _ _ | with_reducible refine zai ?_ _ _ _))
  obtain⟨W1,hE⟩:∃ W1,W.setCell ⟨p,34,none⟩ (.slice none 0 0)=W1:=⟨_,rfl⟩;obtain⟨C1,hI⟩:∃ C,En.cells ⟨3,dg,ty,[],op,hB,ky,sg⟩ (.slice none 0 0) sv=C:=⟨_,rfl⟩;rw[hI]at Hbl Hz hJ HO hD hG;rw[hE]at hG hK hD;have hO:=zi hE;clear hE hI
  go_upto_region 12 with(fail)
  change Code.wp _ _ _ _ (W.setCell ⟨p,34,none⟩ (.slice none 0 0));rw[hO.out]
  go_wp2_with(first | (refine zq rfl 28 _ rfl p 0 rfl C1 d hG.out Hu.out Hd.out Hz.out ?_) | (refine wpList_store_mid rfl 28 _ _ rfl q 0 C1.toArray rfl rfl hD.out hJ.out HO.out ?_))
  have hN:=run_loadVar_mid (P:=zl) _ q 0 28 C1 d (zn W1 q 0 C1 (by simpa using hD.out)) Hu.out Hd.out Hz.out;refine bodyPost_ret (v := .agg R) ?_ rfl ⟨rfl,(hK.out).trans (jr _ _ _ _) (fun k _ hm => .inr (by omega))⟩;rw[qu rfl];simp[asAddr,Result.andThen,hN,Hbl.out,Act.put]
 by_cases h4:k=4
 ·subst h4;have hl:((4:Int)==1)=false:=rfl;have hy:((4:Int)==2)=false:=rfl;have h9:((4:Int)==3)=false:=rfl;have hg:W.frozen? ⟨p,35,none⟩=false:=(hh.out 35 (by omega)).2;have hf:W.frozen? ⟨p,36,none⟩=false:=(hh.out 36 (by omega)).2;obtain⟨-,-,-,-,-,AD,-,-⟩:=En.parts Hok.out HR.out;by_cases h5:op=3
  ·subst h5;have h8:((3:Int) != 3)=false:=rfl;have hC:En.ok ⟨4,dg,ty,pl,0,hB,ky,sg⟩:=Hok.out;have hH:En.ok ⟨4,dg,ty,pl,0,[],ky,sg⟩:=Hok.out;have hL:=En.setOp Hok.out HR.out 0;have ha:=En.setIdent hC hL [];have hQ:Fr NoB w ((W.setCell ⟨p,35,none⟩ (.int .i64 0)).setCell ⟨p,36,none⟩ (.string ⟨#[]⟩)):=(HF.out.setNew _ _ hT).setNew _ _ hT;clear hL;have Hbl:=zi (show(En.cells ⟨4,dg,ty,pl,0,[],ky,sg⟩ pv sv).toArray=R from hM.out);have Hz:=zi (show(Tryz.prog.info? 28).map (·.size)=some (En.cells ⟨4,dg,ty,pl,0,[],ky,sg⟩ pv sv).length by rw[j4,En.size hH]);have hJ:=zi (show(Tryz.prog.info? 28).map (·.size)=some (En.cells ⟨4,dg,ty,pl,0,[],ky,sg⟩ pv sv).toArray.size by rw[j4];simp[En.size hH]);have HO:=zi (En.one (e:=⟨4,dg,ty,pl,0,[],ky,sg⟩) (pv:=pv) (by first | exact hp | rfl) hs);have hG:=zi ha;have hK:=zi hQ;have hP:=hS.out
   have hD:=zi (show((W.setCell ⟨p,35,none⟩ (.int .i64 0)).setCell ⟨p,36,none⟩ (.string ⟨#[]⟩)).there q 0 (En.cells ⟨4,dg,ty,pl,0,[],ky,sg⟩ pv sv).toArray.size by
    rw[show(En.cells ⟨4,dg,ty,pl,0,[],ky,sg⟩ pv sv).toArray.size=70 by simp[En.size hH]]
    repeat (first | with_reducible exact hP | with_reducible refine World.there_setCells ?_ _ _ _ | with_reducible refine zai ?_ _ _ _))
   obtain⟨W1,hE⟩:∃ W1,(W.setCell ⟨p,35,none⟩ (.int .i64 0)).setCell ⟨p,36,none⟩ (.string ⟨#[]⟩)=W1:=⟨_,rfl⟩;obtain⟨C1,hI⟩:∃ C,En.cells ⟨4,dg,ty,pl,0,[],ky,sg⟩ pv sv=C:=⟨_,rfl⟩;rw[hI]at Hbl Hz hJ HO hD hG;rw[hE]at hG hK hD;have hO:=zi hE;clear hE hI
   go_upto_region 12 with(fail)
   change Code.wp _ _ _ _ ((W.setCell ⟨p,35,none⟩ (.int .i64 0)).setCell ⟨p,36,none⟩ (.string ⟨#[]⟩));rw[hO.out]
   go_wp2_with(first | (refine zq rfl 28 _ rfl p 0 rfl C1 d hG.out Hu.out Hd.out Hz.out ?_) | (refine wpList_store_mid rfl 28 _ _ rfl q 0 C1.toArray rfl rfl hD.out hJ.out HO.out ?_))
   have hN:=run_loadVar_mid (P:=zl) _ q 0 28 C1 d (zn W1 q 0 C1 (by simpa using hD.out)) Hu.out Hd.out Hz.out;refine bodyPost_ret (v := .agg R) ?_ rfl ⟨rfl,(hK.out).trans (jr _ _ _ _) (fun k _ hm => .inr (by omega))⟩;rw[qu rfl];simp[asAddr,Result.andThen,hN,Hbl.out,Act.put]
  have h8:(op != 3)=true:=by simpa using h5
  have hb:=zi (show(En.cells ⟨4,dg,ty,pl,0,[],jz,sg⟩ pv sv).toArray=R by
   have:=hM.out
   simpa[zav,zo0,h5] using this)
  clear hM;have hM:=hb;have hC:En.ok ⟨4,dg,ty,pl,op,hB,jz,sg⟩:=⟨Hok.out.1,rfl,Hok.out.2.2⟩;have hH:En.ok ⟨4,dg,ty,pl,0,hB,jz,sg⟩:=hC;have hU:En.ok ⟨4,dg,ty,pl,0,[],jz,sg⟩:=hC;have hL:=En.setKey Hok.out HR.out jz rfl;have ha:=En.setOp hC hL 0;have h0:=En.setIdent hH ha [];have he:=HF.out.trans (jr p (zj jz) 37 W) (fun k _ hm => .inr (by omega));obtain⟨-,-,-,-,AC,AB,-,-⟩:=En.parts hC hL;have hr:(W.setCells p 37 (zj jz)).frozen? ⟨p,35,none⟩=false:=by rw[World.frozen?_setCells];exact hg
  have ho:(W.setCells p 37 (zj jz)).frozen? ⟨p,36,none⟩=false:=by rw[World.frozen?_setCells];exact hf
  have hY:(W.setCells p 37 (zj jz)).there q 0 70:=World.there_setCells hS.out _ _ _;clear hg hf AD
  go_upto_region 11 with(refine wpList_store_mid rfl 25 _ _ rfl p 37 #[jf jg 0,jf jg 0,jf jg 0,jf jg 0,jf jg 0,jf jg 0,jf jg 0,jf jg 0,jf jg 0,jf jg 0,jf jg 0,jf jg 0,jf jg 0,jf jg 0,jf jg 0,jf jg 0,jf jg 0,jf jg 0,jf jg 0,jf jg 0,jf jg 0,jf jg 0,jf jg 0,jf jg 0,jf jg 0,jf jg 0,jf jg 0,jf jg 0,jf jg 0,jf jg 0,jf jg 0,jf jg 0] rfl rfl hw.out q8 h7.out ?_)
  change Code.wp _ _ _ _ (W.setCells p 37 (zj jz));obtain⟨V,hV⟩:∃ V,W.setCells p 37 (zj jz)=V:=⟨_,rfl⟩;rw[hV]at ha h0 he AC AB hr ho hY ⊢;have hv:=zi hY;clear hV hL ha hS hY c0 c4;have hS:=hv;have hQ:Fr NoB w ((V.setCell ⟨p,35,none⟩ (.int .i64 0)).setCell ⟨p,36,none⟩ (.string ⟨#[]⟩)):=(he.setNew _ _ hT).setNew _ _ hT;clear he;have Hbl:=zi (show(En.cells ⟨4,dg,ty,pl,0,[],jz,sg⟩ pv sv).toArray=R from hM.out);have Hz:=zi (show(Tryz.prog.info? 28).map (·.size)=some (En.cells ⟨4,dg,ty,pl,0,[],jz,sg⟩ pv sv).length by rw[j4,En.size hU]);have hJ:=zi (show(Tryz.prog.info? 28).map (·.size)=some (En.cells ⟨4,dg,ty,pl,0,[],jz,sg⟩ pv sv).toArray.size by rw[j4];simp[En.size hU]);have HO:=zi (En.one (e:=⟨4,dg,ty,pl,0,[],jz,sg⟩) (pv:=pv) (by first | exact hp | rfl) hs);have hG:=zi h0;have hK:=zi hQ;have hP:=hS.out
  have hD:=zi (show((V.setCell ⟨p,35,none⟩ (.int .i64 0)).setCell ⟨p,36,none⟩ (.string ⟨#[]⟩)).there q 0 (En.cells ⟨4,dg,ty,pl,0,[],jz,sg⟩ pv sv).toArray.size by
   rw[show(En.cells ⟨4,dg,ty,pl,0,[],jz,sg⟩ pv sv).toArray.size=70 by simp[En.size hU]]
   repeat (first | with_reducible exact hP | with_reducible refine World.there_setCells ?_ _ _ _ | with_reducible refine zai ?_ _ _ _))
  obtain⟨W1,hE⟩:∃ W1,(V.setCell ⟨p,35,none⟩ (.int .i64 0)).setCell ⟨p,36,none⟩ (.string ⟨#[]⟩)=W1:=⟨_,rfl⟩;obtain⟨C1,hI⟩:∃ C,En.cells ⟨4,dg,ty,pl,0,[],jz,sg⟩ pv sv=C:=⟨_,rfl⟩;rw[hI]at Hbl Hz hJ HO hD hG;rw[hE]at hG hK hD;have hO:=zi hE;clear hE hI
  go_upto_region 12 with(fail)
  change Code.wp _ _ _ _ ((V.setCell ⟨p,35,none⟩ (.int .i64 0)).setCell ⟨p,36,none⟩ (.string ⟨#[]⟩));rw[hO.out]
  go_wp2_with(first | (refine zq rfl 28 _ rfl p 0 rfl C1 d hG.out Hu.out Hd.out Hz.out ?_) | (refine wpList_store_mid rfl 28 _ _ rfl q 0 C1.toArray rfl rfl hD.out hJ.out HO.out ?_))
  have hN:=run_loadVar_mid (P:=zl) _ q 0 28 C1 d (zn W1 q 0 C1 (by simpa using hD.out)) Hu.out Hd.out Hz.out;refine bodyPost_ret (v := .agg R) ?_ rfl ⟨rfl,(hK.out).trans (jr _ _ _ _) (fun k _ hm => .inr (by omega))⟩;rw[qu rfl];simp[asAddr,Result.andThen,hN,Hbl.out,Act.put]
 have hl:(k==1)=false:=by simpa using h1
 have hy:(k==2)=false:=by simpa using h2
 have h9:(k==3)=false:=by simpa using h3
 have hk4:(k==4)=false:=by simpa using h4
 have hb:=zi (show(En.cells ⟨k,dg,ty,pl,op,hB,ky,sg⟩ pv sv).toArray=R by
  have:=hM.out
  simpa[zav,zo0,h1,h2,h3,h4] using this)
 clear hM h1 h2 h3 h4 c4;have hM:=hb;have hX:=Hok.out;have AA:=HR.out;have he:=HF.out;have Hbl:=zi (show(En.cells ⟨k,dg,ty,pl,op,hB,ky,sg⟩ pv sv).toArray=R from hM.out);have Hz:=zi (show(Tryz.prog.info? 28).map (·.size)=some (En.cells ⟨k,dg,ty,pl,op,hB,ky,sg⟩ pv sv).length by rw[j4,En.size hX]);have hJ:=zi (show(Tryz.prog.info? 28).map (·.size)=some (En.cells ⟨k,dg,ty,pl,op,hB,ky,sg⟩ pv sv).toArray.size by rw[j4];simp[En.size hX]);have HO:=zi (En.one (e:=⟨k,dg,ty,pl,op,hB,ky,sg⟩) (pv:=pv) (by first | exact hp | rfl) hs);have hG:=zi AA;have hK:=zi he;have hP:=hS.out
 have hD:=zi (show(W).there q 0 (En.cells ⟨k,dg,ty,pl,op,hB,ky,sg⟩ pv sv).toArray.size by
  rw[show(En.cells ⟨k,dg,ty,pl,op,hB,ky,sg⟩ pv sv).toArray.size=70 by simp[En.size hX]]
  repeat (first | with_reducible exact hP | with_reducible refine World.there_setCells ?_ _ _ _ | with_reducible refine zai ?_ _ _ _))
 obtain⟨W1,hE⟩:∃ W1,W=W1:=⟨_,rfl⟩;obtain⟨C1,hI⟩:∃ C,En.cells ⟨k,dg,ty,pl,op,hB,ky,sg⟩ pv sv=C:=⟨_,rfl⟩;rw[hI]at Hbl Hz hJ HO hD hG;rw[hE]at hG hK hD;have hO:=zi hE;clear hE hI
 go_upto_region 12 with(fail)
 change Code.wp _ _ _ _ (W);rw[hO.out]
 go_wp2_with(first | (refine zq rfl 28 _ rfl p 0 rfl C1 d hG.out Hu.out Hd.out Hz.out ?_) | (refine wpList_store_mid rfl 28 _ _ rfl q 0 C1.toArray rfl rfl hD.out hJ.out HO.out ?_))
 have hN:=run_loadVar_mid (P:=zl) _ q 0 28 C1 d (zn W1 q 0 C1 (by simpa using hD.out)) Hu.out Hd.out Hz.out;refine bodyPost_ret (v := .agg R) ?_ rfl ⟨rfl,(hK.out).trans (jr _ _ _ _) (fun k _ hm => .inr (by omega))⟩;rw[qu rfl];simp[asAddr,Result.andThen,hN,Hbl.out,Act.put]
end
section
open Go.RowKit
variable [OldK]
def zsx (b:Bool) (r:Ending):Prop:=∃ v er,r = .returned (.tuple #[v,er])∧er=if b then .nilIface else .iface 52 (.int .i64 11)
def SubC (sub:Bs→Bool) (e:En) (pv:Value) (w:World):Prop :=
 e.kind=3→∀ W,Fr NoB w W→Calls zl 40 #[pv] W fun r W'=>zsx (sub e.payload) r∧Fr NoB W W'
theorem SubC.fr {sub:Bs→Bool}{e:En}{pv:Value}{w w1:World}(h:SubC sub e pv w)(hF:Fr NoB w w1):SubC sub e pv w1 :=
 fun hk W hW=>h hk W (hF.trans' hW)
theorem zyp (sub:Bs→Bool) (e:En) (a:Option Addr) (cap:Nat) (sv:Value) (w:World) (hok:e.ok) (hsub:SubC sub e (.slice a e.payload.length cap) w) (hty:e.typ.length≤1000000) (hid:e.ident.length≤1000000) (hpl:e.payload.length≤1000000000) :
 Calls zl 113 #[.agg (e.cells (.slice a e.payload.length cap) sv).toArray] w fun r w'=>r = .returned (.bool (zju sub e))∧Fr NoB w w':=by
 have hR:(w.alloc (.cells (e.cells (.slice a e.payload.length cap) sv).toArray 28)).rangeAt w.heap.size 0 (e.cells (.slice a e.payload.length cap) sv):=by simpa using j8 (zo w (.cells (e.cells (.slice a e.payload.length cap) sv).toArray 28))
 have hF:Fr NoB w (w.alloc (.cells (e.cells (.slice a e.payload.length cap) sv).toArray 28)):=Fr.refl.alloc _;obtain⟨c0,-,hN,hH,hM,hL,-,-⟩:=En.parts hok hR;obtain⟨R,hS⟩:∃ R,zju sub e=R:=⟨_,rfl⟩;rw[hS];have hJ:=zi hS;obtain⟨cs,hV⟩:∃ cs,(e.cells (.slice a e.payload.length cap) sv).toArray=cs:=⟨_,rfl⟩;rw[hV]at hF c0 hN hH hM hL ⊢;clear hV hS hR;go_enter Tryz.func113,Tryz.ntmps113
 go_upto_region 1 with(fail)
 change Code.wp _ _ _ _ (w.alloc (.cells cs 28));obtain⟨W,hW⟩:∃ W,w.alloc (.cells cs 28)=W:=⟨_,rfl⟩;rw[hW]at hF c0 hN hH hM hL ⊢;obtain⟨p,hO⟩:∃ p,w.heap.size=p:=⟨_,rfl⟩;rw[hO]at c0 hN hH hM hL;rw[hO];clear hW hO;have HF:=zi hF;have hC:=hsub.fr hF;have hI:=zi hC;clear hF hsub hC hok;obtain⟨k,dg,ty,pl,op,hT,ky,sg⟩:=e;simp only at c0 hN hH hM hL hty hid hpl;by_cases h1:k=1
 ·subst h1;have HP:Hid (true=R):=zi (by simpa[zju] using hJ.out)
  go_wp2_with fail
  go_ret;exact⟨jj HP.out,HF.out⟩
 by_cases h2:k=2
 ·subst h2;have hP:((2:Int)==1)=false:=rfl;obtain⟨b1,hG⟩:∃ b,zci ty=b:=⟨_,rfl⟩;obtain⟨b2,hQ⟩:∃ b,decide ((pl.length:Int)≤2048)=b:=⟨_,rfl⟩;have hE:decide (pl.length≤2048)=b2:=by rw[← hQ];exact decide_eq_decide.2 (by omega)
  have HP:Hid ((b1&&b2)=R):=zi (by rw[← hG,← hE];simpa[zju] using hJ.out);have hD:=zql ty W (by omega);rw[hG]at hD;have Hty:=zi hD;clear hE hD hG h1;cases b1<;>cases b2
  all_goals
   go_wp2_with fail
   refine Hty.out.mono ?_;rintro e w1 ⟨rfl,hB⟩;have c34':=(Fr.cell hB hH);have hK:=zi (HF.out.trans' hB);clear hB
   go_wp2_with fail
   go_ret;exact⟨jj HP.out,hK.out⟩
 by_cases h3:k=3
 ·subst h3;have hP:((3:Int)==1)=false:=rfl;have hU:((3:Int)==2)=false:=rfl;obtain⟨b,hb⟩:∃ b,sub pl=b:=⟨_,rfl⟩;have HP:Hid (b=R):=zi (by rw[← hb];simpa[zju] using hJ.out);have hs:=hI.out rfl W Fr.refl;simp only at hs;rw[hb]at hs;have Hs:=zi hs;clear hs hb h1 h2;cases b
  all_goals
   go_wp2_with fail
   refine Hs.out.mono ?_;rintro r w1 ⟨⟨v,er,rfl,rfl⟩,hB⟩;have hK:=zi (HF.out.trans' hB);clear hB
   go_wp2_with fail
   go_ret;exact⟨jj HP.out,hK.out⟩
 by_cases h4:k=4
 ·subst h4;have hP:((4:Int)==1)=false:=rfl;have hU:((4:Int)==2)=false:=rfl;have hX:((4:Int)==3)=false:=rfl;obtain⟨b1,hG⟩:∃ b,decide (1≤op)=b:=⟨_,rfl⟩;obtain⟨b2,hQ⟩:∃ b,decide (op≤3)=b:=⟨_,rfl⟩;obtain⟨b3,hE⟩:∃ b,zcn hT=b:=⟨_,rfl⟩;have HP:Hid ((b1&&(b2&&b3))=R):=zi (by rw[← hG,← hQ,← hE];simpa[zju] using hJ.out);have hn:=zrv hT W (by omega);rw[hE]at hn;have Hn:=zi hn;clear hn hE h1 h2 h3;cases b1
  ·go_wp2_with fail
   go_ret;exact⟨jj HP.out,HF.out⟩
  cases b2
  ·go_wp2_with fail
   go_ret;exact⟨jj HP.out,HF.out⟩
  go_wp2_with fail
  refine Hn.out.mono ?_;rintro e w1 ⟨rfl,hB⟩;have hK:=zi (HF.out.trans' hB);clear hB
  go_wp2_with fail
  go_ret;exact⟨jj HP.out,hK.out⟩
 have hP:(k==1)=false:=by simpa using h1
 have hU:(k==2)=false:=by simpa using h2
 have hX:(k==3)=false:=by simpa using h3
 have hk4:(k==4)=false:=by simpa using h4
 have HP:Hid (false=R):=zi (by simpa[zju,h1,h2,h3,h4] using hJ.out);clear h1 h2 h3 h4
 go_wp2_with fail
 go_ret;exact⟨jj HP.out,HF.out⟩
end
end Go.Proofs.YtffggpplnjibgaaGreatDoor
