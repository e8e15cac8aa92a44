/-
 The walk of slices.Equal at bytes.
-/
import Derived.Test.YtffggpplnjibgaaGreatDoorKOwn
import Derived.Deep.LoopGhost
import Derived.Deep.QuietTactic
import Derived.BigQuiet
import Derived.KernelRfl
import Derived.Test.YtffggpplnjibgaaGreatDoorKSigEq
import Derived.Test.YtffggpplnjibgaaGreatDoorKConcat
import Derived.Test.YtffggpplnjibgaaGreatDoorKOwnE
import Derived.OrdersHeld
import Derived.Deep.RegionHeld3
import Derived.Test.YtffggpplnjibgaaGreatDoorKKeysS
import Derived.Great.BuildSlice
import Derived.Great.Walk
open Go.Lib renaming hid→zi,byteCells→zj
open Go renaming yieldsIf_load_mid→zr
open Or renaming inl→jc
open Go.Value renaming int→jf
open Go.IntKind renaming u8→jg
namespace Go.Proofs.YtffggpplnjibgaaGreatDoor
set_option linter.unusedVariables false
set_option linter.unusedSimpArgs false
set_option linter.unusedSectionVars false
set_option maxRecDepth 100000
set_option maxHeartbeats 4000000
section
open Go.RowKit
variable [OldK]
theorem SB.drewN {S:Nat→Prop}{l:Bs}{v:Value}{w:World}(h:SB S l v w)(q:Nat):SB S l v (w.drewN q):=h.fr (zow w q) (fun _ _ _ _ h=>h)
theorem zwy (S S':Nat→Prop) (l m:Bs) (v u:Value) (w:World) (hv:SB S l v w) (hu:SB S' m u w) (hl:l.length≤9007199254740992) :
 Calls Tryz.prog 77 #[v,u] w fun e w'=>e = .returned (.bool (l==m))∧∃ q,w'=w.drewN q:=by
 obtain⟨a1,c1,hB⟩:=hv.form;obtain⟨a2,c2,hC⟩:=hu.form;by_cases hG:l.length=m.length
 ·generalize hR:(l==m)=R;have HR:=zi hR;subst hB hC;have Hv:=zi hv;have Hu:=zi hu;have Hlm:=zi hG;rw[← hG];clear hR hv hu hG;go_enter Tryz.func77,Tryz.ntmps77
  go_wp2_with fail
  go_loopg [13] (l.length+1) (fun g vi wr=>∃ (i q:Nat),vi = .int .i64 i∧i≤l.length∧i+g=l.length+1∧Hid (wr=w.drewN q)∧Hid ((l.drop i==m.drop i)=R))
  case atStart=>exact⟨0,0,rfl,by omega,by omega,(World.drewN_zero _).symm,HR⟩
  case round =>
   obtain⟨i,q,rfl,hi,hgk,Hw,HS⟩:=hrel;rcases Nat.lt_or_ge i l.length with hlt | hge
   ·obtain ⟨x,hx⟩:∃ x,l[i]? = some x:=⟨_,List.getElem?_eq_getElem hlt⟩;obtain⟨y,hy⟩:∃ y,m[i]? = some y:=⟨_,List.getElem?_eq_getElem (by have:=Hlm.out;omega)⟩;have hE:=Hv.out.drewN q;have hF:=Hu.out.drewN q;rw[← Hw.out]at hE hF;obtain⟨b1,o1,hJ,hB,k1⟩:=hE.at hx;obtain⟨b2,o2,hI,hC,k2⟩:=hF.at hy;obtain⟨rfl,rfl⟩:a1=some ⟨b1,o1,none⟩∧c1=hJ:=by simpa using hB
    obtain⟨rfl,rfl⟩:a2=some ⟨b2,o2,none⟩∧c2=hI:=by simpa using hC
    have hS:=HS.out;rw[zeb hx,zeb hy,List.cons_beq_cons]at hS
    have hK:((x.toNat:Int) != (y.toNat:Int)) = !(x==y):=by
     rw[Bool.eq_iff_iff];simp only[bne_iff_ne,ne_eq,Bool.not_eq_true',beq_eq_false_iff_ne];constructor
     ·intro h e;exact h (by rw[e])
     intro h e;exact h (UInt8.toNat_inj.1 (by omega))
    cases hH:(x==y) with
    | true =>
      rw[hH]at hS hK;simp only[Bool.true_and]at hS;have hD:=zi hS;clear hS HS hH hE hF hx hy hB hC
      go_wp2_with fail
      go_quiet (fail)
      go_wp2_with fail
      go_roundg (gk - 1)
      case measure=>omega
      case rel=>exact⟨i+1,q+nq,by simp,by omega,by omega,zi (by rw[Hw.out,World.drewN_drewN]),hD⟩
    | false =>
      rw[hH]at hS hK;simp only[Bool.false_and]at hS;have hD:=zi hS;clear hS HS hH hE hF hx hy hB hC
      go_wp2_with fail
      go_quiet (fail)
      go_wp2_with fail
      go_ret;rw[← hD.out,Hw.out,World.drewN_drewN];exact⟨rfl,_,rfl⟩
   obtain rfl:i=l.length:=by omega
   have hS:=HS.out;rw[List.drop_length,Hlm.out,List.drop_length]at hS;have hD:=zi hS;clear hS HS
   go_wp2_with fail
   go_ret;rw[← hD.out,Hw.out];exact⟨rfl,q,rfl⟩
 have hL:(l==m)=false:=by
  rw[beq_eq_false_iff_ne];rintro rfl;exact hG rfl
 have hln:((l.length:Int) != (m.length:Int))=true:=by
  rw[bne_iff_ne];omega
 rw[hL];subst hB hC;clear hv hu hL;go_enter Tryz.func77,Tryz.ntmps77
 go_wp2_with fail
 go_ret;exact⟨rfl,0,(World.drewN_zero _).symm⟩
end
section
open Go.RowKit
variable [OldK]
theorem zx8 (S S' T T':Nat→Prop) (a b:En) (pa pb sa sb:Value) (w:World) (oka:a.ok) (okb:b.ok) (ha:SB S a.payload pa w) (hb:SB S' b.payload pb w) (ga:GS T a.sigs sa w) (gb:GS T' b.sigs sb w)
 (hl:a.payload.length≤9007199254740992) (hl2:a.sigs.length≤1000) :
 Calls Tryz.prog 33 #[.agg (a.cells pa sa).toArray,.agg (b.cells pb sb).toArray] w fun r w'=>r = .returned (.bool (zp5 a b))∧Fr NoB w w':=by
 obtain⟨a1,c1,ea⟩:=ha.form;obtain⟨a2,c2,eb⟩:=hb.form;obtain⟨a3,c3,ec,-⟩:=id ga;obtain⟨a4,c4,ed,-⟩:=id gb;have hn:((w.alloc (.cells (a.cells pa sa).toArray 28)).alloc (.cells (b.cells pb sb).toArray 28)).rangeAt w.heap.size 0 (a.cells pa sa):=World.rangeAt_alloc (by simpa using j8 (heap_alloc_new w (.cells (a.cells pa sa).toArray 28))) _
 have hm:((w.alloc (.cells (a.cells pa sa).toArray 28)).alloc (.cells (b.cells pb sb).toArray 28)).rangeAt (w.heap.size+1) 0 (b.cells pb sb):=by
  have:=j8 (heap_alloc_new (w.alloc (.cells (a.cells pa sa).toArray 28)) (.cells (b.cells pb sb).toArray 28));rw[World.size_alloc]at this;simpa using this
 have hF:Fr NoB w ((w.alloc (.cells (a.cells pa sa).toArray 28)).alloc (.cells (b.cells pb sb).toArray 28)):=(Fr.refl.alloc _).alloc _;obtain⟨p0,p1,hR,hQ,hJ,hO,hN,hM⟩:=En.parts oka hn;obtain⟨q0,q1,hL,hK,hE,hI,hH,hG⟩:=En.parts okb hm;obtain⟨R,he⟩:∃ R,zp5 a b=R:=⟨_,rfl⟩;rw[he];have hp:=zi he;have hC:=fun W (h:Fr NoB w W)=>zwy S S' a.payload b.payload pa pb W (ha.fr h (fun _ _ _ _ h=>h)) (hb.fr h (fun _ _ _ _ h=>h)) hl
 have hB:=fun W (h:Fr NoB w W)=>ztl (ga.fr h (fun _ _ _ h=>h)) (gb.fr h (fun _ _ _ h=>h)) hl2 oka.2.2 okb.2.2
 obtain⟨cs,hk⟩:∃ cs,(a.cells pa sa).toArray=cs:=⟨_,rfl⟩;obtain⟨ct,hj⟩:∃ ct,(b.cells pb sb).toArray=ct:=⟨_,rfl⟩;rw[hk,hj]at hF p0 p1 hR hQ hJ hO hN hM q0 q1 hL hK hE hI hH hG ⊢;clear hk hj he hn hm ha hb ga gb;go_enter Tryz.func33,Tryz.ntmps33
 go_upto_region 1 with(fail)
 change Code.wp _ _ _ _ ((w.alloc (.cells cs 28)).alloc (.cells ct 28));obtain⟨W,hW⟩:∃ W,(w.alloc (.cells cs 28)).alloc (.cells ct 28)=W:=⟨_,rfl⟩;rw[hW]at hF p0 p1 hR hQ hJ hO hN hM q0 q1 hL hK hE hI hH hG ⊢;obtain⟨p,hX⟩:∃ p,w.heap.size=p:=⟨_,rfl⟩;obtain⟨q,hq⟩:∃ q,p+1=q:=⟨_,rfl⟩;rw[hX]at p0 p1 hR hQ hJ hO hN hM q0 q1 hL hK hE hI hH hG;rw[hX,hq];rw[hq]at q0 q1 hL hK hE hI hH hG;clear hW hX hq;have HF:=zi hF;have Heqb:=zi hC;have Heqs:=zi hB;have Hoa:=zi oka;have Hob:=zi okb;clear hF hC hB oka okb hl hl2;obtain⟨k,dg,ty,pl,op,hv,ky,sg⟩:=a;obtain⟨k2,hP,hs,hu,hf,hV,hS,ht⟩:=b;simp only at p0 p1 hR hQ hJ hO hN hM q0 q1 hL hK hE hI hH hG ea eb ec ed;subst ea eb ec ed;obtain⟨b1,hz⟩:∃ x,(k==k2)=x:=⟨_,rfl⟩;obtain⟨b2,hd⟩:∃ x,(dg==hP)=x:=⟨_,rfl⟩;obtain⟨b3,hy⟩:∃ x,(ty==hs)=x:=⟨_,rfl⟩;obtain⟨b4,hc⟩:∃ x,(pl==hu)=x:=⟨_,rfl⟩;obtain⟨b5,hx⟩:∃ x,(op==hf)=x:=⟨_,rfl⟩;obtain⟨b6,hw⟩:∃ x,(hv==hV)=x:=⟨_,rfl⟩;obtain⟨b7,hZ⟩:∃ x,(ky==hS)=x:=⟨_,rfl⟩;obtain⟨b8,hY⟩:∃ x,zfl sg ht=x:=⟨_,rfl⟩;have hi:decide (k=k2)=b1:=hz;have hh:decide (op=hf)=b5:=hx
 have HP:Hid ((b1&&(b2&&(b3&&(b4&&(b5&&(b6&&(b7&&b8)))))))=R):=zi (by
  have:=hp.out;unfold zp5 at this;simp only at this
  rwa [hi,hd,hy,hc,hh,hw,hZ,hY]at this)
 have e2:=zou dg hP Hoa.out.1 Hob.out.1;have e7:=zov ky hS Hoa.out.2.1 Hob.out.2.1;have hC:=Heqb.out;have hB:=Heqs.out;simp only at hC hB;rw[hd]at e2;rw[hZ]at e7;rw[hc]at hC;rw[hY]at hB;have E2:=zi e2;have E7:=zi e7;have hU:=zi hC;have hT:=zi hB;have R1:=zi p1;have R2:=zi q1;have R3:=zi hN;have R4:=zi hH;have Z1:=zi (show(Tryz.prog.info? 23).map (·.size)=some (zj dg).length by rw[j3,jm,Hoa.out.1]);have Z2:=zi (show(Tryz.prog.info? 23).map (·.size)=some (zj hP).length by rw[j3,jm,Hob.out.1]);have Z3:=zi (show(Tryz.prog.info? 25).map (·.size)=some (zj ky).length by rw[q8,jm,Hoa.out.2.1]);have Z4:=zi (show(Tryz.prog.info? 25).map (·.size)=some (zj hS).length by rw[q8,jm,Hob.out.2.1]);clear p1 q1 hN hH hp hi hh hd hc hZ hY e2 e7 hC hB Heqb Heqs Hoa Hob;cases b1
 ·go_wp2_with fail
  go_ret;exact⟨jj HP.out,HF.out⟩
 have e2:=E2.out;cases b2
 ·go_wp2_with(first | ((with_reducible refine jw 23 _ rfl p 1 ?_ (zj dg) _ R1.out ji ?_ Z1.out ?_ ?_);rfl;rfl;rfl) | ((with_reducible refine jw 23 _ rfl q 1 ?_ (zj hP) _ R2.out ji ?_ Z2.out ?_ ?_);rfl;rfl;rfl))
  go_ret;exact⟨jj HP.out,HF.out⟩
 cases b3
 ·go_wp2_with(first | ((with_reducible refine jw 23 _ rfl p 1 ?_ (zj dg) _ R1.out ji ?_ Z1.out ?_ ?_);rfl;rfl;rfl) | ((with_reducible refine jw 23 _ rfl q 1 ?_ (zj hP) _ R2.out ji ?_ Z2.out ?_ ?_);rfl;rfl;rfl))
  go_ret;exact⟨jj HP.out,HF.out⟩
 go_wp2_with(first | ((with_reducible refine jw 23 _ rfl p 1 ?_ (zj dg) _ R1.out ji ?_ Z1.out ?_ ?_);rfl;rfl;rfl) | ((with_reducible refine jw 23 _ rfl q 1 ?_ (zj hP) _ R2.out ji ?_ Z2.out ?_ ?_);rfl;rfl;rfl))
 refine(hU.out _ HF.out).mono ?_;rintro e w1 ⟨rfl,n1,hg⟩;have hD:Fr NoB W w1:=by rw[hg];exact zow W n1
 have x35:=Fr.cell hD hJ;have x36:=Fr.cell hD hO;have x69:=Fr.cell hD hM;have y35:=Fr.cell hD hE;have y36:=Fr.cell hD hI;have y69:=Fr.cell hD hG;have X3:=zi (j0 R3.out hD (World.block_lt_of_cell? _ _ hJ) (fun _ h=>h));have X4:=zi (j0 R4.out hD (World.block_lt_of_cell? _ _ hE) (fun _ h=>h));have hr:=zi (HF.out.trans' hD);clear R1 R2 R3 R4 hg hD p0 hR hQ hJ hO hM q0 hL hK hE hI hG e2 E2 Z1 Z2 HF;have R3:=X3;have R4:=X4;have HF:=hr;clear X3 X4 hr;cases b4
 ·go_wp2_with fail
  go_ret;exact⟨jj HP.out,HF.out⟩
 cases b5
 ·go_wp2_with fail
  go_ret;exact⟨jj HP.out,HF.out⟩
 cases b6
 ·go_wp2_with fail
  go_ret;exact⟨jj HP.out,HF.out⟩
 have e7:=E7.out;cases b7
 ·go_wp2_with(first | ((with_reducible refine jw 25 _ rfl p 37 ?_ (zj ky) _ R3.out jo ?_ Z3.out ?_ ?_);rfl;rfl;rfl) | ((with_reducible refine jw 25 _ rfl q 37 ?_ (zj hS) _ R4.out jo ?_ Z4.out ?_ ?_);rfl;rfl;rfl))
  go_ret;exact⟨jj HP.out,HF.out⟩
 go_wp2_with(first | ((with_reducible refine jw 25 _ rfl p 37 ?_ (zj ky) _ R3.out jo ?_ Z3.out ?_ ?_);rfl;rfl;rfl) | ((with_reducible refine jw 25 _ rfl q 37 ?_ (zj hS) _ R4.out jo ?_ Z4.out ?_ ?_);rfl;rfl;rfl))
 refine(hT.out _ HF.out).mono ?_;rintro e w2 ⟨rfl,ho⟩;have h0:=zi (HF.out.trans' ho);clear ho
 go_wp2_with fail
 go_ret;exact⟨jj HP.out,h0.out⟩
end
section
open Go.RowKit
variable [OldK]
theorem zl2 (k:Int)(l:List Sg)(a:Option Addr)(n c:Nat):((zdz k l).cells (.slice none 0 0) (.slice a n c)).toArray =
 #[.int .i64 k,jf jg 0,jf jg 0,jf jg 0,jf jg 0,jf jg 0,jf jg 0,jf jg 0,jf jg 0,jf jg 0,jf jg 0,jf jg 0,jf jg 0,jf jg 0,jf jg 0,jf jg 0,jf jg 0,jf jg 0,jf jg 0,jf jg 0,jf jg 0,jf jg 0,jf jg 0,jf jg 0,jf jg 0,jf jg 0,jf jg 0,jf jg 0,jf jg 0,jf jg 0,jf jg 0,jf jg 0,jf jg 0,.string ⟨#[]⟩,.slice none 0 0,.int .i64 0,.string ⟨#[]⟩,jf jg 0,jf jg 0,jf jg 0,jf jg 0,jf jg 0,jf jg 0,jf jg 0,jf jg 0,jf jg 0,jf jg 0,jf jg 0,jf jg 0,jf jg 0,jf jg 0,jf jg 0,jf jg 0,jf jg 0,jf jg 0,jf jg 0,jf jg 0,jf jg 0,jf jg 0,jf jg 0,jf jg 0,jf jg 0,jf jg 0,jf jg 0,jf jg 0,jf jg 0,jf jg 0,jf jg 0,jf jg 0,.slice a n c]:=rfl
theorem zio (e:En):(zav e).sigs=e.sigs:=by
 unfold zav
 repeat' split
 all_goals rfl
theorem zpx (e:En):(zav e).payload.length≤e.payload.length:=by
 unfold zav
 repeat' split
 all_goals simp
theorem zpw {S:Nat→Prop}{e:En}{pv:Value}{w:World}(h:SB S e.payload pv w):SB S (zav e).payload (zo0 e pv) w:=by
 unfold zav zo0;by_cases h1:e.kind=1
 ·rw[if_pos h1,if_neg (show ¬ (e.kind=2∨e.kind=3) by omega)];exact h
 by_cases h2:e.kind=2
 ·rw[if_neg h1,if_pos h2,if_pos (.inl h2)];exact SB.nil S w 0
 by_cases h3:e.kind=3
 ·rw[if_neg h1,if_neg h2,if_pos h3,if_pos (.inr h3)];exact SB.nil S w 0
 by_cases h4:e.kind=4
 ·rw[if_neg h1,if_neg h2,if_neg h3,if_pos h4,if_neg (show ¬ (e.kind=2∨e.kind=3) by omega)];exact h
 rw[if_neg h1,if_neg h2,if_neg h3,if_neg h4,if_neg (show ¬ (e.kind=2∨e.kind=3) by omega)];exact h
def zyu (b:Bool):Value:=if b then .nilIface else .iface 52 (.int .i64 11)
theorem zoz (sub:Bs→Bool) (S S':Nat→Prop) (e:En) (pv sv:Value) (w:World) (hok:e.ok) (hb:SB S e.payload pv w) (hg:GS S' e.sigs sv w) (hsub:SubC sub e pv w)
 (hty:e.typ.length≤1000000) (hid:e.ident.length≤1000000) (hpl:e.payload.length≤1000000000) (hsl:e.sigs.length≤1000) (hsi:∀ s∈e.sigs,s.id.length≤1000000) :
 Calls Tryz.prog 52 #[.agg (e.cells pv sv).toArray] w fun r w'=>r = .returned (zyu (zau sub e))∧Fr NoB w w':=by
 obtain⟨a1,c1,ea⟩:=hb.form;obtain⟨a3,c3,rfl,-⟩:=id hg;have hf:pv.oneCell'=true:=by rw[ea];rfl
 have he:(Value.slice a3 e.sigs.length c3).oneCell'=true:=rfl;have hR:(w.alloc (.cells (e.cells pv (.slice a3 e.sigs.length c3)).toArray 28)).rangeAt w.heap.size 0 (e.cells pv (.slice a3 e.sigs.length c3)):=by simpa using j8 (heap_alloc_new w (.cells (e.cells pv (.slice a3 e.sigs.length c3)).toArray 28))
 have hF:Fr NoB w (w.alloc (.cells (e.cells pv (.slice a3 e.sigs.length c3)).toArray 28)):=Fr.refl.alloc _;obtain⟨c0,-,-,-,-,-,-,hO⟩:=En.parts hok hR;have hH:=fun V (h:Fr NoB w V)=>zyp sub e a1 c1 (.slice a3 e.sigs.length c3) V hok (by rw[← ea];exact hsub.fr h) hty hid hpl
 rw[← ea]at hH;have hL:=fun V (h:Fr NoB w V)=>zqx (hg.fr h (fun _ _ _ h=>h)) hsl (fun s hs=>⟨hok.2.2 s hs,hsi s hs⟩)
 have hS:=fun V=>zw2 e pv (.slice a3 e.sigs.length c3) V hok hf he
 have hN:=fun V (h:Fr NoB w V)=>zx8 S S S' S' (zav e) (zdz e.kind e.sigs) (zo0 e pv) (.slice none 0 0) (.slice a3 e.sigs.length c3) (.slice a3 e.sigs.length c3) V (zlu hok) (zsk hok.2.2) (zpw (hb.fr h (fun _ _ _ _ h=>h))) (SB.nil S V 0)
  (by rw[zio];exact hg.fr h (fun _ _ _ h=>h)) (hg.fr h (fun _ _ _ h=>h)) (by have:=zpx e;omega) (by rw[zio];exact hsl)
 have hc:=En.size hok pv (.slice a3 e.sigs.length c3);obtain⟨d,hu,hd⟩:=zaq;have hz:(Tryz.prog.info? 28).map (·.size)=some (e.cells pv (.slice a3 e.sigs.length c3)).length:=by rw[j4,hc]
 obtain⟨R,ha⟩:∃ R,zau sub e=R:=⟨_,rfl⟩;obtain⟨b1,hZ⟩:∃ x,zju sub e=x:=⟨_,rfl⟩;obtain⟨b2,hY⟩:∃ x,zb0 e.sigs=x:=⟨_,rfl⟩;obtain⟨b3,hT⟩:∃ x,zp5 (zav e) (zdz e.kind e.sigs)=x:=⟨_,rfl⟩;have HP:Hid ((b1&&(b2&&b3))=R):=zi (by rw[← ha,← hZ,← hY,← hT];rfl);obtain⟨k,hk⟩:∃ k,e.kind=k:=⟨_,rfl⟩;rw[hk]at hN;simp only[zl2]at hN;rw[hZ]at hH;rw[hY]at hL;rw[hk]at hT;rw[hk]at c0;rw[ha];obtain⟨CB,hh⟩:∃ C,((zav e).cells (zo0 e pv) (.slice a3 e.sigs.length c3)).toArray=C:=⟨_,rfl⟩;obtain⟨C,hC⟩:∃ C,e.cells pv (.slice a3 e.sigs.length c3)=C:=⟨_,rfl⟩;obtain⟨n,hn⟩:∃ n,e.sigs.length=n:=⟨_,rfl⟩;simp only[hT]at hN;rw[hh]at hS hN;rw[hC]at hR hF c0 hO hH hS hz ⊢;rw[hn]at hO hN hL;have Hown:=zi hH;have Hsig:=zi hL;have Hbl:=zi hS;have Heq:=zi hN;have Hz:=zi hz;have Hu:=zi hu;have Hd:=zi hd;clear hH hL hS hN hz hu hd hc hh hC hZ hY hT ha hk ea hok hb hg hsub hty hid hpl hsl hsi hf he;go_enter Tryz.func52,Tryz.ntmps52
 go_upto_region 1 with(fail)
 change Code.wp _ _ _ _ (w.alloc (.cells C.toArray 28));obtain⟨W,hW⟩:∃ W,w.alloc (.cells C.toArray 28)=W:=⟨_,rfl⟩;rw[hW]at hR hF c0 hO ⊢;obtain⟨p,hX⟩:∃ p,w.heap.size=p:=⟨_,rfl⟩;rw[hX]at hR c0 hO;rw[hX];have hQ:p<W.heap.size:=World.block_lt_of_cell? _ _ c0;clear hW hX hn;have HR:=zi hR;have HF:=zi hF;have hI:Hid (Fr NoB W W.drew)∧W.drew.cell? ⟨p,0,none⟩=some (.int .i64 k)∧W.drew.cell? ⟨p,69,none⟩=some (.slice a3 n c3):=⟨zi Fr.refl.drew,by simpa using c0,by simpa using hO⟩;have HH:=zi hI;clear hI hR hF c0 hO;cases b1
 ·refine wp_region_held_drew (S:=fun V=>Hid (Fr NoB W V)∧V.cell? ⟨p,0,none⟩=some (.int .i64 k)∧V.cell? ⟨p,69,none⟩=some (.slice a3 n c3)) (by kernel_rfl) HH.out (fun hB=>?_);simp only[qV];refine qi (i:=0) rfl (zr (by rfl) 28 _ rfl p 0 rfl C d (fun V h=>j0 HR.out h.1.out hQ (fun _ h=>h)) Hu.out Hd.out Hz.out) hB ?_
  try simp only[Act.put,qP]
  refine qr (i:=1) (by kernel_rfl) rfl (fun K hK=>?_)
  try simp only[qQ]
  go_simp;refine(Hown.out _ (HF.out.trans' hB.1.out)).mono ?_;rintro r w1 ⟨rfl,hG⟩;refine hK.out _ _ ⟨zi (hB.1.out.trans' hG),Fr.cell hG hB.2.1,Fr.cell hG hB.2.2⟩ (fun hB=>?_);clear hK K
  try simp only[Act.put,qP]
  have hP:=zi hB.1.out;clear hG
  iterate 18
   first
   | refine qt (v:=undef) rfl (Or.inr ⟨by rfl,rfl⟩) hB ?_
     try simp only[Act.put,qP]
   | refine qt (v:=?_) rfl (jc ⟨by rfl,?_⟩) hB ?_
     rotate_left
     ·intro W hE;obtain⟨-,hJ,hD⟩:=hE
      try simp only[qQ]
      go_simp
      try rw[if_neg (by omega)]
      try with_reducible rfl
     try simp only[Act.put,qP]
  refine wpAnyH_done (by kernel_rfl) ?_ _;clear hB
  go_wp2_with fail
  go_ret;exact⟨by rw[← HP.out];rfl,HF.out.trans' hP.out⟩
 cases b2
 ·refine wp_region_held_drew (S:=fun V=>Hid (Fr NoB W V)∧V.cell? ⟨p,0,none⟩=some (.int .i64 k)∧V.cell? ⟨p,69,none⟩=some (.slice a3 n c3)) (by kernel_rfl) HH.out (fun hB=>?_);simp only[qV];refine qi (i:=0) rfl (zr (by rfl) 28 _ rfl p 0 rfl C d (fun V h=>j0 HR.out h.1.out hQ (fun _ h=>h)) Hu.out Hd.out Hz.out) hB ?_
  try simp only[Act.put,qP]
  refine qr (i:=1) (by kernel_rfl) rfl (fun K hK=>?_)
  try simp only[qQ]
  go_simp;refine(Hown.out _ (HF.out.trans' hB.1.out)).mono ?_;rintro r w1 ⟨rfl,hG⟩;refine hK.out _ _ ⟨zi (hB.1.out.trans' hG),Fr.cell hG hB.2.1,Fr.cell hG hB.2.2⟩ (fun hB=>?_);clear hK K
  try simp only[Act.put,qP]
  have hP:=zi hB.1.out;clear hG
  iterate 4
   refine qt (v:=?_) rfl (jc ⟨by rfl,?_⟩) hB ?_;rotate_left
   ·intro W hE;obtain⟨-,hJ,hD⟩:=hE
    try simp only[qQ]
    go_simp
    try rw[if_neg (by omega)]
    try with_reducible rfl
   try simp only[Act.put,qP]
  refine qr (i:=6) (by kernel_rfl) rfl (fun K hK=>?_)
  try simp only[qQ]
  go_simp;refine(Hsig.out _ (HF.out.trans' hP.out)).mono ?_;rintro r w2 ⟨rfl,hM⟩;refine hK.out _ _ ⟨zi (hB.1.out.trans' hM),Fr.cell hM hB.2.1,Fr.cell hM hB.2.2⟩ (fun hB=>?_);clear hK K
  try simp only[Act.put,qP]
  have hi:=zi hB.1.out;clear hM
  iterate 13
   first
   | refine qt (v:=undef) rfl (Or.inr ⟨by rfl,rfl⟩) hB ?_
     try simp only[Act.put,qP]
   | refine qt (v:=?_) rfl (jc ⟨by rfl,?_⟩) hB ?_
     rotate_left
     ·intro W hE;obtain⟨-,hJ,hD⟩:=hE
      try simp only[qQ]
      go_simp
      try rw[if_neg (by omega)]
      try with_reducible rfl
     try simp only[Act.put,qP]
  refine wpAnyH_done (by kernel_rfl) ?_ _;clear hB
  go_wp2_with fail
  go_ret;exact⟨by rw[← HP.out];rfl,HF.out.trans' hi.out⟩
 cases b3
 all_goals
  refine wp_region_held_drew (S:=fun V=>Hid (Fr NoB W V)∧V.cell? ⟨p,0,none⟩=some (.int .i64 k)∧V.cell? ⟨p,69,none⟩=some (.slice a3 n c3)) (by kernel_rfl) HH.out (fun hB=>?_);simp only[qV];refine qi (i:=0) rfl (zr (by rfl) 28 _ rfl p 0 rfl C d (fun V h=>j0 HR.out h.1.out hQ (fun _ h=>h)) Hu.out Hd.out Hz.out) hB ?_
  try simp only[Act.put,qP]
  refine qr (i:=1) (by kernel_rfl) rfl (fun K hK=>?_)
  try simp only[qQ]
  go_simp;refine(Hown.out _ (HF.out.trans' hB.1.out)).mono ?_;rintro r w1 ⟨rfl,hG⟩;refine hK.out _ _ ⟨zi (hB.1.out.trans' hG),Fr.cell hG hB.2.1,Fr.cell hG hB.2.2⟩ (fun hB=>?_);clear hK K
  try simp only[Act.put,qP]
  have hP:=zi hB.1.out;clear hG
  iterate 4
   refine qt (v:=?_) rfl (jc ⟨by rfl,?_⟩) hB ?_;rotate_left
   ·intro W hE;obtain⟨-,hJ,hD⟩:=hE
    try simp only[qQ]
    go_simp
    try rw[if_neg (by omega)]
    try with_reducible rfl
   try simp only[Act.put,qP]
  refine qr (i:=6) (by kernel_rfl) rfl (fun K hK=>?_)
  try simp only[qQ]
  go_simp;refine(Hsig.out _ (HF.out.trans' hP.out)).mono ?_;rintro r w2 ⟨rfl,hM⟩;refine hK.out _ _ ⟨zi (hB.1.out.trans' hM),Fr.cell hM hB.2.1,Fr.cell hM hB.2.2⟩ (fun hB=>?_);clear hK K
  try simp only[Act.put,qP]
  have hi:=zi hB.1.out;clear hM
  iterate 3
   refine qt (v:=?_) rfl (jc ⟨by rfl,?_⟩) hB ?_;rotate_left
   ·intro W hE;obtain⟨-,hJ,hD⟩:=hE
    try simp only[qQ]
    go_simp
    try rw[if_neg (by omega)]
    try with_reducible rfl
   try simp only[Act.put,qP]
  refine qi (i:=10) rfl (zr (by rfl) 28 _ rfl p 0 rfl C d (fun V h=>j0 HR.out h.1.out hQ (fun _ h=>h)) Hu.out Hd.out Hz.out) hB ?_
  try simp only[Act.put,qP]
  refine qi (i:=12) (v:=?_) rfl (jc ⟨by rfl,?_⟩) hB ?_;rotate_left
  ·intro W hE;obtain⟨-,hJ,hD⟩:=hE
   try simp only[qQ]
   go_simp
   try rw[if_neg (by omega)]
   try with_reducible rfl
  try simp only[Act.put,qP]
  refine qi (i:=13) (v:=?_) rfl (jc ⟨by rfl,?_⟩) hB ?_;rotate_left
  ·intro W hE;obtain⟨-,hJ,hD⟩:=hE
   try simp only[qQ]
   go_simp
   try rw[if_neg (by omega)]
   try with_reducible rfl
  try simp only[Act.put,qP]
  refine qi (i:=14) (v:=?_) rfl (jc ⟨by rfl,?_⟩) hB ?_;rotate_left
  ·intro W hE;obtain⟨-,hJ,hD⟩:=hE
   try simp only[qQ]
   go_simp
   try rw[if_neg (by omega)]
   try with_reducible rfl
  try simp only[Act.put,qP]
  refine qi (i:=15) (v:=?_) rfl (jc ⟨by rfl,?_⟩) hB ?_;rotate_left
  ·intro W hE;obtain⟨-,hJ,hD⟩:=hE
   try simp only[qQ]
   go_simp
   try rw[if_neg (by omega)]
   try with_reducible rfl
  try simp only[Act.put,qP]
  refine qi (i:=16) (v:=?_) rfl (jc ⟨by rfl,?_⟩) hB ?_;rotate_left
  ·intro W hE;obtain⟨-,hJ,hD⟩:=hE
   try simp only[qQ]
   go_simp
   try rw[if_neg (by omega)]
   try with_reducible rfl
  try simp only[Act.put,qP]
  refine qr (i:=11) (by kernel_rfl) rfl (fun K hK=>?_)
  try simp only[qQ]
  go_simp;refine(Hbl.out _).mono ?_;rintro r w3 ⟨rfl,hV⟩;refine hK.out _ _ ⟨zi (hB.1.out.trans' hV),Fr.cell hV hB.2.1,Fr.cell hV hB.2.2⟩ (fun hB=>?_);clear hK K
  try simp only[Act.put,qP]
  have hl:=zi hB.1.out;clear hV;refine qr (i:=17) (by kernel_rfl) rfl (fun K hK=>?_)
  try simp only[qQ]
  go_simp;refine(Heq.out _ (HF.out.trans' hl.out)).mono ?_;rintro r w4 ⟨rfl,hU⟩;refine hK.out _ _ ⟨zi (hB.1.out.trans' hU),Fr.cell hU hB.2.1,Fr.cell hU hB.2.2⟩ (fun hB=>?_);clear hK K
  try simp only[Act.put,qP]
  have hj:=zi hB.1.out;clear hU
  iterate 2
   refine qt (v:=?_) rfl (jc ⟨by rfl,?_⟩) hB ?_;rotate_left
   ·intro W hE;obtain⟨-,hJ,hD⟩:=hE
    try simp only[qQ]
    go_simp
    try rw[if_neg (by omega)]
    try with_reducible rfl
   try simp only[Act.put,qP]
  refine wpAnyH_done (by kernel_rfl) ?_ _;clear hB
  go_wp2_with fail
  go_ret;exact⟨by rw[← HP.out];rfl,HF.out.trans' hj.out⟩
end
section
open Go.RowKit
variable [OldK]
def zvi:Bs:=List.replicate 64 0
end
end Go.Proofs.YtffggpplnjibgaaGreatDoor
