/-
 The walk of slices.Equal at bytes.
-/
import Derived.Test.YtmgfncjfgkllcaaGreatDoorKOwn
import Derived.Deep.LoopGhost
import Derived.Deep.QuietTactic
import Derived.BigQuiet
import Derived.KernelRfl
import Derived.Test.YtmgfncjfgkllcaaGreatDoorKSigEq
import Derived.Test.YtmgfncjfgkllcaaGreatDoorKRefHex
import Derived.Test.YtmgfncjfgkllcaaGreatDoorKOwnE
import Derived.OrdersHeld
import Derived.Deep.RegionHeld3
open Go.Lib renaming hid→za,byteCells→zb
open Go renaming yieldsIf_load_mid→zj
open Or renaming inl→zv
open Go.Value renaming int→zy
open Go.IntKind renaming u8→z6
namespace Go.Proofs.YtmgfncjfgkllcaaGreatDoor
set_option linter.unusedVariables false
set_option linter.unusedSimpArgs false
set_option linter.unusedSectionVars false
set_option maxRecDepth 100000
set_option maxHeartbeats 4000000
section
open Go.RowKit
variable [OldK]
theorem SB.drewN {S:Nat→Prop}{l:Bs}{v:Value}{w:World}(h:SB S l v w)(q:Nat):SB S l v (w.drewN q):=h.fr (zbl w q) (fun _ _ _ _ h=>h)
theorem zv9 (S S':Nat→Prop) (l m:Bs) (v u:Value) (w:World) (hv:SB S l v w) (hu:SB S' m u w) (hl:l.length≤9007199254740992) :
 Calls Tryz.prog 62 #[v,u] w fun e w'=>e = .returned (.bool (l==m))∧∃ q,w'=w.drewN q:=by
 obtain⟨a1,c1,hA⟩:=hv.form;obtain⟨a2,c2,hB⟩:=hu.form;by_cases hF:l.length=m.length
 ·generalize hR:(l==m)=R;have HR:=za hR;subst hA hB;have Hv:=za hv;have Hu:=za hu;have Hlm:=za hF;rw[← hF];clear hR hv hu hF;go_enter Tryz.func62,Tryz.ntmps62
  go_wp2_with fail
  go_loopg [13] (l.length+1) (fun g vi wr=>∃ (i q:Nat),vi = .int .i64 i∧i≤l.length∧i+g=l.length+1∧Hid (wr=w.drewN q)∧Hid ((l.drop i==m.drop i)=R))
  case atStart=>exact⟨0,0,rfl,by omega,by omega,(World.drewN_zero _).symm,HR⟩
  case round =>
   obtain⟨i,q,rfl,hi,hgk,Hw,HS⟩:=hrel;rcases Nat.lt_or_ge i l.length with hlt | hge
   ·obtain ⟨x,hx⟩:∃ x,l[i]? = some x:=⟨_,List.getElem?_eq_getElem hlt⟩;obtain⟨y,hy⟩:∃ y,m[i]? = some y:=⟨_,List.getElem?_eq_getElem (by have:=Hlm.out;omega)⟩;have hD:=Hv.out.drewN q;have hE:=Hu.out.drewN q;rw[← Hw.out]at hD hE;obtain⟨b1,o1,hI,hA,k1⟩:=hD.at hx;obtain⟨b2,o2,hH,hB,k2⟩:=hE.at hy;obtain⟨rfl,rfl⟩:a1=some ⟨b1,o1,none⟩∧c1=hI:=by simpa using hA
    obtain⟨rfl,rfl⟩:a2=some ⟨b2,o2,none⟩∧c2=hH:=by simpa using hB
    have hS:=HS.out;rw[zfu hx,zfu hy,List.cons_beq_cons]at hS
    have hJ:((x.toNat:Int) != (y.toNat:Int)) = !(x==y):=by
     rw[Bool.eq_iff_iff];simp only[bne_iff_ne,ne_eq,Bool.not_eq_true',beq_eq_false_iff_ne];constructor
     ·intro h e;exact h (by rw[e])
     intro h e;exact h (UInt8.toNat_inj.1 (by omega))
    cases hG:(x==y) with
    | true =>
      rw[hG]at hS hJ;simp only[Bool.true_and]at hS;have hC:=za hS;clear hS HS hG hD hE hx hy hA hB
      go_wp2_with fail
      go_quiet (fail)
      go_wp2_with fail
      go_roundg (gk - 1)
      case measure=>omega
      case rel=>exact⟨i+1,q+nq,by simp,by omega,by omega,za (by rw[Hw.out,World.drewN_drewN]),hC⟩
    | false =>
      rw[hG]at hS hJ;simp only[Bool.false_and]at hS;have hC:=za hS;clear hS HS hG hD hE hx hy hA hB
      go_wp2_with fail
      go_quiet (fail)
      go_wp2_with fail
      go_ret;rw[← hC.out,Hw.out,World.drewN_drewN];exact⟨rfl,_,rfl⟩
   obtain rfl:i=l.length:=by omega
   have hS:=HS.out;rw[List.drop_length,Hlm.out,List.drop_length]at hS;have hC:=za hS;clear hS HS
   go_wp2_with fail
   go_ret;rw[← hC.out,Hw.out];exact⟨rfl,q,rfl⟩
 have hK:(l==m)=false:=by
  rw[beq_eq_false_iff_ne];rintro rfl;exact hF rfl
 have hln:((l.length:Int) != (m.length:Int))=true:=by
  rw[bne_iff_ne];omega
 rw[hK];subst hA hB;clear hv hu hK;go_enter Tryz.func62,Tryz.ntmps62
 go_wp2_with fail
 go_ret;exact⟨rfl,0,(World.drewN_zero _).symm⟩
end
section
open Go.RowKit
variable [OldK]
theorem zsd (S S' T T':Nat→Prop) (a b:En) (pa pb sa sb:Value) (w:World) (oka:a.ok) (okb:b.ok) (ha:SB S a.payload pa w) (hb:SB S' b.payload pb w) (ga:GS T a.sigs sa w) (gb:GS T' b.sigs sb w)
 (hl:a.payload.length≤9007199254740992) (hl2:a.sigs.length≤1000000) :
 Calls Tryz.prog 19 #[.agg (a.cells pa sa).toArray,.agg (b.cells pb sb).toArray] w fun r w'=>r = .returned (.bool (zit a b))∧Fr NoB w w':=by
 obtain⟨a1,c1,ea⟩:=ha.form;obtain⟨a2,c2,eb⟩:=hb.form;obtain⟨a3,c3,ec,-⟩:=id ga;obtain⟨a4,c4,ed,-⟩:=id gb;have hm:((w.alloc (.cells (a.cells pa sa).toArray 28)).alloc (.cells (b.cells pb sb).toArray 28)).rangeAt w.heap.size 0 (a.cells pa sa):=World.rangeAt_alloc (by simpa using jh (heap_alloc_new w (.cells (a.cells pa sa).toArray 28))) _
 have hk:((w.alloc (.cells (a.cells pa sa).toArray 28)).alloc (.cells (b.cells pb sb).toArray 28)).rangeAt (w.heap.size+1) 0 (b.cells pb sb):=by
  have:=jh (heap_alloc_new (w.alloc (.cells (a.cells pa sa).toArray 28)) (.cells (b.cells pb sb).toArray 28));rw[World.size_alloc]at this;simpa using this
 have hF:Fr NoB w ((w.alloc (.cells (a.cells pa sa).toArray 28)).alloc (.cells (b.cells pb sb).toArray 28)):=(Fr.refl.alloc _).alloc _;obtain⟨p0,p1,hQ,hP,hI,hN,hM,hL⟩:=En.parts oka hm;obtain⟨q0,q1,hK,hJ,hD,hH,hG,hE⟩:=En.parts okb hk;obtain⟨R,hd⟩:∃ R,zit a b=R:=⟨_,rfl⟩;rw[hd];have ho:=za hd;have hB:=fun W (h:Fr NoB w W)=>zv9 S S' a.payload b.payload pa pb W (ha.fr h (fun _ _ _ _ h=>h)) (hb.fr h (fun _ _ _ _ h=>h)) hl
 have hA:=fun W (h:Fr NoB w W)=>ztb (ga.fr h (fun _ _ _ h=>h)) (gb.fr h (fun _ _ _ h=>h)) hl2 oka.2.2 okb.2.2
 obtain⟨cs,hj⟩:∃ cs,(a.cells pa sa).toArray=cs:=⟨_,rfl⟩;obtain⟨ct,hi⟩:∃ ct,(b.cells pb sb).toArray=ct:=⟨_,rfl⟩;rw[hj,hi]at hF p0 p1 hQ hP hI hN hM hL q0 q1 hK hJ hD hH hG hE ⊢;clear hj hi hd hm hk ha hb ga gb;go_enter Tryz.func19,Tryz.ntmps19
 go_upto_region 1 with(fail)
 change Code.wp _ _ _ _ ((w.alloc (.cells cs 28)).alloc (.cells ct 28));obtain⟨W,hW⟩:∃ W,(w.alloc (.cells cs 28)).alloc (.cells ct 28)=W:=⟨_,rfl⟩;rw[hW]at hF p0 p1 hQ hP hI hN hM hL q0 q1 hK hJ hD hH hG hE ⊢;obtain⟨p,hV⟩:∃ p,w.heap.size=p:=⟨_,rfl⟩;obtain⟨q,hq⟩:∃ q,p+1=q:=⟨_,rfl⟩;rw[hV]at p0 p1 hQ hP hI hN hM hL q0 q1 hK hJ hD hH hG hE;rw[hV,hq];rw[hq]at q0 q1 hK hJ hD hH hG hE;clear hW hV hq;have HF:=za hF;have Heqb:=za hB;have Heqs:=za hA;have Hoa:=za oka;have Hob:=za okb;clear hF hB hA oka okb hl hl2;obtain⟨k,dg,ty,pl,op,hu,ky,sg⟩:=a;obtain⟨k2,hO,hr,ht,he,hU,hR,hs⟩:=b;simp only at p0 p1 hQ hP hI hN hM hL q0 q1 hK hJ hD hH hG hE ea eb ec ed;subst ea eb ec ed;obtain⟨b1,hy⟩:∃ x,(k==k2)=x:=⟨_,rfl⟩;obtain⟨b2,hc⟩:∃ x,(dg==hO)=x:=⟨_,rfl⟩;obtain⟨b3,hx⟩:∃ x,(ty==hr)=x:=⟨_,rfl⟩;obtain⟨b4,hZ⟩:∃ x,(pl==ht)=x:=⟨_,rfl⟩;obtain⟨b5,hw⟩:∃ x,(op==he)=x:=⟨_,rfl⟩;obtain⟨b6,hv⟩:∃ x,(hu==hU)=x:=⟨_,rfl⟩;obtain⟨b7,hY⟩:∃ x,(ky==hR)=x:=⟨_,rfl⟩;obtain⟨b8,hX⟩:∃ x,zdq sg hs=x:=⟨_,rfl⟩;have hh:decide (k=k2)=b1:=hy;have hg:decide (op=he)=b5:=hw
 have HP:Hid ((b1&&(b2&&(b3&&(b4&&(b5&&(b6&&(b7&&b8)))))))=R):=za (by
  have:=ho.out;unfold zit at this;simp only at this
  rwa [hh,hc,hx,hZ,hg,hv,hY,hX]at this)
 have e2:=zue dg hO Hoa.out.1 Hob.out.1;have e7:=zod ky hR Hoa.out.2.1 Hob.out.2.1;have hB:=Heqb.out;have hA:=Heqs.out;simp only at hB hA;rw[hc]at e2;rw[hY]at e7;rw[hZ]at hB;rw[hX]at hA;have E2:=za e2;have E7:=za e7;have hT:=za hB;have hS:=za hA;have R1:=za p1;have R2:=za q1;have R3:=za hM;have R4:=za hG;have Z1:=za (show(Tryz.prog.info? 23).map (·.size)=some (zb dg).length by rw[j8,jd,Hoa.out.1]);have Z2:=za (show(Tryz.prog.info? 23).map (·.size)=some (zb hO).length by rw[j8,jd,Hob.out.1]);have Z3:=za (show(Tryz.prog.info? 25).map (·.size)=some (zb ky).length by rw[zaf,jd,Hoa.out.2.1]);have Z4:=za (show(Tryz.prog.info? 25).map (·.size)=some (zb hR).length by rw[zaf,jd,Hob.out.2.1]);clear p1 q1 hM hG ho hh hg hc hZ hY hX e2 e7 hB hA Heqb Heqs Hoa Hob;cases b1
 ·go_wp2_with fail
  go_ret;exact⟨ju HP.out,HF.out⟩
 have e2:=E2.out;cases b2
 ·go_wp2_with(first | ((with_reducible refine j4 23 _ rfl p 1 ?_ (zb dg) _ R1.out jv ?_ Z1.out ?_ ?_);rfl;rfl;rfl) | ((with_reducible refine j4 23 _ rfl q 1 ?_ (zb hO) _ R2.out jv ?_ Z2.out ?_ ?_);rfl;rfl;rfl))
  go_ret;exact⟨ju HP.out,HF.out⟩
 cases b3
 ·go_wp2_with(first | ((with_reducible refine j4 23 _ rfl p 1 ?_ (zb dg) _ R1.out jv ?_ Z1.out ?_ ?_);rfl;rfl;rfl) | ((with_reducible refine j4 23 _ rfl q 1 ?_ (zb hO) _ R2.out jv ?_ Z2.out ?_ ?_);rfl;rfl;rfl))
  go_ret;exact⟨ju HP.out,HF.out⟩
 go_wp2_with(first | ((with_reducible refine j4 23 _ rfl p 1 ?_ (zb dg) _ R1.out jv ?_ Z1.out ?_ ?_);rfl;rfl;rfl) | ((with_reducible refine j4 23 _ rfl q 1 ?_ (zb hO) _ R2.out jv ?_ Z2.out ?_ ?_);rfl;rfl;rfl))
 refine(hT.out _ HF.out).mono ?_;rintro e w1 ⟨rfl,n1,hf⟩;have hC:Fr NoB W w1:=by rw[hf];exact zbl W n1
 have x35:=Fr.cell hC hI;have x36:=Fr.cell hC hN;have x69:=Fr.cell hC hL;have y35:=Fr.cell hC hD;have y36:=Fr.cell hC hH;have y69:=Fr.cell hC hE;have X3:=za (jf R3.out hC (World.block_lt_of_cell? _ _ hI) (fun _ h=>h));have X4:=za (jf R4.out hC (World.block_lt_of_cell? _ _ hD) (fun _ h=>h));have hp:=za (HF.out.trans' hC);clear R1 R2 R3 R4 hf hC p0 hQ hP hI hN hL q0 hK hJ hD hH hE e2 E2 Z1 Z2 HF;have R3:=X3;have R4:=X4;have HF:=hp;clear X3 X4 hp;cases b4
 ·go_wp2_with fail
  go_ret;exact⟨ju HP.out,HF.out⟩
 cases b5
 ·go_wp2_with fail
  go_ret;exact⟨ju HP.out,HF.out⟩
 cases b6
 ·go_wp2_with fail
  go_ret;exact⟨ju HP.out,HF.out⟩
 have e7:=E7.out;cases b7
 ·go_wp2_with(first | ((with_reducible refine j4 25 _ rfl p 37 ?_ (zb ky) _ R3.out qh ?_ Z3.out ?_ ?_);rfl;rfl;rfl) | ((with_reducible refine j4 25 _ rfl q 37 ?_ (zb hR) _ R4.out qh ?_ Z4.out ?_ ?_);rfl;rfl;rfl))
  go_ret;exact⟨ju HP.out,HF.out⟩
 go_wp2_with(first | ((with_reducible refine j4 25 _ rfl p 37 ?_ (zb ky) _ R3.out qh ?_ Z3.out ?_ ?_);rfl;rfl;rfl) | ((with_reducible refine j4 25 _ rfl q 37 ?_ (zb hR) _ R4.out qh ?_ Z4.out ?_ ?_);rfl;rfl;rfl))
 refine(hS.out _ HF.out).mono ?_;rintro e w2 ⟨rfl,hn⟩;have hz:=za (HF.out.trans' hn);clear hn
 go_wp2_with fail
 go_ret;exact⟨ju HP.out,hz.out⟩
end
section
open Go.RowKit
variable [OldK]
theorem zkz (k:Int)(l:List Sg)(a:Option Addr)(n c:Nat):((qu k l).cells (.slice none 0 0) (.slice a n c)).toArray =
 #[.int .i64 k,zy z6 0,zy z6 0,zy z6 0,zy z6 0,zy z6 0,zy z6 0,zy z6 0,zy z6 0,zy z6 0,zy z6 0,zy z6 0,zy z6 0,zy z6 0,zy z6 0,zy z6 0,zy z6 0,zy z6 0,zy z6 0,zy z6 0,zy z6 0,zy z6 0,zy z6 0,zy z6 0,zy z6 0,zy z6 0,zy z6 0,zy z6 0,zy z6 0,zy z6 0,zy z6 0,zy z6 0,zy z6 0,.string ⟨#[]⟩,.slice none 0 0,.int .i64 0,.string ⟨#[]⟩,zy z6 0,zy z6 0,zy z6 0,zy z6 0,zy z6 0,zy z6 0,zy z6 0,zy z6 0,zy z6 0,zy z6 0,zy z6 0,zy z6 0,zy z6 0,zy z6 0,zy z6 0,zy z6 0,zy z6 0,zy z6 0,zy z6 0,zy z6 0,zy z6 0,zy z6 0,zy z6 0,zy z6 0,zy z6 0,zy z6 0,zy z6 0,zy z6 0,zy z6 0,zy z6 0,zy z6 0,zy z6 0,.slice a n c]:=rfl
theorem zhh (e:En):(zab e).sigs=e.sigs:=by
 unfold zab
 repeat' split
 all_goals rfl
theorem zpq (e:En):(zab e).payload.length≤e.payload.length:=by
 unfold zab
 repeat' split
 all_goals simp
theorem zpp {S:Nat→Prop}{e:En}{pv:Value}{w:World}(h:SB S e.payload pv w):SB S (zab e).payload (zum e pv) w:=by
 unfold zab zum;by_cases h1:e.kind=1
 ·rw[if_pos h1,if_neg (show ¬ (e.kind=2∨e.kind=3) by omega)];exact h
 by_cases h2:e.kind=2
 ·rw[if_neg h1,if_pos h2,if_pos (.inl h2)];exact SB.nil S w 0
 by_cases h3:e.kind=3
 ·rw[if_neg h1,if_neg h2,if_pos h3,if_pos (.inr h3)];exact SB.nil S w 0
 by_cases h4:e.kind=4
 ·rw[if_neg h1,if_neg h2,if_neg h3,if_pos h4,if_neg (show ¬ (e.kind=2∨e.kind=3) by omega)];exact h
 rw[if_neg h1,if_neg h2,if_neg h3,if_neg h4,if_neg (show ¬ (e.kind=2∨e.kind=3) by omega)];exact h
def zxj (b:Bool):Value:=if b then .nilIface else .iface 49 (.int .i64 11)
theorem zk6 (sub:Bs→Bool) (S S':Nat→Prop) (e:En) (pv sv:Value) (w:World) (hok:e.ok) (hb:SB S e.payload pv w) (hg:GS S' e.sigs sv w) (hsub:SubC sub e pv w)
 (hty:e.typ.length≤1000000) (hid:e.ident.length≤1000000) (hpl:e.payload.length≤1000000000) (hsl:e.sigs.length≤1000000) (hsi:∀ s∈e.sigs,s.id.length≤1000000) :
 Calls Tryz.prog 85 #[.agg (e.cells pv sv).toArray] w fun r w'=>r = .returned (zxj (zad sub e))∧Fr NoB w w':=by
 obtain⟨a1,c1,ea⟩:=hb.form;obtain⟨a3,c3,rfl,-⟩:=id hg;have he:pv.oneCell'=true:=by rw[ea];rfl
 have hc:(Value.slice a3 e.sigs.length c3).oneCell'=true:=rfl;have hR:(w.alloc (.cells (e.cells pv (.slice a3 e.sigs.length c3)).toArray 28)).rangeAt w.heap.size 0 (e.cells pv (.slice a3 e.sigs.length c3)):=by simpa using jh (heap_alloc_new w (.cells (e.cells pv (.slice a3 e.sigs.length c3)).toArray 28))
 have hF:Fr NoB w (w.alloc (.cells (e.cells pv (.slice a3 e.sigs.length c3)).toArray 28)):=Fr.refl.alloc _;obtain⟨c0,-,-,-,-,-,-,hN⟩:=En.parts hok hR;have hG:=fun V (h:Fr NoB w V)=>zx0 sub e a1 c1 (.slice a3 e.sigs.length c3) V hok (by rw[← ea];exact hsub.fr h) hty hid hpl
 rw[← ea]at hG;have hJ:=fun V (h:Fr NoB w V)=>zqs (hg.fr h (fun _ _ _ h=>h)) hsl (fun s hs=>⟨hok.2.2 s hs,hsi s hs⟩)
 have hQ:=fun V=>zwf e pv (.slice a3 e.sigs.length c3) V hok he hc
 have hM:=fun V (h:Fr NoB w V)=>zsd S S S' S' (zab e) (qu e.kind e.sigs) (zum e pv) (.slice none 0 0) (.slice a3 e.sigs.length c3) (.slice a3 e.sigs.length c3) V (zkm hok) (zca hok.2.2) (zpp (hb.fr h (fun _ _ _ _ h=>h))) (SB.nil S V 0)
  (by rw[zhh];exact hg.fr h (fun _ _ _ h=>h)) (hg.fr h (fun _ _ _ h=>h)) (by have:=zpq e;omega) (by rw[zhh];exact hsl)
 have ha:=En.size hok pv (.slice a3 e.sigs.length c3);obtain⟨d,hu,hd⟩:=j7;have hz:(Tryz.prog.info? 28).map (·.size)=some (e.cells pv (.slice a3 e.sigs.length c3)).length:=by rw[ja,ha]
 obtain⟨R,hZ⟩:∃ R,zad sub e=R:=⟨_,rfl⟩;obtain⟨b1,hY⟩:∃ x,zra sub e=x:=⟨_,rfl⟩;obtain⟨b2,hX⟩:∃ x,zd2 e.sigs=x:=⟨_,rfl⟩;obtain⟨b3,hS⟩:∃ x,zit (zab e) (qu e.kind e.sigs)=x:=⟨_,rfl⟩;have HP:Hid ((b1&&(b2&&b3))=R):=za (by rw[← hZ,← hY,← hX,← hS];rfl);obtain⟨k,hk⟩:∃ k,e.kind=k:=⟨_,rfl⟩;rw[hk]at hM;simp only[zkz]at hM;rw[hY]at hG;rw[hX]at hJ;rw[hk]at hS;rw[hk]at c0;rw[hZ];obtain⟨CB,hf⟩:∃ C,((zab e).cells (zum e pv) (.slice a3 e.sigs.length c3)).toArray=C:=⟨_,rfl⟩;obtain⟨C,hC⟩:∃ C,e.cells pv (.slice a3 e.sigs.length c3)=C:=⟨_,rfl⟩;obtain⟨n,hn⟩:∃ n,e.sigs.length=n:=⟨_,rfl⟩;simp only[hS]at hM;rw[hf]at hQ hM;rw[hC]at hR hF c0 hN hG hQ hz ⊢;rw[hn]at hN hM hJ;have Hown:=za hG;have Hsig:=za hJ;have Hbl:=za hQ;have Heq:=za hM;have Hz:=za hz;have Hu:=za hu;have Hd:=za hd;clear hG hJ hQ hM hz hu hd ha hf hC hY hX hS hZ hk ea hok hb hg hsub hty hid hpl hsl hsi he hc;go_enter Tryz.func85,Tryz.ntmps85
 go_upto_region 1 with(fail)
 change Code.wp _ _ _ _ (w.alloc (.cells C.toArray 28));obtain⟨W,hW⟩:∃ W,w.alloc (.cells C.toArray 28)=W:=⟨_,rfl⟩;rw[hW]at hR hF c0 hN ⊢;obtain⟨p,hV⟩:∃ p,w.heap.size=p:=⟨_,rfl⟩;rw[hV]at hR c0 hN;rw[hV];have hP:p<W.heap.size:=World.block_lt_of_cell? _ _ c0;clear hW hV hn;have HR:=za hR;have HF:=za hF;have hH:Hid (Fr NoB W W.drew)∧W.drew.cell? ⟨p,0,none⟩=some (.int .i64 k)∧W.drew.cell? ⟨p,69,none⟩=some (.slice a3 n c3):=⟨za Fr.refl.drew,by simpa using c0,by simpa using hN⟩;have HH:=za hH;clear hH hR hF c0 hN;cases b1
 ·refine wp_region_held_drew (S:=fun V=>Hid (Fr NoB W V)∧V.cell? ⟨p,0,none⟩=some (.int .i64 k)∧V.cell? ⟨p,69,none⟩=some (.slice a3 n c3)) (by kernel_rfl) HH.out (fun hA=>?_);simp only[qV];refine qi (i:=0) rfl (zj (by rfl) 28 _ rfl p 0 rfl C d (fun V h=>jf HR.out h.1.out hP (fun _ h=>h)) Hu.out Hd.out Hz.out) hA ?_
  try simp only[Act.put,qP]
  refine qr (i:=1) (by kernel_rfl) rfl (fun K hK=>?_)
  try simp only[qQ]
  go_simp;refine(Hown.out _ (HF.out.trans' hA.1.out)).mono ?_;rintro r w1 ⟨rfl,hE⟩;refine hK.out _ _ ⟨za (hA.1.out.trans' hE),Fr.cell hE hA.2.1,Fr.cell hE hA.2.2⟩ (fun hA=>?_);clear hK K
  try simp only[Act.put,qP]
  have hO:=za hA.1.out;clear hE
  iterate 18
   first
   | refine qt (v:=undef) rfl (Or.inr ⟨by rfl,rfl⟩) hA ?_
     try simp only[Act.put,qP]
   | refine qt (v:=?_) rfl (zv ⟨by rfl,?_⟩) hA ?_
     rotate_left
     ·intro W hD;obtain⟨-,hI,hB⟩:=hD
      try simp only[qQ]
      go_simp
      try rw[if_neg (by omega)]
      try with_reducible rfl
     try simp only[Act.put,qP]
  refine wpAnyH_done (by kernel_rfl) ?_ _;clear hA
  go_wp2_with fail
  go_ret;exact⟨by rw[← HP.out];rfl,HF.out.trans' hO.out⟩
 cases b2
 ·refine wp_region_held_drew (S:=fun V=>Hid (Fr NoB W V)∧V.cell? ⟨p,0,none⟩=some (.int .i64 k)∧V.cell? ⟨p,69,none⟩=some (.slice a3 n c3)) (by kernel_rfl) HH.out (fun hA=>?_);simp only[qV];refine qi (i:=0) rfl (zj (by rfl) 28 _ rfl p 0 rfl C d (fun V h=>jf HR.out h.1.out hP (fun _ h=>h)) Hu.out Hd.out Hz.out) hA ?_
  try simp only[Act.put,qP]
  refine qr (i:=1) (by kernel_rfl) rfl (fun K hK=>?_)
  try simp only[qQ]
  go_simp;refine(Hown.out _ (HF.out.trans' hA.1.out)).mono ?_;rintro r w1 ⟨rfl,hE⟩;refine hK.out _ _ ⟨za (hA.1.out.trans' hE),Fr.cell hE hA.2.1,Fr.cell hE hA.2.2⟩ (fun hA=>?_);clear hK K
  try simp only[Act.put,qP]
  have hO:=za hA.1.out;clear hE
  iterate 4
   refine qt (v:=?_) rfl (zv ⟨by rfl,?_⟩) hA ?_;rotate_left
   ·intro W hD;obtain⟨-,hI,hB⟩:=hD
    try simp only[qQ]
    go_simp
    try rw[if_neg (by omega)]
    try with_reducible rfl
   try simp only[Act.put,qP]
  refine qr (i:=6) (by kernel_rfl) rfl (fun K hK=>?_)
  try simp only[qQ]
  go_simp;refine(Hsig.out _ (HF.out.trans' hO.out)).mono ?_;rintro r w2 ⟨rfl,hL⟩;refine hK.out _ _ ⟨za (hA.1.out.trans' hL),Fr.cell hL hA.2.1,Fr.cell hL hA.2.2⟩ (fun hA=>?_);clear hK K
  try simp only[Act.put,qP]
  have hh:=za hA.1.out;clear hL
  iterate 13
   first
   | refine qt (v:=undef) rfl (Or.inr ⟨by rfl,rfl⟩) hA ?_
     try simp only[Act.put,qP]
   | refine qt (v:=?_) rfl (zv ⟨by rfl,?_⟩) hA ?_
     rotate_left
     ·intro W hD;obtain⟨-,hI,hB⟩:=hD
      try simp only[qQ]
      go_simp
      try rw[if_neg (by omega)]
      try with_reducible rfl
     try simp only[Act.put,qP]
  refine wpAnyH_done (by kernel_rfl) ?_ _;clear hA
  go_wp2_with fail
  go_ret;exact⟨by rw[← HP.out];rfl,HF.out.trans' hh.out⟩
 cases b3
 all_goals
  refine wp_region_held_drew (S:=fun V=>Hid (Fr NoB W V)∧V.cell? ⟨p,0,none⟩=some (.int .i64 k)∧V.cell? ⟨p,69,none⟩=some (.slice a3 n c3)) (by kernel_rfl) HH.out (fun hA=>?_);simp only[qV];refine qi (i:=0) rfl (zj (by rfl) 28 _ rfl p 0 rfl C d (fun V h=>jf HR.out h.1.out hP (fun _ h=>h)) Hu.out Hd.out Hz.out) hA ?_
  try simp only[Act.put,qP]
  refine qr (i:=1) (by kernel_rfl) rfl (fun K hK=>?_)
  try simp only[qQ]
  go_simp;refine(Hown.out _ (HF.out.trans' hA.1.out)).mono ?_;rintro r w1 ⟨rfl,hE⟩;refine hK.out _ _ ⟨za (hA.1.out.trans' hE),Fr.cell hE hA.2.1,Fr.cell hE hA.2.2⟩ (fun hA=>?_);clear hK K
  try simp only[Act.put,qP]
  have hO:=za hA.1.out;clear hE
  iterate 4
   refine qt (v:=?_) rfl (zv ⟨by rfl,?_⟩) hA ?_;rotate_left
   ·intro W hD;obtain⟨-,hI,hB⟩:=hD
    try simp only[qQ]
    go_simp
    try rw[if_neg (by omega)]
    try with_reducible rfl
   try simp only[Act.put,qP]
  refine qr (i:=6) (by kernel_rfl) rfl (fun K hK=>?_)
  try simp only[qQ]
  go_simp;refine(Hsig.out _ (HF.out.trans' hO.out)).mono ?_;rintro r w2 ⟨rfl,hL⟩;refine hK.out _ _ ⟨za (hA.1.out.trans' hL),Fr.cell hL hA.2.1,Fr.cell hL hA.2.2⟩ (fun hA=>?_);clear hK K
  try simp only[Act.put,qP]
  have hh:=za hA.1.out;clear hL
  iterate 3
   refine qt (v:=?_) rfl (zv ⟨by rfl,?_⟩) hA ?_;rotate_left
   ·intro W hD;obtain⟨-,hI,hB⟩:=hD
    try simp only[qQ]
    go_simp
    try rw[if_neg (by omega)]
    try with_reducible rfl
   try simp only[Act.put,qP]
  refine qi (i:=10) rfl (zj (by rfl) 28 _ rfl p 0 rfl C d (fun V h=>jf HR.out h.1.out hP (fun _ h=>h)) Hu.out Hd.out Hz.out) hA ?_
  try simp only[Act.put,qP]
  refine qi (i:=12) (v:=?_) rfl (zv ⟨by rfl,?_⟩) hA ?_;rotate_left
  ·intro W hD;obtain⟨-,hI,hB⟩:=hD
   try simp only[qQ]
   go_simp
   try rw[if_neg (by omega)]
   try with_reducible rfl
  try simp only[Act.put,qP]
  refine qi (i:=13) (v:=?_) rfl (zv ⟨by rfl,?_⟩) hA ?_;rotate_left
  ·intro W hD;obtain⟨-,hI,hB⟩:=hD
   try simp only[qQ]
   go_simp
   try rw[if_neg (by omega)]
   try with_reducible rfl
  try simp only[Act.put,qP]
  refine qi (i:=14) (v:=?_) rfl (zv ⟨by rfl,?_⟩) hA ?_;rotate_left
  ·intro W hD;obtain⟨-,hI,hB⟩:=hD
   try simp only[qQ]
   go_simp
   try rw[if_neg (by omega)]
   try with_reducible rfl
  try simp only[Act.put,qP]
  refine qi (i:=15) (v:=?_) rfl (zv ⟨by rfl,?_⟩) hA ?_;rotate_left
  ·intro W hD;obtain⟨-,hI,hB⟩:=hD
   try simp only[qQ]
   go_simp
   try rw[if_neg (by omega)]
   try with_reducible rfl
  try simp only[Act.put,qP]
  refine qi (i:=16) (v:=?_) rfl (zv ⟨by rfl,?_⟩) hA ?_;rotate_left
  ·intro W hD;obtain⟨-,hI,hB⟩:=hD
   try simp only[qQ]
   go_simp
   try rw[if_neg (by omega)]
   try with_reducible rfl
  try simp only[Act.put,qP]
  refine qr (i:=11) (by kernel_rfl) rfl (fun K hK=>?_)
  try simp only[qQ]
  go_simp;refine(Hbl.out _).mono ?_;rintro r w3 ⟨rfl,hU⟩;refine hK.out _ _ ⟨za (hA.1.out.trans' hU),Fr.cell hU hA.2.1,Fr.cell hU hA.2.2⟩ (fun hA=>?_);clear hK K
  try simp only[Act.put,qP]
  have hj:=za hA.1.out;clear hU;refine qr (i:=17) (by kernel_rfl) rfl (fun K hK=>?_)
  try simp only[qQ]
  go_simp;refine(Heq.out _ (HF.out.trans' hj.out)).mono ?_;rintro r w4 ⟨rfl,hT⟩;refine hK.out _ _ ⟨za (hA.1.out.trans' hT),Fr.cell hT hA.2.1,Fr.cell hT hA.2.2⟩ (fun hA=>?_);clear hK K
  try simp only[Act.put,qP]
  have hi:=za hA.1.out;clear hT
  iterate 2
   refine qt (v:=?_) rfl (zv ⟨by rfl,?_⟩) hA ?_;rotate_left
   ·intro W hD;obtain⟨-,hI,hB⟩:=hD
    try simp only[qQ]
    go_simp
    try rw[if_neg (by omega)]
    try with_reducible rfl
   try simp only[Act.put,qP]
  refine wpAnyH_done (by kernel_rfl) ?_ _;clear hA
  go_wp2_with fail
  go_ret;exact⟨by rw[← HP.out];rfl,HF.out.trans' hi.out⟩
theorem zok (sub:Bs→Bool)(S S':Nat→Prop)(e:En)(pv sv:Value)(w:World)(hok:e.ok)(hb:SB S e.payload pv w)(hg:GS S' e.sigs sv w)(hsub:SubC sub e pv w)
 (hty:e.typ.length≤1000000) (hid:e.ident.length≤1000000) (hpl:e.payload.length≤1000000000) (hsl:e.sigs.length≤1000) (hsi:∀ s∈e.sigs,s.id.length≤1000000) :
 Calls Tryz.prog 85 #[.agg (e.cells pv sv).toArray] w fun r w'=>r = .returned (zxj (zad sub e))∧Fr NoB w w' :=
 zk6 sub S S' e pv sv w hok hb hg hsub hty hid hpl (by omega) hsi
end
end Go.Proofs.YtmgfncjfgkllcaaGreatDoor
