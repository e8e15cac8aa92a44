/-
 The walk of the law KeysRise.
-/
import Derived.Test.YtffggpplnjibgaaGreatDoorKAlive16
import Derived.Test.YtffggpplnjibgaaGreatDoorKLarge16
import Derived.Test.YtffggpplnjibgaaGreatDoorKRiseP
import Derived.Test.YtffggpplnjibgaaGreatDoorKTextsEq
import Derived.Test.YtffggpplnjibgaaGreatDoorKReadEn
open Go.Lib renaming hid→zi,byteCells→zj
open Go.World renaming size_alloc→zm
open Go renaming heap_alloc_new→zo,wpList_load_mid→zq
open List renaming size_toArray→zw
open Nat renaming lt_of_lt_of_le→jb
namespace Go.Proofs.YtffggpplnjibgaaGreatDoor
set_option linter.unusedVariables false
set_option linter.unusedSimpArgs false
set_option linter.unusedSectionVars false
set_option maxRecDepth 100000
set_option maxHeartbeats 8000000
open Go.RowKit Go.Sort Go.Shelf
variable [OldK]
theorem EnIn.fine {w:World}{e:En}{pv sv:Value}(h:EnIn w e pv sv)(hgl:Gl w)(hl:zbz e=false):Fine Old Old e pv sv w:=by
 obtain⟨h1,h2,h3,h4,h5⟩:=zdp hl;exact⟨h.1,h.2.1,h.2.2,hgl,by omega,by omega,by omega,by omega,fun s hs=>by have:=h5 s hs;omega⟩
theorem Sg.put_ok {g:Bs}{s:Sg}(hg:g.length=64)(h:s.ok):(s.put g).ok:=⟨h.1,hg⟩
def PRows (g:Bs) (l:List Sg) (b i:Nat) (w:World):Prop:=b<w.heap.size∧w.there b 0 (l.length * 97)∧∀ j s,l[j]? = some s→w.rangeAt b (j * 97) (if j<i then s.put g else s).cells.toList
theorem ze9 {w:World}{b n:Nat}(h:w.there b 0 n)(o m:Nat)(hm:o+m≤n):w.there b o m:=fun j hj=>by
 have:=h (o+j) (by omega)
 rwa [Nat.zero_add]at this
theorem PRows.step {g:Bs} {l:List Sg} {b i:Nat} {w:World} (h:PRows g l b i w) (hok:∀ s∈l,s.ok) (hg:g.length=64) {x:Sg} (hx:l[i]? = some x):PRows g l b (i+1) (w.setCells b (i * 97+33) (zj g)):=by
 obtain⟨hb,ht,hr⟩:=h;have hC:(zj g).length=64:=by rw[jj,hg]
 have hi:i<l.length:=(List.getElem?_eq_some_iff.1 hx).1;refine⟨jb hb (ji b _ _ w).size,World.there_setCells ht _ _ _,fun j s hj=>?_⟩;have hs:=hok s (List.mem_of_getElem? hj);have hA:=hr j s hj;rcases Nat.lt_trichotomy j i with hlt | rfl | hgt
 ·rw[if_pos hlt]at hA;rw[if_pos (by omega)];refine World.rangeAt_setCells_apart hA _ _ _ (.inr (.inl ?_));rw[Array.length_toList,Sg.size (Sg.put_ok hg hs)];omega
 ·rw[if_neg (by omega)]at hA;rw[if_pos (by omega)];rw[Sg.list,← List.append_assoc]at hA ⊢;have hB:([Value.string ⟨s.id.toArray⟩]++zj s.key).length=33:=by rw[List.length_append,jj,hs.1];rfl
  rw[j7]at hA ⊢;rw[hB]at hA;show _∧World.rangeAt _ b (j * 97+([Value.string ⟨s.id.toArray⟩]++zj s.key).length) (zj g);rw[hB];refine⟨World.rangeAt_setCells_apart hA.1 _ _ _ (.inr (.inl ?_)),World.rangeAt_setCells_same _ _ _ _ (ze9 ht _ _ ?_)⟩
  ·rw[hB];exact Nat.le_refl _
  rw[hC];omega
 rw[if_neg (by omega)]at hA;rw[if_neg (by omega)];exact World.rangeAt_setCells_apart hA _ _ _ (.inr (.inr (by rw[hC];omega)))
theorem PRows.fr {M:Nat→Obj→Prop}{g:Bs}{l:List Sg}{b i:Nat}{w w':World}(h:PRows g l b i w)(hF:Fr M w w')(hM:∀ o,¬ M b o):PRows g l b i w' :=
 ⟨jb h.1 hF.size,zdi h.2.1 hF h.1 hM,fun j s hj=>jo (h.2.2 j s hj) hF h.1 hM⟩
theorem PRows.gs {g:Bs}{l:List Sg}{b c:Nat}{w:World}(h:PRows g l b l.length w)(hc:l.length≤c):GS (fun _=>True) (l.map (Sg.put g)) (.slice (some ⟨b,0,none⟩) l.length c) w:=by
 refine⟨some ⟨b,0,none⟩,c,by rw[List.length_map],by rw[List.length_map];exact hc,.inr ⟨b,0,rfl,trivial,h.1,fun i hi=>?_⟩⟩;rw[List.length_map]at hi;have:=h.2.2 i _ (List.getElem?_eq_getElem hi);rw[if_pos hi]at this;rw[Nat.zero_add,List.getElem_map];exact this
def WR (b o n:Nat) (w:World):Prop:=b<w.heap.size∧∀ j,j<n→(∃ s:Bs,w.cell? ⟨b,o+j,none⟩=some (.string ⟨s.toArray⟩))∧w.frozen? ⟨b,o+j,none⟩=false
theorem SS.wr {S:Nat→Prop}{l:List Bs}{b o c n:Nat}{w:World}(h:SS S l (.slice (some ⟨b,o,none⟩) n c) w)(hl:l≠[]):WR b o l.length w∧S b:=by
 obtain⟨a,c,hv,hc,h | ⟨b',o',ha,hS,hb,hr⟩⟩:=h
 ·exact absurd h.1 hl
 cases hv;cases ha;exact⟨⟨hb,fun j hj=>⟨⟨_,(hr j _ (List.getElem?_eq_getElem hj)).1⟩,(hr j _ (List.getElem?_eq_getElem hj)).2⟩⟩,hS⟩
theorem WR.set {b o n i:Nat} {w:World} (h:WR b o n w) (hi:i<n):WR b o n (w.setCell ⟨b,o+i,none⟩ (.string ⟨#[]⟩)):=by
 refine⟨jb h.1 ((Fr.refl (M:=fun k _=>k=b)).setCell ⟨b,o+i,none⟩ _ (fun _ _=>rfl)).size,fun j hj=>?_⟩;obtain⟨⟨s,hs⟩,hf⟩:=h.2 j hj;refine⟨?_,?_⟩
 ·by_cases hA:j=i
  ·subst hA;refine⟨[],?_⟩;have:=World.cell?_setCell_same w ⟨b,o+j,none⟩ (.string ⟨#[]⟩) hs;exact this
  refine⟨s,?_⟩;rw[World.cell?_setCell_other _ _ _ _ (fun h=>hA (Nat.add_left_cancel (congrArg Addr.off h)).symm)];exact hs
 rw[World.frozen?_setCell];exact hf
theorem zoi {α:Type} {n:Nat} (f:α→List Value) (l:List α) (hk:∀ c∈l,(f c).length=n):∀ j u,(l.flatMap f)[j]? = some u→∃ i x,l[i]? = some x∧i * n≤j∧(f x)[j - i * n]? = some u:=by
 induction l with
 | nil=>intro j u h;simp at h
 | cons x l ih =>
   intro j u h;have hx:=hk x (by simp);rw[List.flatMap_cons]at h;by_cases hj:j<n
   ·rw[List.getElem?_append_left (by omega)]at h;exact⟨0,x,rfl,by omega,by simpa using h⟩
   rw[List.getElem?_append_right (by omega),hx]at h;obtain⟨i,y,h1,h2,h3⟩:=ih (fun c hc=>hk c (by simp[hc])) _ u h;have hm:(i+1) * n=i * n+n:=Nat.succ_mul i n;exact⟨i+1,y,by simpa using h1,by omega,by rw[hm,show j - (i * n+n)=j - n - i * n by omega];exact h3⟩
theorem ziw (l:List Sg) (hk:∀ s∈l,s.ok):(l.flatMap (fun s:Sg=>s.cells.toList)).length=l.length * 97:=by
 induction l with
 | nil=>rfl
 | cons x l ih =>
   rw[List.flatMap_cons,List.length_append,ih (fun c hc=>hk c (by simp[hc])),Array.length_toList,Sg.size (hk x (by simp)),List.length_cons];omega
theorem ziv (l:List Sg):∀ u∈l.flatMap (fun s:Sg=>s.cells.toList),u.oneCell'=true:=by
 intro u hu;obtain⟨s,-,hu⟩:=List.mem_flatMap.1 hu;have h:=Sg.one s;rw[Array.all_eq_true_iff_forall_mem]at h;exact h u (by simpa using hu)
theorem PRows.start {w:World}{base:Nat}{a:Option Addr}{cp:Nat}{l:List Sg}(g:Bs)(h:w.ownsRow base 40 97 (.slice a l.length cp) l.length (l.flatMap (fun s:Sg=>s.cells.toList)))(hk:∀ s∈l,s.ok)(hl:1≤l.length) :
 ∃ b,a=some ⟨b,0,none⟩∧base≤b∧PRows g l b 0 w:=by
 rcases h.2 with⟨-,h2⟩ | ⟨b,cap,cur,h1,h2,h3,h4,h5,h6,-⟩
 ·omega
 obtain⟨rfl,-,rfl⟩:a=some ⟨b,0,none⟩∧l.length=l.length∧cp=cap:=by simpa using h1
 refine⟨b,rfl,h2,jq h3,jw h3 (by rw[h6];exact Nat.mul_le_mul_right _ h4),fun j s hj=>?_⟩;rw[if_neg (by omega)];obtain⟨b',hb,-,-,hr⟩:=zfj (f:=fun s:Sg=>s.cells.toList) (n:=97) h (fun c hc=>by rw[Array.length_toList,Sg.size (hk c hc)]) hj;cases hb;exact hr
theorem SS.low {S:Nat→Prop}{l:List Bs}{v:Value}{w:World}(h:SS S l v w):SS (fun k=>k<w.heap.size) l v w:=by
 obtain⟨a,c,hv,hc,h | ⟨b,o,ha,hS,hb,hr⟩⟩:=h
 ·exact⟨a,c,hv,hc,.inl h⟩
 exact⟨a,c,hv,hc,.inr ⟨b,o,ha,hb,hb,hr⟩⟩
theorem zky (e : En) (pv sv:Value) (g:Bs) (w:World) (hgl:Gl w) (he:EnIn w e pv sv) (hpn:zrk pv) (hg:g.length=64) :
 Calls Tryz.prog 3 #[.agg (e.cells pv sv).toArray,.agg (zj g).toArray] w fun r w'=>r = .returned (.bool true)∧Fr NoB w w':=by
 have h5:=he.1;obtain⟨a3,c3,rfl,hc3,-⟩:=id he.2.2;obtain⟨a1,c1,BL⟩:=he.2.1.form;have Al:pv.oneCell'=true:=by rw[BL];rfl
 have AV:=En.size h5 pv (.slice a3 e.sigs.length c3);have AF:((w.alloc (.cells (e.cells pv (.slice a3 e.sigs.length c3)).toArray 28)).alloc (.cells (zj g).toArray 30)).rangeAt w.heap.size 0 (e.cells pv (.slice a3 e.sigs.length c3)):=World.rangeAt_alloc (by simpa using jz (zo w (.cells (e.cells pv (.slice a3 e.sigs.length c3)).toArray 28))) _
 have AE:((w.alloc (.cells (e.cells pv (.slice a3 e.sigs.length c3)).toArray 28)).alloc (.cells (zj g).toArray 30)).rangeAt (w.heap.size+1) 0 (zj g):=by
  have:=jz (zo (w.alloc (.cells (e.cells pv (.slice a3 e.sigs.length c3)).toArray 28)) (.cells (zj g).toArray 30));rw[zm]at this;simpa using this
 have hF:Fr NoB w ((w.alloc (.cells (e.cells pv (.slice a3 e.sigs.length c3)).toArray 28)).alloc (.cells (zj g).toArray 30)):=(Fr.refl.alloc _).alloc _;have hW:w.heap.size+1<((w.alloc (.cells (e.cells pv (.slice a3 e.sigs.length c3)).toArray 28)).alloc (.cells (zj g).toArray 30)).heap.size:=by rw[zm,zm];omega
 have Hal:=zi (fun V (h:Fr NoB w V)=>zm7 V (hgl.fr h (fun _ _ _ h=>h.elim)));have Hlg:=zi (fun V (h:Fr NoB w V)=>zmd Old Old e pv (.slice a3 e.sigs.length c3) V h5 (he.2.1.fr h (fun _ _ _ _ h=>h)) (he.2.2.fr h (fun _ _ _ h=>h)));have Hin:=zi he;have Hgl:=zi hgl;have h7:=zi (show(Tryz.prog.info? 28).map (·.size)=some (e.cells pv (.slice a3 e.sigs.length c3)).length by rw[jm,AV]);have AP:=zi (show(Tryz.prog.info? 28).map (·.size)=some (e.cells pv (.slice a3 e.sigs.length c3)).toArray.size by rw[jm,zw,AV]);have A3:=zi (show(Tryz.prog.info? 30).map (·.size)=some (zj g).length by rw[zb8,jj,hg]);obtain⟨d,hu,hd⟩:=qm;have Hu:=zi hu;have Hd:=zi hd;obtain⟨LB,Ab⟩:∃ b,zbz e=b:=⟨_,rfl⟩;rw[Ab]at Hlg;have AO:=zi (show Tryz.zeroCells28.size=(e.cells pv (.slice a3 e.sigs.length c3)).toArray.size from Eq.trans (b:=70) (by rfl) (by rw[zw,AV]));have BU:=zi (En.one (e:=e) Al (sv := .slice a3 e.sigs.length c3) rfl);obtain⟨C,hC⟩:∃ C,e.cells pv (.slice a3 e.sigs.length c3)=C:=⟨_,rfl⟩;obtain⟨G,hG⟩:∃ C,zj g=C:=⟨_,rfl⟩;rw[hC,hG]at AF AE hF hW;rw[hC]at h7 AP AO Hlg BU ⊢;rw[hG]at A3 ⊢;have HC:=zi hC;have HG:=zi hG;have Hpn:=zi hpn;clear hu hd hC hG AV hgl he BL Al hpn;go_enter Tryz.func3,Tryz.ntmps3
 go_upto_region 1 with(fail)
 change Code.wp _ _ _ _ ((w.alloc (.cells C.toArray 28)).alloc (.cells G.toArray 30));obtain⟨W,BR⟩:∃ W,(w.alloc (.cells C.toArray 28)).alloc (.cells G.toArray 30)=W:=⟨_,rfl⟩;rw[BR]at AF AE hF hW ⊢;obtain⟨p,hp⟩:∃ p,w.heap.size=p:=⟨_,rfl⟩;obtain⟨q,hq⟩:∃ q,p+1=q:=⟨_,rfl⟩;rw[hp,hq]at AE hW;rw[hp]at AF;rw[hp,hq];have hpq:p<q:=by omega
 have Hp:=zi hp;clear BR hp hq;have hA:=zi AF;have hM:=zi AE;have HF:=zi hF;clear AF AE hF
 go_wp2_with fail
 refine(Hal.out _ HF.out).mono ?_;rintro r w1 ⟨rfl,AL⟩;have hA:=zi (jo hA.out AL (by omega) (fun _ h=>h));have hM:=zi (jo hM.out AL hW (fun _ h=>h));have BI:=jb hW AL.size;have HF:=zi (HF.out.trans' AL);clear AL Hal
 go_wp2_with((with_reducible refine zq ?_ 28 _ rfl p 0 ?_ C d hA.out Hu.out ?_ h7.out ?_);rfl;rfl;exact Hd.out)
 refine(Hlg.out _ HF.out).mono ?_;rintro r w2 ⟨rfl,AJ⟩;have hA:=zi (jo hA.out AJ (by omega) (fun _ h=>h));have hM:=zi (jo hM.out AJ BI (fun _ h=>h));have BH:=jb BI AJ.size;have HF:=zi (HF.out.trans' AJ);clear AJ Hlg;cases LB with
 | true =>
   go_wp2_with fail
   go_ret;exact⟨rfl,HF.out⟩
 | false =>
   obtain⟨hL1,hL2,-⟩:=zdp Ab;have AY:=fun V (h:Fr NoB w V)=>(Hin.out.fr h (fun _ _ _ h=>h)).fine (Hgl.out.fr h (fun _ _ _ h=>h.elim)) Ab
   cases hD:zae zi0 e with
   | false =>
     have Aq:=zi7 _ _ e pv _ w2 (AY _ HF.out) hD;rw[HC.out]at Aq;have Hkb:=zi Aq;clear Aq
     go_wp2_with((with_reducible refine zq ?_ 28 _ rfl p 0 ?_ C d hA.out Hu.out ?_ h7.out ?_);rfl;rfl;exact Hd.out)
     refine Hkb.out.mono ?_;rintro r w3 ⟨rfl,hf⟩;have HF:=zi (HF.out.trans' hf);clear hf
     go_wp2_with fail
     go_ret;exact⟨rfl,HF.out⟩
   | true =>
     have AW:=fun V (h:Fr NoB w V)=>zfn _ _ e pv _ V (AY _ h) (by omega) Hpn.out hD
     rw[HC.out]at AW;have AC:=fun k hk V=>zod k V (zht h5 hD k hk)
     have ho:=zhu h5 hD;have hl:=zmf e;have hN:=zkz g e;have hZ:zae zi0 (e.put g)=true:=by rw[zkt];exact hD
     have Ap:=zk0 hD
     have BJ:1≤e.sigs.length∧e.sigs.length≤8:=by
      obtain⟨-,h2,-⟩:=zcl hD;unfold qw at h2;simp only[Bool.and_eq_true,decide_eq_true_eq]at h2;exact h2.2
     obtain⟨L,hL⟩:∃ L,zac e=L:=⟨_,rfl⟩;rw[hL]at AW AC ho hl hN Ap;have Hko:=zi AW
     have AB:∀ (k:Bs),k∈L→∀ V:World,Calls Tryz.prog 17 #[.string ⟨k.toArray⟩] V fun e w'=>e = .returned (.bool true)∧Fr NoB V w':=fun k hk V=>by
      have h:=AC k hk V;rw[ho k hk]at h;exact h
     have His:=zi AB;clear AB;have Hlt:=zi hl;have Hputs:=zi hN;have AQ:=zi hZ;have Hok:=zi h5;have Hfi:=zi AY;clear AW AC ho hl hN hZ h5 AY hD Ab hL
     go_wp2_with((with_reducible refine zq ?_ 28 _ rfl p 0 ?_ C d hA.out Hu.out ?_ h7.out ?_);rfl;rfl;exact Hd.out)
     refine(Hko.out _ HF.out).mono ?_;rintro r w3 ⟨⟨v,rfl,hJ⟩,hf⟩;have hA:=zi (jo hA.out hf (by omega) (fun _ h=>h));have hM:=zi (jo hM.out hf BH (fun _ h=>h));have BY:=jb BH hf.size;have HF:=zi (HF.out.trans' hf);obtain⟨al,cl,rfl,-⟩:=hJ.form;have HL:=zi hJ.low;obtain⟨B3,A0⟩:∃ B,w3.heap.size=B:=⟨_,rfl⟩;rw[A0]at HL BY;have BF:=zi A0;clear hJ hf A0
     go_wp2_with fail
     go_loopg [30] (L.length+1) (fun gf vi wr=>∃ i:Nat,vi = .int .i64 i∧i≤L.length∧i+gf=L.length+1∧Hid (Fr NoB w3 wr))
     case atStart=>exact⟨0,rfl,by omega,by omega,zi Fr.refl⟩
     case round =>
      obtain⟨i,rfl,hi,Ar,hB⟩:=hrel;by_cases hK:i<L.length
      ·have hQ:decide ((i:Int)<L.length)=true:=decide_eq_true (by omega);have BP:(i:Int)<L.length:=by omega
       obtain⟨b,o,rfl,-,hb,hc⟩:=HL.out.at (List.getElem?_eq_getElem hK);have x1:=Fr.cell hB.out hc;have hH:=His.out L[i] (List.getElem_mem hK);rcases Nat.eq_zero_or_pos i with h0 | hpos
       ·have Bd:decide ((0:Int)<(i:Int))=false:=decide_eq_false (by omega);have hp1:decide (0<i)=false:=decide_eq_false (by omega);obtain⟨k,hk⟩:∃ k,L[i]=k:=⟨_,rfl⟩;rw[hk]at x1 hH;have Hisk:=zi hH;have Hi0:=zi h0;clear hc hH hk h0
        go_wp2_with fail
        refine(Hisk.out _).mono ?_;rintro r w4 ⟨rfl,AI⟩;have Af:=zi (hB.out.trans' AI);clear AI
        go_wp2_with fail
        go_roundg (gk - 1)
        case measure=>omega
        case rel=>exact⟨i+1,by simp,by omega,by omega,Af⟩
       have Bd:decide ((0:Int)<(i:Int))=true:=decide_eq_true (by omega);have BO:i - 1<L.length:=by omega
       obtain⟨b',o',BQ,-,-,At⟩:=HL.out.at (List.getElem?_eq_getElem BO);obtain⟨rfl,rfl⟩:b=b'∧o=o':=by simpa using BQ
       have AZ:Op.bytesLess L[i - 1] L[i]=true:=List.pairwise_iff_getElem.1 Hlt.out (i - 1) i BO hK (by omega);obtain⟨k,hk⟩:∃ k,L[i]=k:=⟨_,rfl⟩;obtain⟨k0,BN⟩:∃ k,L[i - 1]=k:=⟨_,rfl⟩;rw[hk]at x1 hH AZ;rw[BN]at At AZ;have Hisk:=zi hH;have Bi:=zi At;clear hc hH hk BN At BQ
       go_wp2_with fail
       refine(Hisk.out _).mono ?_;rintro r w4 ⟨rfl,AI⟩;have Af:=zi (hB.out.trans' AI);have x0:=Fr.cell Af.out Bi.out;clear AI x1
       go_wp2_with fail
       go_roundg (gk - 1)
       case measure=>omega
       case rel=>exact⟨i+1,by simp,by omega,by omega,Af⟩
      obtain rfl:i=L.length:=by omega
      have hQ:decide ((L.length:Int)<L.length)=false:=by simp
      obtain⟨w4,Aj⟩:∃ z:World,z=wr:=⟨_,rfl⟩;subst Aj;have hA:=zi (jo hA.out hB.out (by rw[BF.out];omega) (fun _ h=>h));have hM:=zi (jo hM.out hB.out (by rw[BF.out];omega) (fun _ h=>h));have HL:=zi (HL.out.fr hB.out (fun _ _ _ h=>h));have HF:=zi (HF.out.trans' hB.out);have BX:B3≤w4.heap.size:=by have h:=hB.out.size;rw[BF.out]at h;exact h
      have AM:=(En.parts Hok.out (by rw[HC.out];exact hA.out)).2.2.2.2.2.2.2;have AX:=Hin.out.2.2.fr HF.out (fun _ _ _ h=>h);obtain⟨a',c',hv,-,AX⟩:=AX;obtain⟨rfl,-,rfl⟩:a3=a'∧e.sigs.length=e.sigs.length∧c3=c':=by simpa using hv
      obtain ⟨b,o,rfl,-,AZ,BK⟩:∃ b o,a3=some ⟨b,o,none⟩∧Old b∧b<w4.heap.size∧∀ i (hi:i<e.sigs.length),w4.rangeAt b (o+i * 97) e.sigs[i].cells.toList:=by
       rcases AX with h | h
       ·have:=BJ.1;rw[h]at this;simp at this
       exact h
      have hP:∀ j u,(e.sigs.flatMap (fun s:Sg=>s.cells.toList))[j]? = some u→w4.cell? ((⟨b,o,none⟩:Addr).add j)=some u:=by
       intro j u hj;obtain⟨i,x,h1,h2,h3⟩:=zoi (n:=97) _ _ (fun c hc=>by rw[Array.length_toList,Sg.size (Hok.out.2.2 c hc)]) j u hj;obtain⟨hi,rfl⟩:=List.getElem?_eq_some_iff.1 h1;have:=BK i hi _ u h3;rw[Addr.add_lit];rw[show o+i * 97+(j - i * 97)=o+j by omega]at this;exact this
      have Au:=ziw e.sigs Hok.out.2.2;have Aw:=ziv e.sigs;obtain⟨XS,Av⟩:∃ X,e.sigs.flatMap (fun s:Sg=>s.cells.toList)=X:=⟨_,rfl⟩;rw[Av]at hP Au Aw;have Hnews:=zi hP;have Bj:=zi Au;have Bl:=zi Aw;have Bk:=zi Av;have hV:=zi AM;have h6:(w4.alloc (.cells C.toArray 28)).heap.size=w4.heap.size+1:=zm _ _;have Ae:=zi (show(w4.alloc (.cells C.toArray 28)).rangeAt w4.heap.size 0 C by simpa using jz (zo w4 (.cells C.toArray 28)));clear AX BK hP Au Aw Av AM hv hK hB hi Ar
      go_upto_region 15 with(first
       | ((with_reducible refine zq ?_ 28 _ rfl p 0 ?_ C d hA.out Hu.out ?_ h7.out ?_);rfl;rfl;exact Hd.out)
       | (refine qn (w:=w4) rfl 28 _ _ rfl Tryz.zeroCells28 C.toArray w4.heap.size rfl rfl rfl AP.out AO.out BU.out ?_))
      obtain⟨W5,Aa⟩:∃ z,w4.alloc (.cells C.toArray 28)=z:=⟨_,rfl⟩;rw[Aa]at Ae h6 ⊢;have Ac:Fr NoB w4 W5:=by rw[← Aa];exact Fr.refl.alloc _
      have A1:W5.heap[w4.heap.size]? = some (.cells C.toArray 28 (0,0)):=by rw[← Aa];exact zo _ _
      obtain⟨cb,hr⟩:∃ z,w4.heap.size=z:=⟨_,rfl⟩;rw[hr]at Ae h6 BX A1 AZ ⊢;have AU:=Lib.cell?_alloc_some (.cells #[] 40) (Fr.cell Ac hV.out)
      have hS:Hid (∀ j u,XS[j]? = some u→(W5.alloc (.cells #[] 40)).cell? ((⟨b,o,none⟩:Addr).add j)=some u):=zi (fun j u h=>by
       have h1:=Hnews.out j u h;rw[Addr.add_lit]at h1 ⊢
       exact Lib.cell?_alloc_some _ (Fr.cell Ac h1))
      obtain⟨is,AC,Bb,Ba,BZ⟩:=info_parts zjk;have BV:=zi A1;have AT:=zi Ac;have Hcb:=zi hr;have hE:=zi h6;clear Aa A1 Ac hr h6 Hnews hV
      go_wp2_with(at_builtin;refine wpList_append_own _ rfl _ _ 26 rfl W5.heap.size 40 is (.agg sgZ) 97 112 Tryz.underlying26 AC Bb Ba BZ rfl (by decide) (.slice (some ⟨W5.heap.size,0,none⟩) 0 0) 0 [] rfl (World.ownsRow_made W5 #[] 0 (Nat.le_refl _) (Nat.zero_le _) rfl) ⟨b,o,none⟩ e.sigs.length c3 XS rfl Bj.out hS.out Bl.out ?k1 ?k2 ?k3 ?_)
      case k1=>unfold maxLen;omega
      case k2=>omega
      case k3=>rw[zm];omega
      intro v' w7 hO hY _;have h6:=hE.out;rw[← Bk.out]at hO
      have AH:Fr NoB W5 w7:=((Fr.refl (M:=NoB)).alloc _).trans (Fr.ofGrown hY) (fun k _ hm => .inr (by
       have h2:some k=some W5.heap.size:=hm
       injection h2 with h2
       omega))
      have hs7:=AH.size;obtain⟨aG,cG,rfl⟩:=zal hO;obtain⟨gb,rfl,hgb,BM⟩:=PRows.start g hO Hok.out.2.2 BJ.1;have ht:=jo Ae.out AH (by omega) (fun _ h=>h);have Ag:=(En.parts Hok.out (by rw[HC.out];exact ht)).2.2.2.2.2.2.2;have BS:=AH.block _ _ BV.out (fun h=>h);have Bg:w7.frozen? ⟨cb,69,none⟩=false:=by simp[World.frozen?,BS]
      have AA:e.sigs.length≤cG:=by
       rcases hO.2 with⟨h,-⟩ | ⟨g',cap,cur,h,-,-,h4,-⟩
       ·simp at h
       obtain⟨-,rfl⟩:gb=g'∧cG=cap:=by simpa using h
       exact h4
      have AS:=zi ht;have BA:=zi (AT.out.trans' AH);have Hpr:=zi BM;clear hO hY ht BS BV BM AH hS
      go_upto_region 16 with(fail)
      have hU:=En.setSigs Hok.out (by rw[HC.out];exact AS.out) (.slice (some ⟨gb,0,none⟩) e.sigs.length cG) (e.sigs.map (Sg.put g));have hh:=Hpr.out.fr ((Fr.refl (M:=fun k _=>k=cb)).setCell ⟨cb,69,none⟩ (.slice (some ⟨gb,0,none⟩) e.sigs.length cG) (fun _ _=>rfl)) (fun _ h=>by omega);have hx:Fr NoB w4 (w7.setCell ⟨cb,69,none⟩ (.slice (some ⟨gb,0,none⟩) e.sigs.length cG)):=BA.out.setNew _ _ (by rw[Hcb.out];exact Nat.le_refl _);obtain⟨W8,Ax⟩:∃ z,w7.setCell ⟨cb,69,none⟩ (.slice (some ⟨gb,0,none⟩) e.sigs.length cG)=z:=⟨_,rfl⟩;rw[Ax]at hU hh hx ⊢;have hT:=put_ok hg Hok.out;have Al:pv.oneCell'=true:=by obtain⟨a1,c1,h⟩:=Hin.out.2.1.form;rw[h];rfl
      have AU:=(En.parts hT hU).2.2.2.2.2.2.2;have h9:=En.size hT pv (.slice (some ⟨gb,0,none⟩) e.sigs.length cG);have AN:Hid ((Tryz.prog.info? 28).map (·.size)=some ((e.put g).cells pv (.slice (some ⟨gb,0,none⟩) e.sigs.length cG)).length):=zi (by rw[jm,h9]);obtain⟨C2,Ad⟩:∃ C2,(e.put g).cells pv (.slice (some ⟨gb,0,none⟩) e.sigs.length cG)=C2:=⟨_,rfl⟩;have ha:W8.rangeAt cb 0 C2:=by rw[← Ad];exact hU
      rw[Ad]at AN;have Br:=zi Ad;have A9:=zi ha;have hA:=zi (jo hA.out hx (by have:=AT.out.size;have:=Hcb.out;omega) (fun _ h=>h));have hM:=zi (jo hM.out hx (by have:=AT.out.size;have:=Hcb.out;omega) (fun _ h=>h));have HL:=zi (HL.out.fr hx (fun _ _ _ h=>h));have Bq:=zi (HF.out.trans' hx);have A7:=zi hT;have As:cb<W8.heap.size:=by have h:=hx.size;have h2:=AT.out.size;have h3:=BA.out.size;rw[← Ax];show cb<(w7.setCell _ _).heap.size;simp;omega
      have A6:=zi hh;have hV:=zi AU;have Bn:Hid (G.toArray.all (·.oneCell')=true):=zi (by rw[← HG.out];exact all_oneCell_toArray (zaa g));have A2:Hid ((Tryz.prog.info? 30).map (·.size)=some G.toArray.size):=zi (by rw[zw];exact A3.out);clear h6 hU ha hh hx Ax hT h9 Ad Ag Bg AS Hpr BA AT Ae
      go_wp2_with fail
      go_loopg [61] (e.sigs.length+1) (fun gf vi wr=>∃ i:Nat,vi = .int .i64 i∧i≤e.sigs.length∧i+gf=e.sigs.length+1∧Hid (PRows g e.sigs gb i wr)∧Hid (Fr (fun k _=>k=gb) W8 wr))
      case atStart=>exact⟨0,rfl,by omega,by omega,A6,zi Fr.refl⟩
      case round =>
       obtain⟨i,rfl,hi,Ar,HP,hB⟩:=hrel;have AU:=Fr.cell hB.out hV.out (fun _ h=>by have:=hE.out;omega);by_cases hK:i<e.sigs.length
       ·have hQ:decide ((i:Int)<e.sigs.length)=true:=decide_eq_true (by omega);have BP:(i:Int)<e.sigs.length:=by omega
        have Bm:=zi (jo hM.out hB.out (by have:=hE.out;omega) (fun _ h=>by have:=hE.out;omega))
        have Hth:=zi (ze9 HP.out.2.1 (i * 97+33) G.toArray.size (by
         have h1:G.toArray.size=64:=by rw[zw,← HG.out,jj,hg]
         rw[h1];omega))
        have Ak:=HP.out.step Hok.out.2.2 hg (List.getElem?_eq_getElem hK);rw[HG.out]at Ak;have Hst:=zi Ak;clear Ak
        go_wp2_with (first
         | ((with_reducible refine zq ?_ 30 _ rfl q 0 ?_ G (.array 64 5) Bm.out qq ?_ A3.out ?_);rfl;rfl;rfl)
         | ((with_reducible refine wpList_store_mid ?_ 30 _ _ rfl gb (i * 97+33) G.toArray ?_ ?_ Hth.out A2.out Bn.out ?_);rfl;rfl;rfl))
        go_roundg (gk - 1)
        case measure=>omega
        case rel=>exact⟨i+1,by simp,by omega,by omega,by simpa using Hst,zi (hB.out.trans' (by simpa using ji gb G (i * 97+33) _))⟩
       obtain rfl:i=e.sigs.length:=by omega
       have hQ:decide ((e.sigs.length:Int)<e.sigs.length)=false:=by simp
       obtain⟨w9,Ai⟩:∃ z:World,z=wr:=⟨_,rfl⟩;subst Ai;have AR:=zi (jo A9.out hB.out As (fun _ h=>by have:=hE.out;omega))
       have Az:Fr NoB w w9:=by
        have h1:=Bq.out;refine h1.trans hB.out (fun k _ hm => .inr ?_);have h2:=HF.out.size;have h3:=hE.out;have h4:=Hcb.out;omega
       have hA:=zi (jo hA.out hB.out (by omega) (fun _ h=>by have:=hE.out;have:=Hcb.out;omega));have HL:=zi (HL.out.fr hB.out (fun _ _ h1 h2=>by have:=hE.out;omega))
       have AD:Fine Old (fun _=>True) (e.put g) pv (.slice (some ⟨gb,0,none⟩) e.sigs.length cG) w9:=by
        have h:=Hfi.out w9 Az;refine⟨A7.out,h.pay,HP.out.gs AA,h.gl,h.typ,h.idn,h.len,by show(e.sigs.map _).length≤1000;rw[List.length_map];omega,fun s hs=>?_⟩;obtain⟨s',Bc,rfl⟩:=List.mem_map.1 hs;exact h.ids s' Bc
       have hn:=zfn _ _ (e.put g) pv _ w9 AD (by show e.payload.length≤500000;omega) Hpn.out AQ.out;rw[Br.out,Hputs.out]at hn;have A8:=zi hn;have BT:=zi Az;clear Az AD hn HP AU
       go_wp2_with((with_reducible refine zq ?_ 28 _ rfl cb 0 ?_ C2 d AR.out Hu.out ?_ AN.out ?_);rfl;rfl;exact Hd.out)
       refine A8.out.mono ?_;rintro r BG ⟨⟨v,rfl,hJ⟩,hR⟩;have HL:=zi (HL.out.fr hR (fun _ _ _ h=>h));have hA:=zi (jo hA.out hR (by have:=hB.out.size;omega) (fun _ h=>h));have An:p<BG.heap.size:=by have:=hB.out.size;have:=hR.size;omega
       have BE:=zi (BT.out.trans' hR);obtain⟨am,cm,rfl,-⟩:=hJ.form;have HM:=zi hJ;have Bf:B3≤w9.heap.size:=by have:=hB.out.size;omega
       have Htx:=zi (zlg _ _ L L (.slice al L.length cl) (.slice am L.length cm) BG HL.out hJ (by omega) (by omega));clear hJ hR AR hM
       go_wp2_with fail
       refine Htx.out.mono ?_;rintro r Ah ⟨rfl,hI⟩;have hLL:(L==L)=true:=by simp
       have HL:=zi (HL.out.fr hI (fun _ _ _ h=>h));have hA:=zi (jo hA.out hI An (fun _ h=>h));have Am:p<Ah.heap.size:=by have:=hI.size;omega
       have BD:=zi (BE.out.trans' hI);have HM:=zi (HM.out.fr hI (fun _ _ _ h=>h));obtain⟨B9,hz⟩:∃ z,w9.heap.size=z:=⟨_,rfl⟩;rw[hz]at HM Bf;have Bt:Hid (w.heap.size≤B9):=zi (by rw[← hz];exact BT.out.size)
       have h8:∀ b o,am=some ⟨b,o,none⟩→L≠[]→WR b o L.length Ah:=fun b o he Ao=>by
        subst he;exact(HM.out.wr Ao).1
       have A4:=zi h8;clear hI hz h8
       go_wp2_with fail
       go_loopg [86] (L.length+1) (fun gf vi wr=>∃ i:Nat,vi = .int .i64 i∧i≤L.length∧i+gf=L.length+1∧Hid (Fr (fun k _=>B9≤k) Ah wr)∧Hid (∀ b o,am=some ⟨b,o,none⟩→L≠[]→WR b o L.length wr))
       case atStart=>exact⟨0,rfl,by omega,by omega,zi Fr.refl,A4⟩
       case round =>
        obtain⟨i,rfl,hi,Ar,hX,Hwr⟩:=hrel;by_cases hK:i<L.length
        ·have hQ : decide ((i:Int)<L.length)=true:=decide_eq_true (by omega);have BP:(i:Int)<L.length:=by omega
         have Ao:L≠[]:=fun h=>by rw[h]at hK;exact absurd hK (by simp)
         obtain⟨bm,om,rfl,Be,-,-⟩:=HM.out.at (List.getElem?_eq_getElem hK);have hw:=Hwr.out bm om rfl Ao;obtain⟨⟨s,x0⟩,f0⟩:=hw.2 i hK;have Hst:=zi (hw.set hK);have Bo:=zi (hX.out.setCell ⟨bm,om+i,none⟩ (.string ⟨#[]⟩) (fun _ _=>Be));clear hw
         go_wp2_with fail
         go_roundg (gk - 1)
         case measure=>omega
         case rel => exact ⟨i+1,by simp,by omega,by omega,Bo,zi (fun b o he _=>by
                      obtain⟨rfl,rfl⟩:bm=b∧om=o:=by simpa using he
                      exact Hst.out)⟩
        obtain rfl:i=L.length:=by omega
        have hQ:decide ((L.length:Int)<L.length)=false:=by simp
        have Ay:=BD.out.trans hX.out (fun k _ hm => .inr (by have:=Bt.out;omega));have hA:=zi (jo hA.out hX.out Am (fun _ h=>by omega));have HL:=zi (HL.out.fr hX.out (fun _ _ h1 h2=>by omega));have Bh:=zi (Hko.out _ Ay);have Bp:=zi Ay;clear Ay
        go_wp2_with((with_reducible refine zq ?_ 28 _ rfl p 0 ?_ C d hA.out Hu.out ?_ h7.out ?_);rfl;rfl;exact Hd.out)
        refine Bh.out.mono ?_;rintro r BW ⟨⟨v,rfl,hJ⟩,hy⟩;have AG:=HL.out.fr hy (fun _ _ _ h=>h);obtain⟨an,cn,rfl,-⟩:=hJ.form;have A5:=zi (zlg _ _ L L (.slice al L.length cl) (.slice an L.length cn) BW AG hJ (by omega) (by omega));have BC:=zi (Bp.out.trans' hy);clear hJ hy AG
        go_wp2_with fail
        refine A5.out.mono ?_;rintro r w13 ⟨rfl,AK⟩;have BB:=zi (BC.out.trans' AK);clear AK
        go_wp2_with fail
        go_ret;exact⟨ju (by simp),BB.out⟩
end Go.Proofs.YtffggpplnjibgaaGreatDoor
