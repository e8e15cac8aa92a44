/-
 The walks of json's reader,further: one of an object.
-/
import Derived.Test.YtffggpplnjibgaaGreatDoorKReader6
import Derived.Test.YtffggpplnjibgaaGreatDoorKSeen
import Derived.Test.YtffggpplnjibgaaGreatDoorKSpecEntry
open Go.Lib renaming hid→zi
open Option.some renaming inj→je
namespace Go.Proofs.YtffggpplnjibgaaGreatDoor
set_option linter.unusedVariables false
set_option linter.unusedSimpArgs false
set_option linter.unusedSectionVars false
set_option maxRecDepth 100000
set_option maxHeartbeats 2000000
open Go.RowKit
attribute [local instance] zb3

theorem zj5:(Tryz.prog.info? 116).map (fun i=>(i.zero,i.size,i.bytes))=some (some (.agg #[.string ⟨#[]⟩,.int .i64 0,.int .i64 0,.string ⟨#[]⟩,.slice none 0 0,.slice none 0 0]),6,96):=by kernel_rfl
def ObjP (r q mq mb bv:Nat) (names:List Bs) (l:List (Bs × J)) (lv:Value) (xs:List Value) (w:World):Prop :=
 Bx q r w∧q<bv∧bv<mb∧w.heap[mq]? = some (.cells #[.map (some mb)] 225 (0,0))∧Seen mb names.length names w ∧
  w.heap[bv]? = some (.cells #[.int .i64 5,.int .i64 0,.string ⟨#[]⟩,.slice none 0 0,lv] 65 (0,0)) ∧
  w.ownsRow (bv+1) 116 6 lv l.length xs∧RP (fun k=>bv<k∧lv.ownBlock≠some k) w l xs
def zmw (r q mq bv:Nat) (l:List (Bs × J)) (w:World):Prop:=∃ mb lv xs,ObjP r q mq mb bv (l.map (·.1)) l lv xs w
theorem zod {r q bv B g cap:Nat} {l:List (Bs × J)} {nm:Bs} {mb mq:Nat} {j:J} {d:Int} {s:Bs} {bad:Bool} {w w1 w2 w3:World} {X Z:Obj} {lv v0 v1 v2 v3 v4:Value} {xs:List Value}
 (hqB:B≤bv) (hR:Rd r s bad d w1) (hF:Fr (ML r B) w w1) (hbw:bv<w.heap.size) (hq:Bx q r w1) (hqb:q<bv) (hqm:bv<mb)
 (hmq:w1.heap[mq]? = some (.cells #[.map (some mb)] 225 (0,0))) (hseen:Seen mb (l.length+1) (l.map (·.1)++[nm]) w1)
 (hown:w1.ownsRow (bv+1) 116 6 lv l.length xs) (hrc:RP (fun k=>bv<k∧lv.ownBlock≠some k) w1 l xs)
 (hb:w1.heap[bv]? = some (.cells #[.int .i64 5,.int .i64 0,.string ⟨#[]⟩,.slice none 0 0,lv] 65 (0,0)))
 (hlw:∀ k,lv.ownBlock=some k→k<w.heap.size)
 (hj:RJ (fun k=>w.heap.size≤k) w1 j (.agg #[v0,v1,v2,v3,v4]))
 (hgr:((w1.alloc X).alloc Z).drew.grownBy w2 lv.ownBlock) (hg2:lv.ownBlock=some g∨w1.heap.size+2≤g)
 (hown3:w3.ownsRow (bv+1) 116 6 (.slice (some ⟨g,0,none⟩) (l.length+1) cap) (l.length+1) (xs++[.string ⟨nm.toArray⟩,v0,v1,v2,v3,v4]))
 (hb3:w3.heap[bv]? = some (.cells #[.int .i64 5,.int .i64 0,.string ⟨#[]⟩,.slice none 0 0,.slice (some ⟨g,0,none⟩) (l.length+1) cap] 65 (0,0)))
 (h3:But2 g bv w2 w3):Rd r s bad d w3∧zmw r q mq bv (l++[(nm,j)]) w3∧Fr (ML r B) w w3:=by
 have hC:Fr (fun k _=>lv.ownBlock=some k∨k=g∨k=bv) w1 w3 :=
  ((zlh hgr).mono (fun _ _ h => .inl h)).trans h3.fr (fun _ _ h => .inl (.inr h))
 have hD:=zcj hown
 have hK:∀ o,w1.heap[g]? = some o→OfTy 116 o∧bv<g:=by
  intro o ho;rcases hg2 with hg | hg
  ·obtain⟨h1,o',h2,h3⟩:=hD g hg;rw[ho]at h2;exact⟨(je h2)▸h3,h1⟩
  have:=ju ho;omega
 have hM:∀ k,(OfTy 65 k∨OfTy 116 k)→¬ OfTy 179 k:=by
  rintro k (⟨_,_,rfl⟩ | ⟨_,_,rfl⟩) ⟨_,_,h⟩<;>simp at h
 have hJ:∀ k,(OfTy 65 k∨OfTy 116 k)→¬ OfTy 177 k:=by
  rintro k (⟨_,_,rfl⟩ | ⟨_,_,rfl⟩) ⟨_,_,h⟩<;>simp at h
 have hN:∀ k,(OfTy 65 k∨OfTy 116 k)→¬ OfTy 225 k:=by
  rintro k (⟨_,_,rfl⟩ | ⟨_,_,rfl⟩) ⟨_,_,h⟩<;>simp at h
 have hO:∀ k,(OfTy 65 k∨OfTy 116 k)→¬ zev k:=by
  rintro k (⟨_,_,rfl⟩ | ⟨_,_,rfl⟩) ⟨_,_,h⟩<;>simp at h
 have hB:∀ k,(lv.ownBlock=some k∨k=g∨k=bv)→∀ o,w1.heap[k]? = some o→(OfTy 65 o∨OfTy 116 o)∧B≤k:=by
  rintro k hk o ho;rcases hk with hk | rfl | rfl
  ·obtain⟨h1,o',h2,h3⟩:=hD k hk;rw[ho]at h2;exact⟨.inr ((je h2)▸h3),by omega⟩
  ·exact⟨.inr (hK o ho).1,by have:=(hK o ho).2;omega⟩
  rw[hb]at ho;exact⟨.inl ⟨_,_,(je ho).symm⟩,by omega⟩
 refine⟨⟨hR.1,hC.block _ _ hR.2 (fun hm=>hM _ (hB _ hm _ hR.2).1 ⟨_,_,rfl⟩)⟩,⟨mb,_,_,hC.block _ _ hq (fun hm=>hJ _ (hB _ hm _ hq).1 ⟨_,_,rfl⟩),hqb,hqm,hC.block _ _ hmq (fun hm=>hN _ (hB _ hm _ hmq).1 ⟨_,_,rfl⟩),?_,hb3,by simpa using hown3,?_⟩,?_⟩
 ·obtain ⟨om,hom⟩:=zd8 hseen.lt
  have hL:=hseen.fr hC (fun o ho hm=>by
   have hH:∃ es c,w1.heap[mb]? = some (.map es c):=by
    obtain⟨D,⟨es,clock,h1,_⟩,_⟩:=hseen;exact⟨_,_,h1⟩
   obtain⟨es,c,hH⟩:=hH
   exact hO _ (hB _ hm _ hH).1 ⟨_,_,rfl⟩)
  simpa using hL
 ·have hG:(Value.slice (some ⟨g,0,none⟩) (l.length+1) cap).ownBlock=some g:=rfl;rw[hG];refine RP.append l xs [(nm,j)] _ (RP.kp ?_ l xs hrc) (RP.one (RJ.kp ?_ j _ hj))
  ·intro b o hs ho _
   have hE:b≠g:=by
    rintro rfl;rcases hg2 with hg | hg
    ·exact hs.2 hg
    have:=ju ho;omega
   exact ⟨⟨hs.1,fun e=>hE (by simpa using e.symm)⟩,hC.block b o ho (fun hm=>by
    rcases hm with hm | hm | hm
    ·exact hs.2 hm
    ·exact hE hm
    omega)⟩
  intro b o hs ho _
  have hE:b≠g:=by
   rintro rfl;rcases hg2 with hg | hg
   ·have:=hlw _ hg;omega
   have:=ju ho;omega
  exact ⟨⟨by omega,fun e=>hE (by simpa using e.symm)⟩,hC.block b o ho (fun hm=>by
   rcases hm with hm | hm | hm
   ·have:=hlw _ hm;omega
   ·exact hE hm
   omega)⟩
 refine⟨hC.os.trans hF.os,hC.tape.trans hF.tape,hC.output.trans hF.output,Nat.le_trans hF.size hC.size,fun k o hk hn=>?_⟩;have hI:=hF.block k o hk hn;exact hC.block k o hI (fun hm=>hn (.inr ⟨(hB k hm o hI).2,hJ _ (hB k hm o hI).1⟩))
theorem zrj {r q bv B g cap:Nat} {l:List (Bs × J)} {nm:Bs} {mb mq:Nat} {j:J} {d:Int} {s:Bs} {bad:Bool} {w w1 w2:World} {X Z:Obj} {lv v0 v1 v2 v3 v4 z0 z1 z2 z3 z4 z5:Value} {xs:List Value}
 (hqB:B≤bv) (hR:Rd r s bad d w1) (hF:Fr (ML r B) w w1) (hbw:bv<w.heap.size) (hq:Bx q r w1) (hqb:q<bv) (hqm:bv<mb)
 (hmq:w1.heap[mq]? = some (.cells #[.map (some mb)] 225 (0,0))) (hseen:Seen mb (l.length+1) (l.map (·.1)++[nm]) w1)
 (hown:w1.ownsRow (bv+1) 116 6 lv l.length xs) (hrc:RP (fun k=>bv<k∧lv.ownBlock≠some k) w1 l xs)
 (hb:w1.heap[bv]? = some (.cells #[.int .i64 5,.int .i64 0,.string ⟨#[]⟩,.slice none 0 0,lv] 65 (0,0)))
 (hlw:∀ k,lv.ownBlock=some k→k<w.heap.size)
 (hj:RJ (fun k=>w.heap.size≤k) w1 j (.agg #[v0,v1,v2,v3,v4]))
 (hgr:((w1.alloc X).alloc Z).drew.grownBy w2 lv.ownBlock) (hg2:lv.ownBlock=some g∨w1.heap.size+2≤g) (hgb:¬ g=bv)
 (hown2:w2.ownsRow (bv+1) 116 6 (.slice (some ⟨g,0,none⟩) (l.length+1) cap) (l.length+1) (xs++[z0,z1,z2,z3,z4,z5]))
 (hb2:w2.heap[bv]? = some (.cells #[.int .i64 5,.int .i64 0,.string ⟨#[]⟩,.slice none 0 0,lv] 65 (0,0))) (w3:World)
 (h3:w3=(put6 g (l.length * 6) (.string ⟨nm.toArray⟩) v0 v1 v2 v3 v4 w2).setCell ⟨bv,4,none⟩ (.slice (some ⟨g,0,none⟩) (l.length+1) cap) ∨
   w3=put6 g (l.length * 6) (.string ⟨nm.toArray⟩) v0 v1 v2 v3 v4 (w2.setCell ⟨bv,4,none⟩ (.slice (some ⟨g,0,none⟩) (l.length+1) cap))) :
 Rd r s bad d w3∧zmw r q mq bv (l++[(nm,j)]) w3∧Fr (ML r B) w w3:=by
 have hC:xs.length=l.length * 6:=by have:=RP.length l xs hrc;omega
 have hB:bv≠g:=fun e=>hgb e.symm
 have hown2':=hown2;rcases h3 with rfl | rfl
 ·refine zod hqB hR hF hbw hq hqb hqm hmq hseen hown hrc hb hlw hj hgr hg2 (zdc (zoi hown2 hC (.string ⟨nm.toArray⟩) v0 v1 v2 v3 v4) (fun k hk=>?_)) ?_ (But2.put6 _ _ _ _ _ _ _ _ _ _ _ _)
  ·have:k=g:=by simpa[Value.ownBlock] using hk.symm
   subst this;exact Below.heap_setCell _ _ _ _ hgb
  exact jh (o:=4) _ ((ze6 hB).trans hb2)
 refine zod hqB hR hF hbw hq hqb hqm hmq hseen hown hrc hb hlw hj hgr hg2 (zoi (zdc hown2 (fun k hk=>?_)) hC (.string ⟨nm.toArray⟩) v0 v1 v2 v3 v4) ?_ (But2.put6' _ _ _ _ _ _ _ _ _ _ _ _)
 ·have:k=g:=by simpa[Value.ownBlock] using hk.symm
  subst this;exact Below.heap_setCell _ _ _ _ hgb
 exact(ze6 hB).trans (jh (o:=4) _ hb2)
theorem ObjP.fr {M:Nat→Obj→Prop}{r q mq mb bv:Nat}{names:List Bs}{l:List (Bs × J)}{lv:Value}{xs:List Value}{w w':World}(h:ObjP r q mq mb bv names l lv xs w)(hF:Fr M w w')
 (hM:∀ k o,(OfTy 177 o∨OfTy 65 o∨OfTy 116 o∨OfTy 225 o∨zev o)→¬ M k o):ObjP r q mq mb bv names l lv xs w':=by
 obtain⟨hq,hG,hE,hH,hC,hb,hB,hD⟩:=h;refine⟨hF.block _ _ hq (hM _ _ (.inl ⟨_,_,rfl⟩)),hG,hE,hF.block _ _ hH (hM _ _ (.inr (.inr (.inr (.inl ⟨_,_,rfl⟩))))),hC.fr hF (fun o ho=>hM _ _ (.inr (.inr (.inr (.inr ho))))),hF.block _ _ hb (hM _ _ (.inr (.inl ⟨_,_,rfl⟩))),?_,?_⟩
 ·exact zc0 hB hF (fun k o _ _ ht=>hM k o (.inr (.inr (.inl ht))))
 exact RP.kp (Kp.fr hF (fun b hb _=>hb) (fun b o _ _ ht=>hM b o (by rcases zmy ht with ht | ht;exact .inr (.inl ht);exact .inr (.inr (.inl ht))))) l xs hD
theorem ObjP.grown {r q mq mb bv:Nat} {names names':List Bs} {l:List (Bs × J)} {lv:Value} {xs:List Value} {w w':World} (h:ObjP r q mq mb bv names l lv xs w) (hm:∃ o,w.heap[mb]? = some o∧zev o)
 (hF:w.grownBy w' (some mb)) (hse':Seen mb names'.length names' w'):ObjP r q mq mb bv names' l lv xs w':=by
 obtain⟨hq,hH,hG,hJ,hse,hb,hD,hE⟩:=h;obtain⟨om,hI,es,cl,rfl⟩:=hm
 have hC:Fr (fun k o=>k=mb∧zev o) w w':=⟨(Fr.ofGrown hF).os,(Fr.ofGrown hF).tape,(Fr.ofGrown hF).output,(Fr.ofGrown hF).size,fun k o hk hn=>(Fr.ofGrown hF).block k o hk (fun e=>by
  obtain rfl:k=mb:=by simpa using e
  rw[hI]at hk;obtain rfl:=je hk
  exact hn ⟨rfl,_,_,rfl⟩)⟩
 have hB:∀ k c T f,¬ (k=mb∧zev (.cells c T f)):=by rintro k c T f ⟨_,_,_,h⟩;cases h
 refine⟨hC.block _ _ hq (hB _ _ _ _),hH,hG,hC.block _ _ hJ (hB _ _ _ _),hse',hC.block _ _ hb (hB _ _ _ _),?_,?_⟩
 ·exact zc0 hD hC (fun k o _ _ ht=>by obtain⟨c,f,rfl⟩:=ht;exact hB _ _ _ _)
 exact RP.kp (Kp.fr hC (fun b hb _=>hb) (fun b o _ _ ht=>by rcases zmy ht with⟨c,f,rfl⟩ | ⟨c,f,rfl⟩<;>exact hB _ _ _ _)) l xs hE
theorem zts {r mb:Nat}{s:Bs}{bad:Bool}{d:Int}{w w':World}(h:Rd r s bad d w)(hm:∃ o,w.heap[mb]? = some o∧zev o)(hF:w.grownBy w' (some mb)):Rd r s bad d w':=by
 refine⟨h.1,(Fr.ofGrown hF).block _ _ h.2 (fun e=>?_)⟩;obtain rfl:r=mb:=by simpa using e
 obtain⟨om,hB,es,cl,rfl⟩:=hm;rw[h.2]at hB;cases hB
theorem zuh {mb:Nat} {w w':World} (h:Gl w) (hB:2≤mb) (hF:w.grownBy w' (some mb)):Gl w' :=
 h.fr (Fr.ofGrown hF) (fun k _ _ e=>by
  obtain rfl:k=mb:=by simpa using e
  exact hB)
theorem zt7 {r B mb:Nat}{w w':World}(hm:∃ o,w.heap[mb]? = some o∧zev o)(hB:B≤mb)(hF:w.grownBy w' (some mb)):Fr (ML r B) w w':=by
 refine⟨(Fr.ofGrown hF).os,(Fr.ofGrown hF).tape,(Fr.ofGrown hF).output,(Fr.ofGrown hF).size,fun k o hk hn=>(Fr.ofGrown hF).block k o hk (fun e=>hn (.inr ?_))⟩;obtain rfl:k=mb:=by simpa using e
 obtain⟨om,hC,es,cl,rfl⟩:=hm;rw[hC]at hk;obtain rfl:=je hk;refine⟨hB,?_⟩;rintro⟨_,_,h⟩;cases h
theorem ze1 {r k:Nat}{o:Obj}(h:OfTy 177 o∨OfTy 65 o∨OfTy 116 o∨OfTy 225 o∨zev o):¬ MR r k o:=by
 rintro⟨_,c,f,rfl⟩;rcases h with⟨_,_,h⟩ | ⟨_,_,h⟩ | ⟨_,_,h⟩ | ⟨_,_,h⟩ | ⟨_,_,h⟩<;>simp at h
theorem zrp (f:Nat) (hv:zmg f) (d:Int) (hd0:0≤d) (hd1:d≤8) (hdf:d+f=10) (r q mq bv B N:Nat) (hqB:B≤bv) (hN:N≤67108864) (s:Bs) (l:List (Bs × J)) (w:World)
 (h:Rd r s false d w) (hI:zmw r q mq bv l w) (hg:Gl w) (hB:B≤w.heap.size) (hBn:2≤B) (hsz:l.length+s.length≤N) :
 Calls Tryz.prog 260 #[.pointer (some ⟨q,0,none⟩),.pointer (some ⟨mq,0,none⟩),.pointer (some ⟨bv,0,none⟩)] w fun e w'=>e = .returned (.tuple #[]) ∧
  Rd r (za2 (jy f d) ⟨s,false⟩ l).1.s (za2 (jy f d) ⟨s,false⟩ l).1.bad d w'∧zmw r q mq bv (za2 (jy f d) ⟨s,false⟩ l).2 w'∧Fr (ML r B) w w':=by
 simp only[za2];have Ag:=zb4 s;have AE:=zj9 ⟨jq s,false⟩;have AF:=zka ⟨jq s,false⟩;have hh:=fun w1 h1 hf=>zuy r (jq s) false d w1 h1 hf (by omega)
 generalize zbc ⟨jq s,false⟩=T at *;obtain⟨nm,AV⟩:=T;obtain⟨s1,b1⟩:=AV;simp only at AE AF hh ⊢
 have hY:(zbn (l.map (·.1)) nm ⟨s1,b1⟩).s.length≤s1.length:=by
  unfold zbn;split
  ·simp
  split
  ·rename_i l' he;have h2:l'.length+1≤s1.length:=znt he;show l'.length≤_;omega
  exact zb4 s1
 generalize AM:zbn (l.map (·.1)) nm ⟨s1,b1⟩=C at *;obtain⟨s2,b2⟩:=C;simp only at hY ⊢;have hG:=fun w5 h5 hX=>hv d r s2 b2 w5 h5 hX (by omega) hd0 hd1 hdf
 generalize jy f d ⟨s2,b2⟩=V at *;obtain⟨j,st⟩:=V;simp only at hG ⊢;have Hval:=zi hG;have Htc:=zi hh;have Hcl:=zi AM;have AH:nm.length≤maxLen:=by unfold maxLen;omega
 have AI:l.length<maxLen:=by unfold maxLen;omega
 have Hnm:=zi AH;have Hln:=zi AI;obtain⟨mb,lw,AC,hP⟩:=hI;have cq:=hP.1.cell;obtain⟨i0,hi,AY,AX,AW⟩:=info_parts zj5;have hlen:l.length≤67108864:=by omega
 clear hG hh AM AH AI hv AE AF Ag hY;obtain⟨cn,AL⟩:∃ cn,(l.map (·.1)).contains nm=cn:=⟨_,rfl⟩;have Hcn:=zi AL;clear AL;obtain⟨eo,AK⟩:∃ eo,zel 58 s1=eo:=⟨_,rfl⟩;have Heo:=zi AK;clear AK
 have hS:(cn=true∧s2=s1∧b2=true)∨(cn=false∧((∃ l',eo=some l'∧s2=l'∧b2=b1)∨(eo=none∧s2=jq s1∧b2=true))):=by
  have:=Hcl.out;unfold zbn at this;rw[Hcn.out,Heo.out]at this;cases cn with
  | true=>left;simp at this;exact⟨rfl,this.1.symm,by simp[← this.2]⟩
  | false =>
    right;cases eo with
    | none=>simp at this;exact⟨rfl,.inr ⟨rfl,this.1.symm,by simp[← this.2]⟩⟩
    | some l'=>simp at this;exact⟨rfl,.inl ⟨l',rfl,this.1.symm,this.2.symm⟩⟩
 clear Hcl;have h0:bv<w.heap.size:=ju hP.2.2.2.2.2.1;have hU:∀ k,lw.ownBlock=some k→k<w.heap.size:=fun k hk=>(hP.2.2.2.2.2.2.1.lt k hk).2
 have hqm0:bv<mb:=hP.2.2.1;have AA:=zi hU;clear hU;rcases hS with⟨rfl,rfl,rfl⟩ | ⟨rfl,⟨l',rfl,rfl,rfl⟩ | ⟨rfl,rfl,rfl⟩⟩
 all_goals
  go_enter Tryz.func260,Tryz.ntmps260
  go_wp2_with fail
  refine(zee r s false d w h).mono ?_;rintro e w1 ⟨rfl,AP,h8⟩;have AS:=hP.fr h8 (fun _ _ ht=>ze1 ht);have hf:=hg.rd h h8;have cq1:=AS.1.cell
  go_wp2_with fail
  refine(Htc.out w1 AP hf).mono ?_;rintro e w2 ⟨rfl,hR,h7⟩;have hZ:=AS.fr h7 (fun _ _ ht=>ze1 ht);have hz:=hf.rd AP h7;have cq2:=hZ.1.cell;obtain⟨_,_,_,Ac,AZ,_⟩:=id hZ;have cm2:w2.cell? ⟨mq,0,none⟩=some (.map (some mb)):=by simp[World.cell?,Ac]
  have Ad:=AZ.look nm Hnm.out;rw[Hcn.out]at Ad;have hO:=h8.trans' h7
  go_wp2_with fail
 all_goals first
  | (refine(zby r _ _ d w2 hR).mono ?_
     rintro e w5 ⟨rfl,h3,hD⟩;have hL:=hZ.fr hD (fun _ _ ht=>ze1 ht);have hX:=hz.rd hR hD;have hM:=hO.trans' hD
     have AU:=hL.1.cell)
  | (refine(zex r _ _ _ d 58 w2 hR Heo.out).mono ?_
     rintro e w5 ⟨rfl,h3,hD⟩;have hL:=hZ.fr hD (fun _ _ ht=>ze1 ht);have hX:=hz.rd hR hD;have hM:=hO.trans' hD
     have AU:=hL.1.cell)
  | (refine(zg9 r _ _ d 58 w2 hR Heo.out).mono ?_
     rintro e w3 ⟨rfl,AO,h6⟩;have AR:=hZ.fr h6 (fun _ _ ht=>ze1 ht);have hy:=hz.rd hR h6;have cq3:=AR.1.cell
     go_wp2_with fail
     refine(zby r _ _ d w3 AO).mono ?_;rintro e w5 ⟨rfl,h3,hD⟩;have hL:=AR.fr hD (fun _ _ ht=>ze1 ht);have hX:=hy.rd AO hD;have hM:=(hO.trans' h6).trans' hD
     have AU:=hL.1.cell)
  | (fail)
 all_goals
  obtain⟨_,_,_,hr,hp,_⟩:=id hL;have cm5:w5.cell? ⟨mq,0,none⟩=some (.map (some mb)):=by simp[World.cell?,hr]
  obtain⟨w6,hput,hn,hE,hu⟩:=hp.put nm Hnm.out (by simpa using Hln.out);have AQ:=hL.grown (names':=l.map (·.1)++[nm]) hu hE (by simpa using hn);have h4:Fr (ML r B) w5 w6:=zt7 hu (by omega) hE;have Ai:=zts h3 hu hE;have Ae:=zuh hX (by omega) hE;have cq6:=AQ.1.cell;have ha:=(hM.mono zdq).trans' h4
  go_wp2_with fail
  refine(Hval.out w6 Ai Ae).mono ?_;rintro e w7 ⟨v,rfl,hj,Ah,AT⟩;have Aj:=AQ.fr AT (fun _ _ ht=>ze1 ht);have h9:=ha.trans' (AT.mono zdq);have hl:w.heap.size≤w6.heap.size:=ha.size;obtain⟨jk,jn,jt,jl,jp⟩:=j;have AJ:=hj;unfold RJ at AJ;obtain⟨a1,c1,a2,c2,rfl,_,_⟩:=AJ;obtain⟨AG,Ab,Aa,hq,hm,hb,hC,hd⟩:=Aj;obtain⟨a0,c0,hQ⟩:=zaw hC;have Af:bv<w7.heap.size:=ju hb;have Hlw:Hid (∀ k,(Value.slice a0 l.length c0).ownBlock=some k→k<w.heap.size):=by rw[← hQ];exact AA
  have v3:w7.cell? ⟨bv,4,none⟩=some (.slice a0 l.length c0):=by simp[World.cell?,hb,hQ]
  have f3:w7.frozen? ⟨bv,4,none⟩=false:=by simp[World.frozen?,hb]
  have cq7:=AG.cell;have hnn:(l.length:Int)<l.length+1:=by omega
  have hT:∀ g,(Value.slice a0 l.length c0).ownBlock=some g∨w7.heap.size+2≤g→¬ g=bv∧¬ bv=g:=by
   intro g hg;rw[← hQ]at hg;rcases hg with hg | hg
   ·have:=(zcj hC g hg).1;omega
   omega
  have AD:=RP.length l AC hd;rw[hQ]at hC hd;have Hown:=zi hC;have Hrow:=zi hT;have Hrc:=zi hd;have Hb:=zi hb;have Hxl:=zi AD;have Ak:=zi (RJ.kp (S':=fun k=>w.heap.size≤k) (fun b o hs ho _=>⟨Nat.le_trans hl hs,ho⟩) _ _ hj);have Hlv:=zi hQ;clear hC hT hd hb AD hj hQ
  go_wp2_with fail
  have hW:(l.length+1) * 96≤140737488355328:=by omega
  have hV:l.length+1≤maxLen:=by unfold maxLen;omega
  go_region_law (refine zcu rfl (.tmp 24) (.tmp 29) 63 rfl (bv+1) 116 i0 (.agg #[.string ⟨#[]⟩,.int .i64 0,.int .i64 0,.string ⟨#[]⟩,.slice none 0 0,.slice none 0 0]) 6 96 Tryz.underlying63 hi AY AX AW rfl (by decide) (.slice a0 l.length c0) l.length AC rfl (by exact(Hown.out.alloc _).alloc _) ⟨w7.heap.size+1,0,none⟩ 1 [.string ⟨#[]⟩,.int .i64 0,.int .i64 0,.string ⟨#[]⟩,.slice none 0 0,.slice none 0 0] rfl rfl (by exact q6 (w7.alloc _) _ _ _ (by simp)) (by simp[Value.oneCell']) hV hW (by simp;omega) ?_;intro g cap w8 hF hH hx hJ hf8;have hc:=zi hF;clear hF;have k0:=hJ 0 _ rfl;have k1:=hJ 1 _ rfl;have k2:=hJ 2 _ rfl;have k3:=hJ 3 _ rfl;have k4:=hJ 4 _ rfl;have k5:=hJ 5 _ rfl;rw[Nat.add_zero]at k0;clear hJ;obtain⟨hy,hg4⟩:=Hrow.out g (by simpa using hx);have hK:=(zfn hH Af (fun e=>(Hrow.out bv (.inl e)).1 rfl)).trans Hb.out;have b1:w8.cell? ⟨bv,4,none⟩=some (.slice a0 l.length c0):=(by simp[World.cell?,hK,Hlv.out]);have b2:w8.frozen? ⟨bv,4,none⟩=false:=(by simp[World.frozen?,hK]);have Al:=zi hx;have Am:=zi hK;have AB:=zi hH;clear hx hK hH)
  all_goals
   go_wp2_with fail
   go_end0
   refine⟨rfl,?_⟩;have AN:=Hb.out;have hK:=Am.out;rw[Hlv.out]at AN hK;have hw:(Value.slice a0 l.length c0).ownBlock=some g∨w7.heap.size+2≤g:=by have:=Al.out;simp only[World.size_drew,World.size_alloc]at this;exact this
   refine zrj hqB Ah h9 h0 AG Ab Aa hq (by simpa using hm) Hown.out Hrc.out AN Hlw.out Ak.out AB.out hw hy hc.out hK _ ?_;simp only[put6,put5,true_or,or_true]
end Go.Proofs.YtffggpplnjibgaaGreatDoor
