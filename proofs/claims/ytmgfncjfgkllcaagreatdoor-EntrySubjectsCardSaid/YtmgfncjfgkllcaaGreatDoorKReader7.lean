/-
 The walks of json's reader,further: one of an object.
-/
import Derived.Test.YtmgfncjfgkllcaaGreatDoorKReader6
import Derived.Test.YtmgfncjfgkllcaaGreatDoorKSeen
import Derived.Test.YtmgfncjfgkllcaaGreatDoorKUtf
open Go.Lib renaming hid→za
open Option.some renaming inj→zx
namespace Go.Proofs.YtmgfncjfgkllcaaGreatDoor
set_option linter.unusedVariables false
set_option linter.unusedSimpArgs false
set_option linter.unusedSectionVars false
set_option maxRecDepth 100000
set_option maxHeartbeats 2000000
open Go.RowKit
attribute [local instance] zch

theorem zdb:(Tryz.prog.info? 133).map (fun i=>(i.zero,i.size,i.bytes))=some (some (.agg #[.string ⟨#[]⟩,.int .i64 0,.int .i64 0,.string ⟨#[]⟩,.slice none 0 0,.slice none 0 0]),6,96):=by kernel_rfl
def ObjP (r q mq mb bv:Nat) (names:List Bs) (l:List (Bs × J)) (lv:Value) (xs:List Value) (w:World):Prop :=
 Bx q r w∧q<bv∧bv<mb∧w.heap[mq]? = some (.cells #[.map (some mb)] 280 (0,0))∧Seen mb names.length names w ∧
  w.heap[bv]? = some (.cells #[.int .i64 5,.int .i64 0,.string ⟨#[]⟩,.slice none 0 0,lv] 56 (0,0)) ∧
  w.ownsRow (bv+1) 133 6 lv l.length xs∧RP (fun k=>bv<k∧lv.ownBlock≠some k) w l xs
def zn8 (r q mq bv:Nat) (l:List (Bs × J)) (w:World):Prop:=∃ mb lv xs,ObjP r q mq mb bv (l.map (·.1)) l lv xs w
theorem zp6 {r q bv B g cap:Nat} {l:List (Bs × J)} {nm:Bs} {mb mq:Nat} {j:J} {d:Int} {s:Bs} {bad:Bool} {w w1 w2 w3:World} {X Z:Obj} {lv v0 v1 v2 v3 v4:Value} {xs:List Value}
 (hqB:B≤bv) (hR:Rd r s bad d w1) (hF:Fr (ML r B) w w1) (hbw:bv<w.heap.size) (hq:Bx q r w1) (hqb:q<bv) (hqm:bv<mb)
 (hmq:w1.heap[mq]? = some (.cells #[.map (some mb)] 280 (0,0))) (hseen:Seen mb (l.length+1) (l.map (·.1)++[nm]) w1)
 (hown:w1.ownsRow (bv+1) 133 6 lv l.length xs) (hrc:RP (fun k=>bv<k∧lv.ownBlock≠some k) w1 l xs)
 (hb:w1.heap[bv]? = some (.cells #[.int .i64 5,.int .i64 0,.string ⟨#[]⟩,.slice none 0 0,lv] 56 (0,0)))
 (hlw:∀ k,lv.ownBlock=some k→k<w.heap.size)
 (hj:RJ (fun k=>w.heap.size≤k) w1 j (.agg #[v0,v1,v2,v3,v4]))
 (hgr:((w1.alloc X).alloc Z).drew.grownBy w2 lv.ownBlock) (hg2:lv.ownBlock=some g∨w1.heap.size+2≤g)
 (hown3:w3.ownsRow (bv+1) 133 6 (.slice (some ⟨g,0,none⟩) (l.length+1) cap) (l.length+1) (xs++[.string ⟨nm.toArray⟩,v0,v1,v2,v3,v4]))
 (hb3:w3.heap[bv]? = some (.cells #[.int .i64 5,.int .i64 0,.string ⟨#[]⟩,.slice none 0 0,.slice (some ⟨g,0,none⟩) (l.length+1) cap] 56 (0,0)))
 (h3:But2 g bv w2 w3):Rd r s bad d w3∧zn8 r q mq bv (l++[(nm,j)]) w3∧Fr (ML r B) w w3:=by
 have hB:Fr (fun k _=>lv.ownBlock=some k∨k=g∨k=bv) w1 w3 :=
  ((zmr hgr).mono (fun _ _ h => .inl h)).trans h3.fr (fun _ _ h => .inl (.inr h))
 have hC:=zam hown
 have hJ:∀ o,w1.heap[g]? = some o→zbq 133 o∧bv<g:=by
  intro o ho;rcases hg2 with hg | hg
  ·obtain⟨h1,o',h2,h3⟩:=hC g hg;rw[ho]at h2;exact⟨(zx h2)▸h3,h1⟩
  have:=jb ho;omega
 have hL:∀ k,(zbq 56 k∨zbq 133 k)→¬ zbq 203 k:=by
  rintro k (⟨_,_,rfl⟩ | ⟨_,_,rfl⟩) ⟨_,_,h⟩<;>simp at h
 have hI:∀ k,(zbq 56 k∨zbq 133 k)→¬ zbq 201 k:=by
  rintro k (⟨_,_,rfl⟩ | ⟨_,_,rfl⟩) ⟨_,_,h⟩<;>simp at h
 have hM:∀ k,(zbq 56 k∨zbq 133 k)→¬ zbq 280 k:=by
  rintro k (⟨_,_,rfl⟩ | ⟨_,_,rfl⟩) ⟨_,_,h⟩<;>simp at h
 have hN:∀ k,(zbq 56 k∨zbq 133 k)→¬ zfh k:=by
  rintro k (⟨_,_,rfl⟩ | ⟨_,_,rfl⟩) ⟨_,_,h⟩<;>simp at h
 have hA:∀ k,(lv.ownBlock=some k∨k=g∨k=bv)→∀ o,w1.heap[k]? = some o→(zbq 56 o∨zbq 133 o)∧B≤k:=by
  rintro k hk o ho;rcases hk with hk | rfl | rfl
  ·obtain⟨h1,o',h2,h3⟩:=hC k hk;rw[ho]at h2;exact⟨.inr ((zx h2)▸h3),by omega⟩
  ·exact⟨.inr (hJ o ho).1,by have:=(hJ o ho).2;omega⟩
  rw[hb]at ho;exact⟨.inl ⟨_,_,(zx ho).symm⟩,by omega⟩
 refine⟨⟨hR.1,hB.block _ _ hR.2 (fun hm=>hL _ (hA _ hm _ hR.2).1 ⟨_,_,rfl⟩)⟩,⟨mb,_,_,hB.block _ _ hq (fun hm=>hI _ (hA _ hm _ hq).1 ⟨_,_,rfl⟩),hqb,hqm,hB.block _ _ hmq (fun hm=>hM _ (hA _ hm _ hmq).1 ⟨_,_,rfl⟩),?_,hb3,by simpa using hown3,?_⟩,?_⟩
 ·obtain ⟨om,hom⟩:=zg0 hseen.lt
  have hK:=hseen.fr hB (fun o ho hm=>by
   have hG:∃ es c,w1.heap[mb]? = some (.map es c):=by
    obtain⟨D,⟨es,clock,h1,_⟩,_⟩:=hseen;exact⟨_,_,h1⟩
   obtain⟨es,c,hG⟩:=hG
   exact hN _ (hA _ hm _ hG).1 ⟨_,_,rfl⟩)
  simpa using hK
 ·have hE:(Value.slice (some ⟨g,0,none⟩) (l.length+1) cap).ownBlock=some g:=rfl;rw[hE];refine RP.append l xs [(nm,j)] _ (RP.kp ?_ l xs hrc) (RP.one (RJ.kp ?_ j _ hj))
  ·intro b o hs ho _
   have hD:b≠g:=by
    rintro rfl;rcases hg2 with hg | hg
    ·exact hs.2 hg
    have:=jb ho;omega
   exact ⟨⟨hs.1,fun e=>hD (by simpa using e.symm)⟩,hB.block b o ho (fun hm=>by
    rcases hm with hm | hm | hm
    ·exact hs.2 hm
    ·exact hD hm
    omega)⟩
  intro b o hs ho _
  have hD:b≠g:=by
   rintro rfl;rcases hg2 with hg | hg
   ·have:=hlw _ hg;omega
   have:=jb ho;omega
  exact ⟨⟨by omega,fun e=>hD (by simpa using e.symm)⟩,hB.block b o ho (fun hm=>by
   rcases hm with hm | hm | hm
   ·have:=hlw _ hm;omega
   ·exact hD hm
   omega)⟩
 refine⟨hB.os.trans hF.os,hB.tape.trans hF.tape,hB.output.trans hF.output,Nat.le_trans hF.size hB.size,fun k o hk hn=>?_⟩;have hH:=hF.block k o hk hn;exact hB.block k o hH (fun hm=>hn (.inr ⟨(hA k hm o hH).2,hI _ (hA k hm o hH).1⟩))
theorem zue {r q bv B g cap:Nat} {l:List (Bs × J)} {nm:Bs} {mb mq:Nat} {j:J} {d:Int} {s:Bs} {bad:Bool} {w w1 w2:World} {X Z:Obj} {lv v0 v1 v2 v3 v4 z0 z1 z2 z3 z4 z5:Value} {xs:List Value}
 (hqB:B≤bv) (hR:Rd r s bad d w1) (hF:Fr (ML r B) w w1) (hbw:bv<w.heap.size) (hq:Bx q r w1) (hqb:q<bv) (hqm:bv<mb)
 (hmq:w1.heap[mq]? = some (.cells #[.map (some mb)] 280 (0,0))) (hseen:Seen mb (l.length+1) (l.map (·.1)++[nm]) w1)
 (hown:w1.ownsRow (bv+1) 133 6 lv l.length xs) (hrc:RP (fun k=>bv<k∧lv.ownBlock≠some k) w1 l xs)
 (hb:w1.heap[bv]? = some (.cells #[.int .i64 5,.int .i64 0,.string ⟨#[]⟩,.slice none 0 0,lv] 56 (0,0)))
 (hlw:∀ k,lv.ownBlock=some k→k<w.heap.size)
 (hj:RJ (fun k=>w.heap.size≤k) w1 j (.agg #[v0,v1,v2,v3,v4]))
 (hgr:((w1.alloc X).alloc Z).drew.grownBy w2 lv.ownBlock) (hg2:lv.ownBlock=some g∨w1.heap.size+2≤g) (hgb:¬ g=bv)
 (hown2:w2.ownsRow (bv+1) 133 6 (.slice (some ⟨g,0,none⟩) (l.length+1) cap) (l.length+1) (xs++[z0,z1,z2,z3,z4,z5]))
 (hb2:w2.heap[bv]? = some (.cells #[.int .i64 5,.int .i64 0,.string ⟨#[]⟩,.slice none 0 0,lv] 56 (0,0))) (w3:World)
 (h3:w3=(put6 g (l.length * 6) (.string ⟨nm.toArray⟩) v0 v1 v2 v3 v4 w2).setCell ⟨bv,4,none⟩ (.slice (some ⟨g,0,none⟩) (l.length+1) cap) ∨
   w3=put6 g (l.length * 6) (.string ⟨nm.toArray⟩) v0 v1 v2 v3 v4 (w2.setCell ⟨bv,4,none⟩ (.slice (some ⟨g,0,none⟩) (l.length+1) cap))) :
 Rd r s bad d w3∧zn8 r q mq bv (l++[(nm,j)]) w3∧Fr (ML r B) w w3:=by
 have hB:xs.length=l.length * 6:=by have:=RP.length l xs hrc;omega
 have hA:bv≠g:=fun e=>hgb e.symm
 have hown2':=hown2;rcases h3 with rfl | rfl
 ·refine zp6 hqB hR hF hbw hq hqb hqm hmq hseen hown hrc hb hlw hj hgr hg2 (zcf (zil hown2 hB (.string ⟨nm.toArray⟩) v0 v1 v2 v3 v4) (fun k hk=>?_)) ?_ (But2.put6 _ _ _ _ _ _ _ _ _ _ _ _)
  ·have:k=g:=by simpa[Value.ownBlock] using hk.symm
   subst this;exact Below.heap_setCell _ _ _ _ hgb
  exact z7 (o:=4) _ ((zc8 hA).trans hb2)
 refine zp6 hqB hR hF hbw hq hqb hqm hmq hseen hown hrc hb hlw hj hgr hg2 (zil (zcf hown2 (fun k hk=>?_)) hB (.string ⟨nm.toArray⟩) v0 v1 v2 v3 v4) ?_ (But2.put6' _ _ _ _ _ _ _ _ _ _ _ _)
 ·have:k=g:=by simpa[Value.ownBlock] using hk.symm
  subst this;exact Below.heap_setCell _ _ _ _ hgb
 exact(zc8 hA).trans (z7 (o:=4) _ hb2)
theorem ObjP.fr {M:Nat→Obj→Prop}{r q mq mb bv:Nat}{names:List Bs}{l:List (Bs × J)}{lv:Value}{xs:List Value}{w w':World}(h:ObjP r q mq mb bv names l lv xs w)(hF:Fr M w w')
 (hM:∀ k o,(zbq 201 o∨zbq 56 o∨zbq 133 o∨zbq 280 o∨zfh o)→¬ M k o):ObjP r q mq mb bv names l lv xs w':=by
 obtain⟨hq,hE,hD,hG,hB,hb,hA,hC⟩:=h;refine⟨hF.block _ _ hq (hM _ _ (.inl ⟨_,_,rfl⟩)),hE,hD,hF.block _ _ hG (hM _ _ (.inr (.inr (.inr (.inl ⟨_,_,rfl⟩))))),hB.fr hF (fun o ho=>hM _ _ (.inr (.inr (.inr (.inr ho))))),hF.block _ _ hb (hM _ _ (.inr (.inl ⟨_,_,rfl⟩))),?_,?_⟩
 ·exact za9 hA hF (fun k o _ _ ht=>hM k o (.inr (.inr (.inl ht))))
 exact RP.kp (Kp.fr hF (fun b hb _=>hb) (fun b o _ _ ht=>hM b o (by rcases zod ht with ht | ht;exact .inr (.inl ht);exact .inr (.inr (.inl ht))))) l xs hC
theorem ObjP.grown {r q mq mb bv:Nat} {names names':List Bs} {l:List (Bs × J)} {lv:Value} {xs:List Value} {w w':World} (h:ObjP r q mq mb bv names l lv xs w) (hm:∃ o,w.heap[mb]? = some o∧zfh o)
 (hF:w.grownBy w' (some mb)) (hse':Seen mb names'.length names' w'):ObjP r q mq mb bv names' l lv xs w':=by
 obtain⟨hq,hG,hE,hI,hse,hb,hC,hD⟩:=h;obtain⟨om,hH,es,cl,rfl⟩:=hm
 have hB:Fr (fun k o=>k=mb∧zfh o) w w':=⟨(Fr.ofGrown hF).os,(Fr.ofGrown hF).tape,(Fr.ofGrown hF).output,(Fr.ofGrown hF).size,fun k o hk hn=>(Fr.ofGrown hF).block k o hk (fun e=>by
  obtain rfl:k=mb:=by simpa using e
  rw[hH]at hk;obtain rfl:=zx hk
  exact hn ⟨rfl,_,_,rfl⟩)⟩
 have hA:∀ k c T f,¬ (k=mb∧zfh (.cells c T f)):=by rintro k c T f ⟨_,_,_,h⟩;cases h
 refine⟨hB.block _ _ hq (hA _ _ _ _),hG,hE,hB.block _ _ hI (hA _ _ _ _),hse',hB.block _ _ hb (hA _ _ _ _),?_,?_⟩
 ·exact za9 hC hB (fun k o _ _ ht=>by obtain⟨c,f,rfl⟩:=ht;exact hA _ _ _ _)
 exact RP.kp (Kp.fr hB (fun b hb _=>hb) (fun b o _ _ ht=>by rcases zod ht with⟨c,f,rfl⟩ | ⟨c,f,rfl⟩<;>exact hA _ _ _ _)) l xs hD
theorem zwy {r mb:Nat}{s:Bs}{bad:Bool}{d:Int}{w w':World}(h:Rd r s bad d w)(hm:∃ o,w.heap[mb]? = some o∧zfh o)(hF:w.grownBy w' (some mb)):Rd r s bad d w':=by
 refine⟨h.1,(Fr.ofGrown hF).block _ _ h.2 (fun e=>?_)⟩;obtain rfl:r=mb:=by simpa using e
 obtain⟨om,hA,es,cl,rfl⟩:=hm;rw[h.2]at hA;cases hA
theorem zxn {mb:Nat} {w w':World} (h:Gl w) (hB:6≤mb) (hF:w.grownBy w' (some mb)):Gl w' :=
 h.fr (Fr.ofGrown hF) (fun k _ _ e=>by
  obtain rfl:k=mb:=by simpa using e
  exact hB)
theorem zxc {r B mb:Nat}{w w':World}(hm:∃ o,w.heap[mb]? = some o∧zfh o)(hB:B≤mb)(hF:w.grownBy w' (some mb)):Fr (ML r B) w w':=by
 refine⟨(Fr.ofGrown hF).os,(Fr.ofGrown hF).tape,(Fr.ofGrown hF).output,(Fr.ofGrown hF).size,fun k o hk hn=>(Fr.ofGrown hF).block k o hk (fun e=>hn (.inr ?_))⟩;obtain rfl:k=mb:=by simpa using e
 obtain⟨om,hA,es,cl,rfl⟩:=hm;rw[hA]at hk;obtain rfl:=zx hk;refine⟨hB,?_⟩;rintro⟨_,_,h⟩;cases h
theorem zfl {r k:Nat}{o:Obj}(h:zbq 201 o∨zbq 56 o∨zbq 133 o∨zbq 280 o∨zfh o):¬ MR r k o:=by
 rintro⟨_,c,f,rfl⟩;rcases h with⟨_,_,h⟩ | ⟨_,_,h⟩ | ⟨_,_,h⟩ | ⟨_,_,h⟩ | ⟨_,_,h⟩<;>simp at h
theorem zuk (f:Nat) (hv:znp f) (d:Int) (hd0:0≤d) (hd1:d≤8) (hdf:d+f=10) (r q mq bv B N:Nat) (hqB:B≤bv) (hN:N≤67108864) (s:Bs) (l:List (Bs × J)) (w:World)
 (h:Rd r s false d w) (hI:zn8 r q mq bv l w) (hg:Gl w) (hB:B≤w.heap.size) (hBn:6≤B) (hsz:l.length+s.length≤N) :
 Calls Tryz.prog 302 #[.pointer (some ⟨q,0,none⟩),.pointer (some ⟨mq,0,none⟩),.pointer (some ⟨bv,0,none⟩)] w fun e w'=>e = .returned (.tuple #[]) ∧
  Rd r (za4 (jg f d) ⟨s,false⟩ l).1.s (za4 (jg f d) ⟨s,false⟩ l).1.bad d w'∧zn8 r q mq bv (za4 (jg f d) ⟨s,false⟩ l).2 w'∧Fr (ML r B) w w':=by
 simp only[za4];have Af:=zcq s;have AD:=zk7 ⟨ja s,false⟩;have AE:=zk8 ⟨ja s,false⟩;have hf:=fun w1 h1 hd=>zyg r (ja s) false d w1 h1 hd (by omega)
 generalize zbk ⟨ja s,false⟩=T at *;obtain⟨nm,AU⟩:=T;obtain⟨s1,b1⟩:=AU;simp only at AD AE hf ⊢
 have hX:(zbw (l.map (·.1)) nm ⟨s1,b1⟩).s.length≤s1.length:=by
  unfold zbw;split
  ·simp
  split
  ·rename_i l' he;have h2:l'.length+1≤s1.length:=zpa he;show l'.length≤_;omega
  exact zcq s1
 generalize AL:zbw (l.map (·.1)) nm ⟨s1,b1⟩=C at *;obtain⟨s2,b2⟩:=C;simp only at hX ⊢;have hF:=fun w5 h5 hW=>hv d r s2 b2 w5 h5 hW (by omega) hd0 hd1 hdf
 generalize jg f d ⟨s2,b2⟩=V at *;obtain⟨j,st⟩:=V;simp only at hF ⊢;have Hval:=za hF;have Htc:=za hf;have Hcl:=za AL;have AG:nm.length≤maxLen:=by unfold maxLen;omega
 have AH:l.length<maxLen:=by unfold maxLen;omega
 have Hnm:=za AG;have Hln:=za AH;obtain⟨mb,lw,AB,hP⟩:=hI;have cq:=hP.1.cell;obtain⟨i0,hi,AX,AW,AV⟩:=info_parts zdb;have hlen:l.length≤67108864:=by omega
 clear hF hf AL AG AH hv AD AE Af hX;obtain⟨cn,AK⟩:∃ cn,(l.map (·.1)).contains nm=cn:=⟨_,rfl⟩;have Hcn:=za AK;clear AK;obtain⟨eo,AJ⟩:∃ eo,zdn 58 s1=eo:=⟨_,rfl⟩;have Heo:=za AJ;clear AJ
 have hS:(cn=true∧s2=s1∧b2=true)∨(cn=false∧((∃ l',eo=some l'∧s2=l'∧b2=b1)∨(eo=none∧s2=ja s1∧b2=true))):=by
  have:=Hcl.out;unfold zbw at this;rw[Hcn.out,Heo.out]at this;cases cn with
  | true=>left;simp at this;exact⟨rfl,this.1.symm,by simp[← this.2]⟩
  | false =>
    right;cases eo with
    | none=>simp at this;exact⟨rfl,.inr ⟨rfl,this.1.symm,by simp[← this.2]⟩⟩
    | some l'=>simp at this;exact⟨rfl,.inl ⟨l',rfl,this.1.symm,this.2.symm⟩⟩
 clear Hcl;have hz:bv<w.heap.size:=jb hP.2.2.2.2.2.1;have hT:∀ k,lw.ownBlock=some k→k<w.heap.size:=fun k hk=>(hP.2.2.2.2.2.2.1.lt k hk).2
 have hqm0:bv<mb:=hP.2.2.1;have h9:=za hT;clear hT;rcases hS with⟨rfl,rfl,rfl⟩ | ⟨rfl,⟨l',rfl,rfl,rfl⟩ | ⟨rfl,rfl,rfl⟩⟩
 all_goals
  go_enter Tryz.func302,Tryz.ntmps302
  go_wp2_with fail
  refine(zeq r s false d w h).mono ?_;rintro e w1 ⟨rfl,AO,h7⟩;have AR:=hP.fr h7 (fun _ _ ht=>zfl ht);have hd:=hg.rd h h7;have cq1:=AR.1.cell
  go_wp2_with fail
  refine(Htc.out w1 AO hd).mono ?_;rintro e w2 ⟨rfl,hQ,h6⟩;have hY:=AR.fr h6 (fun _ _ ht=>zfl ht);have hy:=hd.rd AO h6;have cq2:=hY.1.cell;obtain⟨_,_,_,Ab,AY,_⟩:=id hY;have cm2:w2.cell? ⟨mq,0,none⟩=some (.map (some mb)):=by simp[World.cell?,Ab]
  have Ac:=AY.look nm Hnm.out;rw[Hcn.out]at Ac;have hM:=h7.trans' h6
  go_wp2_with fail
 all_goals first
  | (refine(zcl r _ _ d w2 hQ).mono ?_
     rintro e w5 ⟨rfl,h0,hC⟩;have hK:=hY.fr hC (fun _ _ ht=>zfl ht);have hW:=hy.rd hQ hC;have hL:=hM.trans' hC
     have AT:=hK.1.cell)
  | (refine(zfi r _ _ _ d 58 w2 hQ Heo.out).mono ?_
     rintro e w5 ⟨rfl,h0,hC⟩;have hK:=hY.fr hC (fun _ _ ht=>zfl ht);have hW:=hy.rd hQ hC;have hL:=hM.trans' hC
     have AT:=hK.1.cell)
  | (refine(zhz r _ _ d 58 w2 hQ Heo.out).mono ?_
     rintro e w3 ⟨rfl,AN,h4⟩;have AQ:=hY.fr h4 (fun _ _ ht=>zfl ht);have hx:=hy.rd hQ h4;have cq3:=AQ.1.cell
     go_wp2_with fail
     refine(zcl r _ _ d w3 AN).mono ?_;rintro e w5 ⟨rfl,h0,hC⟩;have hK:=AQ.fr hC (fun _ _ ht=>zfl ht);have hW:=hx.rd AN hC;have hL:=(hM.trans' h4).trans' hC
     have AT:=hK.1.cell)
  | (fail)
 all_goals
  obtain⟨_,_,_,hq,hn,_⟩:=id hK;have cm5:w5.cell? ⟨mq,0,none⟩=some (.map (some mb)):=by simp[World.cell?,hq]
  obtain⟨w6,hput,hm,hD,hr⟩:=hn.put nm Hnm.out (by simpa using Hln.out);have AP:=hK.grown (names':=l.map (·.1)++[nm]) hr hD (by simpa using hm);have h3:Fr (ML r B) w5 w6:=zxc hr (by omega) hD;have Ah:=zwy h0 hr hD;have Ad:=zxn hW (by omega) hD;have cq6:=AP.1.cell;have hZ:=(hL.mono zea).trans' h3
  go_wp2_with fail
  refine(Hval.out w6 Ah Ad).mono ?_;rintro e w7 ⟨v,rfl,hj,Ag,AS⟩;have Ai:=AP.fr AS (fun _ _ ht=>zfl ht);have h8:=hZ.trans' (AS.mono zea);have hh:w.heap.size≤w6.heap.size:=hZ.size;obtain⟨jk,jn,jt,jl,jp⟩:=j;have AI:=hj;unfold RJ at AI;obtain⟨a1,c1,a2,c2,rfl,_,_⟩:=AI;obtain⟨AF,Aa,AZ,hp,hl,hb,hA,hc⟩:=Ai;obtain⟨a0,c0,hO⟩:=qj hA;have Ae:bv<w7.heap.size:=jb hb;have Hlw:Hid (∀ k,(Value.slice a0 l.length c0).ownBlock=some k→k<w.heap.size):=by rw[← hO];exact h9
  have v3:w7.cell? ⟨bv,4,none⟩=some (.slice a0 l.length c0):=by simp[World.cell?,hb,hO]
  have f3:w7.frozen? ⟨bv,4,none⟩=false:=by simp[World.frozen?,hb]
  have cq7:=AF.cell;have hnn:(l.length:Int)<l.length+1:=by omega
  have hR:∀ g,(Value.slice a0 l.length c0).ownBlock=some g∨w7.heap.size+2≤g→¬ g=bv∧¬ bv=g:=by
   intro g hg;rw[← hO]at hg;rcases hg with hg | hg
   ·have:=(zam hA g hg).1;omega
   omega
  have AC:=RP.length l AB hc;rw[hO]at hA hc;have Hown:=za hA;have Hrow:=za hR;have Hrc:=za hc;have Hb:=za hb;have Hxl:=za AC;have Aj:=za (RJ.kp (S':=fun k=>w.heap.size≤k) (fun b o hs ho _=>⟨Nat.le_trans hh hs,ho⟩) _ _ hj);have Hlv:=za hO;clear hA hR hc hb AC hj hO
  go_wp2_with fail
  have hV:(l.length+1) * 96≤140737488355328:=by omega
  have hU:l.length+1≤maxLen:=by unfold maxLen;omega
  go_region_law (refine zbe rfl (.tmp 24) (.tmp 29) 54 rfl (bv+1) 133 i0 (.agg #[.string ⟨#[]⟩,.int .i64 0,.int .i64 0,.string ⟨#[]⟩,.slice none 0 0,.slice none 0 0]) 6 96 Tryz.underlying54 hi AX AW AV rfl (by decide) (.slice a0 l.length c0) l.length AB rfl (by exact(Hown.out.alloc _).alloc _) ⟨w7.heap.size+1,0,none⟩ 1 [.string ⟨#[]⟩,.int .i64 0,.int .i64 0,.string ⟨#[]⟩,.slice none 0 0,.slice none 0 0] rfl rfl (by exact zck (w7.alloc _) _ _ _ (by simp)) (by simp[Value.oneCell']) hU hV (by simp;omega) ?_;intro g cap w8 hE hG hw hH hf8;have ha:=za hE;clear hE;have k0:=hH 0 _ rfl;have k1:=hH 1 _ rfl;have k2:=hH 2 _ rfl;have k3:=hH 3 _ rfl;have k4:=hH 4 _ rfl;have k5:=hH 5 _ rfl;rw[Nat.add_zero]at k0;clear hH;obtain⟨hx,hg4⟩:=Hrow.out g (by simpa using hw);have hJ:=(zf5 hG Ae (fun e=>(Hrow.out bv (.inl e)).1 rfl)).trans Hb.out;have b1:w8.cell? ⟨bv,4,none⟩=some (.slice a0 l.length c0):=(by simp[World.cell?,hJ,Hlv.out]);have b2:w8.frozen? ⟨bv,4,none⟩=false:=(by simp[World.frozen?,hJ]);have Ak:=za hw;have Al:=za hJ;have AA:=za hG;clear hw hJ hG)
  all_goals
   go_wp2_with fail
   go_end0
   refine⟨rfl,?_⟩;have AM:=Hb.out;have hJ:=Al.out;rw[Hlv.out]at AM hJ;have hu:(Value.slice a0 l.length c0).ownBlock=some g∨w7.heap.size+2≤g:=by have:=Ak.out;simp only[World.size_drew,World.size_alloc]at this;exact this
   refine zue hqB Ag h8 hz AF Aa AZ hp (by simpa using hl) Hown.out Hrc.out AM Hlw.out Aj.out AA.out hu hx ha.out hJ _ ?_;simp only[put6,put5,true_or,or_true]
end Go.Proofs.YtmgfncjfgkllcaaGreatDoor
