/-
 Objects with just some names (package entry's fields),and a statement's subjects,as plain data.
-/
import Derived.Test.YtmgfncjfgkllcaaGreatDoorKGet
import Derived.Test.YtmgfncjfgkllcaaGreatDoorKEnAt
import Derived.Test.YtmgfncjfgkllcaaGreatDoorKNum
import Derived.Test.YtmgfncjfgkllcaaGreatDoorKRune
import Derived.Test.YtmgfncjfgkllcaaGreatDoorKSigEq
import Derived.Test.YtmgfncjfgkllcaaGreatDoorKStore
open Go.Lib renaming hid→za,byteCells→zb
open Go.Proofs.Tryz renaming prog→ze
open List renaming size_toArray→zn
open Nat renaming lt_of_lt_of_le→zu
open Option.some renaming inj→zx
open Go.Value renaming int→zy
open Go.IntKind renaming u8→z6
namespace Go.Proofs.YtmgfncjfgkllcaaGreatDoor
set_option linter.unusedVariables false
set_option linter.unusedSimpArgs false
set_option linter.unusedSectionVars false
set_option maxRecDepth 100000
set_option maxHeartbeats 2000000
section
structure Fd where
 j:J
 seen:Int
 bad:Bool
def zbg (f:Fd) (nm:Bs) (k:Int):J × Fd :=
 match zb3 f.j nm with
 | some v=>if v.kind=k then (v,{ f with seen:=f.seen+1 }) else (J.zero,{ f with bad:=true })
 | none=>(J.zero,{ f with bad:=true })
def ju (f:Fd) (nm:Bs):Bs × Fd:=((zbg f nm 3).1.text,(zbg f nm 3).2)
def zg5 (f:Fd) (nm:Bs):Bs × Fd :=
 ((zii (ju f nm).1).getD (List.replicate 32 0),{ (ju f nm).2 with bad:=(ju f nm).2.bad||(zii (ju f nm).1).isNone })
def zdp (f:Fd):Bool:=!f.bad&&(decide (f.j.kind=5)&&decide (f.seen=(f.j.pairs.length:Int)))
def zan:Bs:=[100,105,103,101,115,116]
def zf4:Bs:=[110,97,109,101]
def zbs:Bs:=[115,104,97,50,53,54]
def zd6:Bs:=[95,116,121,112,101]
def j7:Bs:=[112,114,101,100,105,99,97,116,101,84,121,112,101]
def j9:Bs:=[112,114,101,100,105,99,97,116,101]
def qy:Bs:=[115,117,98,106,101,99,116]
def zbl:Bs:=[104,116,116,112,115,58,47,47,105,110,45,116,111,116,111,46,105,111,47,83,116,97,116,101,109,101,110,116,47,118,49]
def jq (j:J):Bs × Bs × Bool :=
 let f0:Fd:=⟨j,0,false⟩
 let d0:Fd:=⟨(zbg f0 zan 5).1,0,false⟩
 let f1:=(zbg f0 zan 5).2
 let n:=ju f1 zf4
 let h:=zg5 d0 zbs
 (n.1,h.1,(zdp n.2&&zdp h.2)&&(!n.1.isEmpty&&decide (n.1.length≤64)))
theorem zba (f:Fd) (nm:Bs) (k:Int):(zbg f nm k).2.j=f.j∧((zbg f nm k).2.seen=f.seen∨(zbg f nm k).2.seen=f.seen+1):=by
 unfold zbg;split
 ·split
  ·exact⟨rfl,.inr rfl⟩
  exact⟨rfl,.inl rfl⟩
 exact⟨rfl,.inl rfl⟩
def zev (j:J) (bad:Bool):J × Fd :=
 let t:=ju ⟨j,0,bad⟩ zd6
 let f2:Fd:=if t.1=zbl then (if zcd (ju t.2 j7).1 then (ju t.2 j7).2 else { (ju t.2 j7).2 with bad:=true }) else { t.2 with bad:=true }
 zbg (zbg f2 j9 5).2 qy 4
def za7 (s:Bs):Option (List (Bs × Bs)) :=
 if 2048<s.length then none else
 let g:=zev (zaf s).1 (decide ((zaf s).2≠0))
 let l:=g.1.list.map jq
 if zdp { g.2 with bad:=g.2.bad||l.any (fun x=>!x.2.2) }&&(decide (1≤l.length)&&decide (l.length≤16)) then some (l.map fun x=>(x.1,x.2.1)) else none
end
section
open Go.RowKit
variable [OldK]
abbrev MFd (b:Nat):Nat→Obj→Prop:=One b 118
def FB (S:Nat→Prop) (b:Nat) (f:Fd) (w:World):Prop:=OldK.k≤b∧∃ a1 n1 a2 n2,w.heap[b]? = some (.cells #[.int .i64 f.j.kind,.int .i64 f.j.int,.string ⟨f.j.text.toArray⟩,.slice a1 f.j.list.length n1,.slice a2 f.j.pairs.length n2,.int .i64 f.seen,.bool f.bad] 118 (0,0)) ∧
 RJ S w f.j (.agg #[.int .i64 f.j.kind,.int .i64 f.j.int,.string ⟨f.j.text.toArray⟩,.slice a1 f.j.list.length n1,.slice a2 f.j.pairs.length n2])
theorem zhn {b:Nat}(hb:OldK.k≤b):∀ k o,MFd b k o→¬ Vt k o:=by
 rintro k o ⟨rfl,c,f,rfl⟩ (⟨c',f',h⟩ | ⟨c',f',h⟩ | h)
 ·injection h with _ h _;revert h;decide
 ·injection h with _ h _;revert h;decide
 omega
theorem RJ.fd {S:Nat→Prop}{b:Nat}{w w':World}{j:J}{v:Value}(h:RJ S w j v)(hb:OldK.k≤b)(hF:Fr (MFd b) w w'):RJ S w' j v :=
 RJ.kp (Kp.fr hF (fun _ h _=>h) (fun k o _ _ ht hm=>zhn hb k o hm ht)) _ _ h
theorem FB.fr {S:Nat→Prop}{b:Nat}{f:Fd}{w w':World}(h:FB S b f w)(hF:Fr NoB w w'):FB S b f w':=by
 obtain⟨hb,a1,n1,a2,n2,h1,h2⟩:=h;exact⟨hb,a1,n1,a2,n2,hF.block _ _ h1 (fun h=>h),RJ.kp (Kp.ofFr hF) _ _ h2⟩
theorem FB.cells {S:Nat→Prop}{b:Nat}{f:Fd}{w:World}(h:FB S b f w):∃ a1 n1 a2 n2,w.cell? ⟨b,0,none⟩=some (.int .i64 f.j.kind)∧w.cell? ⟨b,1,none⟩=some (.int .i64 f.j.int)∧w.cell? ⟨b,2,none⟩=some (.string ⟨f.j.text.toArray⟩)∧w.cell? ⟨b,3,none⟩=some (.slice a1 f.j.list.length n1)∧w.cell? ⟨b,4,none⟩=some (.slice a2 f.j.pairs.length n2) ∧
 w.cell? ⟨b,5,none⟩=some (.int .i64 f.seen)∧w.cell? ⟨b,6,none⟩=some (.bool f.bad)∧(∀ o,w.frozen? ⟨b,o,none⟩=false)∧b<w.heap.size∧RJ S w f.j (.agg #[.int .i64 f.j.kind,.int .i64 f.j.int,.string ⟨f.j.text.toArray⟩,.slice a1 f.j.list.length n1,.slice a2 f.j.pairs.length n2]):=by
 obtain⟨hb,a1,n1,a2,n2,h1,h2⟩:=h;exact⟨a1,n1,a2,n2,by simp[World.cell?,h1],by simp[World.cell?,h1],by simp[World.cell?,h1],by simp[World.cell?,h1],by simp[World.cell?,h1],by simp[World.cell?,h1],by simp[World.cell?,h1],by simp[World.frozen?,h1],jb h1,h2⟩
theorem FB.setBad {S:Nat→Prop} {b:Nat} {f:Fd} {w:World} (h:FB S b f w) (x:Bool):FB S b { f with bad:=x } (w.setCell ⟨b,6,none⟩ (.bool x))∧Fr (MFd b) w (w.setCell ⟨b,6,none⟩ (.bool x)):=by
 obtain⟨hb,a1,n1,a2,n2,h1,h2⟩:=h
 have hF:Fr (MFd b) w (w.setCell ⟨b,6,none⟩ (.bool x)):=Fr.refl.setCell _ _ (fun o ho=>⟨rfl,by
  have:o=_:=zx (ho.symm.trans h1);subst this
  exact⟨_,_,rfl⟩⟩)
 refine⟨⟨hb,a1,n1,a2,n2,?_,h2.fd hb hF⟩,hF⟩;rw[setCell_eq_setRow w b 6 _ _ _ _ h1];exact setRow_heap _ _ _ _ _ _ h1
theorem FB.to {S:Nat→Prop} {b:Nat} {f f':Fd} {w w':World} (h:FB S b f w) (hF:Fr (MFd b) w w') (hj:f'.j=f.j)
 (hc:∀ a1 n1 a2 n2,w.heap[b]? = some (.cells #[.int .i64 f.j.kind,.int .i64 f.j.int,.string ⟨f.j.text.toArray⟩,.slice a1 f.j.list.length n1,.slice a2 f.j.pairs.length n2,.int .i64 f.seen,.bool f.bad] 118 (0,0)) →
   w'.heap[b]? = some (.cells #[.int .i64 f.j.kind,.int .i64 f.j.int,.string ⟨f.j.text.toArray⟩,.slice a1 f.j.list.length n1,.slice a2 f.j.pairs.length n2,.int .i64 f'.seen,.bool f'.bad] 118 (0,0))):FB S b f' w':=by
 obtain⟨j',s',d'⟩:=f';obtain rfl:j'=f.j:=hj;obtain⟨hb,a1,n1,a2,n2,h1,h2⟩:=h;exact⟨hb,a1,n1,a2,n2,hc _ _ _ _ h1,h2.fd hb hF⟩
theorem FB.to2 {S:Nat→Prop}{b p:Nat}{f:Fd}{w w':World}{c:Array Value}{fr:Nat × Nat}(h:FB S b f w)(hF:Fr (fun k _=>k=p) w w')(hbp:b<p)(hz:w.heap[p]? = some (.cells c 23 fr)):FB S b f w':=by
 obtain⟨hb,a1,n1,a2,n2,h1,h2⟩:=h;refine⟨hb,a1,n1,a2,n2,hF.block _ _ h1 (by omega),RJ.kp (Kp.fr hF (fun _ h _=>h) (fun k o _ hk ht hm=>?_)) _ _ h2⟩;subst hm;obtain rfl:=zx (hk.symm.trans hz);rcases ht with⟨c',f',h⟩ | ⟨c',f',h⟩ | h
 ·injection h with _ h _;revert h;decide
 ·injection h with _ h _;revert h;decide
 omega
theorem zo5 {S:Nat→Prop} {b p:Nat} {f f':Fd} {w W0 w1:World} {z0 z1 z2 z3 z4:Value} (h:FB S b f w) (hF0:Fr NoB w W0) (hp:w.heap.size=p) (hF1:Fr NoB W0 w1)
 (hz:w1.heap[p]? = some (.cells #[z0,z1,z2,z3,z4] 56 (0,0))) (o:Nat) (v v0 v1 v2 v3 v4:Value) (ob:Obj) (hj:f'.j=f.j)
 (ho:∀ x0 x1 x2 x3 x4:Value,(#[x0,x1,x2,x3,x4,.int .i64 f.seen,.bool f.bad]:Array Value).setIfInBounds o v=#[x0,x1,x2,x3,x4,.int .i64 f'.seen,.bool f'.bad]) :
 Fr (MFd b) w (((((((w1.setCell ⟨b,o,none⟩ v).setCell ⟨p,0,none⟩ v0).setCell ⟨p,1,none⟩ v1).setCell ⟨p,2,none⟩ v2).setCell ⟨p,3,none⟩ v3).setCell ⟨p,4,none⟩ v4).alloc ob) ∧
 (((((((w1.setCell ⟨b,o,none⟩ v).setCell ⟨p,0,none⟩ v0).setCell ⟨p,1,none⟩ v1).setCell ⟨p,2,none⟩ v2).setCell ⟨p,3,none⟩ v3).setCell ⟨p,4,none⟩ v4).alloc ob).heap[p]? = some (.cells #[v0,v1,v2,v3,v4] 56 (0,0)) ∧
 FB S b f' (((((((w1.setCell ⟨b,o,none⟩ v).setCell ⟨p,0,none⟩ v0).setCell ⟨p,1,none⟩ v1).setCell ⟨p,2,none⟩ v2).setCell ⟨p,3,none⟩ v3).setCell ⟨p,4,none⟩ v4).alloc ob) ∧
 ∀ (j:J) (x:Value),RJ (fun k=>S k∧k<p) w1 j x→RJ S (((((((w1.setCell ⟨b,o,none⟩ v).setCell ⟨p,0,none⟩ v0).setCell ⟨p,1,none⟩ v1).setCell ⟨p,2,none⟩ v2).setCell ⟨p,3,none⟩ v3).setCell ⟨p,4,none⟩ v4).alloc ob) j x:=by
 obtain⟨hG,a1,n1,a2,n2,hb,hrj⟩:=id h;have hbl:=jb hb;have hH:=hF1.block _ _ (hF0.block _ _ hb (fun h=>h)) (fun h=>h);have hB:b≠p:=by omega
 have hF:Fr (MFd b) w (((((((w1.setCell ⟨b,o,none⟩ v).setCell ⟨p,0,none⟩ v0).setCell ⟨p,1,none⟩ v1).setCell ⟨p,2,none⟩ v2).setCell ⟨p,3,none⟩ v3).setCell ⟨p,4,none⟩ v4).alloc ob):=by
  refine((((((Fr.setCell ((hF0.trans' hF1).mono (fun _ _ h=>h.elim)) _ _ ?_).setNew _ _ ?_).setNew _ _ ?_).setNew _ _ ?_).setNew _ _ ?_).setNew _ _ ?_).alloc _
  ·intro hD hC;obtain rfl:=zx (hC.symm.trans hb);exact⟨rfl,_,_,rfl⟩
  all_goals exact Nat.le_of_eq hp
 have hI:Fr (fun k o=>(k=b∧zbq 118 o)∨k=p) w1 (((((((w1.setCell ⟨b,o,none⟩ v).setCell ⟨p,0,none⟩ v0).setCell ⟨p,1,none⟩ v1).setCell ⟨p,2,none⟩ v2).setCell ⟨p,3,none⟩ v3).setCell ⟨p,4,none⟩ v4).alloc ob):=by
  refine((((((Fr.setCell Fr.refl _ _ ?_).setCell _ _ (fun _ _ => .inr rfl)).setCell _ _ (fun _ _ => .inr rfl)).setCell _ _ (fun _ _ => .inr rfl)).setCell _ _ (fun _ _ => .inr rfl)).setCell _ _ (fun _ _ => .inr rfl)).alloc _;intro hD hC;obtain rfl:=zx (hC.symm.trans hH);exact .inl ⟨rfl,_,_,rfl⟩
 have hA:∀ (W:World) (k:Nat) (x:Obj),W.heap[k]? = some x→(W.alloc ob).heap[k]? = some x:=fun W k x hx=>by rw[Below.heap_alloc _ _ _ (jb hx)];exact hx
 refine⟨hF,hA _ _ _ ?_,h.to hF hj (fun a1' n1' a2' n2' hc=>hA _ _ _ ?_),fun j x hx=>RJ.kp (fun k o' hs hk ht=>⟨hs.1,hI.block _ _ hk ?_⟩) _ _ hx⟩
 ·have e1:=Below.heap_setCell w1 ⟨b,o,none⟩ v p (by simpa using hB.symm);have h5:=z7 (o:=4) v4 (z7 (o:=3) v3 (z7 (o:=2) v2 (z7 (o:=1) v1 (z7 (o:=0) v0 (e1.trans hz)))));exact h5
 ·have hE:=hF1.block _ _ (hF0.block _ _ hc (fun h=>h)) (fun h=>h);rw[Below.heap_setCell _ _ _ _ (by simpa using hB),Below.heap_setCell _ _ _ _ (by simpa using hB),Below.heap_setCell _ _ _ _ (by simpa using hB),Below.heap_setCell _ _ _ _ (by simpa using hB),Below.heap_setCell _ _ _ _ (by simpa using hB)];rw[← ho];exact z7 v hE
 rintro(⟨rfl,ho⟩ | rfl)
 ·exact zhn hG _ _ ⟨rfl,ho⟩ ht
 omega
theorem zg4 (S:Nat→Prop) (b:Nat) (f:Fd) (nm:Bs) (k:Int) (w:World) (h:FB S b f w) (hfit:fits 67108864 f.j=true) (hs:0≤f.seen∧f.seen≤1000) :
 Calls ze 66 #[.pointer (some ⟨b,0,none⟩),.string ⟨nm.toArray⟩,.int .i64 k] w fun e w'=>∃ x,e = .returned x∧RJ S w' (zbg f nm k).1 x∧FB S b (zbg f nm k).2 w'∧Fr (MFd b) w w':=by
 have hZ:=heap_alloc_new w (.cells #[.int .i64 0,.int .i64 0,.string ⟨#[]⟩,.slice none 0 0,.slice none 0 0] 56);have hH:Fr NoB w (w.alloc (.cells #[.int .i64 0,.int .i64 0,.string ⟨#[]⟩,.slice none 0 0,.slice none 0 0] 56)):=Fr.refl.alloc _;have hD:(w.alloc (.cells #[.int .i64 0,.int .i64 0,.string ⟨#[]⟩,.slice none 0 0,.slice none 0 0] 56)).heap.size=w.heap.size+1:=World.size_alloc _ _;obtain⟨W0,hN⟩:∃ W,w.alloc (.cells #[.int .i64 0,.int .i64 0,.string ⟨#[]⟩,.slice none 0 0,.slice none 0 0] 56)=W:=⟨_,rfl⟩;rw[hN]at hZ hH hD
 obtain ⟨a1,n1,a2,n2,c0,c1,c2,c3,c4,c5,c6,fz,hO,hL⟩:=(FB.fr (S:=fun k=>S k∧k<w.heap.size) (w:=w) (by
  obtain⟨h1,b1,b2,b3,b4,h2,h3⟩:=h
  exact⟨h1,b1,b2,b3,b4,h2,RJ.kp (fun k o hs hk _=>⟨⟨hs,jb hk⟩,hk⟩) _ _ h3⟩) hH).cells
 have hC:=z2d _ f.j _ nm W0 hL hfit;obtain⟨G,hG⟩:∃ G,(zb3 f.j nm).getD J.zero=G:=⟨_,rfl⟩;obtain⟨B,hB⟩:∃ B,(zb3 f.j nm).isSome=B:=⟨_,rfl⟩;rw[hG,hB]at hC;obtain⟨kk,n,t,l,q⟩:=G;have HG:=za hG;have HB:=za hB;have Hh:=za h;have Hget:=za hC;have HZ:=za hZ;have hI:=za hH;have hP:b<w.heap.size:=by obtain⟨-,b1,b2,b3,b4,h5,-⟩:=h;exact jb h5
 clear hC hZ hH hL h hfit hG hB;go_enter Tryz.func66,Tryz.ntmps66
 go_upto_region 1 with(fail)
 change Code.wp _ _ _ _ W0;obtain⟨p,hp⟩:∃ p,w.heap.size=p:=⟨_,rfl⟩;rw[hp]at HZ hD hP;rw[hp];have Hp:=za hp;clear hN hp
 go_wp2_with fail
 refine Hget.out.mono ?_;rintro e w1 ⟨x,rfl,hx,hE⟩;have hK:=hx;unfold RJ at hx;obtain⟨b1,d1,b2,d2,rfl,-,-⟩:=hx;obtain⟨a1,n1,a2,n2,c0,c1,c2,c3,c4,c5,c6,fz,hO,-⟩:=((Hh.out.fr hI.out).fr hE).cells;have hz:=hE.block _ _ HZ.out (fun h=>h);obtain⟨z0,z1,z2,z3,z4,zz,zlt⟩:=VB.at hz;have hs1:=hE.size;have Hx:=za (show RJ (fun k=>S k∧k<p) w1 _ _ by rw[← Hp.out];exact hK);have hJ:=za hE;have Hz:=za hz;have hbp:(b==p)=false:=by simp;omega
 clear hK hE hz c0 c1 c2 c3 c4
 have hA:B=false∨(B=true∧(kk != k)=true)→Hid (zbg f nm k=(J.zero,{ f with bad:=true })):=fun hc=>za (by
  unfold zbg;cases hF:zb3 f.j nm with
  | none=>rfl
  | some v =>
    rw[hF]at HB HG;rcases hc with h | ⟨-,h⟩
    ·rw[h]at HB;exact absurd HB.out (by simp)
    have h1:v = .mk kk n t l q:=HG.out;subst h1;have:¬ (J.mk kk n t l q).kind=k:=by simpa[J.kind] using h
    simp only
    rw[if_neg this])
 cases B with
 | false =>
   have Hbad:=hA (.inl rfl);clear hA Hget
   go_wp2_with fail
   obtain⟨e1,e2,e3,e4⟩:=zo5 (f':={ f with bad:=true }) Hh.out hI.out Hp.out hJ.out Hz.out 6 (.bool true) (.int .i64 0) (.int .i64 0) (.string ⟨#[]⟩) (.slice none 0 0) (.slice none 0 0) (.cells #[.int .i64 kk,.int .i64 n,.string ⟨t.toArray⟩,.slice b1 l.length d1,.slice b2 q.length d2] 56) rfl (fun _ _ _ _ _=>rfl);obtain⟨y0,y1,y2,y3,y4,-,-⟩:=VB.at e2;refine bodyPost_ret (v := .agg #[.int .i64 0,.int .i64 0,.string ⟨#[]⟩,.slice none 0 0,.slice none 0 0]) (by simp[results,Tryz.results66,go_sem,y0,y1,y2,y3,y4]) rfl ?_;rw[Hbad.out];exact⟨_,rfl,RJ.zero _ _,e3,e1⟩
 | true =>
   cases hM:(kk != k) with
   | true =>
     have Hbad:=hA (.inr ⟨rfl,hM⟩);clear hA Hget
     go_wp2_with fail
     obtain⟨e1,e2,e3,e4⟩:=zo5 (f':={ f with bad:=true }) Hh.out hI.out Hp.out hJ.out Hz.out 6 (.bool true) (.int .i64 0) (.int .i64 0) (.string ⟨#[]⟩) (.slice none 0 0) (.slice none 0 0) (.cells #[.int .i64 kk,.int .i64 n,.string ⟨t.toArray⟩,.slice b1 l.length d1,.slice b2 q.length d2] 56) rfl (fun _ _ _ _ _=>rfl);obtain⟨y0,y1,y2,y3,y4,-,-⟩:=VB.at e2;refine bodyPost_ret (v := .agg #[.int .i64 0,.int .i64 0,.string ⟨#[]⟩,.slice none 0 0,.slice none 0 0]) (by simp[results,Tryz.results66,go_sem,y0,y1,y2,y3,y4]) rfl ?_;rw[Hbad.out];exact⟨_,rfl,RJ.zero _ _,e3,e1⟩
   | false =>
     have hw1:IntKind.i64.wrap (f.seen+1)=f.seen+1:=by rw[IntKind.wrap_i64];omega
     have Hgood:Hid (zbg f nm k=(.mk kk n t l q,{ f with seen:=f.seen+1 })):=za (by
      unfold zbg;cases hF:zb3 f.j nm with
      | none =>
        rw[hF]at HB;exact absurd HB.out (by simp)
      | some v =>
        rw[hF]at HG;have h1:v = .mk kk n t l q:=HG.out;subst h1;have:(J.mk kk n t l q).kind=k:=by simpa[J.kind] using hM
        simp only
        rw[if_pos this])
     clear hA Hget
     go_wp2_with fail
     obtain⟨e1,e2,e3,e4⟩:=zo5 (f':={ f with seen:=f.seen+1 }) Hh.out hI.out Hp.out hJ.out Hz.out 5 (.int .i64 (f.seen+1)) (.int .i64 kk) (.int .i64 n) (.string ⟨t.toArray⟩) (.slice b1 l.length d1) (.slice b2 q.length d2) (.cells #[.int .i64 kk,.int .i64 n,.string ⟨t.toArray⟩,.slice b1 l.length d1,.slice b2 q.length d2] 56) rfl (fun _ _ _ _ _=>rfl);obtain⟨y0,y1,y2,y3,y4,-,-⟩:=VB.at e2;refine bodyPost_ret (v := .agg #[.int .i64 kk,.int .i64 n,.string ⟨t.toArray⟩,.slice b1 l.length d1,.slice b2 q.length d2]) (by simp[results,Tryz.results66,go_sem,y0,y1,y2,y3,y4]) rfl ?_;rw[Hgood.out];exact⟨_,rfl,e4 _ _ Hx.out,e3,e1⟩
def Fits (j:J):Prop:=fits 67108864 j=true∧fits 1000000 j=true
theorem Fits.text {j:J}(h:Fits j):j.text.length≤1000000:=by
 obtain⟨-,h⟩:=h;cases j;exact(fits.open h).1
theorem Fits.zero:Fits J.zero:=⟨rfl,rfl⟩
theorem zmw (nm:Bs):∀ (l:List (Bs × J)) (v:J),zd7 nm l=some v→∃ i:Nat,l[i]? = some (nm,v):=by
 intro l
 induction l with
 | nil=>intro v h;cases h
 | cons q l ih =>
   intro v h;obtain⟨n,x⟩:=q;unfold zd7 at h;split at h
   ·rename_i hn
    subst hn;exact⟨0,by simpa using h⟩
   obtain⟨i,hi⟩:=ih v h;exact⟨i+1,by simpa using hi⟩
theorem Fits.get {f:Fd} {nm:Bs} {k:Int} (h:Fits f.j):Fits (zbg f nm k).1∧(zbg f nm k).2.j=f.j:=by
 refine⟨?_,(zba f nm k).1⟩;unfold zbg;cases hg:zb3 f.j nm with
 | none=>exact Fits.zero
 | some v =>
   simp only;split
   ·unfold zb3 at hg;split at hg
    ·obtain⟨i,hi⟩:=zmw _ _ _ hg;obtain⟨h1,h2⟩:=h;cases hj:f.j;rw[hj]at h1 h2 hi;exact⟨(fitsp.at _ (fits.open h1).2.2.2.2 i _ _ hi).2,(fitsp.at _ (fits.open h2).2.2.2.2 i _ _ hi).2⟩
    cases hg
   exact Fits.zero
theorem Fits.at {j x:J}{i:Nat}(h:Fits j)(hi:j.list[i]? = some x):Fits x:=by
 obtain⟨h1,h2⟩:=h;cases j;exact⟨fitsl.at _ (fits.open h1).2.2.2.1 i _ hi,fitsl.at _ (fits.open h2).2.2.2.1 i _ hi⟩
theorem zdg (S:Nat→Prop)(b:Nat)(f:Fd)(nm:Bs)(w:World)(h:FB S b f w)(hfit:Fits f.j)(hs:0≤f.seen∧f.seen≤1000) :
 Calls ze 64 #[.pointer (some ⟨b,0,none⟩),.string ⟨nm.toArray⟩] w fun e w'=>e = .returned (.string ⟨(ju f nm).1.toArray⟩)∧FB S b (ju f nm).2 w'∧Fr (MFd b) w w':=by
 have hc:=zg4 S b f nm 3 w h hfit.1 hs;unfold ju;obtain⟨G,hG⟩:∃ G,(zbg f nm 3).1=G:=⟨_,rfl⟩;obtain⟨f2,hA⟩:∃ f2,(zbg f nm 3).2=f2:=⟨_,rfl⟩;rw[hG,hA]at hc;rw[hG,hA];obtain⟨kk,n,t,l,q⟩:=G;show Calls _ _ _ _ fun e w'=>e = .returned (.string ⟨t.toArray⟩)∧FB S b f2 w'∧Fr (MFd b) w w'
 have Hc:=za hc;clear hc h hG hA;go_enter Tryz.func64,Tryz.ntmps64
 go_wp2_with fail
 refine Hc.out.mono ?_;rintro e w1 ⟨x,rfl,hx,hB,hF⟩;unfold RJ at hx;obtain⟨b1,d1,b2,d2,rfl,-,-⟩:=hx;have Hfb:=za hB;have HF:=za hF;have hfd:∀ W:World,(Instr.field 56 (.agg #[.int .i64 kk,.int .i64 n,.string ⟨t.toArray⟩,.slice b1 l.length d1,.slice b2 q.length d2]) 2).run ze W = .ok (.string ⟨t.toArray⟩) W:=fun _=>by kernel_rfl
 clear hB hF
 go_wp2_with fail
 go_ret;exact⟨rfl,Hfb.out,HF.out⟩
theorem zf9 (S:Nat→Prop) (b:Nat) (f:Fd) (w:World) (h:FB S b f w) :
 Calls ze 68 #[.pointer (some ⟨b,0,none⟩)] w fun e w'=>e = .returned (.bool (zdp f))∧Fr NoB w w':=by
 obtain⟨a1,n1,a2,n2,c0,c1,c2,c3,c4,c5,c6,fz,hlt,-⟩:=(h.fr Fr.refl.drew).cells;unfold zdp;obtain⟨bd,hC⟩:∃ x,f.bad=x:=⟨_,rfl⟩;obtain⟨k,hk⟩:∃ x,f.j.kind=x:=⟨_,rfl⟩;obtain⟨s,hs⟩:∃ x,f.seen=x:=⟨_,rfl⟩;obtain⟨n,hn⟩:∃ x,f.j.pairs.length=x:=⟨_,rfl⟩;obtain⟨R,hR⟩:∃ R,(!f.bad&&(decide (f.j.kind=5)&&decide (f.seen=(f.j.pairs.length:Int))))=R:=⟨_,rfl⟩;rw[hR];have HR:Hid ((!bd&&(decide (k=5)&&decide (s=(n:Int))))=R):=za (by rw[← hC,← hk,← hs,← hn];exact hR);rw[hk]at c0;rw[hn]at c4;rw[hs]at c5;rw[hC]at c6;clear c1 c2 c3 h hC hk hs hn hR;cases bd with
 | true =>
   have HP:Hid (false=R):=za (by rw[← HR.out];rfl);clear HR;go_enter Tryz.func68,Tryz.ntmps68
   go_upto_region 1 with(fail)
   refine wp_region_held_drew (S:=fun V=>V=w.drew) (by kernel_rfl) rfl (fun hA=>?_);simp only[qV]
   iterate 27
    first
    | refine qt (v:=undef) rfl (Or.inr ⟨by rfl,rfl⟩) hA ?_
      try simp only[Act.put,qP]
    | refine qt (v:=?_) rfl (Or.inl ⟨by rfl,?_⟩) hA ?_
      rotate_left
      ·intro W hB;obtain rfl:=hB
       try simp only[qQ]
       go_simp
       try rw[if_neg (by omega)]
       try with_reducible rfl
      try simp only[Act.put,qP]
   refine wpAnyH_done (by kernel_rfl) ?_ _;clear hA
   go_wp2_with fail
   go_ret;exact⟨jy HP.out,Fr.refl.drew⟩
 | false =>
   cases hD:(k==5) with
   | false =>
     have HP:Hid (false=R):=za (by
      rw[← HR.out];have:¬ k=5:=by simpa using hD
      simp[this])
     clear HR;go_enter Tryz.func68,Tryz.ntmps68
     go_upto_region 1 with(fail)
     refine wp_region_held_drew (S:=fun V=>V=w.drew) (by kernel_rfl) rfl (fun hA=>?_);simp only[qV]
     iterate 27
      first
      | refine qt (v:=undef) rfl (Or.inr ⟨by rfl,rfl⟩) hA ?_
        try simp only[Act.put,qP]
      | refine qt (v:=?_) rfl (Or.inl ⟨by rfl,?_⟩) hA ?_
        rotate_left
        ·intro W hB;obtain rfl:=hB
         try simp only[qQ]
         go_simp
         try rw[if_neg (by omega)]
         try with_reducible rfl
        try simp only[Act.put,qP]
     refine wpAnyH_done (by kernel_rfl) ?_ _;clear hA
     go_wp2_with fail
     go_ret;exact⟨jy HP.out,Fr.refl.drew⟩
   | true =>
     obtain⟨e5,hE⟩:∃ e,(s==(n:Int))=e:=⟨_,rfl⟩
     have HP:Hid (e5=R):=za (by
      rw[← HR.out,← hE];have:k=5:=by simpa using hD
      subst this
      by_cases h:s=(n:Int)<;>simp[h])
     clear HR;go_enter Tryz.func68,Tryz.ntmps68
     go_upto_region 1 with(fail)
     refine wp_region_held_drew (S:=fun V=>V=w.drew) (by kernel_rfl) rfl (fun hA=>?_);simp only[qV]
     iterate 27
      refine qt (v:=?_) rfl (Or.inl ⟨by rfl,?_⟩) hA ?_;rotate_left
      ·intro W hB;obtain rfl:=hB
       try simp only[qQ]
       go_simp
       try rw[if_neg (by omega)]
       try with_reducible rfl
      try simp only[Act.put,qP]
     refine wpAnyH_done (by kernel_rfl) ?_ _;clear hA
     go_wp2_with fail
     go_ret;exact⟨jy HP.out,Fr.refl.drew⟩
theorem zvb (S:Nat→Prop) (b:Nat) (f:Fd) (nm:Bs) (w:World) (h:FB S b f w) (hfit:Fits f.j) (hs:0≤f.seen∧f.seen≤1000) :
 Calls ze 78 #[.pointer (some ⟨b,0,none⟩),.string ⟨nm.toArray⟩,.func (.func 79) #[] #[]] w fun e w'=>e = .returned (.agg (zb (zg5 f nm).1).toArray)∧FB S b (zg5 f nm).2 w'∧Fr (MFd b) w w':=by
 have hV:b<w.heap.size:=by obtain⟨-,b1,b2,b3,b4,h5,-⟩:=h;exact jb h5
 have hZ:=heap_alloc_new w (.cells #[zy z6 0,zy z6 0,zy z6 0,zy z6 0,zy z6 0,zy z6 0,zy z6 0,zy z6 0,zy z6 0,zy z6 0,zy z6 0,zy z6 0,zy z6 0,zy z6 0,zy z6 0,zy z6 0,zy z6 0,zy z6 0,zy z6 0,zy z6 0,zy z6 0,zy z6 0,zy z6 0,zy z6 0,zy z6 0,zy z6 0,zy z6 0,zy z6 0,zy z6 0,zy z6 0,zy z6 0,zy z6 0] 23);have hQ:Fr NoB w (w.alloc (.cells #[zy z6 0,zy z6 0,zy z6 0,zy z6 0,zy z6 0,zy z6 0,zy z6 0,zy z6 0,zy z6 0,zy z6 0,zy z6 0,zy z6 0,zy z6 0,zy z6 0,zy z6 0,zy z6 0,zy z6 0,zy z6 0,zy z6 0,zy z6 0,zy z6 0,zy z6 0,zy z6 0,zy z6 0,zy z6 0,zy z6 0,zy z6 0,zy z6 0,zy z6 0,zy z6 0,zy z6 0,zy z6 0] 23)):=Fr.refl.alloc _;obtain⟨W0,hf⟩:∃ W,w.alloc (.cells #[zy z6 0,zy z6 0,zy z6 0,zy z6 0,zy z6 0,zy z6 0,zy z6 0,zy z6 0,zy z6 0,zy z6 0,zy z6 0,zy z6 0,zy z6 0,zy z6 0,zy z6 0,zy z6 0,zy z6 0,zy z6 0,zy z6 0,zy z6 0,zy z6 0,zy z6 0,zy z6 0,zy z6 0,zy z6 0,zy z6 0,zy z6 0,zy z6 0,zy z6 0,zy z6 0,zy z6 0,zy z6 0] 23)=W:=⟨_,rfl⟩;rw[hf]at hZ hQ;obtain⟨p,hp⟩:∃ p,w.heap.size=p:=⟨_,rfl⟩;rw[hp]at hZ hV;have hc:=zdg S b f nm W0 (h.fr hQ) hfit hs;have hT:(ju f nm).1.length≤1000000:=(Fits.get (nm:=nm) (k:=3) hfit).1.text;unfold zg5;obtain⟨t,ht⟩:∃ t,(ju f nm).1=t:=⟨_,rfl⟩;obtain⟨f2,hU⟩:∃ f2,(ju f nm).2=f2:=⟨_,rfl⟩;rw[ht,hU]at hc;rw[ht]at hT;rw[ht,hU];have hF:=fun W=>z0r t W hT
 have hl:=fun r h=>(zc4 t r).1 h
 obtain⟨R,hR⟩:∃ R,zii t=R:=⟨_,rfl⟩;rw[hR]at hF hl;rw[hR];obtain⟨D,hD⟩:∃ D,R.getD (List.replicate 32 0)=D:=⟨_,rfl⟩
 have hG:D.length=32:=by
  rw[← hD];cases R with
  | none=>rfl
  | some r=>exact(hl r rfl).2
 obtain⟨E,hE⟩:∃ E,(if R.isNone then Value.iface 49 (.int .i64 1) else .nilIface)=E:=⟨_,rfl⟩
 have hB:∀ W,Calls ze 79 #[.string ⟨t.toArray⟩] W fun e w'=>e = .returned (.tuple #[.agg (zb D).toArray,E])∧Fr NoB W w':=fun W=>(hF W).mono (by
  rintro e w' ⟨h1,h2⟩;refine⟨?_,h2⟩;rw[← hD,← hE];cases R with
  | none=>exact h1
  | some r=>exact h1)
 have hent:∀ hH W,(callFunc 79 hH).run ze W = .ok (.enter 79 hH) W:=fun hH w=>by simp[go_sem]
 obtain⟨bn,hd⟩:∃ bn,R.isNone=bn:=⟨_,rfl⟩;rw[hd]at hE ⊢;rw[hD];have Hc:=za hc;have Hsum:=za hB;have HZ:=za hZ;have ho:=za hQ;have Hp:=za hp;have Hh:=za h;have HD:=za hG;obtain⟨C,hC⟩:∃ C,zb D=C:=⟨_,rfl⟩;have HC:Hid (C.length=32):=za (by rw[← hC,je,hG]);have H1:=za (show C.toArray.all (·.oneCell')=true by rw[← hC];exact all_oneCell_toArray (zau _));rw[hC]at Hsum;have hj:(zb D).toArray=C.toArray:=by rw[hC]
 clear hc hF hB hl hZ hQ hp h hG hR hD hT ht hU hd hC;show Calls _ _ _ _ fun e w'=>e = .returned (.agg (zb D).toArray)∧FB S b { f2 with bad:=f2.bad||bn } w'∧Fr (MFd b) w w'
 rw[hj];clear hj HD;have hn:Hid ((Tryz.prog.info? 23).map (·.size)=some C.toArray.size):=za (by rw[jr,zn,HC.out]);have hk:Hid ((Tryz.prog.info? 23).map (·.size)=some C.length):=za (by rw[jr,HC.out]);go_enter Tryz.func78,Tryz.ntmps78
 go_upto_region 1 with(fail)
 change Code.wp _ _ _ _ W0;have hb:=Hp.out;rw[hb];clear hf hb
 go_wp2_with fail
 refine Hc.out.mono ?_;rintro e w1 ⟨rfl,hK,hi⟩;have hS:=za hi;have hO:=za hK;clear hK hi
 go_wp2_with fail
 refine(Hsum.out _).mono ?_;rintro e w2 ⟨rfl,hI⟩;have hx:b<w2.heap.size:=zu (zu (zu (Hp.out▸hV) ho.out.size) hS.out.size) hI.size;have hv:p<w2.heap.size:=zu (zu (jb HZ.out) hS.out.size) hI.size;have he:=hI.block _ _ (hS.out.block _ _ HZ.out (fun h=>by have:=h.1;omega)) (fun h=>h);have hN:=heap_alloc_new w2 (.cells #[zy z6 0,zy z6 0,zy z6 0,zy z6 0,zy z6 0,zy z6 0,zy z6 0,zy z6 0,zy z6 0,zy z6 0,zy z6 0,zy z6 0,zy z6 0,zy z6 0,zy z6 0,zy z6 0,zy z6 0,zy z6 0,zy z6 0,zy z6 0,zy z6 0,zy z6 0,zy z6 0,zy z6 0,zy z6 0,zy z6 0,zy z6 0,zy z6 0,zy z6 0,zy z6 0,zy z6 0,zy z6 0] 23);have ha:=za (jf hN (n:=C.toArray.size) (by rw[zn,HC.out];show 32≤32;omega));have hM:Fr NoB w2 ((w2.alloc (.cells #[zy z6 0,zy z6 0,zy z6 0,zy z6 0,zy z6 0,zy z6 0,zy z6 0,zy z6 0,zy z6 0,zy z6 0,zy z6 0,zy z6 0,zy z6 0,zy z6 0,zy z6 0,zy z6 0,zy z6 0,zy z6 0,zy z6 0,zy z6 0,zy z6 0,zy z6 0,zy z6 0,zy z6 0,zy z6 0,zy z6 0,zy z6 0,zy z6 0,zy z6 0,zy z6 0,zy z6 0,zy z6 0] 23)).setCells w2.heap.size 0 C):=((Fr.refl (M:=NoB)).alloc _).trans (z8 _ _ _ _) (fun k _ hm => .inr (by omega));have hP:=World.rangeAt_setCells_same (w2.alloc (.cells #[zy z6 0,zy z6 0,zy z6 0,zy z6 0,zy z6 0,zy z6 0,zy z6 0,zy z6 0,zy z6 0,zy z6 0,zy z6 0,zy z6 0,zy z6 0,zy z6 0,zy z6 0,zy z6 0,zy z6 0,zy z6 0,zy z6 0,zy z6 0,zy z6 0,zy z6 0,zy z6 0,zy z6 0,zy z6 0,zy z6 0,zy z6 0,zy z6 0,zy z6 0,zy z6 0,zy z6 0,zy z6 0] 23)) w2.heap.size 0 C (by simpa using ha.out);have hA:=(hO.out.fr hI).fr hM;have hL:=hM.block _ _ he (fun h=>h);have hY:Fr (MFd b) w ((w2.alloc (.cells #[zy z6 0,zy z6 0,zy z6 0,zy z6 0,zy z6 0,zy z6 0,zy z6 0,zy z6 0,zy z6 0,zy z6 0,zy z6 0,zy z6 0,zy z6 0,zy z6 0,zy z6 0,zy z6 0,zy z6 0,zy z6 0,zy z6 0,zy z6 0,zy z6 0,zy z6 0,zy z6 0,zy z6 0,zy z6 0,zy z6 0,zy z6 0,zy z6 0,zy z6 0,zy z6 0,zy z6 0,zy z6 0] 23)).setCells w2.heap.size 0 C):=(((ho.out.mono (fun _ _ h=>h.elim)).trans' hS.out).trans' (hI.mono (fun _ _ h=>h.elim))).trans' (hM.mono (fun _ _ h=>h.elim));clear hI he hN
 go_upto_region 2 with(with_reducible refine wpList_store_mid rfl 23 _ _ rfl w2.heap.size 0 C.toArray rfl rfl ha.out hn.out H1.out ?_)
 change Code.wp _ _ _ _ ((w2.alloc (.cells #[zy z6 0,zy z6 0,zy z6 0,zy z6 0,zy z6 0,zy z6 0,zy z6 0,zy z6 0,zy z6 0,zy z6 0,zy z6 0,zy z6 0,zy z6 0,zy z6 0,zy z6 0,zy z6 0,zy z6 0,zy z6 0,zy z6 0,zy z6 0,zy z6 0,zy z6 0,zy z6 0,zy z6 0,zy z6 0,zy z6 0,zy z6 0,zy z6 0,zy z6 0,zy z6 0,zy z6 0,zy z6 0] 23)).setCells w2.heap.size 0 C);obtain⟨W3,hW⟩:∃ W,(w2.alloc (.cells #[zy z6 0,zy z6 0,zy z6 0,zy z6 0,zy z6 0,zy z6 0,zy z6 0,zy z6 0,zy z6 0,zy z6 0,zy z6 0,zy z6 0,zy z6 0,zy z6 0,zy z6 0,zy z6 0,zy z6 0,zy z6 0,zy z6 0,zy z6 0,zy z6 0,zy z6 0,zy z6 0,zy z6 0,zy z6 0,zy z6 0,zy z6 0,zy z6 0,zy z6 0,zy z6 0,zy z6 0,zy z6 0] 23)).setCells w2.heap.size 0 C=W:=⟨_,rfl⟩;rw[hW]at hP hA hL hM hY ⊢;obtain⟨q,hq⟩:∃ q,w2.heap.size=q:=⟨_,rfl⟩
 have hu:q<W3.heap.size:=by
  rw[← hW,← hq];exact zu (by rw[World.size_alloc];omega) (z8 (w2.heap.size) C 0 (w2.alloc _)).size
 rw[hq]at hP hx hv;rw[hq];clear hW hM ha;obtain⟨a1,n1,a2,n2,-,-,-,-,-,-,c6,fz,hlt,-⟩:=hA.cells;obtain⟨e1,e2⟩:=hA.setBad (f2.bad||bn);have hg:=za (ji hP e2 hu (fun _ h=>by have:=h.1;omega));have hX:=za (zfm (jf hL (n:=C.toArray.size) (by rw[zn,HC.out];show 32≤32;omega)) e2 (jb hL) (fun _ h=>by have:=h.1;omega));have h0:=za e1;have hy:=za (e2.block _ _ hL (fun h=>by have:=h.1;omega));have hz:=za (hY.trans' e2);have HpW:=za (Hp.out);clear hL hA hP hY e1 e2 hO Hh hfit Hc Hsum;obtain⟨j2,s2,bd⟩:=f2
 have hJ:∀ tm:Array Value,tm.getD 6 undef = .pointer (some ⟨p,0,none⟩)→bodyPost ze Tryz.f78 (fun e w'=>e = .returned (.agg C.toArray)∧FB S b { j:=j2,seen:=s2,bad:=bd||bn } w'∧Fr (MFd b) w w') Exit.ret { tmps:=tm,defers:=[] } ((W3.setCell ⟨b,6,none⟩ (.bool (bd||bn))).setCells p 0 C):=fun tm hr=>by
  have hw:=run_loadVar_mid (P:=ze) _ p 0 23 C (.array 32 5) (World.rangeAt_setCells_same (W3.setCell ⟨b,6,none⟩ (.bool (bd||bn))) p 0 C (by simpa using hX.out)) jh rfl hk.out;have hh:=z8 p C 0 (W3.setCell ⟨b,6,none⟩ (.bool (bd||bn)));refine bodyPost_ret (v := .agg C.toArray) ?_ rfl ⟨rfl,?_,hz.out.trans hh (fun k _ hm => .inr (by have h1:=Hp.out;have h2:k=p:=hm;omega))⟩
  ·rw[qs rfl,hr];simp[asAddr,Result.andThen,hw]
  exact h0.out.to2 hh hV hy.out
 have Hfin:=za hJ;clear hJ;cases bd<;>cases bn
 all_goals
  simp only[Bool.or_self,Bool.or_false,Bool.or_true,Bool.true_or,Bool.false_or]at hg hX Hfin
  first | (obtain rfl:Value.nilIface=E:=hE) | (obtain rfl:Value.iface 49 (.int .i64 1)=E:=hE)
  go_wp2_with (first
   | (with_reducible refine wpList_load_mid rfl 23 _ rfl q 0 rfl C (.array 32 5) hg.out jh rfl hk.out ?_)
   | (with_reducible refine wpList_store_mid rfl 23 _ _ rfl p 0 C.toArray rfl rfl hX.out hn.out H1.out ?_))
  refine Hfin.out _ ?_;rfl
end
end Go.Proofs.YtmgfncjfgkllcaaGreatDoor
