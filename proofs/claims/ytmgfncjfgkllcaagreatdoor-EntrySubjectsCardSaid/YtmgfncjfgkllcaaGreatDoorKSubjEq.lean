/-
 An entry that may be asked for;whether a payload is a statement's,as entry.Subjects tells it.
-/
import Derived.Test.YtmgfncjfgkllcaaGreatDoorKCheckE
import Derived.Test.YtmgfncjfgkllcaaGreatDoorKSubjects
import Derived.Test.YtmgfncjfgkllcaaGreatDoorKSpecVal
import Derived.Test.YtmgfncjfgkllcaaGreatDoorKEnAt
import Derived.Test.YtmgfncjfgkllcaaGreatDoorKSignerOf
import Derived.Test.YtmgfncjfgkllcaaGreatDoorKShelf
import Derived.Test.YtmgfncjfgkllcaaGreatDoorKRefSubj
namespace Go.Proofs.YtmgfncjfgkllcaaGreatDoor
set_option linter.unusedVariables false
set_option linter.unusedSimpArgs false
set_option linter.unusedSectionVars false
set_option maxRecDepth 100000
section
open Go.RowKit Go.Shelf
variable [OldK]
def zh2 (s:Bs):Bool:=(za7 s).isSome
theorem zog {S:Nat→Prop} {e:En} {pv:Value} {w:World} (hb:SB S e.payload pv w) (hg:Gl w) (hlen:e.payload.length≤1000000):SubC zh2 e pv w:=fun _ W hF =>
 (zkk S _ pv W (hb.fr hF (fun _ _ _ _ h=>h)) (hg.fr hF (fun _ _ _ h=>h.elim)) (hg.fr hF (fun _ _ _ h=>h.elim)).old hlen).mono (by
   rintro r w' ⟨h1,h2⟩;refine⟨?_,h2⟩;unfold zv1 zh2;cases hs:za7 e.payload with
   | none =>
     rw[hs]at h1;exact⟨_,_,h1,rfl⟩
   | some l =>
     rw[hs]at h1;obtain⟨v,h1,-⟩:=h1
     exact⟨_,_,h1,rfl⟩)
structure Fine (S S':Nat→Prop) (e:En) (pv sv:Value) (w:World):Prop where
 ok:e.ok
 pay:SB S e.payload pv w
 sgs:GS S' e.sigs sv w
 gl:Gl w
 typ:e.typ.length≤1000000
 idn:e.ident.length≤1000000
 len:e.payload.length≤1000000
 many:e.sigs.length≤1000
 ids:∀ s∈e.sigs,s.id.length≤1000000
theorem Fine.fr {S S':Nat→Prop}{e:En}{pv sv:Value}{w w':World}(h:Fine S S' e pv sv w)(hF:Fr NoB w w'):Fine S S' e pv sv w' :=
 ⟨h.ok,h.pay.fr hF (fun _ _ _ _ h=>h),h.sgs.fr hF (fun _ _ _ h=>h),h.gl.fr hF (fun _ _ _ h=>h.elim),h.typ,h.idn,h.len,h.many,h.ids⟩
end
section
open Go.RowKit
variable [OldK]
def zbr:Array Value:=#[.string ⟨#[]⟩,.string ⟨wArt.toArray⟩,.string ⟨wEnv.toArray⟩,.string ⟨wSta.toArray⟩,.string ⟨wBin.toArray⟩]
def zoa:Array Value:=#[.string ⟨#[]⟩,.string ⟨wBind.toArray⟩,.string ⟨wRot.toArray⟩,.string ⟨wRev.toArray⟩]
theorem zjg (w:World):Calls Tryz.prog 75 #[] w fun e w'=>e = .returned (.agg zbr)∧Fr NoB w w':=by
 have hr:(w.alloc (.cells zbr 135)).rangeAt w.heap.size 0 (zbr).toList:=jm (heap_alloc_new w _);have hA:=run_loadVar_mid (P:=Tryz.prog) (w.alloc (.cells zbr 135)) w.heap.size 0 135 (zbr).toList (.array 5 9) hr (by kernel_rfl) rfl (by kernel_rfl);rw[show(zbr).toList.toArray=zbr from rfl]at hA;have Hld:=Lib.hid hA;clear hA hr;go_enter Tryz.func75,Tryz.ntmps75
 go_wp2_with fail
 refine bodyPost_ret (v := .agg zbr) (w:=w.alloc (.cells zbr 135)) ?_ rfl ⟨rfl,Fr.refl.alloc _⟩;rw[qs rfl];show((asAddr (.pointer (some ⟨w.heap.size,0,none⟩))).run _ (w.alloc (.cells zbr 135))).andThen _=_;simp[asAddr,Result.andThen,Hld.out]
theorem z03 (w:World):Calls Tryz.prog 76 #[] w fun e w'=>e = .returned (.agg zoa)∧Fr NoB w w':=by
 have hr:(w.alloc (.cells zoa 137)).rangeAt w.heap.size 0 (zoa).toList:=jm (heap_alloc_new w _);have hA:=run_loadVar_mid (P:=Tryz.prog) (w.alloc (.cells zoa 137)) w.heap.size 0 137 (zoa).toList (.array 4 9) hr (by kernel_rfl) rfl (by kernel_rfl);rw[show(zoa).toList.toArray=zoa from rfl]at hA;have Hld:=Lib.hid hA;clear hA hr;go_enter Tryz.func76,Tryz.ntmps76
 go_wp2_with fail
 refine bodyPost_ret (v := .agg zoa) (w:=w.alloc (.cells zoa 137)) ?_ rfl ⟨rfl,Fr.refl.alloc _⟩;rw[qs rfl];show((asAddr (.pointer (some ⟨w.heap.size,0,none⟩))).run _ (w.alloc (.cells zoa 137))).andThen _=_;simp[asAddr,Result.andThen,Hld.out]
end
section
open Go.RowKit
variable [OldK]
structure EnB (p:Nat) (e:En) (pv sv:Value) (V:World):Prop where
 rg:V.rangeAt p 0 (e.cells pv sv)
 th:V.there p 0 70
 lt:p<V.heap.size
 ty:∃ c,V.heap[p]? = some (.cells c 28 (0,0))
section
variable {p:Nat} {e:En} {pv sv:Value} {V V':World}
theorem EnB.fr {M:Nat→Obj→Prop}(h:EnB p e pv sv V)(hF:Fr M V V')(hM:∀ c,¬ M p (.cells c 28 (0,0))):EnB p e pv sv V':=by
 obtain⟨c,hc⟩:=h.ty;have hB:=hF.block _ _ hc (hM c);have hA:∀ o,V'.cell? ⟨p,o,none⟩=V.cell? ⟨p,o,none⟩:=fun o=>by simp only[World.cell?,hc,hB]
 have hC:∀ o,V'.frozen? ⟨p,o,none⟩=V.frozen? ⟨p,o,none⟩:=fun o=>by simp only[World.frozen?,hc,hB]
 exact⟨fun j x hx=>by rw[hA];exact h.rg j x hx,fun j hj=>by rw[hA,hC];exact h.th j hj,jb hB,c,hB⟩
theorem zf3 {b:Nat} {T:TypeId}:∀ (vs:List Value) (o:Nat) (w:World) (c:Array Value),w.heap[b]? = some (.cells c T (0,0))→∃ c',(w.setCells b o vs).heap[b]? = some (.cells c' T (0,0))
 | [],_,_,c,h=>⟨c,h⟩
 | v :: vs,o,w,c,h=>by
   rw[World.setCells];exact zf3 vs (o+1) _ _ (z7 (o:=o) v h)
theorem EnB.sets (h:EnB p e pv sv V)(o:Nat)(vs:List Value){e':En}{pv' sv':Value}(hr:(V.setCells p o vs).rangeAt p 0 (e'.cells pv' sv')):EnB p e' pv' sv' (V.setCells p o vs):=by
 obtain⟨c,hc⟩:=h.ty;obtain⟨c',hA⟩:=zf3 vs o V c hc;exact⟨hr,World.there_setCells h.th _ _ _,jb hA,c',hA⟩
theorem EnB.set1 (h:EnB p e pv sv V)(o:Nat)(v:Value){e':En}{pv' sv':Value}(hr:(V.setCell ⟨p,o,none⟩ v).rangeAt p 0 (e'.cells pv' sv')):EnB p e' pv' sv' (V.setCell ⟨p,o,none⟩ v) :=
 EnB.sets h o [v] hr
theorem EnB.at (h:EnB p e pv sv V)(o:Nat)(ho:o<70):(∃ x,V.cell? ⟨p,o,none⟩=some x)∧V.frozen? ⟨p,o,none⟩=false:=by
 have:=h.th o ho;rw[Nat.zero_add]at this;exact⟨Option.isSome_iff_exists.1 this.1,this.2⟩
theorem EnB.part (h:EnB p e pv sv V)(o n:Nat)(ho:o+n≤70):V.there p o n:=fun j hj=>by
 have:=h.th (o+j) (by omega)
 rwa [Nat.zero_add]at this
end
def kindsL:List ByteArray:=[⟨#[]⟩,⟨wArt.toArray⟩,⟨wEnv.toArray⟩,⟨wSta.toArray⟩,⟨wBin.toArray⟩]
def opsL:List ByteArray:=[⟨#[]⟩,⟨wBind.toArray⟩,⟨wRot.toArray⟩,⟨wRev.toArray⟩]
theorem z1q (a b:Bs):((⟨a.toArray⟩:ByteArray)=⟨b.toArray⟩)↔a=b:=by
 constructor
 ·intro h
  injection h with h
  have:=congrArg Array.toList h;simpa using this
 rintro rfl;rfl
theorem zuu (t:Bs):Lib.idxOfS kindsL ⟨t.toArray⟩=zgv t:=by
 unfold Lib.idxOfS kindsL zgv;have e0:(⟨#[]⟩:ByteArray)=⟨([]:Bs).toArray⟩:=rfl;rw[e0];simp only[Lib.idxFromS,beq_iff_eq,z1q];by_cases h0:t=[]
 ·simp[h0]
 by_cases h1:t=wArt
 ·simp[h1,wArt]
 by_cases h2:t=wEnv
 ·simp[h2,wArt,wEnv]
 by_cases h3:t=wSta
 ·simp[h3,wArt,wEnv,wSta]
 by_cases h4:t=wBin
 ·simp[h4,wArt,wEnv,wSta,wBin]
 simp[h0,h1,h2,h3,h4,Ne.symm h0,Ne.symm h1,Ne.symm h2,Ne.symm h3,Ne.symm h4]
theorem zzv (t:Bs):Lib.idxOfS opsL ⟨t.toArray⟩=zzx t:=by
 unfold Lib.idxOfS opsL zzx;have e0:(⟨#[]⟩:ByteArray)=⟨([]:Bs).toArray⟩:=rfl;rw[e0];simp only[Lib.idxFromS,beq_iff_eq,z1q];by_cases h0:t=[]
 ·simp[h0]
 by_cases h1:t=wBind
 ·simp[h1,wBind]
 by_cases h2:t=wRot
 ·simp[h2,wBind,wRot]
 by_cases h3:t=wRev
 ·simp[h3,wBind,wRot,wRev]
 simp[h0,h1,h2,h3,Ne.symm h0,Ne.symm h1,Ne.symm h2,Ne.symm h3]
theorem zxg (t:Bs) (b:Nat) (w:World) (hb:w.heap[b]? = some (.cells zbr 135 (0,0))) :
 Calls Tryz.prog 77 #[.slice (some ⟨b,0,none⟩) 5 5,.string ⟨t.toArray⟩] w fun r w'=>r = .returned (.int .i64 (zgv t))∧w'=w:=by
 have h:=Tryz.slices_Index_string b 0 5 5 kindsL ⟨t.toArray⟩ w (by decide) (by decide) (fun j hj=>by
  have:j=0∨j=1∨j=2∨j=3∨j=4:=by have:kindsL.length=5:=rfl;omega
  rcases this with rfl | rfl | rfl | rfl | rfl<;>simp[World.cell?,hb,zbr,kindsL])
 rw[show kindsL.take 5=kindsL from rfl,zuu]at h;exact h
theorem z04 (t:Bs) (b:Nat) (w:World) (hb:w.heap[b]? = some (.cells zoa 137 (0,0))) :
 Calls Tryz.prog 77 #[.slice (some ⟨b,0,none⟩) 4 4,.string ⟨t.toArray⟩] w fun r w'=>r = .returned (.int .i64 (zzx t))∧w'=w:=by
 have h:=Tryz.slices_Index_string b 0 4 4 opsL ⟨t.toArray⟩ w (by decide) (by decide) (fun j hj=>by
  have:j=0∨j=1∨j=2∨j=3:=by have:opsL.length=4:=rfl;omega
  rcases this with rfl | rfl | rfl | rfl<;>simp[World.cell?,hb,zoa,opsL])
 rw[show opsL.take 4=opsL from rfl,zzv]at h;exact h
end
section
theorem zd3 {f:Fd}{nm:Bs}{k:Int}{v:J}(h:zb3 f.j nm=some v)(hk:v.kind=k):zbg f nm k=(v,{ f with seen:=f.seen+1 }):=by
 unfold zbg;rw[h];simp only[hk,if_true]
theorem zga {f:Fd}{nm:Bs}{k:Int}(h:∀ v,zb3 f.j nm=some v→v.kind≠k):zbg f nm k=(J.zero,{ f with bad:=true }):=by
 unfold zbg;cases hg:zb3 f.j nm with
 | none=>rfl
 | some v=>simp only[h v hg,if_false]
theorem zjc {j v:J}{nm:Bs}(h:zb3 j nm=some v):j.kind=5:=by
 unfold zb3 at h;split at h
 ·assumption
 cases h
theorem zfb {j v:J}{nm:Bs}(h:zb3 j nm=some v)(hk:v.kind=3):zc6 j nm=(v.text,true):=by
 unfold zc6;rw[h];simp[hk]
theorem zik {j:J}{nm:Bs}(h:∀ v,zb3 j nm=some v→v.kind≠3):(zc6 j nm).2=false:=by
 unfold zc6;cases hg:zb3 j nm with
 | none=>rfl
 | some v=>simp[h v hg]
def okG (j:J) (nm:Bs) (k:Int):Prop:=∃ v,zb3 j nm=some v∧v.kind=k
theorem zfz {j:J}{nm:Bs}{k:Int}(h:¬ okG j nm k):∀ v,zb3 j nm=some v→v.kind≠k:=fun v hv hk=>h ⟨v,hv,hk⟩
theorem zha {f:Fd}(h:f.bad=true):zdp f=false:=by unfold zdp;rw[h];rfl
theorem zbc {f:Fd} {nm:Bs} {k:Int} (h:f.bad=true):(zbg f nm k).2.bad=true:=by
 unfold zbg;split
 ·split
  ·exact h
  rfl
 rfl
theorem zza (x:J):zon x=if (jq x).2.2=true then some ((jq x).1,(jq x).2.1) else none:=by
 by_cases hn:okG x zf4 3
 ·obtain ⟨n,hA,hC⟩:=hn;by_cases hd:okG x zan 5
  ·obtain ⟨d,hB,hD⟩:=hd;by_cases hs:okG d zbs 3
   ·obtain ⟨h,hF,hE⟩:=hs;have hx:=zjc hA;have e1:zbg ⟨x,0,false⟩ zan 5=(d,⟨x,1,false⟩):=zd3 hB hD;have e2:zbg ⟨x,1,false⟩ zf4 3=(n,⟨x,2,false⟩):=zd3 hA hC;have e3:zbg ⟨d,0,false⟩ zbs 3=(h,⟨d,1,false⟩):=zd3 hF hE;unfold zon jq;simp only[zfb hA hC,hB,Option.getD_some,zfb hF hE,e1,ju,zg5,e2,e3,zdp,hx,hD];cases hk:zii h.text with
    | none=>simp
    | some z =>
      have q1:decide ((2:Int)=(x.pairs.length:Int))=decide (x.pairs.length=2):=by rw[decide_eq_decide];omega
      have q2:decide ((1:Int)=(d.pairs.length:Int))=decide (d.pairs.length=1):=by rw[decide_eq_decide];omega
      have q3:(!n.text.isEmpty)=decide (1≤n.text.length):=by cases n.text<;>simp
      simp only[q1,q2,q3,Option.isSome_some,Option.isNone_some,Option.getD_some,Bool.or_false,Bool.not_false,Bool.true_and,decide_true]
      congr 1
      rw[Bool.and_assoc]
   have e1:zbg ⟨x,0,false⟩ zan 5=(d,⟨x,1,false⟩):=zd3 hB hD;have e3:zbg ⟨d,0,false⟩ zbs 3=(J.zero,⟨d,0,true⟩):=zga (zfz hs);unfold zon jq;simp only[zfb hA hC,hB,Option.getD_some,zik (zfz hs),e1,ju,zg5,e3,zdp];simp
  have hb:(zbg ⟨x,0,false⟩ zan 5).2.bad=true:=by rw[zga (zfz hd)]
  have hf:(zc6 ((zb3 x zan).getD J.zero) zbs).2=false:=by
   cases hg:zb3 x zan with
   | none=>rfl
   | some d =>
     refine zik (fun v hv=>?_);exact absurd ⟨d,hg,zjc hv⟩ hd
  have hp:(jq x).2.2=false:=by
   unfold jq ju;simp only;rw[zha (zbc hb)];rfl
  rw[hp];unfold zon;simp only[hf];simp
 have hf:=zik (zfz hn)
 have hp:(jq x).2.2=false:=by
  unfold jq ju;simp only
  have hb:(zbg (zbg ⟨x,0,false⟩ zan 5).2 zf4 3).2.bad=true:=by
   rw[zga];intro v hv;rw[(zba ⟨x,0,false⟩ zan 5).1]at hv;exact zfz hn v hv
  rw[zha hb];rfl
 rw[hp];unfold zon;simp only[hf];simp
theorem ztj:∀ l:List J,zgo l=if (l.map jq).any (fun x=>!x.2.2)=true then none else some ((l.map jq).map fun x=>(x.1,x.2.1))
 | []=>rfl
 | x :: l=>by
   rw[zgo,zza,ztj l];cases hx:(jq x).2.2 with
   | false=>simp[hx]
   | true =>
     simp only[if_true,List.map_cons,List.any_cons,hx,Bool.not_true,Bool.false_or];split<;>simp
def zj4 (j:J) (bad:Bool):Fd :=
 let t:=ju ⟨j,0,bad⟩ zd6
 if t.1=zbl then (if zcd (ju t.2 j7).1 then (ju t.2 j7).2 else { (ju t.2 j7).2 with bad:=true }) else { t.2 with bad:=true }
theorem zk9 (j:J)(bad:Bool):zev j bad=zbg (zbg (zj4 j bad) j9 5).2 qy 4:=rfl
theorem zy9 (j:J) (bad:Bool):(zj4 j bad).j=j:=by
 unfold zj4 ju;simp only;have h1:=(zba ⟨j,0,bad⟩ zd6 3).1;have h2:=(zba (zbg ⟨j,0,bad⟩ zd6 3).2 j7 3).1;split
 ·split
  ·rw[h2,h1]
  show(zbg (zbg ⟨j,0,bad⟩ zd6 3).2 j7 3).2.j=j;rw[h2,h1]
 exact h1
theorem zkl {j:J} {bad:Bool} (h:bad=true∨¬ okG j zd6 3):(zj4 j bad).bad=true:=by
 have hb:(zbg ⟨j,0,bad⟩ zd6 3).2.bad=true:=by
  rcases h with h | h
  ·exact zbc h
  rw[zga (zfz h)]
 unfold zj4 ju;simp only;split
 ·split
  ·exact zbc hb
  rfl
 rfl
theorem zro {j:J} {bad:Bool} (h:¬ okG j j7 3):(zj4 j bad).bad=true:=by
 unfold zj4 ju;simp only;split
 ·split
  ·rw[zga];intro v hv;rw[(zba ⟨j,0,bad⟩ zd6 3).1]at hv;exact zfz h v hv
  rfl
 rfl
theorem zth {j:J}{bad:Bool}(h:bad=true∨¬ okG j zd6 3∨¬ okG j j7 3∨¬ okG j j9 5∨¬ okG j qy 4):(zev j bad).2.bad=true:=by
 rw[zk9];have hj:=zy9 j bad;have hA:=(zba (zj4 j bad) j9 5).1;rcases h with h | h | h | h | h
 ·exact zbc (zbc (zkl (.inl h)))
 ·exact zbc (zbc (zkl (.inr h)))
 ·exact zbc (zbc (zro h))
 ·refine zbc ?_;rw[zga];intro v hv;rw[hj]at hv;exact zfz h v hv
 rw[zga];intro v hv;rw[hA,hj]at hv;exact zfz h v hv
theorem zof (s:Bs):zfc s=za7 s:=by
 unfold zfc za7;obtain⟨⟨v,pe⟩,hv⟩:∃ z,zaf s=z:=⟨_,rfl⟩;simp only[hv];by_cases hl:2048<s.length
 ·rw[if_pos hl,if_neg];simp;omega
 rw[if_neg hl];have hO:decide (s.length≤2048)=true:=decide_eq_true (by omega);by_cases hA:pe=0∧okG v zd6 3∧okG v j7 3∧okG v j9 5∧okG v qy 4
 ·obtain ⟨h0,⟨t,hE,hG⟩,⟨p,hM,hL⟩,⟨q,hK,hJ⟩,⟨l,hI,hH⟩⟩:=hA;have hk:=zjc hE;have e1:zbg ⟨v,0,false⟩ zd6 3=(t,⟨v,1,false⟩):=zd3 hE hG;have e2:zbg ⟨v,1,false⟩ j7 3=(p,⟨v,2,false⟩):=zd3 hM hL;have hb0:decide (pe≠0)=false:=by rw[h0];rfl
  simp only[zfb hE hG,zfb hM hL,hK,hI,Option.getD_some,hJ,hH,hO,h0,decide_true,Bool.true_and];by_cases hB:t.text=zbl
  ·by_cases hD:zcd p.text=true
   ·have e3:zbg ⟨v,2,false⟩ j9 5=(q,⟨v,3,false⟩):=zd3 hK hJ;have e4:zbg ⟨v,3,false⟩ qy 4=(l,⟨v,4,false⟩):=zd3 hI hH
    have hg:zev v (decide ((0:Nat)≠0))=(l,⟨v,4,false⟩):=by
     show zev v false=_;unfold zev;simp only[ju,e1,e2,hB,if_true,hD,e3,e4]
    have hF:(t.text==zbl)=true:=by rw[hB];simp
    simp only[ne_eq,not_true_eq_false,decide_false]at hg;simp only[hg,hF,hD,ztj,zdp,hk,Bool.false_or,decide_true,Bool.true_and,List.length_map,ne_eq,not_true_eq_false,decide_false];have q1:decide ((4:Int)=(v.pairs.length:Int))=decide (v.pairs.length=4):=by rw[decide_eq_decide];omega
    rw[q1];cases h1:(l.list.map jq).any (fun x=>!x.2.2) with
    | true=>simp[h1]
    | false =>
      simp only[Bool.not_false,Bool.true_and,Bool.false_eq_true,if_false,h1]
   have hg:(zev v (decide ((0:Nat)≠0))).2.bad=true:=by
    show(zev v false).2.bad=true;rw[zk9];refine zbc (zbc ?_);unfold zj4;simp[ju,e1,e2,hB,hD]
   rw[if_neg (by simp[hD])];simp only[ne_eq,not_true_eq_false,decide_false]at hg ⊢;rw[zha (by simp[hg])];simp
  have hg:(zev v (decide ((0:Nat)≠0))).2.bad=true:=by
   show(zev v false).2.bad=true;rw[zk9];refine zbc (zbc ?_);unfold zj4;simp only[ju,e1,hB,if_false]
  rw[if_neg (by simp[hB])];simp only[ne_eq,not_true_eq_false,decide_false]at hg ⊢;rw[zha (by simp[hg])];simp
 have hb:(zev v (decide (pe≠0))).2.bad=true:=by
  refine zth ?_;by_cases h0:pe=0
  ·refine .inr ?_;by_cases h1:okG v zd6 3
   ·by_cases h2:okG v j7 3
    ·by_cases h3:okG v j9 5
     ·exact .inr (.inr (.inr (fun h4=>hA ⟨h0,h1,h2,h3,h4⟩)))
     exact .inr (.inr (.inl h3))
    exact .inr (.inl h2)
   exact .inl h1
  exact .inl (decide_eq_true h0)
 rw[zha (by simp only[hb,Bool.true_or])];simp only[Bool.false_and,Bool.false_eq_true,if_false];rw[if_neg];intro h;apply hA;simp only[Bool.and_eq_true,decide_eq_true_eq]at h;obtain⟨-,h0,h1,h2,-,-,-,h3,h4,-⟩:=h
 have hN:∀ (nm:Bs) (k:Int),k≠0→((zb3 v nm).getD J.zero).kind=k→okG v nm k:=fun nm k hk h=>by
  cases hg:zb3 v nm with
  | none=>rw[hg]at h;exact absurd h.symm hk
  | some x=>rw[hg]at h;exact⟨x,hg,h⟩
 have hC:∀ nm,(zc6 v nm).2=true→okG v nm 3:=fun nm h=>by
  refine Classical.byContradiction fun hn=>?_
  rw[zik (zfz hn)]at h;cases h
 exact⟨h0,hC _ h1,hC _ h2,hN _ 5 (by decide) h3,hN _ 4 (by decide) h4⟩
end
end Go.Proofs.YtmgfncjfgkllcaaGreatDoor
