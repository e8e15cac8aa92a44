/-
 An entry that may be asked for;whether a payload is a statement's,as entry.Subjects tells it.
-/
import Derived.Test.YtmgfncjfgkllcaaGreatDoorKCheckE
import Derived.Test.YtmgfncjfgkllcaaGreatDoorKSubjects
import Derived.Test.YtmgfncjfgkllcaaGreatDoorKSpecVal
import Derived.Test.YtmgfncjfgkllcaaGreatDoorKRefHex
import Derived.Test.YtmgfncjfgkllcaaGreatDoorKSignerOf
import Derived.Test.YtmgfncjfgkllcaaGreatDoorKShelf
import Derived.Test.YtmgfncjfgkllcaaGreatDoorKSeq
open Go.Lib renaming hid→za
open Go.Proofs.Tryz renaming prog→ze
open Go renaming heap_alloc_new→zh
namespace Go.Proofs.YtmgfncjfgkllcaaGreatDoor
set_option linter.unusedVariables false
set_option linter.unusedSimpArgs false
set_option linter.unusedSectionVars false
set_option maxRecDepth 100000
set_option maxHeartbeats 4000000
section
open Go.RowKit Go.Shelf
variable [OldK]
def ze1 (s:Bs):Bool:=(zca s).isSome
theorem zmc {S:Nat→Prop} {e:En} {pv:Value} {w:World} (hb:SB S e.payload pv w) (hg:Gl w) (hlen:e.payload.length≤1000000):SubC ze1 e pv w:=fun _ W hF =>
 (zpb S _ pv W (hb.fr hF (fun _ _ _ _ h=>h)) (hg.fr hF (fun _ _ _ h=>h.elim)) (hg.fr hF (fun _ _ _ h=>h.elim)).old hlen).mono (by
   rintro r w' ⟨h1,h2⟩;refine⟨?_,h2⟩;unfold zs4 ze1;cases hs:zca e.payload with
   | none =>
     rw[hs]at h1;exact⟨_,_,h1,rfl⟩
   | some l =>
     rw[hs]at h1;obtain⟨v,h1,-⟩:=h1
     exact⟨_,_,h1,rfl⟩)
structure Fine (S S':Nat→Prop) (e:En) (pv sv:Value) (w:World):Prop where
 ok:e.ok
 pay:SB S e.payload pv w
 sgs:GS S' e.sigs sv w
 gl:Gl w
 typ:e.typ.length≤1000000
 idn:e.ident.length≤1000000
 len:e.payload.length≤1000000
 many:e.sigs.length≤1000
 ids:∀ s∈e.sigs,s.id.length≤1000000
theorem Fine.fr {S S':Nat→Prop}{e:En}{pv sv:Value}{w w':World}(h:Fine S S' e pv sv w)(hF:Fr NoB w w'):Fine S S' e pv sv w' :=
 ⟨h.ok,h.pay.fr hF (fun _ _ _ _ h=>h),h.sgs.fr hF (fun _ _ _ h=>h),h.gl.fr hF (fun _ _ _ h=>h.elim),h.typ,h.idn,h.len,h.many,h.ids⟩
end
section
open Go.RowKit
variable [OldK]
def zat:Array Value:=#[.string ⟨#[]⟩,.string ⟨wArt.toArray⟩,.string ⟨wEnv.toArray⟩,.string ⟨wSta.toArray⟩,.string ⟨wBin.toArray⟩]
def zl5:Array Value:=#[.string ⟨#[]⟩,.string ⟨wBind.toArray⟩,.string ⟨wRot.toArray⟩,.string ⟨wRev.toArray⟩]
theorem zhq (w:World):Calls ze 75 #[] w fun e w'=>e = .returned (.agg zat)∧Fr NoB w w':=by
 have hr:(w.alloc (.cells zat 135)).rangeAt w.heap.size 0 (zat).toList:=jh (zh w _);have hA:=run_loadVar_mid (P:=ze) (w.alloc (.cells zat 135)) w.heap.size 0 135 (zat).toList (.array 5 9) hr (by kernel_rfl) rfl (by kernel_rfl);rw[show(zat).toList.toArray=zat from rfl]at hA;have Hld:=za hA;clear hA hr;go_enter Tryz.func75,Tryz.ntmps75
 go_wp2_with fail
 refine bodyPost_ret (v := .agg zat) (w:=w.alloc (.cells zat 135)) ?_ rfl ⟨rfl,Fr.refl.alloc _⟩;rw[j6 rfl];show((asAddr (.pointer (some ⟨w.heap.size,0,none⟩))).run _ (w.alloc (.cells zat 135))).andThen _=_;simp[asAddr,Result.andThen,Hld.out]
theorem zxa (w:World):Calls ze 76 #[] w fun e w'=>e = .returned (.agg zl5)∧Fr NoB w w':=by
 have hr:(w.alloc (.cells zl5 137)).rangeAt w.heap.size 0 (zl5).toList:=jh (zh w _);have hA:=run_loadVar_mid (P:=ze) (w.alloc (.cells zl5 137)) w.heap.size 0 137 (zl5).toList (.array 4 9) hr (by kernel_rfl) rfl (by kernel_rfl);rw[show(zl5).toList.toArray=zl5 from rfl]at hA;have Hld:=za hA;clear hA hr;go_enter Tryz.func76,Tryz.ntmps76
 go_wp2_with fail
 refine bodyPost_ret (v := .agg zl5) (w:=w.alloc (.cells zl5 137)) ?_ rfl ⟨rfl,Fr.refl.alloc _⟩;rw[j6 rfl];show((asAddr (.pointer (some ⟨w.heap.size,0,none⟩))).run _ (w.alloc (.cells zl5 137))).andThen _=_;simp[asAddr,Result.andThen,Hld.out]
end
section
open Go.RowKit
variable [OldK]
structure EnB (p:Nat) (e:En) (pv sv:Value) (V:World):Prop where
 rg:V.rangeAt p 0 (e.cells pv sv)
 th:V.there p 0 70
 lt:p<V.heap.size
 ty:∃ c,V.heap[p]? = some (.cells c 28 (0,0))
section
variable {p:Nat} {e:En} {pv sv:Value} {V V':World}
theorem EnB.fr {M:Nat→Obj→Prop}(h:EnB p e pv sv V)(hF:Fr M V V')(hM:∀ c,¬ M p (.cells c 28 (0,0))):EnB p e pv sv V':=by
 obtain⟨c,hc⟩:=h.ty;have hB:=hF.block _ _ hc (hM c);have hA:∀ o,V'.cell? ⟨p,o,none⟩=V.cell? ⟨p,o,none⟩:=fun o=>by simp only[World.cell?,hc,hB]
 have hC:∀ o,V'.frozen? ⟨p,o,none⟩=V.frozen? ⟨p,o,none⟩:=fun o=>by simp only[World.frozen?,hc,hB]
 exact⟨fun j x hx=>by rw[hA];exact h.rg j x hx,fun j hj=>by rw[hA,hC];exact h.th j hj,jb hB,c,hB⟩
theorem zem {b:Nat} {T:TypeId}:∀ (vs:List Value) (o:Nat) (w:World) (c:Array Value),w.heap[b]? = some (.cells c T (0,0))→∃ c',(w.setCells b o vs).heap[b]? = some (.cells c' T (0,0))
 | [],_,_,c,h=>⟨c,h⟩
 | v :: vs,o,w,c,h=>by
   rw[World.setCells];exact zem vs (o+1) _ _ (z7 (o:=o) v h)
theorem EnB.sets (h:EnB p e pv sv V)(o:Nat)(vs:List Value){e':En}{pv' sv':Value}(hr:(V.setCells p o vs).rangeAt p 0 (e'.cells pv' sv')):EnB p e' pv' sv' (V.setCells p o vs):=by
 obtain⟨c,hc⟩:=h.ty;obtain⟨c',hA⟩:=zem vs o V c hc;exact⟨hr,World.there_setCells h.th _ _ _,jb hA,c',hA⟩
theorem EnB.set1 (h:EnB p e pv sv V)(o:Nat)(v:Value){e':En}{pv' sv':Value}(hr:(V.setCell ⟨p,o,none⟩ v).rangeAt p 0 (e'.cells pv' sv')):EnB p e' pv' sv' (V.setCell ⟨p,o,none⟩ v) :=
 EnB.sets h o [v] hr
theorem EnB.at (h:EnB p e pv sv V)(o:Nat)(ho:o<70):(∃ x,V.cell? ⟨p,o,none⟩=some x)∧V.frozen? ⟨p,o,none⟩=false:=by
 have:=h.th o ho;rw[Nat.zero_add]at this;exact⟨Option.isSome_iff_exists.1 this.1,this.2⟩
theorem EnB.part (h:EnB p e pv sv V)(o n:Nat)(ho:o+n≤70):V.there p o n:=fun j hj=>by
 have:=h.th (o+j) (by omega)
 rwa [Nat.zero_add]at this
end
def kindsL:List ByteArray:=[⟨#[]⟩,⟨wArt.toArray⟩,⟨wEnv.toArray⟩,⟨wSta.toArray⟩,⟨wBin.toArray⟩]
def opsL:List ByteArray:=[⟨#[]⟩,⟨wBind.toArray⟩,⟨wRot.toArray⟩,⟨wRev.toArray⟩]
theorem zxv (a b:Bs):((⟨a.toArray⟩:ByteArray)=⟨b.toArray⟩)↔a=b:=by
 constructor
 ·intro h
  injection h with h
  have:=congrArg Array.toList h;simpa using this
 rintro rfl;rfl
theorem zry (t:Bs):Lib.idxOfS kindsL ⟨t.toArray⟩=ze5 t:=by
 unfold Lib.idxOfS kindsL ze5;have e0:(⟨#[]⟩:ByteArray)=⟨([]:Bs).toArray⟩:=rfl;rw[e0];simp only[Lib.idxFromS,beq_iff_eq,zxv];by_cases h0:t=[]
 ·simp[h0]
 by_cases h1:t=wArt
 ·simp[h1,wArt]
 by_cases h2:t=wEnv
 ·simp[h2,wArt,wEnv]
 by_cases h3:t=wSta
 ·simp[h3,wArt,wEnv,wSta]
 by_cases h4:t=wBin
 ·simp[h4,wArt,wEnv,wSta,wBin]
 simp[h0,h1,h2,h3,h4,Ne.symm h0,Ne.symm h1,Ne.symm h2,Ne.symm h3,Ne.symm h4]
theorem zv6 (t:Bs):Lib.idxOfS opsL ⟨t.toArray⟩=zv8 t:=by
 unfold Lib.idxOfS opsL zv8;have e0:(⟨#[]⟩:ByteArray)=⟨([]:Bs).toArray⟩:=rfl;rw[e0];simp only[Lib.idxFromS,beq_iff_eq,zxv];by_cases h0:t=[]
 ·simp[h0]
 by_cases h1:t=wBind
 ·simp[h1,wBind]
 by_cases h2:t=wRot
 ·simp[h2,wBind,wRot]
 by_cases h3:t=wRev
 ·simp[h3,wBind,wRot,wRev]
 simp[h0,h1,h2,h3,Ne.symm h0,Ne.symm h1,Ne.symm h2,Ne.symm h3]
theorem zuc (t:Bs) (b:Nat) (w:World) (hb:w.heap[b]? = some (.cells zat 135 (0,0))) :
 Calls ze 77 #[.slice (some ⟨b,0,none⟩) 5 5,.string ⟨t.toArray⟩] w fun r w'=>r = .returned (.int .i64 (ze5 t))∧w'=w:=by
 have h:=Tryz.slices_Index_string b 0 5 5 kindsL ⟨t.toArray⟩ w (by decide) (by decide) (fun j hj=>by
  have:j=0∨j=1∨j=2∨j=3∨j=4:=by have:kindsL.length=5:=rfl;omega
  rcases this with rfl | rfl | rfl | rfl | rfl<;>simp[World.cell?,hb,zat,kindsL])
 rw[show kindsL.take 5=kindsL from rfl,zry]at h;exact h
theorem zxb (t:Bs) (b:Nat) (w:World) (hb:w.heap[b]? = some (.cells zl5 137 (0,0))) :
 Calls ze 77 #[.slice (some ⟨b,0,none⟩) 4 4,.string ⟨t.toArray⟩] w fun r w'=>r = .returned (.int .i64 (zv8 t))∧w'=w:=by
 have h:=Tryz.slices_Index_string b 0 4 4 opsL ⟨t.toArray⟩ w (by decide) (by decide) (fun j hj=>by
  have:j=0∨j=1∨j=2∨j=3:=by have:opsL.length=4:=rfl;omega
  rcases this with rfl | rfl | rfl | rfl<;>simp[World.cell?,hb,zl5,opsL])
 rw[show opsL.take 4=opsL from rfl,zv6]at h;exact h
end
section
open Go.RowKit Go.Shelf
variable [OldK]
def zbo (e:En):Bool:=decide (5000<e.payload.length)||decide (30<e.sigs.length)||decide (500<e.typ.length)||decide (500<e.ident.length)||e.sigs.any (fun s=>decide (500<s.id.length))
theorem zb3 {e:En}(h:zbo e=false):e.payload.length≤5000∧e.sigs.length≤30∧e.typ.length≤500∧e.ident.length≤500∧∀ s∈e.sigs,s.id.length≤500:=by
 unfold zbo at h;simp only[Bool.or_eq_false_iff,decide_eq_false_iff_not,List.any_eq_false,decide_eq_true_eq,Nat.not_lt]at h;obtain⟨⟨⟨⟨h1,h2⟩,h3⟩,h4⟩,h5⟩:=h;exact⟨h1,h2,h3,h4,h5⟩
theorem ztb (S':Nat→Prop) (l:List Sg) (sv:Value) (w:World) (hlok:∀ s∈l,s.ok) (hs:GS S' l sv w) (h30:l.length≤30) :
 Calls ze 58 #[sv] w fun r w'=>r = .returned (.bool (l.any (fun s=>decide (500<s.id.length))))∧Fr NoB w w':=by
 obtain⟨a3,cp3,rfl,hK,hM⟩:=id hs;obtain⟨P,hP⟩:∃ b,l.any (fun s=>decide (500<s.id.length))=b:=⟨_,rfl⟩;rw[hP]
 have hC:∀ i (hi:i<l.length),∃ b o,a3=some ⟨b,o,none⟩∧b<w.heap.size∧w.rangeAt b (o+i * 97) l[i].cells.toList:=fun i hi=>by
  rcases hM with h | ⟨b,o,h1,-,h2,h3⟩
  ·subst h;cases hi
  exact⟨b,o,h1,h2,h3 i hi⟩
 have hT:=za hP;have Hrow:=za hC;have Hlok:=za hlok;clear hM hs hP hC hlok hK;go_enter Tryz.func58,Tryz.ntmps58
 go_wp2_with fail
 go_loopg [7] (l.length+1) (fun gf vi wr=>∃ i:Nat,vi = .int .i64 i∧i≤l.length∧i+gf=l.length+1∧Fr NoB w wr∧Hid ((l.drop i).any (fun s=>decide (500<s.id.length))=P))
 case atStart=>exact⟨0,rfl,by omega,by omega,Fr.refl,za (by rw[List.drop_zero];exact hT.out)⟩
 case round =>
  obtain⟨i,rfl,hi,hig,hF,HG⟩:=hrel;have HF:=za hF;clear hF;by_cases hI:i<l.length
  ·have hH:decide ((i:Int)<l.length)=true:=decide_eq_true (by omega);have hwr:wrap64 ((i:Int)+1)=(i:Int)+1:=by unfold wrap64;omega
   obtain⟨b,o,rfl,hb,hR⟩:=Hrow.out i hI;have hE:=Hlok.out _ (List.getElem_mem hI);have hJ:=List.drop_eq_getElem_cons hI;obtain⟨s,hs⟩:∃ s,l[i]=s:=⟨_,rfl⟩;rw[hs]at hE hR hJ;have hG:=HG.out;rw[hJ,List.any_cons]at hG;have hD:=Sg.size hE;have hB:wr.rangeAt b (o+i * 97) s.cells.toList:=jf hR HF.out hb (fun _ h=>h);have HB:=za hB;obtain⟨d,hu,hd⟩:=zbl;have Hu:=za hu;have Hd:=za hd;have Hz:=za (show(Tryz.prog.info? 115).map (·.size)=some s.cells.toList.length by rw[j5];simp[hD]);have hL:=za (show(Tryz.prog.info? 115).map (·.size)=some s.cells.size by rw[j5,hD]);have H1:=za (Sg.one s);have HZ:Hid (sgZ.size=s.cells.size):=za (by rw[hD];rfl);have hO:(wr.alloc (.cells s.cells 115)).cell? ⟨wr.heap.size,0,none⟩=some (.string ⟨s.id.toArray⟩):=(Sg.in_block hE (jh (zh wr (.cells s.cells 115)))).1;obtain⟨b5,hQ⟩:∃ b,decide ((500:Int)<(List.length s.id:Int))=b:=⟨_,rfl⟩;have e5:decide (500<List.length s.id)=b5:=by rw[← hQ];congr 1;exact propext ⟨fun h=>by omega,fun h=>by omega⟩
   rw[e5]at hG;have hS:=za hG;obtain⟨cs,hN⟩:∃ cs,s.cells=cs:=⟨_,rfl⟩;rw[hN]at HB Hz hL H1 HZ hO;obtain⟨sid,hA⟩:∃ x,s.id=x:=⟨_,rfl⟩;rw[hA]at hO hQ;clear hB hu hd hR hs hN hE hJ hG hD HG e5 hA;cases b5
   ·go_wp2_with (first
     | (with_reducible refine wpList_load_mid rfl 115 _ rfl b (o+i * 97) rfl cs.toList d HB.out Hu.out Hd.out Hz.out ?_)
     | (refine zag (w:=wr) rfl 115 _ _ rfl sgZ cs wr.heap.size rfl rfl rfl hL.out HZ.out H1.out ?_))
    go_roundg (gk - 1)
    case measure=>omega
    case rel=>exact⟨i+1,by simp,by omega,by omega,HF.out.alloc _,za (by have:=hS.out;simpa using this)⟩
   go_wp2_with (first
    | (with_reducible refine wpList_load_mid rfl 115 _ rfl b (o+i * 97) rfl cs.toList d HB.out Hu.out Hd.out Hz.out ?_)
    | (refine zag (w:=wr) rfl 115 _ _ rfl sgZ cs wr.heap.size rfl rfl rfl hL.out HZ.out H1.out ?_))
   go_ret;exact⟨jm (by have:=hS.out;simpa using this.symm),HF.out.alloc _⟩
  have hH:decide ((i:Int)<l.length)=false:=decide_eq_false (by omega);obtain rfl:i=l.length:=by omega
  have hU:Hid (P=false):=za (by have:=HG.out;simpa using this.symm);clear HG
  go_wp2_with fail
  go_ret;exact⟨jm hU.out.symm,HF.out⟩
theorem zrx (S S':Nat→Prop) (e:En) (pv sv:Value) (w:World) (hok:e.ok) (hp:SB S e.payload pv w) (hs:GS S' e.sigs sv w) :
 Calls ze 16 #[.agg (e.cells pv sv).toArray] w fun r w'=>r = .returned (.bool (zbo e))∧Fr NoB w w':=by
 have hR:(w.alloc (.cells (e.cells pv sv).toArray 28)).rangeAt w.heap.size 0 (e.cells pv sv):=by simpa using jh (zh w (.cells (e.cells pv sv).toArray 28))
 have hF:Fr NoB w (w.alloc (.cells (e.cells pv sv).toArray 28)):=Fr.refl.alloc _;obtain⟨-,-,hG,hI,-,hE,-,hH⟩:=En.parts hok hR;have hB:=fun(h:e.sigs.length≤30)=>ztb S' e.sigs sv _ hok.2.2 (hs.fr hF (fun _ _ _ h=>h)) h
 obtain⟨a1,ha,rfl⟩:=hp.form;obtain⟨a3,hZ,rfl,hL,hU⟩:=id hs;obtain⟨P,hP⟩:∃ b,zbo e=b:=⟨_,rfl⟩;rw[hP];unfold zbo at hP;obtain⟨q,hq⟩:∃ q,e.sigs.any (fun s=>decide (500<s.id.length))=q:=⟨_,rfl⟩;rw[hq]at hP hB;obtain⟨n1,hK⟩:∃ n,e.payload.length=n:=⟨_,rfl⟩;obtain⟨n2,hJ⟩:∃ n,e.sigs.length=n:=⟨_,rfl⟩;obtain⟨ty,hN⟩:∃ n,e.typ=n:=⟨_,rfl⟩;obtain⟨hM,hD⟩:∃ n,e.ident=n:=⟨_,rfl⟩;rw[hK,hJ]at hI hH hF hP hB;rw[hN]at hG hP;rw[hD]at hE hP;rw[hK,hJ]at hG hE ⊢;obtain⟨C,hC⟩:∃ C,e.cells (.slice a1 n1 ha) (.slice a3 n2 hZ)=C:=⟨_,rfl⟩;rw[hC]at hG hI hE hH hF hB ⊢;clear hC hK hJ hN hD hok hR hp hs hL hq hU;obtain⟨b1,hY⟩:∃ b,decide ((5000:Int)<(n1:Int))=b:=⟨_,rfl⟩;obtain⟨b2,hQ⟩:∃ b,decide ((30:Int)<(n2:Int))=b:=⟨_,rfl⟩;obtain⟨b3,hX⟩:∃ b,decide ((500:Int)<(List.length ty:Int))=b:=⟨_,rfl⟩;obtain⟨b4,hV⟩:∃ b,decide ((500:Int)<(List.length hM:Int))=b:=⟨_,rfl⟩;have e1:decide (5000<n1)=b1:=by rw[← hY];congr 1;exact propext ⟨fun h=>by omega,fun h=>by omega⟩
 have e2:decide (30<n2)=b2:=by rw[← hQ];congr 1;exact propext ⟨fun h=>by omega,fun h=>by omega⟩
 have e3:decide (500<List.length ty)=b3:=by rw[← hX];congr 1;exact propext ⟨fun h=>by omega,fun h=>by omega⟩
 have e4:decide (500<List.length hM)=b4:=by rw[← hV];congr 1;exact propext ⟨fun h=>by omega,fun h=>by omega⟩
 rw[e1,e2,e3,e4]at hP;clear e1 e2 e3 e4;go_enter Tryz.func16,Tryz.ntmps16
 go_upto_region 1 with(fail)
 change Code.wp _ _ _ _ (w.alloc (.cells C.toArray 28));obtain⟨W,hW⟩:∃ W,w.alloc (.cells C.toArray 28)=W:=⟨_,rfl⟩;rw[hW]at hG hI hE hH hF hB ⊢;clear hW;obtain⟨p,hO⟩:∃ p,w.heap.size=p:=⟨_,rfl⟩;rw[hO]at hG hI hE hH ⊢;clear hO;have HF:=za hF;have HP:=za hP;have Hwd:=za hB;clear hF hP hB;cases b1
 ·cases b2
  ·cases b3
   ·cases b4
    ·have hA:Hid (q=P):=za (by have:=HP.out;simpa using this);clear HP;have hT:=za (Hwd.out (by have:=of_decide_eq_false hQ;omega));clear Hwd
     go_wp2_with fail
     refine hT.out.mono ?_;rintro r w2 ⟨rfl,hS⟩;have hb:=za (HF.out.trans' hS);clear hS hT
     go_wp2_with fail
     go_ret;exact⟨jm hA.out,hb.out⟩
    have hA:Hid (P=true):=za (by have:=HP.out;simpa using this.symm);clear HP
    go_wp2_with fail
    go_ret;exact⟨jm hA.out.symm,HF.out⟩
   have hA:Hid (P=true):=za (by have:=HP.out;simpa using this.symm);clear HP
   go_wp2_with fail
   go_ret;exact⟨jm hA.out.symm,HF.out⟩
  have hA:Hid (P=true):=za (by have:=HP.out;simpa using this.symm);clear HP
  go_wp2_with fail
  go_ret;exact⟨jm hA.out.symm,HF.out⟩
 have hA:Hid (P=true):=za (by have:=HP.out;simpa using this.symm);clear HP
 go_wp2_with fail
 go_ret;exact⟨jm hA.out.symm,HF.out⟩
end
end Go.Proofs.YtmgfncjfgkllcaaGreatDoor
