/-
 The walks of slices.Collect,SortFunc,SortedFunc at one or two signatures;EqualFunc;bind.by.
-/
import Derived.Test.YtffggpplnjibgaaGreatDoorKSeq
import Derived.Test.YtffggpplnjibgaaGreatDoorKShelf
import Derived.Test.YtffggpplnjibgaaGreatDoorKKeysIs
import Derived.Test.YtffggpplnjibgaaGreatDoorKSubjects
open Go.Lib renaming hid→zi
namespace Go.Proofs.YtffggpplnjibgaaGreatDoor
set_option linter.unusedVariables false
set_option linter.unusedSimpArgs false
set_option linter.unusedSectionVars false
set_option maxRecDepth 100000
set_option maxHeartbeats 4000000
section
open Go.RowKit Go.Shelf
variable [OldK]
end
section
open Go.RowKit Go.Shelf
variable [OldK]
def zjs (s:Bs):Bool:=(zar s).isSome
theorem zqs {S:Nat→Prop} {e:En} {pv:Value} {w:World} (hb:SB S e.payload pv w) (hg:Gl w) (hlen:e.payload.length≤1000000):SubC zjs e pv w:=fun _ W hF =>
 (zjl S _ pv W (hb.fr hF (fun _ _ _ _ h=>h)) (hg.fr hF (fun _ _ _ h=>h.elim)) (hg.fr hF (fun _ _ _ h=>h.elim)).old hlen).mono (by
   rintro r w' ⟨h1,h2⟩;refine⟨?_,h2⟩;unfold zsx zjs;cases hs:zar e.payload with
   | none =>
     rw[hs]at h1;exact⟨_,_,h1,rfl⟩
   | some l =>
     rw[hs]at h1;obtain⟨v,h1,-⟩:=h1
     exact⟨_,_,h1,rfl⟩)
structure Fine (S S':Nat→Prop) (e:En) (pv sv:Value) (w:World):Prop where
 ok:e.ok
 pay:SB S e.payload pv w
 sgs:GS S' e.sigs sv w
 gl:Gl w
 typ:e.typ.length≤1000000
 idn:e.ident.length≤1000000
 len:e.payload.length≤1000000
 many:e.sigs.length≤1000
 ids:∀ s∈e.sigs,s.id.length≤1000000
theorem Fine.fr {S S':Nat→Prop}{e:En}{pv sv:Value}{w w':World}(h:Fine S S' e pv sv w)(hF:Fr NoB w w'):Fine S S' e pv sv w' :=
 ⟨h.ok,h.pay.fr hF (fun _ _ _ _ h=>h),h.sgs.fr hF (fun _ _ _ h=>h),h.gl.fr hF (fun _ _ _ h=>h.elim),h.typ,h.idn,h.len,h.many,h.ids⟩
end
section
open Go.RowKit Go.Shelf
variable [OldK]
def zbt (e:En):Bool:=decide (5000<e.payload.length)||decide (30<e.sigs.length)||decide (500<e.typ.length)||decide (500<e.ident.length)||e.sigs.any (fun s=>decide (500<s.id.length))
theorem zd5 {e:En}(h:zbt e=false):e.payload.length≤5000∧e.sigs.length≤30∧e.typ.length≤500∧e.ident.length≤500∧∀ s∈e.sigs,s.id.length≤500:=by
 unfold zbt at h;simp only[Bool.or_eq_false_iff,decide_eq_false_iff_not,List.any_eq_false,decide_eq_true_eq,Nat.not_lt]at h;obtain⟨⟨⟨⟨h1,h2⟩,h3⟩,h4⟩,h5⟩:=h;exact⟨h1,h2,h3,h4,h5⟩
theorem zr3 (S S':Nat→Prop) (e:En) (pv sv:Value) (w:World) (hok:e.ok) (hp:SB S e.payload pv w) (hs:GS S' e.sigs sv w) :
 Calls Tryz.prog 15 #[.agg (e.cells pv sv).toArray] w fun r w'=>r = .returned (.bool (zbt e))∧Fr NoB w w':=by
 have hR:(w.alloc (.cells (e.cells pv sv).toArray 28)).rangeAt w.heap.size 0 (e.cells pv sv):=by simpa using j8 (heap_alloc_new w (.cells (e.cells pv sv).toArray 28))
 have hF:Fr NoB w (w.alloc (.cells (e.cells pv sv).toArray 28)):=Fr.refl.alloc _;obtain⟨-,-,hL,hQ,-,hK,-,hO⟩:=En.parts hok hR;obtain⟨a1,hr,rfl⟩:=hp.form;obtain⟨a3,hq,rfl,hY,hV⟩:=id hs;obtain⟨P,hP⟩:∃ b,zbt e=b:=⟨_,rfl⟩;rw[hP];unfold zbt at hP;obtain⟨n1,hS⟩:∃ n,e.payload.length=n:=⟨_,rfl⟩;obtain⟨l,hl⟩:∃ n,e.sigs=n:=⟨_,rfl⟩;obtain⟨ty,hc⟩:∃ n,e.typ=n:=⟨_,rfl⟩;obtain⟨ha,hJ⟩:∃ n,e.ident=n:=⟨_,rfl⟩;have hE:=hok.2.2;rw[hl]at hE;rw[hS,hl]at hQ hO hF hP;rw[hl]at hV;rw[hc]at hL hP;rw[hJ]at hK hP;rw[hS,hl]at hL hK ⊢;obtain⟨C,hC⟩:∃ C,e.cells (.slice a1 n1 hr) (.slice a3 l.length hq)=C:=⟨_,rfl⟩;rw[hC]at hL hQ hK hO hF ⊢;clear hC hS hl hc hJ hok hR hp hs hY;obtain⟨b1,ho⟩:∃ b,decide ((5000:Int)<(n1:Int))=b:=⟨_,rfl⟩;obtain⟨b2,hj⟩:∃ b,decide ((30:Int)<(l.length:Int))=b:=⟨_,rfl⟩;obtain⟨b3,hn⟩:∃ b,decide ((500:Int)<(List.length ty:Int))=b:=⟨_,rfl⟩;obtain⟨b4,hm⟩:∃ b,decide ((500:Int)<(List.length ha:Int))=b:=⟨_,rfl⟩;have e1:decide (5000<n1)=b1:=by rw[← ho];congr 1;exact propext ⟨fun h=>by omega,fun h=>by omega⟩
 have e2:decide (30<l.length)=b2:=by rw[← hj];congr 1;exact propext ⟨fun h=>by omega,fun h=>by omega⟩
 have e3:decide (500<List.length ty)=b3:=by rw[← hn];congr 1;exact propext ⟨fun h=>by omega,fun h=>by omega⟩
 have e4:decide (500<List.length ha)=b4:=by rw[← hm];congr 1;exact propext ⟨fun h=>by omega,fun h=>by omega⟩
 rw[e1,e2,e3,e4]at hP;clear e1 e2 e3 e4
 have hI:∀ i (hi:i<l.length),∃ b o,a3=some ⟨b,o,none⟩∧b<w.heap.size∧w.rangeAt b (o+i * 97) l[i].cells.toList:=fun i hi=>by
  rcases hV with h | ⟨b,o,h1,-,h2,h3⟩
  ·subst h;cases hi
  exact⟨b,o,h1,h2,h3 i hi⟩
 clear hV;go_enter Tryz.func15,Tryz.ntmps15
 go_upto_region 1 with(fail)
 change Code.wp _ _ _ _ (w.alloc (.cells C.toArray 28));obtain⟨W,hW⟩:∃ W,w.alloc (.cells C.toArray 28)=W:=⟨_,rfl⟩;rw[hW]at hL hQ hK hO hF ⊢;clear hW;obtain⟨p,he⟩:∃ p,w.heap.size=p:=⟨_,rfl⟩;rw[he]at hL hQ hK hO ⊢;clear he;have HF:=zi hF;have HP:=zi hP;have Hrow:=zi hI;have Hlok:=zi hE;clear hF hP hI hE;cases b1
 ·cases b2
  ·cases b3
   ·cases b4
    ·have hD:Hid (l.any (fun s=>decide (500<s.id.length))=P):=zi (by have:=HP.out;simpa using this);clear HP
     go_wp2_with fail
     go_loopg [30] (l.length+1) (fun gf vi wr=>∃ i:Nat,vi = .int .i64 i∧i≤l.length∧i+gf=l.length+1∧Fr NoB w wr∧Hid ((l.drop i).any (fun s=>decide (500<s.id.length))=P))
     case atStart=>exact⟨0,rfl,by omega,by omega,HF.out,zi (by rw[List.drop_zero];exact hD.out)⟩
     case round =>
      obtain⟨i,rfl,hi,hig,hF,HG⟩:=hrel;have HF:=zi hF;clear hF;by_cases hU:i<l.length
      ·have hT:decide ((i:Int)<l.length)=true:=decide_eq_true (by omega);have h30:l.length≤30:=by have:=of_decide_eq_false hj;omega
       have hwr:wrap64 ((i:Int)+1)=(i:Int)+1:=by unfold wrap64;omega
       obtain⟨b,o,rfl,hb,hR⟩:=Hrow.out i hU;have hN:=Hlok.out _ (List.getElem_mem hU);have hX:=List.drop_eq_getElem_cons hU;obtain⟨s,hs⟩:∃ s,l[i]=s:=⟨_,rfl⟩;rw[hs]at hN hR hX;have hG:=HG.out;rw[hX,List.any_cons]at hG;have hM:=Sg.size hN;have hB:wr.rangeAt b (o+i * 97) s.cells.toList:=j0 hR HF.out hb (fun _ h=>h);have HB:=zi hB;obtain⟨d,hu,hd⟩:=zb5;have Hu:=zi hu;have Hd:=zi hd;have Hz:=zi (show(Tryz.prog.info? 40).map (·.size)=some s.cells.toList.length by rw[zac];simp[hM]);have hZ:=zi (show(Tryz.prog.info? 40).map (·.size)=some s.cells.size by rw[zac,hM]);have H1:=zi (Sg.one s);have HZ:Hid (sgZ.size=s.cells.size):=zi (by rw[hM];rfl);have hg:(wr.alloc (.cells s.cells 40)).cell? ⟨wr.heap.size,0,none⟩=some (.string ⟨s.id.toArray⟩):=(Sg.in_block hN (j8 (heap_alloc_new wr (.cells s.cells 40)))).1;obtain⟨b5,hh⟩:∃ b,decide ((500:Int)<(List.length s.id:Int))=b:=⟨_,rfl⟩;have e5:decide (500<List.length s.id)=b5:=by rw[← hh];congr 1;exact propext ⟨fun h=>by omega,fun h=>by omega⟩
       rw[e5]at hG;have hk:=zi hG;obtain⟨cs,hf⟩:∃ cs,s.cells=cs:=⟨_,rfl⟩;rw[hf]at HB Hz hZ H1 HZ hg;obtain⟨sid,hH⟩:∃ x,s.id=x:=⟨_,rfl⟩;rw[hH]at hg hh;clear hB hu hd hR hs hf hN hX hG hM HG e5 hH;cases b5
       ·go_wp2_with (first
         | (with_reducible refine wpList_load_mid rfl 40 _ rfl b (o+i * 97) rfl cs.toList d HB.out Hu.out Hd.out Hz.out ?_)
         | (refine qc (w:=wr) rfl 40 _ _ rfl sgZ cs wr.heap.size rfl rfl rfl hZ.out HZ.out H1.out ?_))
        go_roundg (gk - 1)
        case measure=>omega
        case rel=>exact⟨i+1,by simp,by omega,by omega,HF.out.alloc _,zi (by have:=hk.out;simpa using this)⟩
       go_wp2_with (first
        | (with_reducible refine wpList_load_mid rfl 40 _ rfl b (o+i * 97) rfl cs.toList d HB.out Hu.out Hd.out Hz.out ?_)
        | (refine qc (w:=wr) rfl 40 _ _ rfl sgZ cs wr.heap.size rfl rfl rfl hZ.out HZ.out H1.out ?_))
       go_ret;exact⟨jj (by have:=hk.out;simpa using this.symm),HF.out.alloc _⟩
      have hT:decide ((i:Int)<l.length)=false:=decide_eq_false (by omega);obtain rfl:i=l.length:=by omega
      have ht:Hid (P=false):=zi (by have:=HG.out;simpa using this.symm);clear HG
      go_wp2_with fail
      go_ret;exact⟨jj ht.out.symm,HF.out⟩
    have hD:Hid (P=true):=zi (by have:=HP.out;simpa using this.symm);clear HP
    go_wp2_with fail
    go_ret;exact⟨jj hD.out.symm,HF.out⟩
   have hD:Hid (P=true):=zi (by have:=HP.out;simpa using this.symm);clear HP
   go_wp2_with fail
   go_ret;exact⟨jj hD.out.symm,HF.out⟩
  have hD:Hid (P=true):=zi (by have:=HP.out;simpa using this.symm);clear HP
  go_wp2_with fail
  go_ret;exact⟨jj hD.out.symm,HF.out⟩
 have hD:Hid (P=true):=zi (by have:=HP.out;simpa using this.symm);clear HP
 go_wp2_with fail
 go_ret;exact⟨jj hD.out.symm,HF.out⟩
end
end Go.Proofs.YtffggpplnjibgaaGreatDoor
