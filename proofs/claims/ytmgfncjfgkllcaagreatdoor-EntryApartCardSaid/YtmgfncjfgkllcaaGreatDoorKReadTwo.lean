/-
 From an array of bytes that can be read as data to bytes;a world in which the tables lie;what a walk keeps.
-/
import Derived.Test.YtmgfncjfgkllcaaGreatDoorKConcat
import Derived.Test.YtmgfncjfgkllcaaGreatDoorRows
import Derived.Lib.LaidU8
import Derived.ProofKit
import Derived.OpenShut
import Derived.Deep.DeepHandedRow
import Derived.Test.YtmgfncjfgkllcaaGreatDoorKSpecBind
import Derived.Test.YtmgfncjfgkllcaaGreatDoorKGet
import Derived.Test.YtmgfncjfgkllcaaGreatDoorKReadV
import Derived.Test.YtmgfncjfgkllcaaGreatDoorKB64
import Derived.Test.YtmgfncjfgkllcaaGreatDoorKSubjects
namespace Go.Proofs.YtmgfncjfgkllcaaGreatDoor
set_option linter.unusedVariables false
set_option linter.unusedSimpArgs false
set_option linter.unusedSectionVars false
open Go.ChangeShapes Go.WideShapes Go.ChangeAt Go.RowKit
section
variable {H:Type} {enc:TypeId × Value→H}
theorem zko:Tryz.prog.cellsOf 5=1:=by kernel_rfl
end
end Go.Proofs.YtmgfncjfgkllcaaGreatDoor
namespace Go.Proofs.YtmgfncjfgkllcaaGreatDoor
set_option linter.unusedVariables false
set_option linter.unusedSimpArgs false
set_option linter.unusedSectionVars false
open Go.ChangeShapes Go.WideShapes Go.ChangeAt Go.RowKit
variable [OldK]
def Old:Nat→Prop:=fun k=>k<OldK.k
def EnIn (w:World) (e:En) (pv sv:Value):Prop:=e.ok∧SB Old e.payload pv w∧GS Old e.sigs sv w
theorem EnIn.fr {M:Nat→Obj→Prop}{w w':World}{e:En}{pv sv:Value}(h:EnIn w e pv sv)(hF:Fr M w w')(hM:∀ k o,k<OldK.k→¬ M k o):EnIn w' e pv sv :=
 ⟨h.1,h.2.1.fr hF (fun b o hs _=>hM b o hs),h.2.2.fr hF hM⟩
section
variable {H:Type} {enc:TypeId × Value→H} {sp:Nat→Bool} {held:Bool} {w:World} {fuel:Nat}
theorem zfv:Tryz.prog.cellsOf 24=1:=by kernel_rfl
theorem zem (hK:w.heap.size≤OldK.k) {cs:List Value} {x:DataW H × List MemPlace} (h:DataW.trod enc Tryz.prog w 0 (fun _=>true) true fuel 24 cs=some x):∃ (l:Bs) (v:Value),cs=[v]∧SB Old l v w:=by
 rcases open_ints Tryz.underlying24 Tryz.underlying5 zko h with⟨hcs,hx⟩ | ⟨a,len,cap,zs,hcs,_,hl,hm,hz,hx,hcell,hwz⟩
 ·exact⟨[],.slice none 0 0,hcs,SB.nil _ _ _⟩
 simp only[if_true]at hz;rcases Nat.eq_zero_or_pos len with rfl | hpos
 ·exact⟨[],_,hcs,⟨some a,cap,rfl,Nat.zero_le _,.inl rfl⟩⟩
 have hA:((zs.take len).map fun n=>UInt8.ofNat n.toNat).length=len:=by simp;omega
 obtain⟨b,o,hB⟩:=a;have h0:=hcell 0 (by omega);have e0:(⟨b,o,hB⟩:Addr).add 0=⟨b,o,hB⟩:=by simp[Addr.add]
 rw[e0]at h0;obtain rfl:=Go.Proofs.cell_spot h0;have hD:=h0
 obtain ⟨C,T,f,hb⟩:∃ C T f,w.heap[b]? = some (.cells C T f):=by
  unfold World.cell? at hD;split at hD
  ·rename_i C T f hb
   exact⟨_,_,_,hb⟩
  all_goals simp at hD
 refine⟨(zs.take len).map fun n=>UInt8.ofNat n.toNat,_,hcs,⟨some ⟨b,o,none⟩,cap,by rw[hA],by rw[hA];exact hl,.inr ⟨b,o,C,T,f,rfl,Nat.lt_of_lt_of_le (ja hb) hK,⟨hb,.inr (Nat.lt_of_lt_of_le (ja hb) hK)⟩,fun j hj=>?_⟩⟩⟩;rw[hA]at hj;have hE:=hcell j (by omega);rw[Addr.add_lit]at hE
 have hC:C[o+j]? = some (.int .u8 (zs.getD j 0)):=by
  have h:=hE;simp only[World.cell?,hb]at h;exact h
 rw[hC];have hr:=range_u8 hwz j;simp only[List.getElem_map,List.getElem_take];have e:zs.getD j 0=zs[j]'(by omega):=by simp[List.getD,List.getElem?_eq_getElem (show j<zs.length by omega)]
 rw[List.getD_eq_getElem?_getD]at e;rw[e]at hr;rw[List.getD_eq_getElem?_getD,e]
 congr 2
 simp only[UInt8.toNat_ofNat'];omega
end
end Go.Proofs.YtmgfncjfgkllcaaGreatDoor
namespace Go.Proofs.YtmgfncjfgkllcaaGreatDoor
set_option linter.unusedVariables false
set_option linter.unusedSimpArgs false
set_option linter.unusedSectionVars false
open Go.RowKit Go.Shelf
variable [OldK]
theorem zsl {α:Type} {n:Nat} (f:α→List Value) (l:List α) (hk:∀ c∈l,(f c).length=n):∀ i c,l[i]? = some c→∀ j v,(f c)[j]? = some v→(l.flatMap f)[i * n+j]? = some v:=by
 induction l with
 | nil=>intro i c hi;cases hi
 | cons x l ih =>
   intro i c hi j v hv;have hx:=hk x (by simp);rw[List.flatMap_cons];cases i with
   | zero =>
     obtain rfl:x=c:=by simpa using hi
     rw[Nat.zero_mul,Nat.zero_add,List.getElem?_append_left (List.getElem?_eq_some_iff.1 hv).1];exact hv
   | succ i =>
     have hm:(i+1) * n=i * n+n:=Nat.succ_mul i n;rw[List.getElem?_append_right (by omega),hx,show(i+1) * n+j - n=i * n+j by omega];exact ih (fun c hc=>hk c (by simp[hc])) i c (by simpa using hi) j v hv
theorem zle {α:Type}{w:World}{base e n:Nat}{a:Option Addr}{cp:Nat}{l:List α}{f:α→List Value}(h:w.ownsRow base e n (.slice a l.length cp) l.length (l.flatMap f))(hk:∀ c∈l,(f c).length=n){i:Nat}{x:α}(hi:l[i]? = some x) :
 ∃ g,a=some ⟨g,0,none⟩∧base≤g∧g<w.heap.size∧w.rangeAt g (i * n) (f x):=by
 rcases h.2 with⟨h1,h2⟩ | ⟨g,cap,cur,h1,h2,h3,-⟩
 ·obtain rfl:l=[]:=List.length_eq_zero_iff.1 h2;cases hi
 obtain⟨rfl,-,rfl⟩:a=some ⟨g,0,none⟩∧l.length=l.length∧cp=cap:=by simpa using h1
 refine⟨g,rfl,h2,ja h3,fun j v hv=>?_⟩;have:=h.cells (g:=g) rfl (i * n+j) v (zsl f l hk i x hi j v hv);rw[Addr.add_lit,Nat.zero_add]at this;exact this
theorem GS.ofOwn {B:Nat}{l:List Sg}{v:Value}{w:World}(h:w.ownsRow B 115 97 v l.length (l.flatMap fun s=>s.cells.toList))(hok:∀ s∈l,s.ok):GS (fun k=>B≤k) l v w:=by
 have h0:=h;rcases h.2 with⟨rfl,hn⟩ | ⟨g,cap,cur,rfl,hb,hg,hn,hrest⟩
 ·exact⟨none,0,by rw[hn],by omega,.inl (List.length_eq_zero_iff.1 hn)⟩
 refine⟨some ⟨g,0,none⟩,cap,rfl,hn,.inr ⟨g,0,rfl,hb,ja hg,fun i hi=>?_⟩⟩;obtain⟨g',e,-,-,hr⟩:=zle (f:=fun s:Sg=>s.cells.toList) h0 (fun c hc=>by rw[Array.length_toList];exact Sg.size (hok c hc)) (List.getElem?_eq_getElem hi);obtain rfl:g=g':=by simpa using e
 rw[Nat.zero_add];exact hr
end Go.Proofs.YtmgfncjfgkllcaaGreatDoor
namespace Go.Proofs.YtmgfncjfgkllcaaGreatDoor
set_option linter.unusedVariables false
set_option linter.unusedSimpArgs false
set_option linter.unusedSectionVars false
open Go.ChangeShapes Go.WideShapes Go.ChangeAt Go.RowKit
variable [OldK]
theorem zja:Tryz.prog.cellsOf 40=4:=by kernel_rfl
section
variable {H:Type} {enc:TypeId × Value→H} {w:World}
set_option maxRecDepth 100000 in
theorem zsb (hK:w.heap.size≤OldK.k) {base:Nat} {v:Value} {d:DataW H} {p:List MemPlace} (hval:Value.okWide Tryz.prog w .any base 40 v) (h:DataW.Trod enc Tryz.prog w 0 (fun _=>true) true 40 v d p) :
 ∃ (a b:Bs) (bv:Value) (c e:Bs) (dv:Value),(SB Old b bv w∧SB Old e dv w)∧v = .agg #[.string ⟨a.toArray⟩,bv,.string ⟨c.toArray⟩,dv]:=by
 obtain⟨C,rfl,hsz⟩:=okWide_struct Tryz.underlying40 hval;obtain⟨fuel,hB⟩:=h;obtain⟨cs,hD⟩:∃ cs,(Value.agg C).cells.toList=cs:=⟨_,rfl⟩;rw[hD]at hB;obtain⟨xs,n,rfl,hx,hl,hI,hf⟩:=DataW.trod_struct Tryz.underlying40 hB;rw[zja]at hl;have hA:∀ i,i<4→∃ y,xs[i]? = some y:=fun i hi=>⟨_,List.getElem?_eq_getElem (by rw[hI];exact hi)⟩
 obtain⟨y0,hH⟩:=hA 0 (by decide);obtain⟨y1,hG⟩:=hA 1 (by decide);obtain⟨y2,hF⟩:=hA 2 (by decide);obtain⟨y3,hE⟩:=hA 3 (by decide);have f0:DataW.trod enc Tryz.prog w 0 (fun _=>true) true n 9 ((cs.drop 0).take (Tryz.prog.cellsOf 9))=xs[0]?:=hf 0 _ rfl;have f1:DataW.trod enc Tryz.prog w 0 (fun _=>true) true n 24 ((cs.drop 1).take (Tryz.prog.cellsOf 24))=xs[1]?:=hf 1 _ rfl;have f2:DataW.trod enc Tryz.prog w 0 (fun _=>true) true n 9 ((cs.drop 2).take (Tryz.prog.cellsOf 9))=xs[2]?:=hf 2 _ rfl;have f3:DataW.trod enc Tryz.prog w 0 (fun _=>true) true n 24 ((cs.drop 3).take (Tryz.prog.cellsOf 24))=xs[3]?:=hf 3 _ rfl;rw[hH,zhc]at f0;rw[hG,zfv]at f1;rw[hF,zhc]at f2;rw[hE,zfv]at f3;obtain⟨s,e0,_,_⟩:=DataW.trod_string Tryz.underlying9 f0;obtain⟨b,bv,e1,hb⟩:=zem hK f1;obtain⟨t,e2,_,_⟩:=DataW.trod_string Tryz.underlying9 f2;obtain⟨e,dv,e3,hd⟩:=zem hK f3;have hs:s=⟨s.data.toList.toArray⟩:=by simp
 have ht:t=⟨t.data.toList.toArray⟩:=by simp
 refine⟨s.data.toList,b,bv,t.data.toList,e,dv,⟨hb,hd⟩,?_⟩;have hC:C.toList=cs:=by rw[← hD];simp[Value.cells]
 match cs,hl with
 | [c0,c1,c2,c3],_ =>
   simp only[List.drop_zero,List.take_succ_cons,List.take_zero,List.drop_succ_cons,List.cons.injEq,and_true]at e0 e1 e2 e3;rw[← hs,← ht,← e0,← e1,← e2,← e3]
   congr 1
   exact Array.toList_inj.1 hC
end
end Go.Proofs.YtmgfncjfgkllcaaGreatDoor
