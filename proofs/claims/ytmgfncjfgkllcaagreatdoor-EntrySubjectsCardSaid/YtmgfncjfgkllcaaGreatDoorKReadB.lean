/-
 The walks of slices.Values,AppendSeq,Collect at signatures: a range over a function.
-/
import Derived.RangeFuncNested
import Derived.RangeFuncBound
import Derived.RangeFuncCalls
import Derived.RangeFuncLeaves
import Derived.Shelf.Abstract
import Derived.Shelf.RegionOpen
import Derived.OwnWalkIn
import Derived.TacticsInMore
import Derived.LoopNIn
import Derived.LoopIn
import Derived.Deep.WholeRow
import Derived.Great.Walk
import Derived.Test.YtmgfncjfgkllcaaGreatDoorKGet
import Derived.Test.YtmgfncjfgkllcaaGreatDoorKSubjects
import Derived.Test.YtmgfncjfgkllcaaGreatDoorKSort2
import Derived.Test.YtmgfncjfgkllcaaGreatDoorKShelf
import Derived.Test.YtmgfncjfgkllcaaGreatDoorKEnAt
import Derived.Test.YtmgfncjfgkllcaaGreatDoorKNum
import Derived.ProofKit
import Derived.OpenShut
import Derived.SizedLaws
import Derived.Stood8
open Go.Value renaming int→zy
open Go.IntKind renaming u8→z6
namespace Go.Proofs.YtmgfncjfgkllcaaGreatDoor
set_option linter.unusedVariables false
set_option linter.unusedSimpArgs false
set_option linter.unusedSectionVars false
set_option maxRecDepth 100000
section
open Go.RowKit Go.Shelf
variable [OldK]
attribute [local go_sem] Oper.semAt_some
theorem ztk {p:Prop}(h:Hid p):p:=h.out
section
variable {F:Fence} {nF:Nat} {P:Program} {ops:Array Oper} {rest:List Oper} {op:Oper} {a:Act} {w:World} {Q:Exit→Act→World→Prop}
end
theorem zsy {P:Program} {T:TypeId} {i:TypeInfo} {z:Value} {s len:Nat} (hi:P.info? T=some i) (hz:i.zero=some z) (hs:i.size=s) (hzs:z.cells.size=s) (h0:0<s) (hl:0<len) (hsm:len * s≤2 ^ 24) (vs:List Value) (h1:∀ v∈vs,v.cells.size=s) (hlen:vs.length=len) :
 P.builtSlice T len ((vs.zipIdx 0).map fun x=>(x.2,x.1))=some (vs.flatMap fun v=>v.cells.toList).toArray:=by
 subst hs hlen;unfold Program.builtSlice;rw[hi];simp only[hz]
 rw [if_neg (by
  rintro(h | h)
  ·omega
  rcases Nat.mul_eq_zero.1 h with h | h<;>omega)]
 exact Great.fill_whole h0 vs _ h1 (by simp)
def sgZ:Array Value:=#[.string ⟨#[]⟩,zy z6 0,zy z6 0,zy z6 0,zy z6 0,zy z6 0,zy z6 0,zy z6 0,zy z6 0,zy z6 0,zy z6 0,zy z6 0,zy z6 0,zy z6 0,zy z6 0,zy z6 0,zy z6 0,zy z6 0,zy z6 0,zy z6 0,zy z6 0,zy z6 0,zy z6 0,zy z6 0,zy z6 0,zy z6 0,zy z6 0,zy z6 0,zy z6 0,zy z6 0,zy z6 0,zy z6 0,zy z6 0,zy z6 0,zy z6 0,zy z6 0,zy z6 0,zy z6 0,zy z6 0,zy z6 0,zy z6 0,zy z6 0,zy z6 0,zy z6 0,zy z6 0,zy z6 0,zy z6 0,zy z6 0,zy z6 0,zy z6 0,zy z6 0,zy z6 0,zy z6 0,zy z6 0,zy z6 0,zy z6 0,zy z6 0,zy z6 0,zy z6 0,zy z6 0,zy z6 0,zy z6 0,zy z6 0,zy z6 0,zy z6 0,zy z6 0,zy z6 0,zy z6 0,zy z6 0,zy z6 0,zy z6 0,zy z6 0,zy z6 0,zy z6 0,zy z6 0,zy z6 0,zy z6 0,zy z6 0,zy z6 0,zy z6 0,zy z6 0,zy z6 0,zy z6 0,zy z6 0,zy z6 0,zy z6 0,zy z6 0,zy z6 0,zy z6 0,zy z6 0,zy z6 0,zy z6 0,zy z6 0,zy z6 0,zy z6 0,zy z6 0,zy z6 0]
def Sg.enc (x:Sg):List Value:=if x.cells.size=97 then x.cells.toList else sgZ.toList
theorem Sg.enc_one (x:Sg):x.enc.toArray.all (·.oneCell')=true:=by
 unfold Sg.enc;split
 ·simpa using Sg.one x
 kernel_rfl
def SgRow (n₀ gb:Nat) (xs:List Sg) (W:World):Prop:=gb<n₀∧∀ (i:Nat) (x:Sg),xs[i]? = some x→W.rangeAt gb (i * 97) x.cells.toList
theorem SgRow.below {n₀ gb:Nat}{xs:List Sg}{A B:World}(h:SgRow n₀ gb xs A)(hb:Below n₀ A B):SgRow n₀ gb xs B :=
 ⟨h.1,fun i x hx=>zkq (h.2 i x hx) (hb.block gb h.1)⟩
theorem zsl {w w':World} (h:Fr NoB w w'):w.grownBy w' none :=
 ⟨h.os,h.tape,h.output,h.size,fun k hk _=>by
  obtain⟨o,ho⟩:=zg0 hk;rw[ho]
  exact h.block k o ho (fun h=>h)⟩
theorem zjz:(Tryz.prog.info? 115).map (fun i=>(i.zero,i.size,i.bytes))=some (some (.agg sgZ),97,112):=by kernel_rfl
theorem qe {P:Program}{ops:Array Oper}{rest:List Oper}{op:Oper}{a:Act}{w:World}{Q:Exit→Act→World→Prop}(hgd:op.guard=none)(ty:TypeId)(x y:Operand)(ho:op.op = .store ty x y)(c c':Array Value)(N:Nat)(hN:w.heap.size=N)
 (hx:a.eval x = .pointer (some ⟨N,0,none⟩)) (hy:a.eval y = .agg c') (hi:(P.info? ty).map (·.size)=some c'.size) (hs:c.size=c'.size) (h1:c'.all (·.oneCell')=true)
 (h:wpList P ops Q rest (a.put op.dst undef) (w.alloc (.cells c' ty))):wpList P ops Q (op :: rest) a (w.alloc (.cells c ty)):=by
 subst hN;refine wpList_plain hgd fun K hK=>?_
 unfold Oper.wp execOp;simp only[ho,hx,hy];rw[Sem.run_bind,run_storeAt_new w ty c c' hi hs h1];exact hK _ _ h
end
section
open Go.RowKit Go.Shelf
variable [OldK]
end
section
open Go.RowKit Go.Shelf
variable [OldK]
theorem zw8 {α:Type} {n:Nat} (f:α→List Value) (l:List α) (hk:∀ c∈l,(f c).length=n):∀ i c,l[i]? = some c→∀ j v,(f c)[j]? = some v→(l.flatMap f)[i * n+j]? = some v:=by
 induction l with
 | nil=>intro i c hi;cases hi
 | cons x l ih =>
   intro i c hi j v hv;have hx:=hk x (by simp);rw[List.flatMap_cons];cases i with
   | zero =>
     obtain rfl:x=c:=by simpa using hi
     rw[Nat.zero_mul,Nat.zero_add,List.getElem?_append_left (List.getElem?_eq_some_iff.1 hv).1];exact hv
   | succ i =>
     have hm:(i+1) * n=i * n+n:=Nat.succ_mul i n;rw[List.getElem?_append_right (by omega),hx,show(i+1) * n+j - n=i * n+j by omega];exact ih (fun c hc=>hk c (by simp[hc])) i c (by simpa using hi) j v hv
theorem zf8 {α:Type}{w:World}{base e n:Nat}{a:Option Addr}{cp:Nat}{l:List α}{f:α→List Value}(h:w.ownsRow base e n (.slice a l.length cp) l.length (l.flatMap f))(hk:∀ c∈l,(f c).length=n){i:Nat}{x:α}(hi:l[i]? = some x) :
 ∃ g,a=some ⟨g,0,none⟩∧base≤g∧g<w.heap.size∧w.rangeAt g (i * n) (f x):=by
 rcases h.2 with⟨h1,h2⟩ | ⟨g,cap,cur,h1,h2,h3,-⟩
 ·obtain rfl:l=[]:=List.length_eq_zero_iff.1 h2;cases hi
 obtain⟨rfl,-,rfl⟩:a=some ⟨g,0,none⟩∧l.length=l.length∧cp=cap:=by simpa using h1
 refine⟨g,rfl,h2,jb h3,fun j v hv=>?_⟩;have:=h.cells (g:=g) rfl (i * n+j) v (zw8 f l hk i x hi j v hv);rw[Addr.add_lit,Nat.zero_add]at this;exact this
theorem GS.ofOwn {B:Nat}{l:List Sg}{v:Value}{w:World}(h:w.ownsRow B 115 97 v l.length (l.flatMap fun s=>s.cells.toList))(hok:∀ s∈l,s.ok):GS (fun k=>B≤k) l v w:=by
 have h0:=h;rcases h.2 with⟨rfl,hn⟩ | ⟨g,cap,cur,rfl,hb,hg,hn,hrest⟩
 ·exact⟨none,0,by rw[hn],by omega,.inl (List.length_eq_zero_iff.1 hn)⟩
 refine⟨some ⟨g,0,none⟩,cap,rfl,hn,.inr ⟨g,0,rfl,hb,jb hg,fun i hi=>?_⟩⟩;obtain⟨g',e,-,-,hr⟩:=zf8 (f:=fun s:Sg=>s.cells.toList) h0 (fun c hc=>by rw[Array.length_toList];exact Sg.size (hok c hc)) (List.getElem?_eq_getElem hi);obtain rfl:g=g':=by simpa using e
 rw[Nat.zero_add];exact hr
end
section
open Go.ChangeShapes Go.WideShapes Go.ChangeAt Go.RowKit
variable [OldK]
theorem zl7:Tryz.prog.cellsOf 5=1:=by kernel_rfl
section
variable {H:Type} {enc:TypeId × Value→H}
theorem zr5 {W:World} (hK:W.heap.size≤OldK.k) {base:Nat} {v1:Value} {d1:DataW H} {p1:List MemPlace} (hval:Value.okWide Tryz.prog W .any base 24 v1)
 (h1:DataW.Trod enc Tryz.prog W 0 (fun _=>true) true 24 v1 d1 p1) :
 ∃ l:Bs,SB (fun _=>True) l v1 W∧(v1 = .slice none 0 0∨∃ ad n c,v1 = .slice (some ad) n c)∧(l=[]∨∃ es sp,d1 = .slice es sp∧es.length=l.length):=by
 have hB:=hval;obtain⟨a1,hE,hH,rfl⟩:=okWide_slice Tryz.underlying24 hval;obtain⟨fuel,hf⟩:=h1;rcases open_ints Tryz.underlying24 Tryz.underlying5 zl7 hf with⟨hcs,hx⟩ | ⟨a,len',cap',zs,hcs,_,hl,hm,hz,hx,hcell,hwz⟩
 ·simp[Value.cells]at hcs;obtain⟨rfl,rfl,rfl⟩:=hcs;exact⟨[],SB.nil _ _ _,.inl rfl,.inl rfl⟩
 simp[Value.cells]at hcs;obtain⟨rfl,rfl,rfl⟩:=hcs;simp only[Prod.mk.injEq]at hx;obtain⟨rfl,rfl⟩:=hx;simp only[if_true]at hz;have hA:((zs.take hE).map fun n=>UInt8.ofNat n.toNat).length=hE:=by simp;omega
 simp only[Value.okWide,Tryz.underlying24,Cell.okWide,Cell.ok]at hB;obtain⟨-,-,-,hC,row,cells,hD,-⟩:=hB;obtain⟨b,o,spot⟩:=a;simp only at hC;subst hC
 obtain ⟨C,T,f,hb⟩:∃ C T f,W.heap[b]? = some (.cells C T f):=by
  unfold World.shape? at hD;simp only at hD;split at hD
  ·rename_i C T f hb
   exact⟨_,_,_,hb⟩
  simp at hD
 refine⟨(zs.take hE).map fun n=>UInt8.ofNat n.toNat,⟨some ⟨b,o,none⟩,hH,by rw[hA],by rw[hA];exact hl,.inr ⟨b,o,C,T,f,rfl,trivial,⟨hb,.inr (by have:=jb hb;omega)⟩,fun j hj=>?_⟩⟩,.inr ⟨_,_,_,rfl⟩,.inr ⟨_,_,rfl,by rw[hA];simp[lits];omega⟩⟩;rw[hA]at hj;have hG:=hcell j (by omega);rw[Addr.add_lit]at hG
 have hF:C[o+j]? = some (.int .u8 (zs.getD j 0)):=by
  have h:=hG;simp only[World.cell?,hb]at h;exact h
 rw[hF];have hr:=range_u8 hwz j;simp only[List.getElem_map,List.getElem_take];have e:zs.getD j 0=zs[j]'(by omega):=by simp[List.getD,List.getElem?_eq_getElem (show j<zs.length by omega)]
 rw[List.getD_eq_getElem?_getD]at e;rw[e]at hr;rw[List.getD_eq_getElem?_getD,e]
 congr 2
 simp only[UInt8.toNat_ofNat'];omega
end
end
end Go.Proofs.YtmgfncjfgkllcaaGreatDoor
