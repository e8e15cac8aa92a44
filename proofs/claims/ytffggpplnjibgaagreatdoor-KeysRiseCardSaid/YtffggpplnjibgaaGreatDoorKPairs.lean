/-
 The walks of what pairs are compared by.
-/
import Derived.Test.YtffggpplnjibgaaGreatDoorKCellRows
import Derived.Deep.QuietTactic
import Derived.Test.YtffggpplnjibgaaGreatDoorKStore
namespace Go.Proofs.YtffggpplnjibgaaGreatDoor
set_option linter.unusedVariables false
set_option linter.unusedSimpArgs false
set_option linter.unusedSectionVars false
section
open Go.RowKit

end
section
open Go.RowKit

section
variable {α β:Type} (key:α→Bs) (key':β→Bs)
variable {key key'}
end

structure PV where
 nm:Bs
 k:Int
 n:Int
 t:Bs
 a1:Option Addr
 n1:Nat
 c1:Nat
 a2:Option Addr
 n2:Nat
 c2:Nat
def PV.val (p:PV):Value := .agg #[.int .i64 p.k,.int .i64 p.n,.string ⟨p.t.toArray⟩,.slice p.a1 p.n1 p.c1,.slice p.a2 p.n2 p.c2]
def PV.cells (p:PV):List Value:=[.string ⟨p.nm.toArray⟩,.int .i64 p.k,.int .i64 p.n,.string ⟨p.t.toArray⟩,.slice p.a1 p.n1 p.c1,.slice p.a2 p.n2 p.c2]
def q6:List PV→List Value
 | []=>[]
 | p :: l=>p.cells++q6 l
theorem zdx:∀ (l m:List PV),q6 (l++m)=q6 l++q6 m:=by
 intro l
 induction l with
 | nil=>intro m;rfl
 | cons p l ih=>intro m;simp[q6,ih]
theorem zdw:∀ (l:List PV),(q6 l).length=6 * l.length:=by
 intro l
 induction l with
 | nil=>rfl
 | cons p l ih=>simp[q6,PV.cells,ih];omega
def PRow (b o:Nat) (l:List PV) (w:World):Prop:=∃ pre post,w.heap[b]? = some (.cells (pre++(q6 l++post)).toArray 116 (0,0))∧pre.length=o
theorem PRow.lt {b o:Nat}{l:List PV}{w:World}(h:PRow b o l w):b<w.heap.size:=by
 obtain⟨_,_,h,_⟩:=h;exact jq h
theorem PRow.ty {b o:Nat}{l:List PV}{w:World}(h:PRow b o l w):∃ x,w.heap[b]? = some x∧OfTy 116 x:=by
 obtain⟨_,_,h,_⟩:=h;exact⟨_,h,_,_,rfl⟩
theorem PRow.fr {M:Nat→Obj→Prop}{b o:Nat}{l:List PV}{w w':World}(h:PRow b o l w)(hF:Fr M w w')(hM:∀ x,OfTy 116 x→¬ M b x):PRow b o l w':=by
 obtain⟨hB,hA,h,ho⟩:=h;exact⟨hB,hA,hF.block _ _ h (hM _ ⟨_,_,rfl⟩),ho⟩
theorem PRow.alloc {b o:Nat}{l:List PV}{w:World}(h:PRow b o l w)(x:Obj):PRow b o l (w.alloc x) :=
 h.fr ((Fr.refl (M:=NoB)).alloc x) (fun _ _ h=>h)
theorem PRow.at {b o:Nat} {l:List PV} {w:World} (h:PRow b o l w) {i:Nat} {p:PV} (hi:l[i]? = some p) :
 w.cell? ⟨b,o+i * 6,none⟩=some (.string ⟨p.nm.toArray⟩)∧w.cell? ⟨b,o+i * 6+1,none⟩=some (.int .i64 p.k)∧w.cell? ⟨b,o+i * 6+2,none⟩=some (.int .i64 p.n) ∧
  w.cell? ⟨b,o+i * 6+3,none⟩=some (.string ⟨p.t.toArray⟩)∧w.cell? ⟨b,o+i * 6+4,none⟩=some (.slice p.a1 p.n1 p.c1)∧w.cell? ⟨b,o+i * 6+5,none⟩=some (.slice p.a2 p.n2 p.c2):=by
 obtain⟨hC,hA,h,ho⟩:=h
 obtain ⟨l1,l2,rfl,hF⟩:∃ l1 l2,l=l1++p :: l2∧l1.length=i:=by
  obtain⟨hE,he⟩:=List.getElem?_eq_some_iff.1 hi;refine⟨l.take i,l.drop (i+1),?_,by simp;omega⟩;rw[← he,← List.drop_eq_getElem_cons hE,List.take_append_drop]
 have hD:(hC++q6 l1).length=o+i * 6:=by rw[List.length_append,zdw,ho,hF];omega
 have hH:hC++(q6 (l1++p :: l2)++hA)=(hC++q6 l1)++(p.cells++(q6 l2++hA)):=by rw[zdx];simp[q6]
 rw[hH]at h
 have hB:∀ j v,(p.cells)[j]? = some v→w.cell? ⟨b,o+i * 6+j,none⟩=some v:=by
  intro j v hj;have hG:j<p.cells.length:=(List.getElem?_eq_some_iff.1 hj).1
  have:((hC++q6 l1)++(p.cells++(q6 l2++hA)))[o+i * 6+j]? = some v:=by
   rw[List.getElem?_append_right (by omega),hD];rw[show o+i * 6+j - (o+i * 6)=j by omega,List.getElem?_append_left hG];exact hj
  simp only[World.cell?,h];simpa using this
 exact⟨hB 0 _ rfl,hB 1 _ rfl,hB 2 _ rfl,hB 3 _ rfl,hB 4 _ rfl,hB 5 _ rfl⟩
theorem PRow.open {b o:Nat}{l:List PV}{w:World}(h:PRow b o l w):∀ k,w.frozen? ⟨b,k,none⟩=false:=by
 obtain⟨pre,post,h,_⟩:=h;intro k;simp[World.frozen?,h]
theorem PRow.put {b o:Nat}{l1 l2:List PV}{q:PV}{w:World}(h:PRow b o (l1++q :: l2) w)(p:PV) :
 PRow b o (l1++p :: l2) (put6 b (o+l1.length * 6) (.string ⟨p.nm.toArray⟩) (.int .i64 p.k) (.int .i64 p.n) (.string ⟨p.t.toArray⟩) (.slice p.a1 p.n1 p.c1) (.slice p.a2 p.n2 p.c2) w):=by
 obtain⟨hC,hB,h,ho⟩:=h;have hA:(hC++q6 l1).length=o+l1.length * 6:=by rw[List.length_append,zdw,ho];omega
 have hF:∀ p:PV,hC++(q6 (l1++p :: l2)++hB)=(hC++q6 l1)++(p.cells++(q6 l2++hB)):=fun p=>by rw[zdx];simp[q6]
 refine⟨hC,hB,?_,ho⟩;rw[hF]at h ⊢;generalize q6 l2++hB=rest at *;generalize hC++q6 l1=xs at *;generalize hm:o+l1.length * 6=m at *;obtain⟨hE,hD⟩:∃ hE,(xs++(q.cells++rest)).toArray=hE:=⟨_,rfl⟩;rw[hD]at h;have h0:=jh (o:=m) (.string ⟨p.nm.toArray⟩) h;have h1:=jh (o:=m+1) (.int .i64 p.k) h0;have h2:=jh (o:=m+2) (.int .i64 p.n) h1;have h3:=jh (o:=m+3) (.string ⟨p.t.toArray⟩) h2;have h4:=jh (o:=m+4) (.slice p.a1 p.n1 p.c1) h3;have h5:=jh (o:=m+5) (.slice p.a2 p.n2 p.c2) h4;clear h h0 h1 h2 h3 h4;unfold put6 put5;refine h5.trans (congrArg some (congrArg (fun x=>Obj.cells x 116 (0,0)) ?_));clear h5;subst hD;apply Array.toList_inj.1;simp only[Array.toList_setIfInBounds,PV.cells];have s0:=zar xs ([.string ⟨q.nm.toArray⟩,.int .i64 q.k,.int .i64 q.n,.string ⟨q.t.toArray⟩,.slice q.a1 q.n1 q.c1,.slice q.a2 q.n2 q.c2]++rest) m 0 (.string ⟨p.nm.toArray⟩) hA;have s1:=zar xs ([.string ⟨p.nm.toArray⟩,.int .i64 q.k,.int .i64 q.n,.string ⟨q.t.toArray⟩,.slice q.a1 q.n1 q.c1,.slice q.a2 q.n2 q.c2]++rest) m 1 (.int .i64 p.k) hA;have s2:=zar xs ([.string ⟨p.nm.toArray⟩,.int .i64 p.k,.int .i64 q.n,.string ⟨q.t.toArray⟩,.slice q.a1 q.n1 q.c1,.slice q.a2 q.n2 q.c2]++rest) m 2 (.int .i64 p.n) hA;have s3:=zar xs ([.string ⟨p.nm.toArray⟩,.int .i64 p.k,.int .i64 p.n,.string ⟨q.t.toArray⟩,.slice q.a1 q.n1 q.c1,.slice q.a2 q.n2 q.c2]++rest) m 3 (.string ⟨p.t.toArray⟩) hA;have s4:=zar xs ([.string ⟨p.nm.toArray⟩,.int .i64 p.k,.int .i64 p.n,.string ⟨p.t.toArray⟩,.slice q.a1 q.n1 q.c1,.slice q.a2 q.n2 q.c2]++rest) m 4 (.slice p.a1 p.n1 p.c1) hA;have s5:=zar xs ([.string ⟨p.nm.toArray⟩,.int .i64 p.k,.int .i64 p.n,.string ⟨p.t.toArray⟩,.slice p.a1 p.n1 p.c1,.slice q.a2 q.n2 q.c2]++rest) m 5 (.slice p.a2 p.n2 p.c2) hA;simp only[Nat.add_zero,List.cons_append,List.set_cons_zero,List.set_cons_succ,List.nil_append]at s0 s1 s2 s3 s4 s5 ⊢;rw[s0,s1,s2,s3,s4,s5]
end
end Go.Proofs.YtffggpplnjibgaaGreatDoor
