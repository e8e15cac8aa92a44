/-
 The walks of what pairs are compared by.
-/
import Derived.Test.YtcddlemkimbkcaaGreatDoorKCellRows
import Derived.Deep.QuietTactic
import Derived.Test.YtcddlemkimbkcaaGreatDoorKStore
import Derived.Test.YtcddlemkimbkcaaGreatDoorKSpecEntry
import Derived.Lib.ItoaNum
import Derived.Lib.Small
namespace Go.Proofs.YtcddlemkimbkcaaGreatDoor
set_option linter.unusedVariables false
set_option linter.unusedSimpArgs false
set_option linter.unusedSectionVars false
section
open Go.RowKit

end
section
open Go.RowKit

section
variable {α β:Type} (key:α→Bs) (key':β→Bs)
variable {key key'}
end

structure PV where
 nm:Bs
 k:Int
 n:Int
 t:Bs
 a1:Option Addr
 n1:Nat
 c1:Nat
 a2:Option Addr
 n2:Nat
 c2:Nat
def PV.val (p:PV):Value := .agg #[.int .i64 p.k,.int .i64 p.n,.string ⟨p.t.toArray⟩,.slice p.a1 p.n1 p.c1,.slice p.a2 p.n2 p.c2]
def PV.cells (p:PV):List Value:=[.string ⟨p.nm.toArray⟩,.int .i64 p.k,.int .i64 p.n,.string ⟨p.t.toArray⟩,.slice p.a1 p.n1 p.c1,.slice p.a2 p.n2 p.c2]
def zax:List PV→List Value
 | []=>[]
 | p :: l=>p.cells++zax l
theorem zfy:∀ (l m:List PV),zax (l++m)=zax l++zax m:=by
 intro l
 induction l with
 | nil=>intro m;rfl
 | cons p l ih=>intro m;simp[zax,ih]
theorem zfx:∀ (l:List PV),(zax l).length=6 * l.length:=by
 intro l
 induction l with
 | nil=>rfl
 | cons p l ih=>simp[zax,PV.cells,ih];omega
def PRow (b o:Nat) (l:List PV) (w:World):Prop:=∃ pre post,w.heap[b]? = some (.cells (pre++(zax l++post)).toArray 306 (0,0))∧pre.length=o
theorem PRow.lt {b o:Nat}{l:List PV}{w:World}(h:PRow b o l w):b<w.heap.size:=by
 obtain⟨_,_,h,_⟩:=h;exact jq h
theorem PRow.ty {b o:Nat}{l:List PV}{w:World}(h:PRow b o l w):∃ x,w.heap[b]? = some x∧OfTy 306 x:=by
 obtain⟨_,_,h,_⟩:=h;exact⟨_,h,_,_,rfl⟩
theorem PRow.fr {M:Nat→Obj→Prop}{b o:Nat}{l:List PV}{w w':World}(h:PRow b o l w)(hF:Fr M w w')(hM:∀ x,OfTy 306 x→¬ M b x):PRow b o l w':=by
 obtain⟨hB,hA,h,ho⟩:=h;exact⟨hB,hA,hF.block _ _ h (hM _ ⟨_,_,rfl⟩),ho⟩
theorem PRow.alloc {b o:Nat}{l:List PV}{w:World}(h:PRow b o l w)(x:Obj):PRow b o l (w.alloc x) :=
 h.fr ((Fr.refl (M:=NoB)).alloc x) (fun _ _ h=>h)
theorem PRow.at {b o:Nat} {l:List PV} {w:World} (h:PRow b o l w) {i:Nat} {p:PV} (hi:l[i]? = some p) :
 w.cell? ⟨b,o+i * 6,none⟩=some (.string ⟨p.nm.toArray⟩)∧w.cell? ⟨b,o+i * 6+1,none⟩=some (.int .i64 p.k)∧w.cell? ⟨b,o+i * 6+2,none⟩=some (.int .i64 p.n) ∧
  w.cell? ⟨b,o+i * 6+3,none⟩=some (.string ⟨p.t.toArray⟩)∧w.cell? ⟨b,o+i * 6+4,none⟩=some (.slice p.a1 p.n1 p.c1)∧w.cell? ⟨b,o+i * 6+5,none⟩=some (.slice p.a2 p.n2 p.c2):=by
 obtain⟨hC,hA,h,ho⟩:=h
 obtain ⟨l1,l2,rfl,hF⟩:∃ l1 l2,l=l1++p :: l2∧l1.length=i:=by
  obtain⟨hE,he⟩:=List.getElem?_eq_some_iff.1 hi;refine⟨l.take i,l.drop (i+1),?_,by simp;omega⟩;rw[← he,← List.drop_eq_getElem_cons hE,List.take_append_drop]
 have hD:(hC++zax l1).length=o+i * 6:=by rw[List.length_append,zfx,ho,hF];omega
 have hH:hC++(zax (l1++p :: l2)++hA)=(hC++zax l1)++(p.cells++(zax l2++hA)):=by rw[zfy];simp[zax]
 rw[hH]at h
 have hB:∀ j v,(p.cells)[j]? = some v→w.cell? ⟨b,o+i * 6+j,none⟩=some v:=by
  intro j v hj;have hG:j<p.cells.length:=(List.getElem?_eq_some_iff.1 hj).1
  have:((hC++zax l1)++(p.cells++(zax l2++hA)))[o+i * 6+j]? = some v:=by
   rw[List.getElem?_append_right (by omega),hD];rw[show o+i * 6+j - (o+i * 6)=j by omega,List.getElem?_append_left hG];exact hj
  simp only[World.cell?,h];simpa using this
 exact⟨hB 0 _ rfl,hB 1 _ rfl,hB 2 _ rfl,hB 3 _ rfl,hB 4 _ rfl,hB 5 _ rfl⟩
theorem PRow.open {b o:Nat}{l:List PV}{w:World}(h:PRow b o l w):∀ k,w.frozen? ⟨b,k,none⟩=false:=by
 obtain⟨pre,post,h,_⟩:=h;intro k;simp[World.frozen?,h]
theorem PRow.put {b o:Nat}{l1 l2:List PV}{q:PV}{w:World}(h:PRow b o (l1++q :: l2) w)(p:PV) :
 PRow b o (l1++p :: l2) (put6 b (o+l1.length * 6) (.string ⟨p.nm.toArray⟩) (.int .i64 p.k) (.int .i64 p.n) (.string ⟨p.t.toArray⟩) (.slice p.a1 p.n1 p.c1) (.slice p.a2 p.n2 p.c2) w):=by
 obtain⟨hC,hB,h,ho⟩:=h;have hA:(hC++zax l1).length=o+l1.length * 6:=by rw[List.length_append,zfx,ho];omega
 have hF:∀ p:PV,hC++(zax (l1++p :: l2)++hB)=(hC++zax l1)++(p.cells++(zax l2++hB)):=fun p=>by rw[zfy];simp[zax]
 refine⟨hC,hB,?_,ho⟩;rw[hF]at h ⊢;generalize zax l2++hB=rest at *;generalize hC++zax l1=xs at *;generalize hm:o+l1.length * 6=m at *;obtain⟨hE,hD⟩:∃ hE,(xs++(q.cells++rest)).toArray=hE:=⟨_,rfl⟩;rw[hD]at h;have h0:=jc (o:=m) (.string ⟨p.nm.toArray⟩) h;have h1:=jc (o:=m+1) (.int .i64 p.k) h0;have h2:=jc (o:=m+2) (.int .i64 p.n) h1;have h3:=jc (o:=m+3) (.string ⟨p.t.toArray⟩) h2;have h4:=jc (o:=m+4) (.slice p.a1 p.n1 p.c1) h3;have h5:=jc (o:=m+5) (.slice p.a2 p.n2 p.c2) h4;clear h h0 h1 h2 h3 h4;unfold put6 put5;refine h5.trans (congrArg some (congrArg (fun x=>Obj.cells x 306 (0,0)) ?_));clear h5;subst hD;apply Array.toList_inj.1;simp only[Array.toList_setIfInBounds,PV.cells];have s0:=zb3 xs ([.string ⟨q.nm.toArray⟩,.int .i64 q.k,.int .i64 q.n,.string ⟨q.t.toArray⟩,.slice q.a1 q.n1 q.c1,.slice q.a2 q.n2 q.c2]++rest) m 0 (.string ⟨p.nm.toArray⟩) hA;have s1:=zb3 xs ([.string ⟨p.nm.toArray⟩,.int .i64 q.k,.int .i64 q.n,.string ⟨q.t.toArray⟩,.slice q.a1 q.n1 q.c1,.slice q.a2 q.n2 q.c2]++rest) m 1 (.int .i64 p.k) hA;have s2:=zb3 xs ([.string ⟨p.nm.toArray⟩,.int .i64 p.k,.int .i64 q.n,.string ⟨q.t.toArray⟩,.slice q.a1 q.n1 q.c1,.slice q.a2 q.n2 q.c2]++rest) m 2 (.int .i64 p.n) hA;have s3:=zb3 xs ([.string ⟨p.nm.toArray⟩,.int .i64 p.k,.int .i64 p.n,.string ⟨q.t.toArray⟩,.slice q.a1 q.n1 q.c1,.slice q.a2 q.n2 q.c2]++rest) m 3 (.string ⟨p.t.toArray⟩) hA;have s4:=zb3 xs ([.string ⟨p.nm.toArray⟩,.int .i64 p.k,.int .i64 p.n,.string ⟨p.t.toArray⟩,.slice q.a1 q.n1 q.c1,.slice q.a2 q.n2 q.c2]++rest) m 4 (.slice p.a1 p.n1 p.c1) hA;have s5:=zb3 xs ([.string ⟨p.nm.toArray⟩,.int .i64 p.k,.int .i64 p.n,.string ⟨p.t.toArray⟩,.slice p.a1 p.n1 p.c1,.slice q.a2 q.n2 q.c2]++rest) m 5 (.slice p.a2 p.n2 p.c2) hA;simp only[Nat.add_zero,List.cons_append,List.set_cons_zero,List.set_cons_succ,List.nil_append]at s0 s1 s2 s3 s4 s5 ⊢;rw[s0,s1,s2,s3,s4,s5]
end
section

def fig (n:Nat):UInt8:=UInt8.ofNat (if n<10 then 48+n else 87+n)
def zxi (c:UInt8):Bs :=
 if c=34 then [92,34] else if c=92 then [92,92] else if c=8 then [92,98] else if c=9 then [92,116] else if c=10 then [92,110]
 else if c=12 then [92,102] else if c=13 then [92,114] else if c.toNat<32 then [92,117,48,48,fig (c.toNat / 16),fig (c.toNat % 16)] else []
def zv5:Bs→Bs
 | []=>[]
 | c :: l=>(if zxi c=[] then [c] else zxi c)++zv5 l
def ztq (s:Bs):Bs:=34 :: zv5 s++[34]
end
section

mutual
def zto:J→Bs
 | .mk k n t l p =>
   if k=0 then [110,117,108,108]
   else if k=1 then Lib.formatBool (n==1)
   else if k=2 then Lib.itoa n
   else if k=3 then ztq t
   else if k=4 then (if l.isEmpty then [91] else zp7 91 l)++[93]
   else if k=5 then (if p.isEmpty then [123] else zp8 123 p)++[125]
   else []
def zp7:UInt8→List J→Bs
 | _,[]=>[]
 | c,j :: js=>c :: zto j++zp7 44 js
def zp8:UInt8→List (Bs × J)→Bs
 | _,[]=>[]
 | c,(nm,j) :: ps=>c :: ztq nm++[58]++zto j++zp8 44 ps
end
end
section

mutual
def few:Nat→J→Bool
 | N,.mk _ _ _ l p=>decide (p.length≤N)&&(fewl N l&&fewp N p)
def fewl:Nat→List J→Bool
 | _,[]=>true
 | N,j :: js=>few N j&&fewl N js
def fewp:Nat→List (Bs × J)→Bool
 | _,[]=>true
 | N,(_,j) :: ps=>few N j&&fewp N ps
end
theorem few.open {N:Nat}{k n:Int}{t:Bs}{l:List J}{p:List (Bs × J)}(h:few N (.mk k n t l p)=true):p.length≤N∧fewl N l=true∧fewp N p=true:=by
 unfold few at h;simpa using h
theorem fewl.at {N:Nat}:∀ (l:List J),fewl N l=true→∀ (i:Nat) (j:J),l[i]? = some j→few N j=true:=by
 intro l
 induction l with
 | nil=>intro _ i j h;simp at h
 | cons x l ih =>
   intro h i j hi;unfold fewl at h;simp at h;cases i with
   | zero=>simp at hi;subst hi;exact h.1
   | succ i=>exact ih h.2 i j (by simpa using hi)
theorem fewp.at {N:Nat}:∀ (l:List (Bs × J)),fewp N l=true→∀ (i:Nat) (nm:Bs) (j:J),l[i]? = some (nm,j)→few N j=true:=by
 intro l
 induction l with
 | nil=>intro _ i nm j h;simp at h
 | cons x l ih =>
   obtain⟨xn,xj⟩:=x;intro h i nm j hi;unfold fewp at h;simp at h;cases i with
   | zero=>simp at hi;obtain⟨rfl,rfl⟩:=hi;exact h.1
   | succ i=>exact ih h.2 i nm j (by simpa using hi)
end
section

mutual
def zfl:J→Int→Int
 | .mk _ _ _ l p,last=>zeu (zcq 1 l last) p last
def zcq:Int→List J→Int→Int
 | n,[],_=>n
 | n,j :: js,last=>if n≤last then zcq (n+zfl j (last - n)) js last else n
def zeu:Int→List (Bs × J)→Int→Int
 | n,[],_=>n
 | n,(_,j) :: ps,last=>if n≤last then zeu (n+zfl j (last - n)) ps last else n
end
mutual
def zsk:J→Bool
 | .mk _ _ t l p=>decide (5000<t.length)||(znk l||znj p)
def znk:List J→Bool
 | []=>false
 | j :: js=>zsk j||znk js
def znj:List (Bs × J)→Bool
 | []=>false
 | (nm,j) :: ps=>(decide (5000<nm.length)||zsk j)||znj ps
end
mutual
theorem zdh:∀ (j:J) (last:Int),1≤zfl j last∧(zfl j last≤1∨zfl j last≤last+1)
 | .mk _ _ _ l p,last=>by
   unfold zfl;have h1:=zcu l 1 last;have h2:=zct p (zcq 1 l last) last;omega
theorem zcu:∀ (l:List J) (n last:Int),n≤zcq n l last∧(zcq n l last≤n∨zcq n l last≤last+1)
 | [],n,last=>by unfold zcq;omega
 | j :: js,n,last=>by
   unfold zcq;split
   ·have h1:=zdh j (last - n);have h2:=zcu js (n+zfl j (last - n)) last;omega
   omega
theorem zct:∀ (l:List (Bs × J)) (n last:Int),n≤zeu n l last∧(zeu n l last≤n∨zeu n l last≤last+1)
 | [],n,last=>by unfold zeu;omega
 | (_,j) :: js,n,last=>by
   unfold zeu;split
   ·have h1:=zdh j (last - n);have h2:=zct js (n+zfl j (last - n)) last;omega
   omega
end
mutual
def ztw:J→Bool
 | .mk _ n _ l p=>(decide (-9223372036854775808≤n)&&decide (n≤9223372036854775807))&&(zfp l&&zfo p)
def zfp:List J→Bool
 | []=>true
 | j :: js=>ztw j&&zfp js
def zfo:List (Bs × J)→Bool
 | []=>true
 | (_,j) :: ps=>ztw j&&zfo ps
end
mutual
theorem ziy:∀ (j:J) (last:Int),last≤1000→ztw j=true→zsk j=false→zfl j last≤last→fits 67108864 j=true
 | .mk k n t l p,last,h0,hi,hl,hm=>by
   unfold zfl at hm;unfold zsk at hl;unfold ztw at hi;simp only[Bool.or_eq_false_iff,decide_eq_false_iff_not,Bool.and_eq_true,decide_eq_true_eq]at hl hi;have b1:=zcu l 1 last;have b2:=zct p (zcq 1 l last) last;have b3:zcq 1 l last≤last:=by omega
   obtain⟨f1,n1⟩:=zhy l 1 last h0 (by omega) hi.2.1 hl.2.1 b3;obtain⟨f2,n2⟩:=zhx p (zcq 1 l last) last h0 (by omega) hi.2.2 hl.2.2 hm;unfold fits;rw[f1,f2];simp only[Bool.and_eq_true,decide_eq_true_eq,and_true];omega
theorem zhy:∀ (l:List J) (n last:Int),last≤1000→1≤n→zfp l=true→znk l=false→zcq n l last≤last→fitsl 67108864 l=true∧n+l.length≤last
 | [],n,last,h0,h1,hi,hl,hm=>by
   unfold zcq at hm;exact⟨by unfold fitsl;rfl,by simpa using hm⟩
 | j :: js,n,last,h0,h1,hi,hl,hm=>by
   unfold zcq at hm;unfold znk at hl;unfold zfp at hi;simp only[Bool.or_eq_false_iff,Bool.and_eq_true]at hl hi;split at hm
   ·rename_i hn
    have b0:=zdh j (last - n);have b1:=zcu js (n+zfl j (last - n)) last;obtain⟨f1,n1⟩:=zhy js (n+zfl j (last - n)) last h0 (by omega) hi.2 hl.2 hm;have f2:fits 67108864 j=true:=ziy j (last - n) (by omega) hi.1 hl.1 (by omega);unfold fitsl;rw[f1,f2];refine⟨rfl,?_⟩;simp only[List.length_cons];omega
   omega
theorem zhx:∀ (l:List (Bs × J)) (n last:Int),last≤1000→1≤n→zfo l=true→znj l=false→zeu n l last≤last→fitsp 67108864 l=true∧n+l.length≤last
 | [],n,last,h0,h1,hi,hl,hm=>by
   unfold zeu at hm;exact⟨by unfold fitsp;rfl,by simpa using hm⟩
 | (nm,j) :: js,n,last,h0,h1,hi,hl,hm=>by
   unfold zeu at hm;unfold znj at hl;unfold zfo at hi;simp only[Bool.or_eq_false_iff,Bool.and_eq_true,decide_eq_false_iff_not]at hl hi;split at hm
   ·rename_i hn
    have b0:=zdh j (last - n);have b1:=zct js (n+zfl j (last - n)) last;obtain⟨f1,n1⟩:=zhx js (n+zfl j (last - n)) last h0 (by omega) hi.2 hl.2 hm;have f2:fits 67108864 j=true:=ziy j (last - n) (by omega) hi.1 hl.1.2 (by omega);unfold fitsp;rw[f1,f2];refine⟨?_,?_⟩
    ·simp only[Bool.and_true,decide_eq_true_eq];omega
    simp only[List.length_cons];omega
   omega
end
end
end Go.Proofs.YtcddlemkimbkcaaGreatDoor
