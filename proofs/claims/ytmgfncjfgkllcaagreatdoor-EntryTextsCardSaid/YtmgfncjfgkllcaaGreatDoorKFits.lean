/-
 The walks of what pairs are compared by.
-/
import Derived.Test.YtmgfncjfgkllcaaGreatDoorKCellRows
import Derived.Deep.QuietTactic
import Derived.Test.YtmgfncjfgkllcaaGreatDoorKOwn
import Derived.Test.YtmgfncjfgkllcaaGreatDoorKStart5
import Derived.Lib.ItoaNum
import Derived.Lib.Small
namespace Go.Proofs.YtmgfncjfgkllcaaGreatDoor
set_option linter.unusedVariables false
set_option linter.unusedSimpArgs false
set_option linter.unusedSectionVars false
set_option maxRecDepth 100000
set_option maxHeartbeats 400000
section
open Go.RowKit

def zwe (a b:Bs):Int:=if Op.bytesLess a b then -1 else if a==b then 0 else 1
theorem zjl (a:Bs)(w:World):Calls Tryz.prog 326 #[.string ⟨a.toArray⟩] w fun e w'=>e = .returned (.bool false)∧w'=w:=by
 go_enter Tryz.func326,Tryz.ntmps326
 go_wp2_with fail
 go_ret;exact⟨rfl,rfl⟩
theorem zsk (a b:Bs) (w:World):Calls Tryz.prog 296 #[.string ⟨a.toArray⟩,.string ⟨b.toArray⟩] w fun e w'=>e = .returned (.int .i64 (zwe a b))∧w'=w:=by
 unfold zwe;obtain⟨x,hx⟩:∃ x,Op.bytesLess a b=x:=⟨_,rfl⟩;obtain⟨y,hy⟩:∃ y,(a==b)=y:=⟨_,rfl⟩;rw[hx,hy];cases x
 ·cases y
  all_goals
   go_enter Tryz.func296,Tryz.ntmps296
   go_wp2_with fail
   refine(zjl a w).mono ?_;rintro e w1 ⟨rfl,rfl⟩
   go_wp2_with fail
   refine(zjl b w1).mono ?_;rintro e w2 ⟨rfl,rfl⟩
   go_wp2_with fail
   go_ret;exact⟨rfl,rfl⟩
 go_enter Tryz.func296,Tryz.ntmps296
 go_wp2_with fail
 refine(zjl a w).mono ?_;rintro e w1 ⟨rfl,rfl⟩
 go_wp2_with fail
 refine(zjl b w1).mono ?_;rintro e w2 ⟨rfl,rfl⟩
 go_wp2_with fail
 go_ret;exact⟨rfl,rfl⟩
theorem zol (a b:Bs) (x0 x1 x2 x3 x4 y0 y1 y2 y3 y4:Value) (w:World) :
 Calls Tryz.prog 247 #[.agg #[.string ⟨a.toArray⟩,x0,x1,x2,x3,x4],.agg #[.string ⟨b.toArray⟩,y0,y1,y2,y3,y4]] w fun e w'=>e = .returned (.int .i64 (zwe a b)) ∧
  w'=(w.alloc (.cells #[.string ⟨a.toArray⟩,x0,x1,x2,x3,x4] 133)).alloc (.cells #[.string ⟨b.toArray⟩,y0,y1,y2,y3,y4] 133):=by
 go_enter Tryz.func247,Tryz.ntmps247
 go_wp2_with fail
 refine(zsk a b _).mono ?_;rintro e w2 ⟨rfl,rfl⟩
 go_wp2_with fail
 go_ret;exact⟨rfl,rfl⟩
end
section
open Go.RowKit

inductive All2 {α β:Type} (R:α→β→Prop):List α→List β→Prop
 | nil:All2 R [] []
 | cons {a:α} {b:β} {l:List α} {m:List β}:R a b→All2 R l m→All2 R (a :: l) (b :: m)
section
variable {α β:Type} (key:α→Bs) (key':β→Bs)
def zlz (x:α):List α→List α
 | []=>[x]
 | y :: l=>if Op.bytesLess (key x) (key y) then y :: zlz x l else x :: y :: l
def zcq:List α→List α→List α
 | acc,[]=>acc
 | acc,x :: l=>zcq (zlz key x acc) l
def zc7 (l:List α):List α:=(zcq key [] l).reverse
theorem zb6 (x:α):∀ l:List α,(zlz key x l).length=l.length+1:=by
 intro l
 induction l with
 | nil=>rfl
 | cons y l ih=>unfold zlz;split<;>simp[ih]
theorem zjk:∀ (l acc:List α),(zcq key acc l).length=acc.length+l.length:=by
 intro l
 induction l with
 | nil=>intro acc;rfl
 | cons x l ih=>intro acc;rw[zcq,ih,zb6];simp;omega
theorem zd5 (l:List α):(zc7 key l).length=l.length:=by simp[zc7,zjk]
variable {key key'}
theorem zt3 {R:α→β→Prop} (hR:∀ a b,R a b→key a=key' b) {x:α} {y:β} (hx:R x y):∀ (l:List α) (m:List β),All2 R l m→All2 R (zlz key x l) (zlz key' y m):=by
 intro l m h
 induction h with
 | nil=>exact .cons hx .nil
 | cons h1 h2 ih =>
   unfold zlz;rw[hR _ _ hx,hR _ _ h1];split
   ·exact .cons h1 ih
   exact .cons hx (.cons h1 h2)
theorem zpx {R:α→β→Prop}(hR:∀ a b,R a b→key a=key' b){l:List α}{m:List β}(h:All2 R l m):∀ (acc:List α) (acc':List β),All2 R acc acc'→All2 R (zcq key acc l) (zcq key' acc' m):=by
 induction h with
 | nil=>intro acc acc' ha;exact ha
 | cons h1 h2 ih=>intro acc acc' ha;exact ih _ _ (zt3 hR h1 _ _ ha)
theorem zho {R:α→β→Prop} {l:List α} {m:List β} (h:All2 R l m):All2 R l.reverse m.reverse:=by
 have go:∀ {l:List α} {m:List β},All2 R l m→∀ {a:List α} {b:List β},All2 R a b→All2 R (l.reverseAux a) (m.reverseAux b):=by
  intro l m h
  induction h with
  | nil=>intro a b hA;exact hA
  | cons h1 h2 ih=>intro a b hA;exact ih (.cons h1 hA)
 exact go h .nil
theorem zrt {R:α→β→Prop}(hR:∀ a b,R a b→key a=key' b){l:List α}{m:List β}(h:All2 R l m):All2 R (zc7 key l) (zc7 key' m) :=
 zho (zpx hR h _ _ .nil)
end

structure PV where
 nm:Bs
 k:Int
 n:Int
 t:Bs
 a1:Option Addr
 n1:Nat
 c1:Nat
 a2:Option Addr
 n2:Nat
 c2:Nat
def PV.val (p:PV):Value := .agg #[.int .i64 p.k,.int .i64 p.n,.string ⟨p.t.toArray⟩,.slice p.a1 p.n1 p.c1,.slice p.a2 p.n2 p.c2]
def PV.cells (p:PV):List Value:=[.string ⟨p.nm.toArray⟩,.int .i64 p.k,.int .i64 p.n,.string ⟨p.t.toArray⟩,.slice p.a1 p.n1 p.c1,.slice p.a2 p.n2 p.c2]
def qz:List PV→List Value
 | []=>[]
 | p :: l=>p.cells++qz l
theorem zfd:∀ (l m:List PV),qz (l++m)=qz l++qz m:=by
 intro l
 induction l with
 | nil=>intro m;rfl
 | cons p l ih=>intro m;simp[qz,ih]
theorem zby:∀ (l:List PV),(qz l).length=6 * l.length:=by
 intro l
 induction l with
 | nil=>rfl
 | cons p l ih=>simp[qz,PV.cells,ih];omega
class PostL where n:Nat
section
variable [PostL]
def PRow (b o:Nat) (l:List PV) (w:World):Prop:=∃ (pre:List Value) (post:{l:List Value // l.length=PostL.n}),w.heap[b]? = some (.cells (pre++(qz l++post.1)).toArray 133 (0,0))∧pre.length=o
theorem PRow.lt {b o:Nat}{l:List PV}{w:World}(h:PRow b o l w):b<w.heap.size:=by
 obtain⟨_,_,h,_⟩:=h;exact jb h
theorem PRow.ty {b o:Nat}{l:List PV}{w:World}(h:PRow b o l w):∃ x,w.heap[b]? = some x∧zav 133 x:=by
 obtain⟨_,_,h,_⟩:=h;exact⟨_,h,_,_,rfl⟩
theorem PRow.fr {M:Nat→Obj→Prop}{b o:Nat}{l:List PV}{w w':World}(h:PRow b o l w)(hF:Fr M w w')(hM:∀ x,zav 133 x→¬ M b x):PRow b o l w':=by
 obtain⟨hB,hA,h,ho⟩:=h;exact⟨hB,hA,hF.block _ _ h (hM _ ⟨_,_,rfl⟩),ho⟩
theorem PRow.alloc {b o:Nat}{l:List PV}{w:World}(h:PRow b o l w)(x:Obj):PRow b o l (w.alloc x) :=
 h.fr ((Fr.refl (M:=NoB)).alloc x) (fun _ _ h=>h)
theorem PRow.at {b o:Nat} {l:List PV} {w:World} (h:PRow b o l w) {i:Nat} {p:PV} (hi:l[i]? = some p) :
 w.cell? ⟨b,o+i * 6,none⟩=some (.string ⟨p.nm.toArray⟩)∧w.cell? ⟨b,o+i * 6+1,none⟩=some (.int .i64 p.k)∧w.cell? ⟨b,o+i * 6+2,none⟩=some (.int .i64 p.n) ∧
  w.cell? ⟨b,o+i * 6+3,none⟩=some (.string ⟨p.t.toArray⟩)∧w.cell? ⟨b,o+i * 6+4,none⟩=some (.slice p.a1 p.n1 p.c1)∧w.cell? ⟨b,o+i * 6+5,none⟩=some (.slice p.a2 p.n2 p.c2):=by
 obtain⟨hC,⟨hA,hpz⟩,h,ho⟩:=h
 obtain ⟨l1,l2,rfl,hF⟩:∃ l1 l2,l=l1++p :: l2∧l1.length=i:=by
  obtain⟨hE,he⟩:=List.getElem?_eq_some_iff.1 hi;refine⟨l.take i,l.drop (i+1),?_,by simp;omega⟩;rw[← he,← List.drop_eq_getElem_cons hE,List.take_append_drop]
 have hD:(hC++qz l1).length=o+i * 6:=by rw[List.length_append,zby,ho,hF];omega
 have hH:hC++(qz (l1++p :: l2)++hA)=(hC++qz l1)++(p.cells++(qz l2++hA)):=by rw[zfd];simp[qz]
 rw[hH]at h
 have hB:∀ j v,(p.cells)[j]? = some v→w.cell? ⟨b,o+i * 6+j,none⟩=some v:=by
  intro j v hj;have hG:j<p.cells.length:=(List.getElem?_eq_some_iff.1 hj).1
  have:((hC++qz l1)++(p.cells++(qz l2++hA)))[o+i * 6+j]? = some v:=by
   rw[List.getElem?_append_right (by omega),hD];rw[show o+i * 6+j - (o+i * 6)=j by omega,List.getElem?_append_left hG];exact hj
  simp only[World.cell?,h];simpa using this
 exact⟨hB 0 _ rfl,hB 1 _ rfl,hB 2 _ rfl,hB 3 _ rfl,hB 4 _ rfl,hB 5 _ rfl⟩
theorem PRow.open {b o:Nat}{l:List PV}{w:World}(h:PRow b o l w):∀ k,w.frozen? ⟨b,k,none⟩=false:=by
 obtain⟨pre,post,h,_⟩:=h;intro k;simp[World.frozen?,h]
theorem PRow.put {b o:Nat}{l1 l2:List PV}{q:PV}{w:World}(h:PRow b o (l1++q :: l2) w)(p:PV) :
 PRow b o (l1++p :: l2) (put6 b (o+l1.length * 6) (.string ⟨p.nm.toArray⟩) (.int .i64 p.k) (.int .i64 p.n) (.string ⟨p.t.toArray⟩) (.slice p.a1 p.n1 p.c1) (.slice p.a2 p.n2 p.c2) w):=by
 obtain⟨hC,⟨hB,hF⟩,h,ho⟩:=h;have hA:(hC++qz l1).length=o+l1.length * 6:=by rw[List.length_append,zby,ho];omega
 have hG:∀ p:PV,hC++(qz (l1++p :: l2)++hB)=(hC++qz l1)++(p.cells++(qz l2++hB)):=fun p=>by rw[zfd];simp[qz]
 refine⟨hC,⟨hB,hF⟩,?_,ho⟩;rw[hG]at h ⊢;generalize qz l2++hB=rest at *;generalize hC++qz l1=xs at *;generalize hm:o+l1.length * 6=m at *;obtain⟨hE,hD⟩:∃ hE,(xs++(q.cells++rest)).toArray=hE:=⟨_,rfl⟩;rw[hD]at h;have h0:=z7 (o:=m) (.string ⟨p.nm.toArray⟩) h;have h1:=z7 (o:=m+1) (.int .i64 p.k) h0;have h2:=z7 (o:=m+2) (.int .i64 p.n) h1;have h3:=z7 (o:=m+3) (.string ⟨p.t.toArray⟩) h2;have h4:=z7 (o:=m+4) (.slice p.a1 p.n1 p.c1) h3;have h5:=z7 (o:=m+5) (.slice p.a2 p.n2 p.c2) h4;clear h h0 h1 h2 h3 h4;unfold put6 put5;refine h5.trans (congrArg some (congrArg (fun x=>Obj.cells x 133 (0,0)) ?_));clear h5;subst hD;apply Array.toList_inj.1;simp only[Array.toList_setIfInBounds,PV.cells];have s0:=zbn xs ([.string ⟨q.nm.toArray⟩,.int .i64 q.k,.int .i64 q.n,.string ⟨q.t.toArray⟩,.slice q.a1 q.n1 q.c1,.slice q.a2 q.n2 q.c2]++rest) m 0 (.string ⟨p.nm.toArray⟩) hA;have s1:=zbn xs ([.string ⟨p.nm.toArray⟩,.int .i64 q.k,.int .i64 q.n,.string ⟨q.t.toArray⟩,.slice q.a1 q.n1 q.c1,.slice q.a2 q.n2 q.c2]++rest) m 1 (.int .i64 p.k) hA;have s2:=zbn xs ([.string ⟨p.nm.toArray⟩,.int .i64 p.k,.int .i64 q.n,.string ⟨q.t.toArray⟩,.slice q.a1 q.n1 q.c1,.slice q.a2 q.n2 q.c2]++rest) m 2 (.int .i64 p.n) hA;have s3:=zbn xs ([.string ⟨p.nm.toArray⟩,.int .i64 p.k,.int .i64 p.n,.string ⟨q.t.toArray⟩,.slice q.a1 q.n1 q.c1,.slice q.a2 q.n2 q.c2]++rest) m 3 (.string ⟨p.t.toArray⟩) hA;have s4:=zbn xs ([.string ⟨p.nm.toArray⟩,.int .i64 p.k,.int .i64 p.n,.string ⟨p.t.toArray⟩,.slice q.a1 q.n1 q.c1,.slice q.a2 q.n2 q.c2]++rest) m 4 (.slice p.a1 p.n1 p.c1) hA;have s5:=zbn xs ([.string ⟨p.nm.toArray⟩,.int .i64 p.k,.int .i64 p.n,.string ⟨p.t.toArray⟩,.slice p.a1 p.n1 p.c1,.slice q.a2 q.n2 q.c2]++rest) m 5 (.slice p.a2 p.n2 p.c2) hA;simp only[Nat.add_zero,List.cons_append,List.set_cons_zero,List.set_cons_succ,List.nil_append]at s0 s1 s2 s3 s4 s5 ⊢;rw[s0,s1,s2,s3,s4,s5]
end
end
section

mutual
def jm:J→Bs
 | .mk k n t l p =>
   if k=0 then [110,117,108,108]
   else if k=1 then Lib.formatBool (n==1)
   else if k=2 then Lib.itoa n
   else if k=3 then zax t
   else if k=4 then (if l.isEmpty then [91] else ql 91 l)++[93]
   else if k=5 then (if p.isEmpty then [123] else qm 123 p)++[125]
   else []
def ql:UInt8→List J→Bs
 | _,[]=>[]
 | c,j :: js=>c :: jm j++ql 44 js
def qm:UInt8→List (Bs × J)→Bs
 | _,[]=>[]
 | c,(nm,j) :: ps=>c :: zax nm++[58]++jm j++qm 44 ps
end
end
section

def ji:Nat→J→J
 | 0,j=>j
 | f+1,.mk k n t l p => .mk k n t (l.map (ji f)) (zc7 (fun q:Bs × J=>q.1) (p.map fun q=>(q.1,ji f q.2)))
mutual
def few:Nat→J→Bool
 | N,.mk _ _ _ l p=>decide (p.length≤N)&&(fewl N l&&fewp N p)
def fewl:Nat→List J→Bool
 | _,[]=>true
 | N,j :: js=>few N j&&fewl N js
def fewp:Nat→List (Bs × J)→Bool
 | _,[]=>true
 | N,(_,j) :: ps=>few N j&&fewp N ps
end
theorem few.open {N:Nat}{k n:Int}{t:Bs}{l:List J}{p:List (Bs × J)}(h:few N (.mk k n t l p)=true):p.length≤N∧fewl N l=true∧fewp N p=true:=by
 unfold few at h;simpa using h
theorem fewl.at {N:Nat}:∀ (l:List J),fewl N l=true→∀ (i:Nat) (j:J),l[i]? = some j→few N j=true:=by
 intro l
 induction l with
 | nil=>intro _ i j h;simp at h
 | cons x l ih =>
   intro h i j hi;unfold fewl at h;simp at h;cases i with
   | zero=>simp at hi;subst hi;exact h.1
   | succ i=>exact ih h.2 i j (by simpa using hi)
theorem fewp.at {N:Nat}:∀ (l:List (Bs × J)),fewp N l=true→∀ (i:Nat) (nm:Bs) (j:J),l[i]? = some (nm,j)→few N j=true:=by
 intro l
 induction l with
 | nil=>intro _ i nm j h;simp at h
 | cons x l ih =>
   obtain⟨xn,xj⟩:=x;intro h i nm j hi;unfold fewp at h;simp at h;cases i with
   | zero=>simp at hi;obtain⟨rfl,rfl⟩:=hi;exact h.1
   | succ i=>exact ih h.2 i nm j (by simpa using hi)
def zcx (j:J):Bs:=jm (ji 8 j)
def zwy (j:J):Bs × Nat:=if jq 0 j then (if 4096<(zcx j).length then ([],10) else (zcx j,0)) else ([],1)
end
section

mutual
def zez:J→Int→Int
 | .mk _ _ _ l p,last=>zej (zcm 1 l last) p last
def zcm:Int→List J→Int→Int
 | n,[],_=>n
 | n,j :: js,last=>if n≤last then zcm (n+zez j (last - n)) js last else n
def zej:Int→List (Bs × J)→Int→Int
 | n,[],_=>n
 | n,(_,j) :: ps,last=>if n≤last then zej (n+zez j (last - n)) ps last else n
end
mutual
def zto:J→Bool
 | .mk _ _ t l p=>decide (5000<t.length)||(znx l||znw p)
def znx:List J→Bool
 | []=>false
 | j :: js=>zto j||znx js
def znw:List (Bs × J)→Bool
 | []=>false
 | (nm,j) :: ps=>(decide (5000<nm.length)||zto j)||znw ps
end
mutual
theorem zc6:∀ (j:J) (last:Int),1≤zez j last∧(zez j last≤1∨zez j last≤last+1)
 | .mk _ _ _ l p,last=>by
   unfold zez;have h1:=zco l 1 last;have h2:=zcn p (zcm 1 l last) last;omega
theorem zco:∀ (l:List J) (n last:Int),n≤zcm n l last∧(zcm n l last≤n∨zcm n l last≤last+1)
 | [],n,last=>by unfold zcm;omega
 | j :: js,n,last=>by
   unfold zcm;split
   ·have h1:=zc6 j (last - n);have h2:=zco js (n+zez j (last - n)) last;omega
   omega
theorem zcn:∀ (l:List (Bs × J)) (n last:Int),n≤zej n l last∧(zej n l last≤n∨zej n l last≤last+1)
 | [],n,last=>by unfold zej;omega
 | (_,j) :: js,n,last=>by
   unfold zej;split
   ·have h1:=zc6 j (last - n);have h2:=zcn js (n+zez j (last - n)) last;omega
   omega
end
mutual
def zu4:J→Bool
 | .mk _ n _ l p=>(decide (-9223372036854775808≤n)&&decide (n≤9223372036854775807))&&(ze5 l&&ze4 p)
def ze5:List J→Bool
 | []=>true
 | j :: js=>zu4 j&&ze5 js
def ze4:List (Bs × J)→Bool
 | []=>true
 | (_,j) :: ps=>zu4 j&&ze4 ps
end
mutual
theorem zir:∀ (j:J) (last:Int),last≤1000→zu4 j=true→zto j=false→zez j last≤last→fits 67108864 j=true
 | .mk k n t l p,last,h0,hi,hl,hm=>by
   unfold zez at hm;unfold zto at hl;unfold zu4 at hi;simp only[Bool.or_eq_false_iff,decide_eq_false_iff_not,Bool.and_eq_true,decide_eq_true_eq]at hl hi;have b1:=zco l 1 last;have b2:=zcn p (zcm 1 l last) last;have b3:zcm 1 l last≤last:=by omega
   obtain⟨f1,n1⟩:=zhq l 1 last h0 (by omega) hi.2.1 hl.2.1 b3;obtain⟨f2,n2⟩:=zhp p (zcm 1 l last) last h0 (by omega) hi.2.2 hl.2.2 hm;unfold fits;rw[f1,f2];simp only[Bool.and_eq_true,decide_eq_true_eq,and_true];omega
theorem zhq:∀ (l:List J) (n last:Int),last≤1000→1≤n→ze5 l=true→znx l=false→zcm n l last≤last→fitsl 67108864 l=true∧n+l.length≤last
 | [],n,last,h0,h1,hi,hl,hm=>by
   unfold zcm at hm;exact⟨by unfold fitsl;rfl,by simpa using hm⟩
 | j :: js,n,last,h0,h1,hi,hl,hm=>by
   unfold zcm at hm;unfold znx at hl;unfold ze5 at hi;simp only[Bool.or_eq_false_iff,Bool.and_eq_true]at hl hi;split at hm
   ·rename_i hn
    have b0:=zc6 j (last - n);have b1:=zco js (n+zez j (last - n)) last;obtain⟨f1,n1⟩:=zhq js (n+zez j (last - n)) last h0 (by omega) hi.2 hl.2 hm;have f2:fits 67108864 j=true:=zir j (last - n) (by omega) hi.1 hl.1 (by omega);unfold fitsl;rw[f1,f2];refine⟨rfl,?_⟩;simp only[List.length_cons];omega
   omega
theorem zhp:∀ (l:List (Bs × J)) (n last:Int),last≤1000→1≤n→ze4 l=true→znw l=false→zej n l last≤last→fitsp 67108864 l=true∧n+l.length≤last
 | [],n,last,h0,h1,hi,hl,hm=>by
   unfold zej at hm;exact⟨by unfold fitsp;rfl,by simpa using hm⟩
 | (nm,j) :: js,n,last,h0,h1,hi,hl,hm=>by
   unfold zej at hm;unfold znw at hl;unfold ze4 at hi;simp only[Bool.or_eq_false_iff,Bool.and_eq_true,decide_eq_false_iff_not]at hl hi;split at hm
   ·rename_i hn
    have b0:=zc6 j (last - n);have b1:=zcn js (n+zez j (last - n)) last;obtain⟨f1,n1⟩:=zhp js (n+zez j (last - n)) last h0 (by omega) hi.2 hl.2 hm;have f2:fits 67108864 j=true:=zir j (last - n) (by omega) hi.1 hl.1.2 (by omega);unfold fitsp;rw[f1,f2];refine⟨?_,?_⟩
    ·simp only[Bool.and_true,decide_eq_true_eq];omega
    simp only[List.length_cons];omega
   omega
end
end
section

theorem zt4 {α:Type} (key:α→Bs) (x:α):∀ (l:List α) (y:α),y∈zlz key x l↔y=x∨y∈l:=by
 intro l
 induction l with
 | nil=>intro y;simp[zlz]
 | cons z l ih =>
   intro y;unfold zlz;split
   ·rw[List.mem_cons,ih,List.mem_cons];constructor
    ·rintro(h | h | h)<;>simp[h]
    rintro(h | h | h)<;>simp[h]
   simp
theorem zpy {α:Type} (key:α→Bs):∀ (l acc:List α) (y:α),y∈zcq key acc l↔y∈acc∨y∈l:=by
 intro l
 induction l with
 | nil=>intro acc y;simp[zcq]
 | cons x l ih =>
   intro acc y;rw[zcq,ih,zt4,List.mem_cons];constructor
   ·rintro((h | h) | h)<;>simp[h]
   rintro(h | h | h)<;>simp[h]
theorem zru {α:Type}(key:α→Bs)(l:List α)(y:α):y∈zc7 key l↔y∈l:=by
 unfold zc7;rw[List.mem_reverse,zpy];simp
theorem zhr {N:Nat}:∀ (l:List J),fitsl N l=true ↔ ∀ j∈l,fits N j=true:=by
 intro l
 induction l with
 | nil=>simp[fitsl]
 | cons x l ih=>simp[fitsl,ih]
theorem ze8 {N:Nat}:∀ (l:List (Bs × J)),fitsp N l=true ↔ ∀ q∈l,q.1.length≤N∧fits N q.2=true:=by
 intro l
 induction l with
 | nil=>simp[fitsp]
 | cons x l ih =>
   obtain⟨a,b⟩:=x;simp only[fitsp,Bool.and_eq_true,decide_eq_true_eq,ih,List.mem_cons,forall_eq_or_imp];constructor
   ·rintro⟨h1,h2,h3⟩;exact⟨⟨h1,h2⟩,h3⟩
   rintro⟨⟨h1,h2⟩,h3⟩;exact⟨h1,h2,h3⟩
theorem zp0 {N:Nat}:∀ (f:Nat) (j:J),fits N j=true→fits N (ji f j)=true:=by
 intro f
 induction f with
 | zero=>intro j h;exact h
 | succ f ih =>
   intro j h;obtain⟨k,n,t,l,p⟩:=j;obtain⟨h1,h2,h3,h4,h5⟩:=fits.open h;obtain⟨i0,i1⟩:=fits.int h;rw[zhr]at h4;rw[ze8]at h5;simp only[ji];unfold fits
   have e4:fitsl N (l.map (ji f))=true:=by
    rw[zhr];intro j hj;obtain⟨x,hx,rfl⟩:=List.mem_map.1 hj;exact ih x (h4 x hx)
   have e5:fitsp N (zc7 (fun q:Bs × J=>q.1) (p.map fun q=>(q.1,ji f q.2)))=true:=by
    rw[ze8];intro q hq;rw[zru]at hq;obtain⟨x,hx,rfl⟩:=List.mem_map.1 hq;exact⟨(h5 x hx).1,ih x.2 (h5 x hx).2⟩
   rw[e4,e5];simp[i0,i1,h1,h2,h3,zd5]
theorem zt9 {N:Nat}:∀ (l:List J),fewl N l=true ↔ ∀ j∈l,few N j=true:=by
 intro l
 induction l with
 | nil=>simp[fewl]
 | cons x l ih=>simp[fewl,ih]
theorem zt8 {N:Nat}:∀ (l:List (Bs × J)),fewp N l=true ↔ ∀ q∈l,few N q.2=true:=by
 intro l
 induction l with
 | nil=>simp[fewp]
 | cons x l ih =>
   obtain⟨a,b⟩:=x;simp[fewp,ih]
mutual
theorem zhs {N:Nat}:∀ (j:J),fits N j=true→few N j=true
 | .mk k n t l p,h=>by
   obtain⟨_,_,h3,h4,h5⟩:=fits.open h;unfold few;rw[zf7 l h4,zf6 p h5];simpa using h3
theorem zf7 {N:Nat}:∀ (l:List J),fitsl N l=true→fewl N l=true
 | [],_=>by unfold fewl;rfl
 | j :: js,h=>by
   unfold fitsl at h;rw[Bool.and_eq_true]at h;unfold fewl;rw[zhs j h.1,zf7 js h.2];rfl
theorem zf6 {N:Nat}:∀ (l:List (Bs × J)),fitsp N l=true→fewp N l=true
 | [],_=>by unfold fewp;rfl
 | (_,j) :: js,h=>by
   unfold fitsp at h;rw[Bool.and_eq_true,Bool.and_eq_true]at h;unfold fewp;rw[zhs j h.2.1,zf6 js h.2.2];rfl
end
end
end Go.Proofs.YtmgfncjfgkllcaaGreatDoor
