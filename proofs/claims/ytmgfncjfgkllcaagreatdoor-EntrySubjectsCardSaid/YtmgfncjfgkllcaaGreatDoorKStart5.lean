/-
 The walks of what pairs are compared by.
-/
import Derived.Test.YtmgfncjfgkllcaaGreatDoorKCellRows
import Derived.Deep.QuietTactic
import Derived.Test.YtmgfncjfgkllcaaGreatDoorKStore
import Derived.Test.YtmgfncjfgkllcaaGreatDoorKUtf
import Derived.Lib.ItoaNum
import Derived.Lib.Small
import Derived.Test.YtmgfncjfgkllcaaGreatDoorKSeen
import Derived.Test.YtmgfncjfgkllcaaGreatDoorKReader10
import Derived.Deep.LoopGhost
import Derived.Test.YtmgfncjfgkllcaaGreatDoorRows
import Derived.Test.YtmgfncjfgkllcaaGreatDoorKReader3
import Derived.Lib.LaidU8
import Derived.ProofKit
import Derived.OpenShut
import Derived.Deep.DeepHandedRow
open Go.Proofs.Tryz renaming prog→ze
open List renaming length_cons→zo,length_append→zq
open Nat renaming le_refl→zt
open Option.some renaming inj→zx
namespace Go.Proofs.YtmgfncjfgkllcaaGreatDoor
set_option linter.unusedVariables false
set_option linter.unusedSimpArgs false
set_option linter.unusedSectionVars false
set_option maxRecDepth 100000
set_option maxHeartbeats 1000000
section
open Go.RowKit

def z0e (a b:Bs):Int:=if Op.bytesLess a b then -1 else if a==b then 0 else 1
theorem zlq (a:Bs)(w:World):Calls ze 326 #[.string ⟨a.toArray⟩] w fun e w'=>e = .returned (.bool false)∧w'=w:=by
 go_enter Tryz.func326,Tryz.ntmps326
 go_wp2_with fail
 go_ret;exact⟨rfl,rfl⟩
theorem zvr (a b:Bs) (w:World):Calls ze 296 #[.string ⟨a.toArray⟩,.string ⟨b.toArray⟩] w fun e w'=>e = .returned (.int .i64 (z0e a b))∧w'=w:=by
 unfold z0e;obtain⟨x,hx⟩:∃ x,Op.bytesLess a b=x:=⟨_,rfl⟩;obtain⟨y,hy⟩:∃ y,(a==b)=y:=⟨_,rfl⟩;rw[hx,hy];cases x
 ·cases y
  all_goals
   go_enter Tryz.func296,Tryz.ntmps296
   go_wp2_with fail
   refine(zlq a w).mono ?_;rintro e w1 ⟨rfl,rfl⟩
   go_wp2_with fail
   refine(zlq b w1).mono ?_;rintro e w2 ⟨rfl,rfl⟩
   go_wp2_with fail
   go_ret;exact⟨rfl,rfl⟩
 go_enter Tryz.func296,Tryz.ntmps296
 go_wp2_with fail
 refine(zlq a w).mono ?_;rintro e w1 ⟨rfl,rfl⟩
 go_wp2_with fail
 refine(zlq b w1).mono ?_;rintro e w2 ⟨rfl,rfl⟩
 go_wp2_with fail
 go_ret;exact⟨rfl,rfl⟩
theorem zq0 (a b:Bs) (x0 x1 x2 x3 x4 y0 y1 y2 y3 y4:Value) (w:World) :
 Calls ze 247 #[.agg #[.string ⟨a.toArray⟩,x0,x1,x2,x3,x4],.agg #[.string ⟨b.toArray⟩,y0,y1,y2,y3,y4]] w fun e w'=>e = .returned (.int .i64 (z0e a b)) ∧
  w'=(w.alloc (.cells #[.string ⟨a.toArray⟩,x0,x1,x2,x3,x4] 133)).alloc (.cells #[.string ⟨b.toArray⟩,y0,y1,y2,y3,y4] 133):=by
 go_enter Tryz.func247,Tryz.ntmps247
 go_wp2_with fail
 refine(zvr a b _).mono ?_;rintro e w2 ⟨rfl,rfl⟩
 go_wp2_with fail
 go_ret;exact⟨rfl,rfl⟩
end
section
open Go.RowKit

inductive All2 {α β:Type} (R:α→β→Prop):List α→List β→Prop
 | nil:All2 R [] []
 | cons {a:α} {b:β} {l:List α} {m:List β}:R a b→All2 R l m→All2 R (a :: l) (b :: m)
section
variable {α β:Type} (key:α→Bs) (key':β→Bs)
def zob (x:α):List α→List α
 | []=>[x]
 | y :: l=>if Op.bytesLess (key x) (key y) then y :: zob x l else x :: y :: l
def zd1:List α→List α→List α
 | acc,[]=>acc
 | acc,x :: l=>zd1 (zob key x acc) l
def zek (l:List α):List α:=(zd1 key [] l).reverse
theorem zde (x:α):∀ l:List α,(zob key x l).length=l.length+1:=by
 intro l
 induction l with
 | nil=>rfl
 | cons y l ih=>unfold zob;split<;>simp[ih]
theorem zlp:∀ (l acc:List α),(zd1 key acc l).length=acc.length+l.length:=by
 intro l
 induction l with
 | nil=>intro acc;rfl
 | cons x l ih=>intro acc;rw[zd1,ih,zde];simp;omega
theorem zfg (l:List α):(zek key l).length=l.length:=by simp[zek,zlp]
variable {key key'}
theorem zxi {R:α→β→Prop} (hR:∀ a b,R a b→key a=key' b) {x:α} {y:β} (hx:R x y):∀ (l:List α) (m:List β),All2 R l m→All2 R (zob key x l) (zob key' y m):=by
 intro l m h
 induction h with
 | nil=>exact .cons hx .nil
 | cons h1 h2 ih =>
   unfold zob;rw[hR _ _ hx,hR _ _ h1];split
   ·exact .cons h1 ih
   exact .cons hx (.cons h1 h2)
theorem zsj {R:α→β→Prop}(hR:∀ a b,R a b→key a=key' b){l:List α}{m:List β}(h:All2 R l m):∀ (acc:List α) (acc':List β),All2 R acc acc'→All2 R (zd1 key acc l) (zd1 key' acc' m):=by
 induction h with
 | nil=>intro acc acc' ha;exact ha
 | cons h1 h2 ih=>intro acc acc' ha;exact ih _ _ (zxi hR h1 _ _ ha)
theorem zjk {R:α→β→Prop} {l:List α} {m:List β} (h:All2 R l m):All2 R l.reverse m.reverse:=by
 have go:∀ {l:List α} {m:List β},All2 R l m→∀ {a:List α} {b:List β},All2 R a b→All2 R (l.reverseAux a) (m.reverseAux b):=by
  intro l m h
  induction h with
  | nil=>intro a b hA;exact hA
  | cons h1 h2 ih=>intro a b hA;exact ih (.cons h1 hA)
 exact go h .nil
theorem zuy {R:α→β→Prop}(hR:∀ a b,R a b→key a=key' b){l:List α}{m:List β}(h:All2 R l m):All2 R (zek key l) (zek key' m) :=
 zjk (zsj hR h _ _ .nil)
end

structure PV where
 nm:Bs
 k:Int
 n:Int
 t:Bs
 a1:Option Addr
 n1:Nat
 c1:Nat
 a2:Option Addr
 n2:Nat
 c2:Nat
def PV.val (p:PV):Value := .agg #[.int .i64 p.k,.int .i64 p.n,.string ⟨p.t.toArray⟩,.slice p.a1 p.n1 p.c1,.slice p.a2 p.n2 p.c2]
def PV.cells (p:PV):List Value:=[.string ⟨p.nm.toArray⟩,.int .i64 p.k,.int .i64 p.n,.string ⟨p.t.toArray⟩,.slice p.a1 p.n1 p.c1,.slice p.a2 p.n2 p.c2]
def zay:List PV→List Value
 | []=>[]
 | p :: l=>p.cells++zay l
theorem zg7:∀ (l m:List PV),zay (l++m)=zay l++zay m:=by
 intro l
 induction l with
 | nil=>intro m;rfl
 | cons p l ih=>intro m;simp[zay,ih]
theorem zc7:∀ (l:List PV),(zay l).length=6 * l.length:=by
 intro l
 induction l with
 | nil=>rfl
 | cons p l ih=>simp[zay,PV.cells,ih];omega
class PostL where n:Nat
section
variable [PostL]
def PRow (b o:Nat) (l:List PV) (w:World):Prop:=∃ (pre:List Value) (post:{l:List Value // l.length=PostL.n}),w.heap[b]? = some (.cells (pre++(zay l++post.1)).toArray 133 (0,0))∧pre.length=o
theorem PRow.lt {b o:Nat}{l:List PV}{w:World}(h:PRow b o l w):b<w.heap.size:=by
 obtain⟨_,_,h,_⟩:=h;exact jb h
theorem PRow.ty {b o:Nat}{l:List PV}{w:World}(h:PRow b o l w):∃ x,w.heap[b]? = some x∧zbq 133 x:=by
 obtain⟨_,_,h,_⟩:=h;exact⟨_,h,_,_,rfl⟩
theorem PRow.fr {M:Nat→Obj→Prop}{b o:Nat}{l:List PV}{w w':World}(h:PRow b o l w)(hF:Fr M w w')(hM:∀ x,zbq 133 x→¬ M b x):PRow b o l w':=by
 obtain⟨hB,hA,h,ho⟩:=h;exact⟨hB,hA,hF.block _ _ h (hM _ ⟨_,_,rfl⟩),ho⟩
theorem PRow.alloc {b o:Nat}{l:List PV}{w:World}(h:PRow b o l w)(x:Obj):PRow b o l (w.alloc x) :=
 h.fr ((Fr.refl (M:=NoB)).alloc x) (fun _ _ h=>h)
theorem PRow.at {b o:Nat} {l:List PV} {w:World} (h:PRow b o l w) {i:Nat} {p:PV} (hi:l[i]? = some p) :
 w.cell? ⟨b,o+i * 6,none⟩=some (.string ⟨p.nm.toArray⟩)∧w.cell? ⟨b,o+i * 6+1,none⟩=some (.int .i64 p.k)∧w.cell? ⟨b,o+i * 6+2,none⟩=some (.int .i64 p.n) ∧
  w.cell? ⟨b,o+i * 6+3,none⟩=some (.string ⟨p.t.toArray⟩)∧w.cell? ⟨b,o+i * 6+4,none⟩=some (.slice p.a1 p.n1 p.c1)∧w.cell? ⟨b,o+i * 6+5,none⟩=some (.slice p.a2 p.n2 p.c2):=by
 obtain⟨hC,⟨hA,hpz⟩,h,ho⟩:=h
 obtain ⟨l1,l2,rfl,hF⟩:∃ l1 l2,l=l1++p :: l2∧l1.length=i:=by
  obtain⟨hE,he⟩:=List.getElem?_eq_some_iff.1 hi;refine⟨l.take i,l.drop (i+1),?_,by simp;omega⟩;rw[← he,← List.drop_eq_getElem_cons hE,List.take_append_drop]
 have hD:(hC++zay l1).length=o+i * 6:=by rw[zq,zc7,ho,hF];omega
 have hH:hC++(zay (l1++p :: l2)++hA)=(hC++zay l1)++(p.cells++(zay l2++hA)):=by rw[zg7];simp[zay]
 rw[hH]at h
 have hB:∀ j v,(p.cells)[j]? = some v→w.cell? ⟨b,o+i * 6+j,none⟩=some v:=by
  intro j v hj;have hG:j<p.cells.length:=(List.getElem?_eq_some_iff.1 hj).1
  have:((hC++zay l1)++(p.cells++(zay l2++hA)))[o+i * 6+j]? = some v:=by
   rw[List.getElem?_append_right (by omega),hD];rw[show o+i * 6+j - (o+i * 6)=j by omega,List.getElem?_append_left hG];exact hj
  simp only[World.cell?,h];simpa using this
 exact⟨hB 0 _ rfl,hB 1 _ rfl,hB 2 _ rfl,hB 3 _ rfl,hB 4 _ rfl,hB 5 _ rfl⟩
theorem PRow.open {b o:Nat}{l:List PV}{w:World}(h:PRow b o l w):∀ k,w.frozen? ⟨b,k,none⟩=false:=by
 obtain⟨pre,post,h,_⟩:=h;intro k;simp[World.frozen?,h]
theorem PRow.put {b o:Nat}{l1 l2:List PV}{q:PV}{w:World}(h:PRow b o (l1++q :: l2) w)(p:PV) :
 PRow b o (l1++p :: l2) (put6 b (o+l1.length * 6) (.string ⟨p.nm.toArray⟩) (.int .i64 p.k) (.int .i64 p.n) (.string ⟨p.t.toArray⟩) (.slice p.a1 p.n1 p.c1) (.slice p.a2 p.n2 p.c2) w):=by
 obtain⟨hC,⟨hB,hF⟩,h,ho⟩:=h;have hA:(hC++zay l1).length=o+l1.length * 6:=by rw[zq,zc7,ho];omega
 have hG:∀ p:PV,hC++(zay (l1++p :: l2)++hB)=(hC++zay l1)++(p.cells++(zay l2++hB)):=fun p=>by rw[zg7];simp[zay]
 refine⟨hC,⟨hB,hF⟩,?_,ho⟩;rw[hG]at h ⊢;generalize zay l2++hB=rest at *;generalize hC++zay l1=xs at *;generalize hm:o+l1.length * 6=m at *;obtain⟨hE,hD⟩:∃ hE,(xs++(q.cells++rest)).toArray=hE:=⟨_,rfl⟩;rw[hD]at h;have h0:=z7 (o:=m) (.string ⟨p.nm.toArray⟩) h;have h1:=z7 (o:=m+1) (.int .i64 p.k) h0;have h2:=z7 (o:=m+2) (.int .i64 p.n) h1;have h3:=z7 (o:=m+3) (.string ⟨p.t.toArray⟩) h2;have h4:=z7 (o:=m+4) (.slice p.a1 p.n1 p.c1) h3;have h5:=z7 (o:=m+5) (.slice p.a2 p.n2 p.c2) h4;clear h h0 h1 h2 h3 h4;unfold put6 put5;refine h5.trans (congrArg some (congrArg (fun x=>Obj.cells x 133 (0,0)) ?_));clear h5;subst hD;apply Array.toList_inj.1;simp only[Array.toList_setIfInBounds,PV.cells];have s0:=zcw xs ([.string ⟨q.nm.toArray⟩,.int .i64 q.k,.int .i64 q.n,.string ⟨q.t.toArray⟩,.slice q.a1 q.n1 q.c1,.slice q.a2 q.n2 q.c2]++rest) m 0 (.string ⟨p.nm.toArray⟩) hA;have s1:=zcw xs ([.string ⟨p.nm.toArray⟩,.int .i64 q.k,.int .i64 q.n,.string ⟨q.t.toArray⟩,.slice q.a1 q.n1 q.c1,.slice q.a2 q.n2 q.c2]++rest) m 1 (.int .i64 p.k) hA;have s2:=zcw xs ([.string ⟨p.nm.toArray⟩,.int .i64 p.k,.int .i64 q.n,.string ⟨q.t.toArray⟩,.slice q.a1 q.n1 q.c1,.slice q.a2 q.n2 q.c2]++rest) m 2 (.int .i64 p.n) hA;have s3:=zcw xs ([.string ⟨p.nm.toArray⟩,.int .i64 p.k,.int .i64 p.n,.string ⟨q.t.toArray⟩,.slice q.a1 q.n1 q.c1,.slice q.a2 q.n2 q.c2]++rest) m 3 (.string ⟨p.t.toArray⟩) hA;have s4:=zcw xs ([.string ⟨p.nm.toArray⟩,.int .i64 p.k,.int .i64 p.n,.string ⟨p.t.toArray⟩,.slice q.a1 q.n1 q.c1,.slice q.a2 q.n2 q.c2]++rest) m 4 (.slice p.a1 p.n1 p.c1) hA;have s5:=zcw xs ([.string ⟨p.nm.toArray⟩,.int .i64 p.k,.int .i64 p.n,.string ⟨p.t.toArray⟩,.slice p.a1 p.n1 p.c1,.slice q.a2 q.n2 q.c2]++rest) m 5 (.slice p.a2 p.n2 p.c2) hA;simp only[Nat.add_zero,List.cons_append,List.set_cons_zero,List.set_cons_succ,List.nil_append]at s0 s1 s2 s3 s4 s5 ⊢;rw[s0,s1,s2,s3,s4,s5]
end
end
section

def fig (n:Nat):UInt8:=UInt8.ofNat (if n<10 then 48+n else 87+n)
def zma (c:UInt8):Bs :=
 if c=34 then [92,34] else if c=92 then [92,92] else if c=8 then [92,98] else if c=9 then [92,116] else if c=10 then [92,110]
 else if c=12 then [92,102] else if c=13 then [92,114] else if c.toNat<32 then [92,117,48,48,fig (c.toNat / 16),fig (c.toNat % 16)] else []
def zc0:Bs→Bs
 | []=>[]
 | c :: l=>(if zma c=[] then [c] else zma c)++zc0 l
def zby (s:Bs):Bs:=34 :: zc0 s++[34]
end
section

mutual
def jz:J→Bs
 | .mk k n t l p =>
   if k=0 then [110,117,108,108]
   else if k=1 then Lib.formatBool (n==1)
   else if k=2 then Lib.itoa n
   else if k=3 then zby t
   else if k=4 then (if l.isEmpty then [91] else zaj 91 l)++[93]
   else if k=5 then (if p.isEmpty then [123] else zak 123 p)++[125]
   else []
def zaj:UInt8→List J→Bs
 | _,[]=>[]
 | c,j :: js=>c :: jz j++zaj 44 js
def zak:UInt8→List (Bs × J)→Bs
 | _,[]=>[]
 | c,(nm,j) :: ps=>c :: zby nm++[58]++jz j++zak 44 ps
end
end
section

def jw:Nat→J→J
 | 0,j=>j
 | f+1,.mk k n t l p => .mk k n t (l.map (jw f)) (zek (fun q:Bs × J=>q.1) (p.map fun q=>(q.1,jw f q.2)))
mutual
def few:Nat→J→Bool
 | N,.mk _ _ _ l p=>decide (p.length≤N)&&(fewl N l&&fewp N p)
def fewl:Nat→List J→Bool
 | _,[]=>true
 | N,j :: js=>few N j&&fewl N js
def fewp:Nat→List (Bs × J)→Bool
 | _,[]=>true
 | N,(_,j) :: ps=>few N j&&fewp N ps
end
theorem few.open {N:Nat}{k n:Int}{t:Bs}{l:List J}{p:List (Bs × J)}(h:few N (.mk k n t l p)=true):p.length≤N∧fewl N l=true∧fewp N p=true:=by
 unfold few at h;simpa using h
theorem fewl.at {N:Nat}:∀ (l:List J),fewl N l=true→∀ (i:Nat) (j:J),l[i]? = some j→few N j=true:=by
 intro l
 induction l with
 | nil=>intro _ i j h;simp at h
 | cons x l ih =>
   intro h i j hi;unfold fewl at h;simp at h;cases i with
   | zero=>simp at hi;subst hi;exact h.1
   | succ i=>exact ih h.2 i j (by simpa using hi)
theorem fewp.at {N:Nat}:∀ (l:List (Bs × J)),fewp N l=true→∀ (i:Nat) (nm:Bs) (j:J),l[i]? = some (nm,j)→few N j=true:=by
 intro l
 induction l with
 | nil=>intro _ i nm j h;simp at h
 | cons x l ih =>
   obtain⟨xn,xj⟩:=x;intro h i nm j hi;unfold fewp at h;simp at h;cases i with
   | zero=>simp at hi;obtain⟨rfl,rfl⟩:=hi;exact h.1
   | succ i=>exact ih h.2 i nm j (by simpa using hi)
def zeh (j:J):Bs:=jz (jw 8 j)
def z01 (j:J):Bs × Nat:=if j0 0 j then (if 4096<(zeh j).length then ([],10) else (zeh j,0)) else ([],1)
end
section

mutual
def zgq:J→Int→Int
 | .mk _ _ _ l p,last=>zfy (zdw 1 l last) p last
def zdw:Int→List J→Int→Int
 | n,[],_=>n
 | n,j :: js,last=>if n≤last then zdw (n+zgq j (last - n)) js last else n
def zfy:Int→List (Bs × J)→Int→Int
 | n,[],_=>n
 | n,(_,j) :: ps,last=>if n≤last then zfy (n+zgq j (last - n)) ps last else n
end
mutual
def zw2:J→Bool
 | .mk _ _ t l p=>decide (5000<t.length)||(zp9 l||zp8 p)
def zp9:List J→Bool
 | []=>false
 | j :: js=>zw2 j||zp9 js
def zp8:List (Bs × J)→Bool
 | []=>false
 | (nm,j) :: ps=>(decide (5000<nm.length)||zw2 j)||zp8 ps
end
mutual
theorem zej:∀ (j:J) (last:Int),1≤zgq j last∧(zgq j last≤1∨zgq j last≤last+1)
 | .mk _ _ _ l p,last=>by
   unfold zgq;have h1:=zdz l 1 last;have h2:=zdy p (zdw 1 l last) last;omega
theorem zdz:∀ (l:List J) (n last:Int),n≤zdw n l last∧(zdw n l last≤n∨zdw n l last≤last+1)
 | [],n,last=>by unfold zdw;omega
 | j :: js,n,last=>by
   unfold zdw;split
   ·have h1:=zej j (last - n);have h2:=zdz js (n+zgq j (last - n)) last;omega
   omega
theorem zdy:∀ (l:List (Bs × J)) (n last:Int),n≤zfy n l last∧(zfy n l last≤n∨zfy n l last≤last+1)
 | [],n,last=>by unfold zfy;omega
 | (_,j) :: js,n,last=>by
   unfold zfy;split
   ·have h1:=zej j (last - n);have h2:=zdy js (n+zgq j (last - n)) last;omega
   omega
end
mutual
def zyp:J→Bool
 | .mk _ n _ l p=>(decide (-9223372036854775808≤n)&&decide (n≤9223372036854775807))&&(zgx l&&zgw p)
def zgx:List J→Bool
 | []=>true
 | j :: js=>zyp j&&zgx js
def zgw:List (Bs × J)→Bool
 | []=>true
 | (_,j) :: ps=>zyp j&&zgw ps
end
mutual
theorem zku:∀ (j:J) (last:Int),last≤1000→zyp j=true→zw2 j=false→zgq j last≤last→fits 67108864 j=true
 | .mk k n t l p,last,h0,hi,hl,hm=>by
   unfold zgq at hm;unfold zw2 at hl;unfold zyp at hi;simp only[Bool.or_eq_false_iff,decide_eq_false_iff_not,Bool.and_eq_true,decide_eq_true_eq]at hl hi;have b1:=zdz l 1 last;have b2:=zdy p (zdw 1 l last) last;have b3:zdw 1 l last≤last:=by omega
   obtain⟨f1,n1⟩:=zjm l 1 last h0 (by omega) hi.2.1 hl.2.1 b3;obtain⟨f2,n2⟩:=zjl p (zdw 1 l last) last h0 (by omega) hi.2.2 hl.2.2 hm;unfold fits;rw[f1,f2];simp only[Bool.and_eq_true,decide_eq_true_eq,and_true];omega
theorem zjm:∀ (l:List J) (n last:Int),last≤1000→1≤n→zgx l=true→zp9 l=false→zdw n l last≤last→fitsl 67108864 l=true∧n+l.length≤last
 | [],n,last,h0,h1,hi,hl,hm=>by
   unfold zdw at hm;exact⟨by unfold fitsl;rfl,by simpa using hm⟩
 | j :: js,n,last,h0,h1,hi,hl,hm=>by
   unfold zdw at hm;unfold zp9 at hl;unfold zgx at hi;simp only[Bool.or_eq_false_iff,Bool.and_eq_true]at hl hi;split at hm
   ·rename_i hn
    have b0:=zej j (last - n);have b1:=zdz js (n+zgq j (last - n)) last;obtain⟨f1,n1⟩:=zjm js (n+zgq j (last - n)) last h0 (by omega) hi.2 hl.2 hm;have f2:fits 67108864 j=true:=zku j (last - n) (by omega) hi.1 hl.1 (by omega);unfold fitsl;rw[f1,f2];refine⟨rfl,?_⟩;simp only[zo];omega
   omega
theorem zjl:∀ (l:List (Bs × J)) (n last:Int),last≤1000→1≤n→zgw l=true→zp8 l=false→zfy n l last≤last→fitsp 67108864 l=true∧n+l.length≤last
 | [],n,last,h0,h1,hi,hl,hm=>by
   unfold zfy at hm;exact⟨by unfold fitsp;rfl,by simpa using hm⟩
 | (nm,j) :: js,n,last,h0,h1,hi,hl,hm=>by
   unfold zfy at hm;unfold zp8 at hl;unfold zgw at hi;simp only[Bool.or_eq_false_iff,Bool.and_eq_true,decide_eq_false_iff_not]at hl hi;split at hm
   ·rename_i hn
    have b0:=zej j (last - n);have b1:=zdy js (n+zgq j (last - n)) last;obtain⟨f1,n1⟩:=zjl js (n+zgq j (last - n)) last h0 (by omega) hi.2 hl.2 hm;have f2:fits 67108864 j=true:=zku j (last - n) (by omega) hi.1 hl.1.2 (by omega);unfold fitsp;rw[f1,f2];refine⟨?_,?_⟩
    ·simp only[Bool.and_true,decide_eq_true_eq];omega
    simp only[zo];omega
   omega
end
end
section
theorem zmu (s:Bs):(zby s).length≤6 * s.length+2:=by
 have h:(zc0 s).length≤6 * s.length:=by
  induction s with
  | nil=>simp[zc0]
  | cons c s ih =>
    rw[zc0,zq,zo]
    have:(if zma c=[] then [c] else zma c).length≤6:=by
     split
     ·simp
     unfold zma
     repeat' split
     all_goals simp
    omega
 unfold zby
 simp;omega
end
section

theorem zxj {α:Type} (key:α→Bs) (x:α):∀ (l:List α) (y:α),y∈zob key x l↔y=x∨y∈l:=by
 intro l
 induction l with
 | nil=>intro y;simp[zob]
 | cons z l ih =>
   intro y;unfold zob;split
   ·rw[List.mem_cons,ih,List.mem_cons];constructor
    ·rintro(h | h | h)<;>simp[h]
    rintro(h | h | h)<;>simp[h]
   simp
theorem zsk {α:Type} (key:α→Bs):∀ (l acc:List α) (y:α),y∈zd1 key acc l↔y∈acc∨y∈l:=by
 intro l
 induction l with
 | nil=>intro acc y;simp[zd1]
 | cons x l ih =>
   intro acc y;rw[zd1,ih,zxj,List.mem_cons];constructor
   ·rintro((h | h) | h)<;>simp[h]
   rintro(h | h | h)<;>simp[h]
theorem zuz {α:Type}(key:α→Bs)(l:List α)(y:α):y∈zek key l↔y∈l:=by
 unfold zek;rw[List.mem_reverse,zsk];simp
theorem zjn {N:Nat}:∀ (l:List J),fitsl N l=true ↔ ∀ j∈l,fits N j=true:=by
 intro l
 induction l with
 | nil=>simp[fitsl]
 | cons x l ih=>simp[fitsl,ih]
theorem zg1 {N:Nat}:∀ (l:List (Bs × J)),fitsp N l=true ↔ ∀ q∈l,q.1.length≤N∧fits N q.2=true:=by
 intro l
 induction l with
 | nil=>simp[fitsp]
 | cons x l ih =>
   obtain⟨a,b⟩:=x;simp only[fitsp,Bool.and_eq_true,decide_eq_true_eq,ih,List.mem_cons,forall_eq_or_imp];constructor
   ·rintro⟨h1,h2,h3⟩;exact⟨⟨h1,h2⟩,h3⟩
   rintro⟨⟨h1,h2⟩,h3⟩;exact⟨h1,h2,h3⟩
theorem zsm {N:Nat}:∀ (f:Nat) (j:J),fits N j=true→fits N (jw f j)=true:=by
 intro f
 induction f with
 | zero=>intro j h;exact h
 | succ f ih =>
   intro j h;obtain⟨k,n,t,l,p⟩:=j;obtain⟨h1,h2,h3,h4,h5⟩:=fits.open h;obtain⟨i0,i1⟩:=fits.int h;rw[zjn]at h4;rw[zg1]at h5;simp only[jw];unfold fits
   have e4:fitsl N (l.map (jw f))=true:=by
    rw[zjn];intro j hj;obtain⟨x,hx,rfl⟩:=List.mem_map.1 hj;exact ih x (h4 x hx)
   have e5:fitsp N (zek (fun q:Bs × J=>q.1) (p.map fun q=>(q.1,jw f q.2)))=true:=by
    rw[zg1];intro q hq;rw[zuz]at hq;obtain⟨x,hx,rfl⟩:=List.mem_map.1 hq;exact⟨(h5 x hx).1,ih x.2 (h5 x hx).2⟩
   rw[e4,e5];simp[i0,i1,h1,h2,h3,zfg]
theorem zxr {N:Nat}:∀ (l:List J),fewl N l=true ↔ ∀ j∈l,few N j=true:=by
 intro l
 induction l with
 | nil=>simp[fewl]
 | cons x l ih=>simp[fewl,ih]
theorem zxq {N:Nat}:∀ (l:List (Bs × J)),fewp N l=true ↔ ∀ q∈l,few N q.2=true:=by
 intro l
 induction l with
 | nil=>simp[fewp]
 | cons x l ih =>
   obtain⟨a,b⟩:=x;simp[fewp,ih]
mutual
theorem zjo {N:Nat}:∀ (j:J),fits N j=true→few N j=true
 | .mk k n t l p,h=>by
   obtain⟨_,_,h3,h4,h5⟩:=fits.open h;unfold few;rw[zhy l h4,zhx p h5];simpa using h3
theorem zhy {N:Nat}:∀ (l:List J),fitsl N l=true→fewl N l=true
 | [],_=>by unfold fewl;rfl
 | j :: js,h=>by
   unfold fitsl at h;rw[Bool.and_eq_true]at h;unfold fewl;rw[zjo j h.1,zhy js h.2];rfl
theorem zhx {N:Nat}:∀ (l:List (Bs × J)),fitsp N l=true→fewp N l=true
 | [],_=>by unfold fewp;rfl
 | (_,j) :: js,h=>by
   unfold fitsp at h;rw[Bool.and_eq_true,Bool.and_eq_true]at h;unfold fewp;rw[zjo j h.2.1,zhx js h.2.2];rfl
end
end
section
open Go.RowKit

theorem zvh (c:UInt8) (w:World) :
 Calls ze 249 #[.int .u8 c.toNat] w fun e w'=>e = .returned (.string ⟨(zma c).toArray⟩)∧∃ q,w'=w.drewN q:=by
 by_cases h:c.toNat<32∨c.toNat=34∨c.toNat=92
 ·have hc:c=UInt8.ofNat c.toNat:=by simp
  have hn:c.toNat<93:=by omega
  generalize c.toNat=n at *;subst hc;have h1:n=34∨n=92∨n=0∨n=1∨n=2∨n=3∨n=4∨n=5∨n=6∨n=7∨n=8∨n=9∨n=10∨n=11∨n=12∨n=13∨n=14∨n=15∨n=16∨n=17∨n=18∨n=19∨n=20∨n=21∨n=22∨n=23∨n=24∨n=25∨n=26∨n=27∨n=28∨n=29∨n=30∨n=31:=by omega
  clear h hn;rcases h1 with rfl | rfl | rfl | rfl | rfl | rfl | rfl | rfl | rfl | rfl | rfl | rfl | rfl | rfl | rfl | rfl | rfl | rfl | rfl | rfl | rfl | rfl | rfl | rfl | rfl | rfl | rfl | rfl | rfl | rfl | rfl | rfl | rfl | rfl
  all_goals
   go_enter Tryz.func249,Tryz.ntmps249
   go_wp2_with fail
   all_goals first
    | (go_ret
       exact⟨by kernel_rfl,0,(World.drewN_zero _).symm⟩)
    | (go_quiet (fail)
       go_wp2_with fail
       go_ret
       exact⟨by kernel_rfl,_,rfl⟩)
 have hlt:decide ((c.toNat:Int)<32)=false:=by rw[decide_eq_false_iff_not];omega
 have g1:∀ n:Nat,n<32∨n=34∨n=92→((c.toNat:Int)==(n:Int))=false:=fun n hn=>by
  rw[Bool.eq_false_iff];intro e;rw[beq_iff_eq]at e;omega
 have e1:((c.toNat:Int)==34)=false:=g1 34 (by omega);have e2:((c.toNat:Int)==92)=false:=g1 92 (by omega);have e3:((c.toNat:Int)==8)=false:=g1 8 (by omega);have e4:((c.toNat:Int)==9)=false:=g1 9 (by omega);have e5:((c.toNat:Int)==10)=false:=g1 10 (by omega);have e6:((c.toNat:Int)==12)=false:=g1 12 (by omega);have e7:((c.toNat:Int)==13)=false:=g1 13 (by omega)
 have hA:∀ n:Nat,n<32∨n=34∨n=92→¬ c=UInt8.ofNat n:=fun n hn e=>by
  rw[e]at h;simp at h;omega
 have hp:zma c=[]:=by
  unfold zma;rw[if_neg (show ¬ c=34 from hA 34 (by omega)),if_neg (show ¬ c=92 from hA 92 (by omega)),if_neg (show ¬ c=8 from hA 8 (by omega)),if_neg (show ¬ c=9 from hA 9 (by omega)),if_neg (show ¬ c=10 from hA 10 (by omega)),if_neg (show ¬ c=12 from hA 12 (by omega)),if_neg (show ¬ c=13 from hA 13 (by omega)),if_neg (by omega)]
 rw[hp];clear hp hA g1 h;go_enter Tryz.func249,Tryz.ntmps249
 go_wp2_with fail
 go_ret;exact⟨rfl,0,(World.drewN_zero _).symm⟩
theorem zgs {B b:Nat}{w w1 w2:World}(h:Fr NoB w w1)(hF:Fr (MB B b) w1 w2)(hB:w.heap.size≤B):Fr NoB w w2 :=
 h.trans hF (fun k _ hm => .inr (Nat.le_trans hB hm.1))
theorem zz9 (c:UInt8):(zma c).length≤6:=by
 unfold zma
 repeat' split
 all_goals simp
theorem zt5 (s:Bs) (w:World) (hlen:s.length≤67108864) :
 Calls ze 198 #[.string ⟨s.toArray⟩] w fun e w'=>e = .returned (.string ⟨(zby s).toArray⟩)∧Fr NoB w w':=by
 generalize hG:zby s=G;have hV:=Bld.fresh w;have hsz:(ByteArray.mk s.toArray).size=s.length:=rfl;have HG:Hid ([34]++zc0 (s.drop 0)++[34]=G):=hG;clear hG;go_enter Tryz.func198,Tryz.ntmps198
 go_wp2_with fail
 refine(zaw _ _ [] 34 _ hV (by decide)).mono ?_;rintro e w1 ⟨rfl,hU,hT⟩;have hJ:=zgs ((Fr.refl (M:=NoB)).alloc (w:=w) (.cells #[.pointer none,.slice none 0 0] 198)) hT (zt _)
 go_wp2_with fail
 go_loopg [9] (s.length+1) (fun g vi wr=>∃ (i:Nat) (out:Bs),vi = .int .i64 i∧i≤s.length∧i+g=s.length+1∧out.length≤1+6 * i∧Bld w.heap.size w.heap.size out wr∧Fr NoB w wr∧Hid (out++zc0 (s.drop i)++[34]=G))
 case atStart=>exact⟨0,_,rfl,by omega,by omega,by simp,hU,hJ,HG⟩
 case round =>
  obtain⟨i,out,rfl,hi,hgk,hol,hB,hF,hS⟩:=hrel;rcases Nat.lt_or_ge i s.length with hlt | hge
  ·obtain ⟨c,hc⟩:∃ c,s[i]? = some c:=⟨_,List.getElem?_eq_getElem hlt⟩
   have hI:∀ h,(ByteArray.mk s.toArray)[i]'h=c:=by
    intro h;obtain⟨h1,h2⟩:=List.getElem?_eq_some_iff.1 hc;exact h2
   have hA:=hS.out
   have hd:s.drop i=c :: s.drop (i+1):=by
    obtain⟨hN,he⟩:=List.getElem?_eq_some_iff.1 hc;rw[← he];exact List.drop_eq_getElem_cons hN
   rw[hd,zc0]at hA;have hO:=zz9 c;have hC:=fun W=>zvh c W
   generalize zma c=E at *;cases E with
   | nil =>
     rw[if_pos rfl]at hA;have hM:=Lib.hid hA;clear hA hS hd
     go_wp2_with fail
     try simp only[hI]
     refine(hC wr).mono ?_;rintro e w2 ⟨rfl,q,rfl⟩;have hL:=hB.fr (zct wr q) (fun _ _ _ _ _ h=>h);have hK:=hF.trans' (zct wr q)
     go_wp2_with fail
     try simp only[hI]
     refine(zaw _ _ out c _ hL (by omega)).mono ?_;rintro e w3 ⟨rfl,hH,hE⟩;have hD:=zgs hK hE (zt _)
     go_wp2_with fail
     go_roundg (gk - 1)
     case measure=>omega
     case rel=>exact⟨i+1,out++[c],by simp,by omega,by omega,by simp;omega,hH,hD,by have:=hM.out;simpa using Lib.hid this⟩
   | cons x E =>
     rw[if_neg (by simp)]at hA;have hM:=Lib.hid hA;clear hA hS hd
     go_wp2_with fail
     try simp only[hI]
     refine(hC wr).mono ?_;rintro e w2 ⟨rfl,q,rfl⟩;have hL:=hB.fr (zct wr q) (fun _ _ _ _ _ h=>h);have hK:=hF.trans' (zct wr q)
     go_wp2_with fail
     refine(zbj _ _ out (x :: E) _ hL (by omega)).mono ?_;rintro e w3 ⟨rfl,hH,hE⟩;have hD:=zgs hK hE (zt _)
     go_wp2_with fail
     go_roundg (gk - 1)
     case measure=>omega
     case rel=>exact⟨i+1,out++x :: E,by simp,by omega,by omega,by simp at hO ⊢;omega,hH,hD,by have:=hM.out;simpa using Lib.hid this⟩
  obtain rfl:i=s.length:=by omega
  have hR:=hS.out;rw[List.drop_length]at hR;have HR:=Lib.hid hR;clear hS hR
  go_wp2_with fail
  refine(zaw _ _ out 34 _ hB (by omega)).mono ?_;rintro e w3 ⟨rfl,hH,hE⟩;have hD:=zgs hF hE (zt _)
  go_wp2_with fail
  refine(zgj _ _ _ _ hH).mono ?_;rintro e w4 ⟨rfl,hQ⟩;have hP:=zgs hD hQ (zt _)
  go_wp2_with fail
  go_ret;have h:out++zc0 []++[34]=G:=HR.out;simp only[zc0,List.append_nil]at h;rw[h];exact⟨rfl,hP⟩
end
section
attribute [local instance] zch
open Go.RowKit

theorem Tryz.typ0:(Tryz.prog.globals[0]?).map (·.type)=some 327:=by kernel_rfl
theorem Tryz.typ1:(Tryz.prog.globals[1]?).map (·.type)=some 330:=by kernel_rfl
theorem Tryz.typ2:(Tryz.prog.globals[3]?).map (·.type)=some 365:=by kernel_rfl
theorem Tryz.name0:Tryz.prog.globalNamed "unicode/utf8.first" = some 0:=by kernel_rfl
theorem Tryz.name1:Tryz.prog.globalNamed "unicode/utf8.acceptRanges" = some 1:=by kernel_rfl
theorem zpr:Tryz.prog.cellsOf 327=256:=by kernel_rfl
theorem zge:Tryz.prog.cellsOf 5=1:=by kernel_rfl
theorem zj0:Tryz.prog.cellsOf 329=2:=by kernel_rfl
theorem zpp:Tryz.prog.cellsOf 340=1:=by kernel_rfl
theorem zpq:Tryz.prog.cellsOf 365=20:=by kernel_rfl
theorem zk1 {w:World} (h3:Lib.VarReads ze w "unicode/utf8.first" Lib.firstData) (h4:Lib.VarReads ze w "unicode/utf8.acceptRanges" Lib.acceptData) :
 Lib.Utf8Tabs 0 1 w:=by
 refine⟨fun c hc=>?_,fun i hi=>?_⟩
 ·obtain⟨g,t,cs,hD,p,hg,hC,hA,hd⟩:=h3;obtain rfl:=zx (Tryz.name0.symm.trans hg);obtain rfl:=zx (Tryz.typ0.symm.trans hC);have hB:=Lib.cells_of_tab Tryz.underlying327 Tryz.underlying5 zge zpr hd;rw[World.var?_cell hg hA c,← Array.getElem?_toList,hB];simp[Lib.firstTab,hc]
 obtain⟨g,t,cs,hD,p,hg,hC,hA,hd⟩:=h4;obtain rfl:=zx (Tryz.name1.symm.trans hg);obtain rfl:=zx (Tryz.typ1.symm.trans hC);obtain⟨fuel',d,q,hE,he⟩:=Lib.array_elem Tryz.underlying330 hd i hi;simp only[List.getElem?_map,List.getElem?_range hi,Option.map_some,Option.some.injEq]at hE;subst hE;rw[zj0]at he
 have hB:=Lib.ints_of_struct Tryz.underlying329 (fun j f hj=>by
  match j,hj with
  | 0,hj=>simp at hj;subst hj;exact⟨Tryz.underlying5,rfl,zge⟩
  | 1,hj=>simp at hj;subst hj;exact⟨Tryz.underlying5,rfl,zge⟩
  | j+2,hj=>simp at hj) (by rw[zj0];rfl) he
 have e0:=congrArg (·[0]?) hB;have e1:=congrArg (·[1]?) hB;simp only[List.getElem?_take,List.getElem?_drop]at e0 e1;constructor
 ·rw[World.var?_cell hg hA (2 * i),← Array.getElem?_toList];simpa[Nat.mul_comm] using e0
 rw[World.var?_cell hg hA (2 * i+1),← Array.getElem?_toList];simpa[Nat.mul_comm] using e1
theorem zj5 {w:World}(h:Lib.VarReads ze w "internal/strconv.uint64pow10" (Lib.tabData .u64 Lib.pow10Tab)):Lib.TabIs ze w "internal/strconv.uint64pow10" .u64 Lib.pow10Tab:=by
 obtain⟨g,t,cs,fuel,p,hg,hB,hA,hd⟩:=h;obtain rfl:=zx (Tryz.pow10At.symm.trans hg);obtain rfl:=zx (Tryz.typ2.symm.trans hB);unfold Lib.TabIs;rw[hA,← Lib.cells_of_tab Tryz.underlying365 Tryz.underlying340 zpp zpq hd]
theorem zz8 {w w':World}(h:Fr NoB w w')(may:MemPlace→Prop):w.keptBut w' may:=by
 refine⟨h.os,h.output,fun i hi=>?_⟩;obtain⟨o,ho⟩:=zg0 hi;rw[ho,h.block i o ho (fun h=>h)];cases o<;>simp
def ztz (cs:Array Value):Obj→Obj
 | .cells _ t f => .cells cs t f
 | o=>o
def u8s (zs:List Int):Array Value:=(zs.map fun z=>Value.int .u8 z).toArray
def zpm:Array Value:=((List.range 16).flatMap fun i=>[Value.int .u8 (Lib.accLo i:Int),Value.int .u8 (Lib.accHi i:Int)]).toArray
def z0q:DataW Unit→List Int
 | .agg l=>l.map fun d=>match d with | .lit (.int _ z)=>z | _=>0
 | _=>[]
noncomputable def zjf (os:Os):World :=
 { World.holding ze os ⟨#[],#[],[]⟩ with heap:=(((((World.holding ze os ⟨#[],#[],[]⟩).heap.modify 0 (ztz (u8s Lib.firstTab))).modify 1 (ztz zpm)).modify 3 (ztz (Lib.pow10Tab.map fun z=>Value.int .u64 z).toArray)).modify 4 (ztz (u8s (z0q Rows.laid_math_bits_deBruijn32tab)))).modify 5 (ztz (u8s (z0q Rows.laid_math_bits_deBruijn64tab))) }
end
section
open Go.RowKit
theorem Tryz.name5b:Tryz.prog.globalNamed "math/bits.deBruijn64tab" = some 5:=by kernel_rfl
theorem z0s {L:List (String × DataW Unit)} {W:World} (h:laidMet ze L W) (h1:("unicode/utf8.first", Rows.laid_unicode_utf8_first)∈L) (h2:("unicode/utf8.acceptRanges", Rows.laid_unicode_utf8_acceptRanges)∈L)
 (h3:("internal/strconv.uint64pow10", Rows.laid_internal_strconv_uint64pow10)∈L) (h4:("math/bits.deBruijn64tab", Rows.laid_math_bits_deBruijn64tab)∈L):@Gl ⟨W.heap.size⟩ W:=by
 letI:OldK:=⟨W.heap.size⟩
 have hs:6≤W.heap.size:=by
  obtain⟨g,t,cs,fuel,p,hg,hty,hA,hd⟩:=Lib.laidMet.reads h h4;obtain rfl:=zx (Tryz.name5b.symm.trans hg);unfold World.var? at hA;rw[Tryz.name5b]at hA;simp only[Option.bind_some]at hA;rcases Nat.lt_or_ge 5 W.heap.size with hlt | hge
  ·exact hlt
  rw[Array.getElem?_eq_none hge]at hA;simp at hA
 refine Gl.of ⟨hs,zk1 (Lib.laidMet.reads h (d:=Lib.firstData) ?_) (Lib.laidMet.reads h (d:=Lib.acceptData) ?_),zj5 (Lib.laidMet.reads h (d:=Lib.tabData .u64 Lib.pow10Tab) ?_)⟩ (zt _)
 ·rw[show Lib.firstData=Rows.laid_unicode_utf8_first by kernel_rfl];exact h1
 ·rw[show Lib.acceptData=Rows.laid_unicode_utf8_acceptRanges by kernel_rfl];exact h2
 rw[show Lib.tabData .u64 Lib.pow10Tab=Rows.laid_internal_strconv_uint64pow10 by kernel_rfl];exact h3
end
end Go.Proofs.YtmgfncjfgkllcaaGreatDoor
