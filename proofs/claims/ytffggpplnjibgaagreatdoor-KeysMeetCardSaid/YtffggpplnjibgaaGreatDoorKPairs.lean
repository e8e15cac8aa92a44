/-
 How a value of package api lies in memory.
-/
import Derived.Test.YtffggpplnjibgaaGreatDoorKStore
import Derived.Test.YtffggpplnjibgaaGreatDoorKSpecEntry
import Derived.Deep.QuietTactic
namespace Go.Proofs.YtffggpplnjibgaaGreatDoor
set_option linter.unusedVariables false
set_option linter.unusedSimpArgs false
set_option linter.unusedSectionVars false
section
open Go.RowKit

variable [OldK]
def Blk (U:TypeId) (w:World) (b:Nat) (cs:Array Value) (f:Nat × Nat):Prop:=∃ T,w.heap[b]? = some (.cells cs T f)∧(T=U∨b<OldK.k)
theorem Blk.of {U:TypeId}{w:World}{b:Nat}{cs:Array Value}{f:Nat × Nat}(h:w.heap[b]? = some (.cells cs U f)):Blk U w b cs f:=⟨U,h,.inl rfl⟩
theorem Blk.lt {U:TypeId}{w:World}{b:Nat}{cs:Array Value}{f:Nat × Nat}(h:Blk U w b cs f):b<w.heap.size:=by
 obtain⟨T,h,_⟩:=h;exact ju h
mutual
def RJ (S:Nat→Prop) (w:World):J→Value→Prop
 | .mk k n t l p,v=>∃ a1 c1 a2 c2,v = .agg #[.int .i64 k,.int .i64 n,.string ⟨t.toArray⟩,.slice a1 l.length c1,.slice a2 p.length c2] ∧
    (l=[]∨∃ b o cs f,a1=some ⟨b,o,none⟩∧S b∧Blk 65 w b cs f∧RC S w l ((cs.toList.drop o).take (5 * l.length))) ∧
    (p=[]∨∃ b o cs f,a2=some ⟨b,o,none⟩∧S b∧Blk 116 w b cs f∧RP S w p ((cs.toList.drop o).take (6 * p.length)))
def RC (S:Nat→Prop) (w:World):List J→List Value→Prop
 | [],xs=>xs=[]
 | j :: js,xs=>∃ c0 c1 c2 c3 c4 ys,xs=c0 :: c1 :: c2 :: c3 :: c4 :: ys∧RJ S w j (.agg #[c0,c1,c2,c3,c4])∧RC S w js ys
def RP (S:Nat→Prop) (w:World):List (Bs × J)→List Value→Prop
 | [],xs=>xs=[]
 | (nm,j) :: ps,xs=>∃ c0 c1 c2 c3 c4 ys,xs = .string ⟨nm.toArray⟩ :: c0 :: c1 :: c2 :: c3 :: c4 :: ys∧RJ S w j (.agg #[c0,c1,c2,c3,c4])∧RP S w ps ys
end

def Vt (b:Nat) (o:Obj):Prop:=OfTy 65 o∨OfTy 116 o∨b<OldK.k
def Kp (S S':Nat→Prop) (w w':World):Prop :=
 ∀ b o,S b→w.heap[b]? = some o→Vt b o→S' b∧w'.heap[b]? = some o
theorem Blk.kpV {S S':Nat→Prop}{w w':World}{b:Nat}{cs:Array Value}{f:Nat × Nat}(h:Blk 65 w b cs f)(hk:Kp S S' w w')(hs:S b):S' b∧Blk 65 w' b cs f:=by
 obtain⟨T,hb,hT⟩:=h;obtain⟨h1,h2⟩:=hk b _ hs hb (hT.elim (fun e => .inl ⟨_,_,by rw[e]⟩) (fun h => .inr (.inr h)));exact⟨h1,T,h2,hT⟩
theorem Blk.kpP {S S':Nat→Prop}{w w':World}{b:Nat}{cs:Array Value}{f:Nat × Nat}(h:Blk 116 w b cs f)(hk:Kp S S' w w')(hs:S b):S' b∧Blk 116 w' b cs f:=by
 obtain⟨T,hb,hT⟩:=h;obtain⟨h1,h2⟩:=hk b _ hs hb (hT.elim (fun e => .inr (.inl ⟨_,_,by rw[e]⟩)) (fun h => .inr (.inr h)));exact⟨h1,T,h2,hT⟩
mutual
theorem RJ.kp {S S':Nat→Prop} {w w':World} (hk:Kp S S' w w'):∀ (j:J) (v:Value),RJ S w j v→RJ S' w' j v
 | .mk k n t l p,v,h=>by
   unfold RJ at h ⊢;obtain⟨a1,c1,a2,c2,hv,h1,h2⟩:=h;refine⟨a1,c1,a2,c2,hv,?_,?_⟩
   ·rcases h1 with h1 | ⟨b,o,cs,f,ha,hs,hb,hr⟩
    ·exact .inl h1
    obtain⟨hs',hb'⟩:=hb.kpV hk hs;exact .inr ⟨b,o,cs,f,ha,hs',hb',RC.kp hk l _ hr⟩
   rcases h2 with h1 | ⟨b,o,cs,f,ha,hs,hb,hr⟩
   ·exact .inl h1
   obtain⟨hs',hb'⟩:=hb.kpP hk hs;exact .inr ⟨b,o,cs,f,ha,hs',hb',RP.kp hk p _ hr⟩
theorem RC.kp {S S':Nat→Prop} {w w':World} (hk:Kp S S' w w'):∀ (l:List J) (xs:List Value),RC S w l xs→RC S' w' l xs
 | [],xs,h=>by unfold RC at h ⊢;exact h
 | j :: js,xs,h=>by
   unfold RC at h ⊢;obtain⟨c0,c1,c2,c3,c4,ys,hx,hj,hr⟩:=h;exact⟨c0,c1,c2,c3,c4,ys,hx,RJ.kp hk j _ hj,RC.kp hk js ys hr⟩
theorem RP.kp {S S':Nat→Prop} {w w':World} (hk:Kp S S' w w'):∀ (l:List (Bs × J)) (xs:List Value),RP S w l xs→RP S' w' l xs
 | [],xs,h=>by unfold RP at h ⊢;exact h
 | (nm,j) :: js,xs,h=>by
   unfold RP at h ⊢;obtain⟨c0,c1,c2,c3,c4,ys,hx,hj,hr⟩:=h;exact⟨c0,c1,c2,c3,c4,ys,hx,RJ.kp hk j _ hj,RP.kp hk js ys hr⟩
end
theorem Kp.fr {M:Nat→Obj→Prop}{S S':Nat→Prop}{w w':World}(hF:Fr M w w')(hS:∀ b,S b→b<w.heap.size→S' b)
 (hM:∀ b o,S b→w.heap[b]? = some o→Vt b o→¬ M b o):Kp S S' w w' :=
 fun b o hs hb ht=>⟨hS b hs (ju hb),hF.block b o hb (hM b o hs hb ht)⟩
theorem zmy {b:Nat}{o:Obj}(h:@Vt zb3 b o):OfTy 65 o∨OfTy 116 o:=by
 rcases h with h | h | h
 ·exact .inl h
 ·exact .inr h
 exact absurd h (Nat.not_lt_zero _)
theorem Blk.old {U:TypeId}{w:World}{b:Nat}{cs:Array Value}{f:Nat × Nat}(h:@Blk zb3 U w b cs f):Blk U w b cs f:=by
 obtain⟨T,h,hT⟩:=h;exact⟨T,h,hT.elim .inl (fun h=>absurd h (Nat.not_lt_zero _))⟩
mutual
theorem RJ.old {S:Nat→Prop} {w:World}:∀ (j:J) (v:Value),@RJ zb3 S w j v→RJ S w j v
 | .mk k n t l p,v,h=>by
   unfold RJ at h ⊢;obtain⟨a1,c1,a2,c2,hv,h1,h2⟩:=h;refine⟨a1,c1,a2,c2,hv,?_,?_⟩
   ·rcases h1 with h1 | ⟨b,o,cs,f,ha,hs,hb,hr⟩
    ·exact .inl h1
    exact .inr ⟨b,o,cs,f,ha,hs,hb.old,RC.old l _ hr⟩
   rcases h2 with h1 | ⟨b,o,cs,f,ha,hs,hb,hr⟩
   ·exact .inl h1
   exact .inr ⟨b,o,cs,f,ha,hs,hb.old,RP.old p _ hr⟩
theorem RC.old {S:Nat→Prop} {w:World}:∀ (l:List J) (xs:List Value),@RC zb3 S w l xs→RC S w l xs
 | [],xs,h=>by unfold RC at h ⊢;exact h
 | j :: js,xs,h=>by
   unfold RC at h ⊢;obtain⟨c0,c1,c2,c3,c4,ys,hx,hj,hr⟩:=h;exact⟨c0,c1,c2,c3,c4,ys,hx,RJ.old j _ hj,RC.old js ys hr⟩
theorem RP.old {S:Nat→Prop} {w:World}:∀ (l:List (Bs × J)) (xs:List Value),@RP zb3 S w l xs→RP S w l xs
 | [],xs,h=>by unfold RP at h ⊢;exact h
 | (nm,j) :: js,xs,h=>by
   unfold RP at h ⊢;obtain⟨c0,c1,c2,c3,c4,ys,hx,hj,hr⟩:=h;exact⟨c0,c1,c2,c3,c4,ys,hx,RJ.old j _ hj,RP.old js ys hr⟩
end
theorem RJ.zero (S:Nat→Prop)(w:World):RJ S w J.zero (.agg #[.int .i64 0,.int .i64 0,.string ⟨#[]⟩,.slice none 0 0,.slice none 0 0]):=by
 unfold J.zero RJ;exact⟨none,0,none,0,rfl,.inl rfl,.inl rfl⟩
theorem RJ.flat (S:Nat→Prop)(w:World)(k n:Int)(t:Bs):RJ S w (.mk k n t [] []) (.agg #[.int .i64 k,.int .i64 n,.string ⟨t.toArray⟩,.slice none 0 0,.slice none 0 0]):=by
 unfold RJ;exact⟨none,0,none,0,rfl,.inl rfl,.inl rfl⟩
theorem RC.append {S:Nat→Prop} {w:World}:∀ (l:List J) (xs:List Value) (m:List J) (ys:List Value),RC S w l xs→RC S w m ys→RC S w (l++m) (xs++ys)
 | [],xs,m,ys,h,h2=>by unfold RC at h;subst h;simpa using h2
 | j :: js,xs,m,ys,h,h2=>by
   unfold RC at h;obtain⟨c0,c1,c2,c3,c4,zs,rfl,hj,hr⟩:=h;simp only[List.cons_append];unfold RC;exact⟨c0,c1,c2,c3,c4,zs++ys,rfl,hj,RC.append js zs m ys hr h2⟩
theorem RP.append {S:Nat→Prop} {w:World}:∀ (l:List (Bs × J)) (xs:List Value) (m:List (Bs × J)) (ys:List Value),RP S w l xs→RP S w m ys→RP S w (l++m) (xs++ys)
 | [],xs,m,ys,h,h2=>by unfold RP at h;subst h;simpa using h2
 | (nm,j) :: js,xs,m,ys,h,h2=>by
   unfold RP at h;obtain⟨c0,c1,c2,c3,c4,zs,rfl,hj,hr⟩:=h;simp only[List.cons_append];unfold RP;exact⟨c0,c1,c2,c3,c4,zs++ys,rfl,hj,RP.append js zs m ys hr h2⟩
theorem RC.one {S:Nat→Prop}{w:World}{j:J}{c0 c1 c2 c3 c4:Value}(h:RJ S w j (.agg #[c0,c1,c2,c3,c4])):RC S w [j] [c0,c1,c2,c3,c4]:=by
 unfold RC;exact⟨c0,c1,c2,c3,c4,[],rfl,h,by unfold RC;rfl⟩
theorem RP.one {S:Nat→Prop}{w:World}{nm:Bs}{j:J}{c0 c1 c2 c3 c4:Value}(h:RJ S w j (.agg #[c0,c1,c2,c3,c4])):RP S w [(nm,j)] [.string ⟨nm.toArray⟩,c0,c1,c2,c3,c4]:=by
 unfold RP;exact⟨c0,c1,c2,c3,c4,[],rfl,h,by unfold RP;rfl⟩
theorem RC.length {S:Nat→Prop} {w:World}:∀ (l:List J) (xs:List Value),RC S w l xs→xs.length=5 * l.length
 | [],xs,h=>by unfold RC at h;subst h;rfl
 | j :: js,xs,h=>by
   unfold RC at h;obtain⟨c0,c1,c2,c3,c4,zs,rfl,hj,hr⟩:=h;have:=RC.length js zs hr;simp;omega
theorem RP.length {S:Nat→Prop} {w:World}:∀ (l:List (Bs × J)) (xs:List Value),RP S w l xs→xs.length=6 * l.length
 | [],xs,h=>by unfold RP at h;subst h;rfl
 | (nm,j) :: js,xs,h=>by
   unfold RP at h;obtain⟨c0,c1,c2,c3,c4,zs,rfl,hj,hr⟩:=h;have:=RP.length js zs hr;simp;omega
end
section
open Go.RowKit
variable [OldK]

theorem RC.at {S:Nat→Prop} {w:World}:∀ (l:List J) (xs:List Value),RC S w l xs→∀ i j,l[i]? = some j →
 ∃ c0 c1 c2 c3 c4,xs[5 * i]? = some c0∧xs[5 * i+1]? = some c1∧xs[5 * i+2]? = some c2∧xs[5 * i+3]? = some c3∧xs[5 * i+4]? = some c4∧RJ S w j (.agg #[c0,c1,c2,c3,c4]):=by
 intro l
 induction l with
 | nil=>intro xs h i j hi;simp at hi
 | cons x l ih =>
   intro xs h i j hi;unfold RC at h;obtain⟨c0,c1,c2,c3,c4,ys,rfl,hj,hr⟩:=h;cases i with
   | zero=>simp at hi;subst hi;exact⟨c0,c1,c2,c3,c4,rfl,rfl,rfl,rfl,rfl,hj⟩
   | succ i =>
     obtain⟨d0,d1,d2,d3,d4,e0,e1,e2,e3,e4,e5⟩:=ih ys hr i j (by simpa using hi);exact⟨d0,d1,d2,d3,d4,e0,e1,e2,e3,e4,e5⟩
theorem RP.at {S:Nat→Prop} {w:World}:∀ (l:List (Bs × J)) (xs:List Value),RP S w l xs→∀ i nm j,l[i]? = some (nm,j) →
 ∃ c0 c1 c2 c3 c4,xs[6 * i]? = some (.string ⟨nm.toArray⟩)∧xs[6 * i+1]? = some c0∧xs[6 * i+2]? = some c1∧xs[6 * i+3]? = some c2∧xs[6 * i+4]? = some c3∧xs[6 * i+5]? = some c4∧RJ S w j (.agg #[c0,c1,c2,c3,c4]):=by
 intro l
 induction l with
 | nil=>intro xs h i nm j hi;simp at hi
 | cons x l ih =>
   obtain⟨xn,xj⟩:=x;intro xs h i nm j hi;unfold RP at h;obtain⟨c0,c1,c2,c3,c4,ys,rfl,hj,hr⟩:=h;cases i with
   | zero=>simp at hi;obtain⟨rfl,rfl⟩:=hi;exact⟨c0,c1,c2,c3,c4,rfl,rfl,rfl,rfl,rfl,rfl,hj⟩
   | succ i =>
     obtain⟨d0,d1,d2,d3,d4,e⟩:=ih ys hr i nm j (by simpa using hi);exact⟨d0,d1,d2,d3,d4,e⟩
def RowV (S:Nat→Prop) (w:World) (l:List J) (a:Option Addr):Prop :=
 l=[]∨∃ b o cs f,a=some ⟨b,o,none⟩∧S b∧Blk 65 w b cs f∧RC S w l ((cs.toList.drop o).take (5 * l.length))
def RowP (S:Nat→Prop) (w:World) (p:List (Bs × J)) (a:Option Addr):Prop :=
 p=[]∨∃ b o cs f,a=some ⟨b,o,none⟩∧S b∧Blk 116 w b cs f∧RP S w p ((cs.toList.drop o).take (6 * p.length))
theorem RowV.kp {S S':Nat→Prop}{w w':World}{l:List J}{a:Option Addr}(h:RowV S w l a)(hk:Kp S S' w w'):RowV S' w' l a:=by
 rcases h with h1 | ⟨b,o,cs,f,ha,hs,hb,hr⟩
 ·exact .inl h1
 obtain⟨hB,hC⟩:=hb.kpV hk hs;exact .inr ⟨b,o,cs,f,ha,hB,hC,RC.kp hk l _ hr⟩
theorem RowP.kp {S S':Nat→Prop}{w w':World}{l:List (Bs × J)}{a:Option Addr}(h:RowP S w l a)(hk:Kp S S' w w'):RowP S' w' l a:=by
 rcases h with h1 | ⟨b,o,cs,f,ha,hs,hb,hr⟩
 ·exact .inl h1
 obtain⟨hB,hC⟩:=hb.kpP hk hs;exact .inr ⟨b,o,cs,f,ha,hB,hC,RP.kp hk l _ hr⟩
theorem qy {b o:Nat} {cs:Array Value} {U:TypeId} {f:Nat × Nat} {w:World} (h0:Blk U w b cs f) {n k:Nat} {v:Value} (hv:((cs.toList.drop o).take n)[k]? = some v):w.cell? ⟨b,o+k,none⟩=some v:=by
 obtain⟨T,h,_⟩:=h0
 have h1:cs[o+k]? = some v:=by
  rw[List.getElem?_take]at hv;split at hv
  ·rw[List.getElem?_drop]at hv;simpa using hv
  simp at hv
 simp[World.cell?,h,h1]
theorem RowV.at {S:Nat→Prop}{w:World}{l:List J}{a:Option Addr}(h:RowV S w l a){i:Nat}{j:J}(hi:l[i]? = some j) :
 ∃ b o c0 c1 c2 c3 c4,a=some ⟨b,o,none⟩∧b<w.heap.size∧w.cell? ⟨b,o+i * 5,none⟩=some c0∧w.cell? ⟨b,o+i * 5+1,none⟩=some c1∧w.cell? ⟨b,o+i * 5+2,none⟩=some c2∧w.cell? ⟨b,o+i * 5+3,none⟩=some c3∧w.cell? ⟨b,o+i * 5+4,none⟩=some c4∧RJ S w j (.agg #[c0,c1,c2,c3,c4]):=by
 rcases h with rfl | ⟨b,o,cs,f,ha,hs,hb,hr⟩
 ·simp at hi
 obtain⟨c0,c1,c2,c3,c4,e0,e1,e2,e3,e4,e5⟩:=RC.at l _ hr i j hi;rw[Nat.mul_comm i 5];exact⟨b,o,c0,c1,c2,c3,c4,ha,hb.lt,qy hb e0,qy (k:=5 * i+1) hb e1,qy (k:=5 * i+2) hb e2,qy (k:=5 * i+3) hb e3,qy (k:=5 * i+4) hb e4,e5⟩
theorem RowP.at {S:Nat→Prop}{w:World}{l:List (Bs × J)}{a:Option Addr}(h:RowP S w l a){i:Nat}{nm:Bs}{j:J}(hi:l[i]? = some (nm,j)) :
 ∃ b o c0 c1 c2 c3 c4,a=some ⟨b,o,none⟩∧b<w.heap.size∧w.cell? ⟨b,o+i * 6,none⟩=some (.string ⟨nm.toArray⟩)∧w.cell? ⟨b,o+i * 6+1,none⟩=some c0∧w.cell? ⟨b,o+i * 6+2,none⟩=some c1∧w.cell? ⟨b,o+i * 6+3,none⟩=some c2∧w.cell? ⟨b,o+i * 6+4,none⟩=some c3∧w.cell? ⟨b,o+i * 6+5,none⟩=some c4∧RJ S w j (.agg #[c0,c1,c2,c3,c4]):=by
 rcases h with rfl | ⟨b,o,cs,f,ha,hs,hb,hr⟩
 ·simp at hi
 obtain⟨c0,c1,c2,c3,c4,e0,e1,e2,e3,e4,e5,e6⟩:=RP.at l _ hr i nm j hi;rw[Nat.mul_comm i 6];exact⟨b,o,c0,c1,c2,c3,c4,ha,hb.lt,qy hb e0,qy (k:=6 * i+1) hb e1,qy (k:=6 * i+2) hb e2,qy (k:=6 * i+3) hb e3,qy (k:=6 * i+4) hb e4,qy (k:=6 * i+5) hb e5,e6⟩
theorem RJ.open {S:Nat→Prop}{w:World}{k n:Int}{t:Bs}{l:List J}{p:List (Bs × J)}{v:Value}(h:RJ S w (.mk k n t l p) v) :
 ∃ a1 c1 a2 c2,v = .agg #[.int .i64 k,.int .i64 n,.string ⟨t.toArray⟩,.slice a1 l.length c1,.slice a2 p.length c2]∧RowV S w l a1∧RowP S w p a2:=by
 unfold RJ at h;exact h
theorem Kp.ofFr {S:Nat→Prop}{w w':World}(hF:Fr NoB w w'):Kp S S w w':=Kp.fr hF (fun _ h _=>h) (fun _ _ _ _ _ h=>h)
end
section
open Go.RowKit

end
section
open Go.RowKit

section
variable {α β:Type} (key:α→Bs) (key':β→Bs)
variable {key key'}
end

structure PV where
 nm:Bs
 k:Int
 n:Int
 t:Bs
 a1:Option Addr
 n1:Nat
 c1:Nat
 a2:Option Addr
 n2:Nat
 c2:Nat
def PV.val (p:PV):Value := .agg #[.int .i64 p.k,.int .i64 p.n,.string ⟨p.t.toArray⟩,.slice p.a1 p.n1 p.c1,.slice p.a2 p.n2 p.c2]
def PV.cells (p:PV):List Value:=[.string ⟨p.nm.toArray⟩,.int .i64 p.k,.int .i64 p.n,.string ⟨p.t.toArray⟩,.slice p.a1 p.n1 p.c1,.slice p.a2 p.n2 p.c2]
def zba:List PV→List Value
 | []=>[]
 | p :: l=>p.cells++zba l
theorem zgn:∀ (l m:List PV),zba (l++m)=zba l++zba m:=by
 intro l
 induction l with
 | nil=>intro m;rfl
 | cons p l ih=>intro m;simp[zba,ih]
theorem zgm:∀ (l:List PV),(zba l).length=6 * l.length:=by
 intro l
 induction l with
 | nil=>rfl
 | cons p l ih=>simp[zba,PV.cells,ih];omega
class PostL where n:Nat
section
variable [PostL]
def PRow (b o:Nat) (l:List PV) (w:World):Prop:=∃ (pre:List Value) (post:{l:List Value // l.length=PostL.n}),w.heap[b]? = some (.cells (pre++(zba l++post.1)).toArray 116 (0,0))∧pre.length=o
theorem PRow.lt {b o:Nat}{l:List PV}{w:World}(h:PRow b o l w):b<w.heap.size:=by
 obtain⟨_,_,h,_⟩:=h;exact ju h
theorem PRow.ty {b o:Nat}{l:List PV}{w:World}(h:PRow b o l w):∃ x,w.heap[b]? = some x∧OfTy 116 x:=by
 obtain⟨_,_,h,_⟩:=h;exact⟨_,h,_,_,rfl⟩
theorem PRow.fr {M:Nat→Obj→Prop}{b o:Nat}{l:List PV}{w w':World}(h:PRow b o l w)(hF:Fr M w w')(hM:∀ x,OfTy 116 x→¬ M b x):PRow b o l w':=by
 obtain⟨hC,hB,h,ho⟩:=h;exact⟨hC,hB,hF.block _ _ h (hM _ ⟨_,_,rfl⟩),ho⟩
theorem PRow.alloc {b o:Nat}{l:List PV}{w:World}(h:PRow b o l w)(x:Obj):PRow b o l (w.alloc x) :=
 h.fr ((Fr.refl (M:=NoB)).alloc x) (fun _ _ h=>h)
theorem PRow.at {b o:Nat} {l:List PV} {w:World} (h:PRow b o l w) {i:Nat} {p:PV} (hi:l[i]? = some p) :
 w.cell? ⟨b,o+i * 6,none⟩=some (.string ⟨p.nm.toArray⟩)∧w.cell? ⟨b,o+i * 6+1,none⟩=some (.int .i64 p.k)∧w.cell? ⟨b,o+i * 6+2,none⟩=some (.int .i64 p.n) ∧
  w.cell? ⟨b,o+i * 6+3,none⟩=some (.string ⟨p.t.toArray⟩)∧w.cell? ⟨b,o+i * 6+4,none⟩=some (.slice p.a1 p.n1 p.c1)∧w.cell? ⟨b,o+i * 6+5,none⟩=some (.slice p.a2 p.n2 p.c2):=by
 obtain⟨hD,⟨hB,hpz⟩,h,ho⟩:=h
 obtain ⟨l1,l2,rfl,hG⟩:∃ l1 l2,l=l1++p :: l2∧l1.length=i:=by
  obtain⟨hF,he⟩:=List.getElem?_eq_some_iff.1 hi;refine⟨l.take i,l.drop (i+1),?_,by simp;omega⟩;rw[← he,← List.drop_eq_getElem_cons hF,List.take_append_drop]
 have hE:(hD++zba l1).length=o+i * 6:=by rw[List.length_append,zgm,ho,hG];omega
 have hI:hD++(zba (l1++p :: l2)++hB)=(hD++zba l1)++(p.cells++(zba l2++hB)):=by rw[zgn];simp[zba]
 rw[hI]at h
 have hC:∀ j v,(p.cells)[j]? = some v→w.cell? ⟨b,o+i * 6+j,none⟩=some v:=by
  intro j v hj;have hH:j<p.cells.length:=(List.getElem?_eq_some_iff.1 hj).1
  have:((hD++zba l1)++(p.cells++(zba l2++hB)))[o+i * 6+j]? = some v:=by
   rw[List.getElem?_append_right (by omega),hE];rw[show o+i * 6+j - (o+i * 6)=j by omega,List.getElem?_append_left hH];exact hj
  simp only[World.cell?,h];simpa using this
 exact⟨hC 0 _ rfl,hC 1 _ rfl,hC 2 _ rfl,hC 3 _ rfl,hC 4 _ rfl,hC 5 _ rfl⟩
theorem PRow.open {b o:Nat}{l:List PV}{w:World}(h:PRow b o l w):∀ k,w.frozen? ⟨b,k,none⟩=false:=by
 obtain⟨pre,post,h,_⟩:=h;intro k;simp[World.frozen?,h]
theorem PRow.put {b o:Nat}{l1 l2:List PV}{q:PV}{w:World}(h:PRow b o (l1++q :: l2) w)(p:PV) :
 PRow b o (l1++p :: l2) (put6 b (o+l1.length * 6) (.string ⟨p.nm.toArray⟩) (.int .i64 p.k) (.int .i64 p.n) (.string ⟨p.t.toArray⟩) (.slice p.a1 p.n1 p.c1) (.slice p.a2 p.n2 p.c2) w):=by
 obtain⟨hD,⟨hC,hG⟩,h,ho⟩:=h;have hB:(hD++zba l1).length=o+l1.length * 6:=by rw[List.length_append,zgm,ho];omega
 have hH:∀ p:PV,hD++(zba (l1++p :: l2)++hC)=(hD++zba l1)++(p.cells++(zba l2++hC)):=fun p=>by rw[zgn];simp[zba]
 refine⟨hD,⟨hC,hG⟩,?_,ho⟩;rw[hH]at h ⊢;generalize zba l2++hC=rest at *;generalize hD++zba l1=xs at *;generalize hm:o+l1.length * 6=m at *;obtain⟨hF,hE⟩:∃ hF,(xs++(q.cells++rest)).toArray=hF:=⟨_,rfl⟩;rw[hE]at h;have h0:=jh (o:=m) (.string ⟨p.nm.toArray⟩) h;have h1:=jh (o:=m+1) (.int .i64 p.k) h0;have h2:=jh (o:=m+2) (.int .i64 p.n) h1;have h3:=jh (o:=m+3) (.string ⟨p.t.toArray⟩) h2;have h4:=jh (o:=m+4) (.slice p.a1 p.n1 p.c1) h3;have h5:=jh (o:=m+5) (.slice p.a2 p.n2 p.c2) h4;clear h h0 h1 h2 h3 h4;unfold put6 put5;refine h5.trans (congrArg some (congrArg (fun x=>Obj.cells x 116 (0,0)) ?_));clear h5;subst hE;apply Array.toList_inj.1;simp only[Array.toList_setIfInBounds,PV.cells];have s0:=zce xs ([.string ⟨q.nm.toArray⟩,.int .i64 q.k,.int .i64 q.n,.string ⟨q.t.toArray⟩,.slice q.a1 q.n1 q.c1,.slice q.a2 q.n2 q.c2]++rest) m 0 (.string ⟨p.nm.toArray⟩) hB;have s1:=zce xs ([.string ⟨p.nm.toArray⟩,.int .i64 q.k,.int .i64 q.n,.string ⟨q.t.toArray⟩,.slice q.a1 q.n1 q.c1,.slice q.a2 q.n2 q.c2]++rest) m 1 (.int .i64 p.k) hB;have s2:=zce xs ([.string ⟨p.nm.toArray⟩,.int .i64 p.k,.int .i64 q.n,.string ⟨q.t.toArray⟩,.slice q.a1 q.n1 q.c1,.slice q.a2 q.n2 q.c2]++rest) m 2 (.int .i64 p.n) hB;have s3:=zce xs ([.string ⟨p.nm.toArray⟩,.int .i64 p.k,.int .i64 p.n,.string ⟨q.t.toArray⟩,.slice q.a1 q.n1 q.c1,.slice q.a2 q.n2 q.c2]++rest) m 3 (.string ⟨p.t.toArray⟩) hB;have s4:=zce xs ([.string ⟨p.nm.toArray⟩,.int .i64 p.k,.int .i64 p.n,.string ⟨p.t.toArray⟩,.slice q.a1 q.n1 q.c1,.slice q.a2 q.n2 q.c2]++rest) m 4 (.slice p.a1 p.n1 p.c1) hB;have s5:=zce xs ([.string ⟨p.nm.toArray⟩,.int .i64 p.k,.int .i64 p.n,.string ⟨p.t.toArray⟩,.slice p.a1 p.n1 p.c1,.slice q.a2 q.n2 q.c2]++rest) m 5 (.slice p.a2 p.n2 p.c2) hB;simp only[Nat.add_zero,List.cons_append,List.set_cons_zero,List.set_cons_succ,List.nil_append]at s0 s1 s2 s3 s4 s5 ⊢;rw[s0,s1,s2,s3,s4,s5]
end
end
end Go.Proofs.YtffggpplnjibgaaGreatDoor
