/-
 How a value of package api lies in memory.
-/
import Derived.Test.YtmgfncjfgkllcaaGreatDoorKStore
import Derived.Test.YtmgfncjfgkllcaaGreatDoorKUtf
import Derived.Test.YtmgfncjfgkllcaaGreatDoorKReader3
open Go.Lib renaming hid→za
open Nat renaming le_refl→zt
namespace Go.Proofs.YtmgfncjfgkllcaaGreatDoor
set_option linter.unusedVariables false
set_option linter.unusedSimpArgs false
set_option linter.unusedSectionVars false
set_option maxRecDepth 100000
set_option maxHeartbeats 4000000
section
open Go.RowKit

variable [OldK]
def Blk (U:TypeId) (w:World) (b:Nat) (cs:Array Value) (f:Nat × Nat):Prop:=∃ T,w.heap[b]? = some (.cells cs T f)∧(T=U∨b<OldK.k)
theorem Blk.of {U:TypeId}{w:World}{b:Nat}{cs:Array Value}{f:Nat × Nat}(h:w.heap[b]? = some (.cells cs U f)):Blk U w b cs f:=⟨U,h,.inl rfl⟩
theorem Blk.lt {U:TypeId}{w:World}{b:Nat}{cs:Array Value}{f:Nat × Nat}(h:Blk U w b cs f):b<w.heap.size:=by
 obtain⟨T,h,_⟩:=h;exact jb h
mutual
def RJ (S:Nat→Prop) (w:World):J→Value→Prop
 | .mk k n t l p,v=>∃ a1 c1 a2 c2,v = .agg #[.int .i64 k,.int .i64 n,.string ⟨t.toArray⟩,.slice a1 l.length c1,.slice a2 p.length c2] ∧
    (l=[]∨∃ b o cs f,a1=some ⟨b,o,none⟩∧S b∧Blk 56 w b cs f∧RC S w l ((cs.toList.drop o).take (5 * l.length))) ∧
    (p=[]∨∃ b o cs f,a2=some ⟨b,o,none⟩∧S b∧Blk 133 w b cs f∧RP S w p ((cs.toList.drop o).take (6 * p.length)))
def RC (S:Nat→Prop) (w:World):List J→List Value→Prop
 | [],xs=>xs=[]
 | j :: js,xs=>∃ c0 c1 c2 c3 c4 ys,xs=c0 :: c1 :: c2 :: c3 :: c4 :: ys∧RJ S w j (.agg #[c0,c1,c2,c3,c4])∧RC S w js ys
def RP (S:Nat→Prop) (w:World):List (Bs × J)→List Value→Prop
 | [],xs=>xs=[]
 | (nm,j) :: ps,xs=>∃ c0 c1 c2 c3 c4 ys,xs = .string ⟨nm.toArray⟩ :: c0 :: c1 :: c2 :: c3 :: c4 :: ys∧RJ S w j (.agg #[c0,c1,c2,c3,c4])∧RP S w ps ys
end

def Vt (b:Nat) (o:Obj):Prop:=zbq 56 o∨zbq 133 o∨b<OldK.k
def Kp (S S':Nat→Prop) (w w':World):Prop :=
 ∀ b o,S b→w.heap[b]? = some o→Vt b o→S' b∧w'.heap[b]? = some o
theorem Blk.kpV {S S':Nat→Prop}{w w':World}{b:Nat}{cs:Array Value}{f:Nat × Nat}(h:Blk 56 w b cs f)(hk:Kp S S' w w')(hs:S b):S' b∧Blk 56 w' b cs f:=by
 obtain⟨T,hb,hT⟩:=h;obtain⟨h1,h2⟩:=hk b _ hs hb (hT.elim (fun e => .inl ⟨_,_,by rw[e]⟩) (fun h => .inr (.inr h)));exact⟨h1,T,h2,hT⟩
theorem Blk.kpP {S S':Nat→Prop}{w w':World}{b:Nat}{cs:Array Value}{f:Nat × Nat}(h:Blk 133 w b cs f)(hk:Kp S S' w w')(hs:S b):S' b∧Blk 133 w' b cs f:=by
 obtain⟨T,hb,hT⟩:=h;obtain⟨h1,h2⟩:=hk b _ hs hb (hT.elim (fun e => .inr (.inl ⟨_,_,by rw[e]⟩)) (fun h => .inr (.inr h)));exact⟨h1,T,h2,hT⟩
mutual
theorem RJ.kp {S S':Nat→Prop} {w w':World} (hk:Kp S S' w w'):∀ (j:J) (v:Value),RJ S w j v→RJ S' w' j v
 | .mk k n t l p,v,h=>by
   unfold RJ at h ⊢;obtain⟨a1,c1,a2,c2,hv,h1,h2⟩:=h;refine⟨a1,c1,a2,c2,hv,?_,?_⟩
   ·rcases h1 with h1 | ⟨b,o,cs,f,ha,hs,hb,hr⟩
    ·exact .inl h1
    obtain⟨hs',hb'⟩:=hb.kpV hk hs;exact .inr ⟨b,o,cs,f,ha,hs',hb',RC.kp hk l _ hr⟩
   rcases h2 with h1 | ⟨b,o,cs,f,ha,hs,hb,hr⟩
   ·exact .inl h1
   obtain⟨hs',hb'⟩:=hb.kpP hk hs;exact .inr ⟨b,o,cs,f,ha,hs',hb',RP.kp hk p _ hr⟩
theorem RC.kp {S S':Nat→Prop} {w w':World} (hk:Kp S S' w w'):∀ (l:List J) (xs:List Value),RC S w l xs→RC S' w' l xs
 | [],xs,h=>by unfold RC at h ⊢;exact h
 | j :: js,xs,h=>by
   unfold RC at h ⊢;obtain⟨c0,c1,c2,c3,c4,ys,hx,hj,hr⟩:=h;exact⟨c0,c1,c2,c3,c4,ys,hx,RJ.kp hk j _ hj,RC.kp hk js ys hr⟩
theorem RP.kp {S S':Nat→Prop} {w w':World} (hk:Kp S S' w w'):∀ (l:List (Bs × J)) (xs:List Value),RP S w l xs→RP S' w' l xs
 | [],xs,h=>by unfold RP at h ⊢;exact h
 | (nm,j) :: js,xs,h=>by
   unfold RP at h ⊢;obtain⟨c0,c1,c2,c3,c4,ys,hx,hj,hr⟩:=h;exact⟨c0,c1,c2,c3,c4,ys,hx,RJ.kp hk j _ hj,RP.kp hk js ys hr⟩
end
theorem Kp.fr {M:Nat→Obj→Prop}{S S':Nat→Prop}{w w':World}(hF:Fr M w w')(hS:∀ b,S b→b<w.heap.size→S' b)
 (hM:∀ b o,S b→w.heap[b]? = some o→Vt b o→¬ M b o):Kp S S' w w' :=
 fun b o hs hb ht=>⟨hS b hs (jb hb),hF.block b o hb (hM b o hs hb ht)⟩
theorem zod {b:Nat}{o:Obj}(h:@Vt zch b o):zbq 56 o∨zbq 133 o:=by
 rcases h with h | h | h
 ·exact .inl h
 ·exact .inr h
 exact absurd h (Nat.not_lt_zero _)
theorem Blk.old {U:TypeId}{w:World}{b:Nat}{cs:Array Value}{f:Nat × Nat}(h:@Blk zch U w b cs f):Blk U w b cs f:=by
 obtain⟨T,h,hT⟩:=h;exact⟨T,h,hT.elim .inl (fun h=>absurd h (Nat.not_lt_zero _))⟩
mutual
theorem RJ.old {S:Nat→Prop} {w:World}:∀ (j:J) (v:Value),@RJ zch S w j v→RJ S w j v
 | .mk k n t l p,v,h=>by
   unfold RJ at h ⊢;obtain⟨a1,c1,a2,c2,hv,h1,h2⟩:=h;refine⟨a1,c1,a2,c2,hv,?_,?_⟩
   ·rcases h1 with h1 | ⟨b,o,cs,f,ha,hs,hb,hr⟩
    ·exact .inl h1
    exact .inr ⟨b,o,cs,f,ha,hs,hb.old,RC.old l _ hr⟩
   rcases h2 with h1 | ⟨b,o,cs,f,ha,hs,hb,hr⟩
   ·exact .inl h1
   exact .inr ⟨b,o,cs,f,ha,hs,hb.old,RP.old p _ hr⟩
theorem RC.old {S:Nat→Prop} {w:World}:∀ (l:List J) (xs:List Value),@RC zch S w l xs→RC S w l xs
 | [],xs,h=>by unfold RC at h ⊢;exact h
 | j :: js,xs,h=>by
   unfold RC at h ⊢;obtain⟨c0,c1,c2,c3,c4,ys,hx,hj,hr⟩:=h;exact⟨c0,c1,c2,c3,c4,ys,hx,RJ.old j _ hj,RC.old js ys hr⟩
theorem RP.old {S:Nat→Prop} {w:World}:∀ (l:List (Bs × J)) (xs:List Value),@RP zch S w l xs→RP S w l xs
 | [],xs,h=>by unfold RP at h ⊢;exact h
 | (nm,j) :: js,xs,h=>by
   unfold RP at h ⊢;obtain⟨c0,c1,c2,c3,c4,ys,hx,hj,hr⟩:=h;exact⟨c0,c1,c2,c3,c4,ys,hx,RJ.old j _ hj,RP.old js ys hr⟩
end
theorem RJ.zero (S:Nat→Prop)(w:World):RJ S w J.zero (.agg #[.int .i64 0,.int .i64 0,.string ⟨#[]⟩,.slice none 0 0,.slice none 0 0]):=by
 unfold J.zero RJ;exact⟨none,0,none,0,rfl,.inl rfl,.inl rfl⟩
theorem RJ.flat (S:Nat→Prop)(w:World)(k n:Int)(t:Bs):RJ S w (.mk k n t [] []) (.agg #[.int .i64 k,.int .i64 n,.string ⟨t.toArray⟩,.slice none 0 0,.slice none 0 0]):=by
 unfold RJ;exact⟨none,0,none,0,rfl,.inl rfl,.inl rfl⟩
theorem RC.append {S:Nat→Prop} {w:World}:∀ (l:List J) (xs:List Value) (m:List J) (ys:List Value),RC S w l xs→RC S w m ys→RC S w (l++m) (xs++ys)
 | [],xs,m,ys,h,h2=>by unfold RC at h;subst h;simpa using h2
 | j :: js,xs,m,ys,h,h2=>by
   unfold RC at h;obtain⟨c0,c1,c2,c3,c4,zs,rfl,hj,hr⟩:=h;simp only[List.cons_append];unfold RC;exact⟨c0,c1,c2,c3,c4,zs++ys,rfl,hj,RC.append js zs m ys hr h2⟩
theorem RP.append {S:Nat→Prop} {w:World}:∀ (l:List (Bs × J)) (xs:List Value) (m:List (Bs × J)) (ys:List Value),RP S w l xs→RP S w m ys→RP S w (l++m) (xs++ys)
 | [],xs,m,ys,h,h2=>by unfold RP at h;subst h;simpa using h2
 | (nm,j) :: js,xs,m,ys,h,h2=>by
   unfold RP at h;obtain⟨c0,c1,c2,c3,c4,zs,rfl,hj,hr⟩:=h;simp only[List.cons_append];unfold RP;exact⟨c0,c1,c2,c3,c4,zs++ys,rfl,hj,RP.append js zs m ys hr h2⟩
theorem RC.one {S:Nat→Prop}{w:World}{j:J}{c0 c1 c2 c3 c4:Value}(h:RJ S w j (.agg #[c0,c1,c2,c3,c4])):RC S w [j] [c0,c1,c2,c3,c4]:=by
 unfold RC;exact⟨c0,c1,c2,c3,c4,[],rfl,h,by unfold RC;rfl⟩
theorem RP.one {S:Nat→Prop}{w:World}{nm:Bs}{j:J}{c0 c1 c2 c3 c4:Value}(h:RJ S w j (.agg #[c0,c1,c2,c3,c4])):RP S w [(nm,j)] [.string ⟨nm.toArray⟩,c0,c1,c2,c3,c4]:=by
 unfold RP;exact⟨c0,c1,c2,c3,c4,[],rfl,h,by unfold RP;rfl⟩
theorem RC.length {S:Nat→Prop} {w:World}:∀ (l:List J) (xs:List Value),RC S w l xs→xs.length=5 * l.length
 | [],xs,h=>by unfold RC at h;subst h;rfl
 | j :: js,xs,h=>by
   unfold RC at h;obtain⟨c0,c1,c2,c3,c4,zs,rfl,hj,hr⟩:=h;have:=RC.length js zs hr;simp;omega
theorem RP.length {S:Nat→Prop} {w:World}:∀ (l:List (Bs × J)) (xs:List Value),RP S w l xs→xs.length=6 * l.length
 | [],xs,h=>by unfold RP at h;subst h;rfl
 | (nm,j) :: js,xs,h=>by
   unfold RP at h;obtain⟨c0,c1,c2,c3,c4,zs,rfl,hj,hr⟩:=h;have:=RP.length js zs hr;simp;omega
end
section
open Go.RowKit
attribute [local instance] zch

theorem zle:∀ (s:Bs) (n k:Nat),n≤90071992547409919→(j6 n k s).1≤90071992547409919∧(j6 n k s).2.1≤k+s.length∧(j6 n k s).2.2.length≤s.length:=by
 intro s
 induction s with
 | nil=>intro n k h;exact⟨h,zt _,zt _⟩
 | cons x l ih =>
   intro n k h;unfold j6;split
   ·split
    ·have:=ih (10 * n+(x.toNat - 48)) (k+1) (by omega);exact⟨this.1,by have:=this.2.1;simp;omega,by have:=this.2.2;simp;omega⟩
    have:=ih n (k+1) h;exact⟨this.1,by have:=this.2.1;simp;omega,by have:=this.2.2;simp;omega⟩
   exact⟨h,by simp,zt _⟩
def VB (b:Nat) (w:World):Prop:=∃ q0 q1 q2 q3 q4,w.heap[b]? = some (.cells #[q0,q1,q2,q3,q4] 56 (0,0))
theorem VB.lt {b:Nat}{w:World}(h:VB b w):b<w.heap.size:=by obtain⟨_,_,_,_,_,h⟩:=h;exact jb h
theorem VB.cells {b:Nat}{w:World}(h:VB b w):∃ q0 q1 q2 q3 q4,w.cell? ⟨b,0,none⟩=some q0∧w.cell? ⟨b,1,none⟩=some q1∧w.cell? ⟨b,2,none⟩=some q2∧w.cell? ⟨b,3,none⟩=some q3∧w.cell? ⟨b,4,none⟩=some q4∧(∀ o,w.frozen? ⟨b,o,none⟩=false)∧b<w.heap.size:=by
 have hl:=h.lt;obtain⟨q0,q1,q2,q3,q4,h⟩:=h;refine⟨q0,q1,q2,q3,q4,?_,?_,?_,?_,?_,?_,hl⟩<;>simp[World.cell?,World.frozen?,h]
theorem VB.fr {M:Nat→Obj→Prop}{b:Nat}{w w':World}(h:VB b w)(hF:Fr M w w')(hM:∀ o,zbq 56 o→¬ M b o):VB b w':=by
 obtain⟨q0,q1,q2,q3,q4,h⟩:=h;exact⟨q0,q1,q2,q3,q4,hF.block _ _ h (hM _ ⟨_,_,rfl⟩)⟩
theorem VB.rd {b r:Nat} {w w':World} (h:VB b w) (hF:Fr (MR r) w w'):VB b w' :=
 h.fr hF (fun o ho hm=>by
  obtain⟨_,c,f,h1⟩:=hm;obtain⟨c',f',h2⟩:=ho;rw[h1]at h2
  simp at h2)
theorem VB.new (w:World)(q0 q1 q2 q3 q4:Value):VB w.heap.size (w.alloc (.cells #[q0,q1,q2,q3,q4] 56)):=⟨q0,q1,q2,q3,q4,heap_alloc_new w _⟩
def setV (b:Nat) (v0 v1 v2 v3 v4:Value) (w:World):World :=
 ((((w.setCell ⟨b,0,none⟩ v0).setCell ⟨b,1,none⟩ v1).setCell ⟨b,2,none⟩ v2).setCell ⟨b,3,none⟩ v3).setCell ⟨b,4,none⟩ v4
theorem VB.setV {b:Nat}{w:World}(h:VB b w)(v0 v1 v2 v3 v4:Value):(setV b v0 v1 v2 v3 v4 w).heap[b]? = some (.cells #[v0,v1,v2,v3,v4] 56 (0,0)):=by
 obtain⟨q0,q1,q2,q3,q4,h⟩:=h;simp[Go.Proofs.YtmgfncjfgkllcaaGreatDoor.setV,World.setCell,Array.getElem?_modify,h]
theorem Fr.setV {M:Nat→Obj→Prop}{b:Nat}{w w1:World}(h:Fr M w w1)(hb:w.heap.size≤b)(v0 v1 v2 v3 v4:Value):Fr M w (setV b v0 v1 v2 v3 v4 w1) :=
 ((((h.setNew _ _ hb).setNew _ _ hb).setNew _ _ hb).setNew _ _ hb).setNew _ _ hb
theorem Rd.setV {r b:Nat}{s:Bs}{bad:Bool}{d:Int}{w:World}(h:Rd r s bad d w)(hb:r≠b)(v0 v1 v2 v3 v4:Value):Rd r s bad d (setV b v0 v1 v2 v3 v4 w) :=
 ((((h.other _ hb).other _ hb).other _ hb).other _ hb).other _ hb
theorem zw6 (r:Nat) (x:UInt8) (l:Bs) (bad:Bool) (d:Int) (w:World) (h:Rd r (x :: l) bad d w) (hlen:(x :: l).length≤1073741824) :
 Calls Tryz.prog 259 #[.pointer (some ⟨r,0,none⟩)] w fun e w'=>∃ v,e = .returned v∧RJ (fun k=>w.heap.size≤k) w' (zb1 ⟨x :: l,bad⟩).1 v∧Rd r (zb1 ⟨x :: l,bad⟩).2.s (zb1 ⟨x :: l,bad⟩).2.bad d w'∧Fr (MR r) w w':=by
 obtain⟨c0,c1,c2,f1,hr1⟩:=h.cells;have hx:=za (zb7 (x :: l) 1 (l.length+1) (by simp))
 -- the sign
 obtain ⟨m,s1,hm,hX,hl,hs⟩:∃ (m:Bool) (s1:Bs),((x.toNat:Int)==45)=m∧(s1=if m then l else x :: l)∧zb1 ⟨x :: l,bad⟩=zbv m bad s1∧s1.length≤1073741824:=by
  by_cases hb:x=45
  ·refine⟨true,l,by rw[hb];rfl,rfl,by simp[zb1,hb],by simp at hlen;omega⟩
  refine⟨false,x :: l,?_,rfl,by simp[zb1,hb],hlen⟩;rw[beq_eq_false_iff_ne];intro e;exact hb (UInt8.toNat_inj.1 (by simp;omega))
 rw[hl];clear hl
 have hY:∀ W,(W=(if m then w.setCell ⟨r,0,none⟩ (.string ⟨l.toArray⟩) else w).alloc (.cells #[.int .i64 0,.int .i64 0,.string ⟨#[]⟩,.slice none 0 0,.slice none 0 0] 56))→Rd r s1 bad d W∧VB w.heap.size W∧Fr (MR r) w W:=by
  rintro W rfl;cases m
  ·simp only[Bool.false_eq_true,if_false]at hX ⊢;subst hX;exact⟨h.alloc _,VB.new w _ _ _ _ _,Fr.refl.alloc _⟩
  simp only[if_true]at hX ⊢;subst hX;have:=VB.new (w.setCell ⟨r,0,none⟩ (.string ⟨s1.toArray⟩)) (.int .i64 0) (.int .i64 0) (.string ⟨#[]⟩) (.slice none 0 0) (.slice none 0 0);rw[World.size_setCell]at this;exact⟨(h.set0 _).alloc _,this,(Fr.refl.setCell _ _ h.one).alloc _⟩
 have Hpre:=za hY;clear hY hX;generalize hG:zbv m bad s1=G;have HG:=za hG;clear hG;cases m
 all_goals
  have hp:=Hpre.out;simp only[Bool.false_eq_true,if_false,if_true]at hp;obtain⟨hI,hT,hW⟩:=hp _ rfl;clear hp;cases s1 with
  | nil =>
    go_enter Tryz.func259,Tryz.ntmps259
    go_wp2_with fail
    try rw[hx.out]
    refine(zdc (fun w'=>Rd r [] bad d w'∧VB w.heap.size w'∧Fr (MR r) w w') (znf r bad d _ hI) ⟨hI,hT,hW⟩).mono ?_;rintro e w1 ⟨rfl,hN,hQ,hU⟩;clear hI hT hW
    go_wp2_with fail
    refine(zcl r _ _ d _ hN).mono ?_;rintro e w2 ⟨rfl,hB,hE⟩;have hH:=hQ.rd hE;obtain⟨q0,q1,q2,q3,q4,a0,a1,a2,a3,a4,fz,he⟩:=hH.cells
    go_wp2_with fail
    refine bodyPost_ret (v := .agg #[.int .i64 0,.int .i64 0,.string ⟨#[]⟩,.slice none 0 0,.slice none 0 0]) (by simp[results,Tryz.results259,go_sem,a0,a1,a2,a3,a4]) rfl ?_;have hG:=HG.out;simp only[zbv]at hG;subst hG;have hP:r≠w.heap.size:=by omega
    exact⟨_,rfl,RJ.zero _ _,hB.setV hP _ _ _ _ _,(hU.trans' hE).setV (zt _) _ _ _ _ _⟩
  | cons y s2 =>
    by_cases hy:48≤y.toNat∧y.toNat≤57
    ·have hc:decide (48≤y.toNat∧y.toNat≤57)=true:=by simpa using hy
     generalize hD:j6 0 0 (y :: s2)=D;have HD:=za hD;have h1:=zle (y :: s2) 0 0 (by omega);rw[hD]at h1;clear hD;obtain⟨z,hz⟩:∃ z:Bool,((y.toNat:Int)==48)=z:=⟨_,rfl⟩
     have hq:Hid (decide (y=48)=z):=by
      unfold Hid;rw[← hz,Bool.eq_iff_iff,decide_eq_true_eq,beq_iff_eq];exact⟨fun e=>by rw[e];rfl,fun e=>UInt8.toNat_inj.1 (by simp;omega)⟩
     have hA:=HG.out;simp only[zbv,hy,and_self,if_true,HD.out,hq.out]at hA;have Hend:=za hA;clear hA hy;go_enter Tryz.func259,Tryz.ntmps259
     go_wp2_with fail
     try rw[hx.out]
     refine(zdc (fun w'=>Rd r (y :: s2) bad d w'∧VB w.heap.size w'∧Fr (MR r) w w') (zef r y s2 bad d _ hI) ⟨hI,hT,hW⟩).mono ?_;rintro e w1 ⟨rfl,hN,hQ,hU⟩;rw[hc];clear hI hT hW c0 c1 c2 f1;obtain⟨c0,c1,c2,f1,hO⟩:=hN.cells
     go_wp2_with fail
     go_loopg [5,6] ((y :: s2).length+1) (fun g vn vk wr=>∃ (n k:Nat) (s:Bs),vn = .int .i64 n∧vk = .int .i64 k∧n≤90071992547409919∧k+s.length≤1073741824∧Rd r s bad d wr∧VB w.heap.size wr∧Fr (MR r) w wr∧Hid (j6 n k s=D)∧s.length<g)
     case atStart=>exact⟨0,0,y :: s2,rfl,rfl,by omega,by simpa using hs,hN,hQ,hU,HD,by simp⟩
     case round =>
      obtain⟨n,k,s,rfl,rfl,hn,hk,hR,hV,hF,hS,hg⟩:=hrel;clear hN hQ hU c0 c1 c2 f1 hO;obtain⟨c0,c1,c2,f1,hO⟩:=hR.cells;by_cases hd:∃ a s',s=a :: s'∧48≤a.toNat∧a.toNat≤57
      ·obtain ⟨a,s',hr,ha⟩:=hd;subst hr;generalize s'=s at *;have hZ:decide (48≤a.toNat∧a.toNat≤57)=true:=by simpa using ha
       have hj:=za (zb7 (a :: s) 1 (s.length+1) (by simp));have hM:=hS.out;simp only[j6,ha,and_self,if_true]at hM;obtain⟨ha1,ha2⟩:=ha;have ho:(a :: s).length=s.length+1:=rfl;rw[ho]at hg hk;clear hS ho;rcases Nat.lt_or_ge 9007199254740991 n with hC | hC
       ·have ht:decide ((n:Int)≤9007199254740991)=false:=by simp only[decide_eq_false_iff_not];omega
        rw[if_neg (by omega)]at hM;have hi:=za hM;clear hC hM
        go_wp2_with fail
        refine(zdc (fun w'=>Rd r (a :: s) bad d w'∧VB w.heap.size w'∧Fr (MR r) w w') (zef r a s bad d _ hR) ⟨hR,hV,hF⟩).mono ?_;rintro e w2 ⟨rfl,hB,hH,hE⟩;rw[hZ];clear hR hV hF c0 c1 c2 f1 hO;obtain⟨c0,c1,c2,f1,hO⟩:=hB.cells
        go_wp2_with fail
        go_roundg (gk - 1)
        case measure=>omega
        case rel =>
         rw[hj.out];have hK:Fr (MR r) w2 (w2.setCell ⟨r,0,none⟩ (.string ⟨s.toArray⟩)):=Fr.refl.setCell _ _ hB.one;exact⟨n,k+1,s,rfl,by go_num,hn,by omega,hB.set0 _,hH.rd hK,hE.trans' hK,hi,by omega⟩
       have ht:decide ((n:Int)≤9007199254740991)=true:=by simp only[decide_eq_true_eq];omega
       rw[if_pos hC]at hM;have hi:=za hM;have hn':(n:Int)≤9007199254740991:=by omega
       have Hbig:=za hC;clear hM hC
       go_wp2_with fail
       refine(zdc (fun w'=>Rd r (a :: s) bad d w'∧VB w.heap.size w'∧Fr (MR r) w w') (zef r a s bad d _ hR) ⟨hR,hV,hF⟩).mono ?_;rintro e w2 ⟨rfl,hB,hH,hE⟩;rw[hZ];clear hR hV hF c0 c1 c2 f1 hO;obtain⟨c0,c1,c2,f1,hO⟩:=hB.cells
       go_wp2_with fail
       go_roundg (gk - 1)
       case measure=>omega
       case rel =>
        rw[hj.out];have hK:Fr (MR r) w2 (w2.setCell ⟨r,0,none⟩ (.string ⟨s.toArray⟩)):=Fr.refl.setCell _ _ hB.one;have hC:=Hbig.out;exact⟨10 * n+(a.toNat - 48),k+1,s,by congr 1;omega,by go_num,by omega,by omega,hB.set0 _,hH.rd hK,hE.trans' hK,hi,by omega⟩
      have hf:Hid (D=(n,k,s)):=by
       unfold Hid;rw[← hS.out];cases s with
       | nil=>rfl
       | cons a s =>
         have ha:¬ (48≤a.toNat∧a.toNat≤57):=fun ha=>hd ⟨a,s,rfl,ha⟩
         simp only[j6,ha,if_false]
      have hJ:Calls Tryz.prog 304 #[.pointer (some ⟨r,0,none⟩)] wr fun e w'=>e = .returned (.bool false)∧wr=w':=by
       cases s with
       | nil=>exact znf r bad d wr hR
       | cons a s =>
         have ha:¬ (48≤a.toNat∧a.toNat≤57):=fun ha=>hd ⟨a,s,rfl,ha⟩
         have hZ:decide (48≤a.toNat∧a.toNat≤57)=false:=by simpa using ha
         have:=zef r a s bad d wr hR;rw[hZ]at this;exact this
      have Hcall:=za hJ;clear hJ hd hS;have hh:∃ b1 b2:Bool,decide ((9007199254740991:Int)<n)=b1∧decide ((1:Int)<k)=b2:=⟨_,_,rfl,rfl⟩;obtain⟨b1,b2,hv,hu⟩:=hh;have hA:=Hend.out;rw[hf.out]at hA;have e1:decide (9007199254740991<n)=b1:=by rw[← hv,Bool.eq_iff_iff];simp only[decide_eq_true_eq];omega
      have e2:decide (1<k)=b2:=by rw[← hu,Bool.eq_iff_iff];simp only[decide_eq_true_eq];omega
      simp only[e1,e2]at hA;have hL:=za hA;clear hA e1 e2;cases b1<;>cases z<;>cases b2
      all_goals
       go_wp2_with fail
       refine(zdc (fun w'=>Rd r s bad d w'∧VB w.heap.size w'∧Fr (MR r) w w') Hcall.out ⟨hR,hV,hF⟩).mono ?_;rintro e w2 ⟨rfl,hB,hH,hE⟩;have hP:r≠w.heap.size:=by omega
       obtain⟨q0,q1,q2,q3,q4,a0,a1,a2,a3,a4,fz,he⟩:=hH.cells
       go_wp2_with fail
       first
        | (refine(zcl r _ _ d _ hB).mono ?_;rintro e w4 ⟨rfl,h0,hK⟩;have hw:=hH.rd hK;(obtain⟨q0,q1,q2,q3,q4,a0,a1,a2,a3,a4,fz,he⟩:=hw.cells;go_wp2_with fail;(first | (refine bodyPost_ret (v := .agg #[.int .i64 2,.int .i64 (n:Int),.string ⟨#[]⟩,.slice none 0 0,.slice none 0 0]) ?_ rfl ?_;focus (simp[results,Tryz.results259,go_sem,a0,a1,a2,a3,a4];done)) | (refine bodyPost_ret (v := .agg #[.int .i64 2,.int .i64 (-(n:Int)),.string ⟨#[]⟩,.slice none 0 0,.slice none 0 0]) ?_ rfl ?_;focus (simp[results,Tryz.results259,go_sem,a0,a1,a2,a3,a4];done)));have hG:=hL.out;simp at hG;subst hG;exact⟨_,rfl,RJ.flat _ _ _ _ [],h0.setV hP _ _ _ _ _,(hE.trans' hK).setV (zt _) _ _ _ _ _⟩))
        | ((first | (refine bodyPost_ret (v := .agg #[.int .i64 2,.int .i64 (n:Int),.string ⟨#[]⟩,.slice none 0 0,.slice none 0 0]) ?_ rfl ?_;focus (simp[results,Tryz.results259,go_sem,a0,a1,a2,a3,a4];done)) | (refine bodyPost_ret (v := .agg #[.int .i64 2,.int .i64 (-(n:Int)),.string ⟨#[]⟩,.slice none 0 0,.slice none 0 0]) ?_ rfl ?_;focus (simp[results,Tryz.results259,go_sem,a0,a1,a2,a3,a4];done)));have hG:=hL.out;simp at hG;subst hG;exact⟨_,rfl,RJ.flat _ _ _ _ [],hB.setV hP _ _ _ _ _,(hE).setV (zt _) _ _ _ _ _⟩)
    have hc:decide (48≤y.toNat∧y.toNat≤57)=false:=by simpa using hy
    have hA:=HG.out;simp only[zbv,hy,if_false]at hA;have Hend:=za hA;clear hA hy;go_enter Tryz.func259,Tryz.ntmps259
    go_wp2_with fail
    try rw[hx.out]
    refine(zdc (fun w'=>Rd r (y :: s2) bad d w'∧VB w.heap.size w'∧Fr (MR r) w w') (zef r y s2 bad d _ hI) ⟨hI,hT,hW⟩).mono ?_;rintro e w1 ⟨rfl,hN,hQ,hU⟩;rw[hc];clear hI hT hW
    go_wp2_with fail
    refine(zcl r _ _ d _ hN).mono ?_;rintro e w2 ⟨rfl,hB,hE⟩;have hH:=hQ.rd hE;obtain⟨q0,q1,q2,q3,q4,a0,a1,a2,a3,a4,fz,he⟩:=hH.cells
    go_wp2_with fail
    refine bodyPost_ret (v := .agg #[.int .i64 0,.int .i64 0,.string ⟨#[]⟩,.slice none 0 0,.slice none 0 0]) (by simp[results,Tryz.results259,go_sem,a0,a1,a2,a3,a4]) rfl ?_;have hG:=Hend.out;subst hG;have hP:r≠w.heap.size:=by omega
    exact⟨_,rfl,RJ.zero _ _,hB.setV hP _ _ _ _ _,(hU.trans' hE).setV (zt _) _ _ _ _ _⟩
end
section
open Go.RowKit
variable [OldK]

theorem RC.at {S:Nat→Prop} {w:World}:∀ (l:List J) (xs:List Value),RC S w l xs→∀ i j,l[i]? = some j →
 ∃ c0 c1 c2 c3 c4,xs[5 * i]? = some c0∧xs[5 * i+1]? = some c1∧xs[5 * i+2]? = some c2∧xs[5 * i+3]? = some c3∧xs[5 * i+4]? = some c4∧RJ S w j (.agg #[c0,c1,c2,c3,c4]):=by
 intro l
 induction l with
 | nil=>intro xs h i j hi;simp at hi
 | cons x l ih =>
   intro xs h i j hi;unfold RC at h;obtain⟨c0,c1,c2,c3,c4,ys,rfl,hj,hr⟩:=h;cases i with
   | zero=>simp at hi;subst hi;exact⟨c0,c1,c2,c3,c4,rfl,rfl,rfl,rfl,rfl,hj⟩
   | succ i =>
     obtain⟨d0,d1,d2,d3,d4,e0,e1,e2,e3,e4,e5⟩:=ih ys hr i j (by simpa using hi);exact⟨d0,d1,d2,d3,d4,e0,e1,e2,e3,e4,e5⟩
theorem RP.at {S:Nat→Prop} {w:World}:∀ (l:List (Bs × J)) (xs:List Value),RP S w l xs→∀ i nm j,l[i]? = some (nm,j) →
 ∃ c0 c1 c2 c3 c4,xs[6 * i]? = some (.string ⟨nm.toArray⟩)∧xs[6 * i+1]? = some c0∧xs[6 * i+2]? = some c1∧xs[6 * i+3]? = some c2∧xs[6 * i+4]? = some c3∧xs[6 * i+5]? = some c4∧RJ S w j (.agg #[c0,c1,c2,c3,c4]):=by
 intro l
 induction l with
 | nil=>intro xs h i nm j hi;simp at hi
 | cons x l ih =>
   obtain⟨xn,xj⟩:=x;intro xs h i nm j hi;unfold RP at h;obtain⟨c0,c1,c2,c3,c4,ys,rfl,hj,hr⟩:=h;cases i with
   | zero=>simp at hi;obtain⟨rfl,rfl⟩:=hi;exact⟨c0,c1,c2,c3,c4,rfl,rfl,rfl,rfl,rfl,rfl,hj⟩
   | succ i =>
     obtain⟨d0,d1,d2,d3,d4,e⟩:=ih ys hr i nm j (by simpa using hi);exact⟨d0,d1,d2,d3,d4,e⟩
def RowV (S:Nat→Prop) (w:World) (l:List J) (a:Option Addr):Prop :=
 l=[]∨∃ b o cs f,a=some ⟨b,o,none⟩∧S b∧Blk 56 w b cs f∧RC S w l ((cs.toList.drop o).take (5 * l.length))
def RowP (S:Nat→Prop) (w:World) (p:List (Bs × J)) (a:Option Addr):Prop :=
 p=[]∨∃ b o cs f,a=some ⟨b,o,none⟩∧S b∧Blk 133 w b cs f∧RP S w p ((cs.toList.drop o).take (6 * p.length))
theorem RowV.kp {S S':Nat→Prop}{w w':World}{l:List J}{a:Option Addr}(h:RowV S w l a)(hk:Kp S S' w w'):RowV S' w' l a:=by
 rcases h with h1 | ⟨b,o,cs,f,ha,hs,hb,hr⟩
 ·exact .inl h1
 obtain⟨hA,hB⟩:=hb.kpV hk hs;exact .inr ⟨b,o,cs,f,ha,hA,hB,RC.kp hk l _ hr⟩
theorem RowP.kp {S S':Nat→Prop}{w w':World}{l:List (Bs × J)}{a:Option Addr}(h:RowP S w l a)(hk:Kp S S' w w'):RowP S' w' l a:=by
 rcases h with h1 | ⟨b,o,cs,f,ha,hs,hb,hr⟩
 ·exact .inl h1
 obtain⟨hA,hB⟩:=hb.kpP hk hs;exact .inr ⟨b,o,cs,f,ha,hA,hB,RP.kp hk l _ hr⟩
theorem qu {b o:Nat} {cs:Array Value} {U:TypeId} {f:Nat × Nat} {w:World} (h0:Blk U w b cs f) {n k:Nat} {v:Value} (hv:((cs.toList.drop o).take n)[k]? = some v):w.cell? ⟨b,o+k,none⟩=some v:=by
 obtain⟨T,h,_⟩:=h0
 have h1:cs[o+k]? = some v:=by
  rw[List.getElem?_take]at hv;split at hv
  ·rw[List.getElem?_drop]at hv;simpa using hv
  simp at hv
 simp[World.cell?,h,h1]
theorem RowV.at {S:Nat→Prop}{w:World}{l:List J}{a:Option Addr}(h:RowV S w l a){i:Nat}{j:J}(hi:l[i]? = some j) :
 ∃ b o c0 c1 c2 c3 c4,a=some ⟨b,o,none⟩∧b<w.heap.size∧w.cell? ⟨b,o+i * 5,none⟩=some c0∧w.cell? ⟨b,o+i * 5+1,none⟩=some c1∧w.cell? ⟨b,o+i * 5+2,none⟩=some c2∧w.cell? ⟨b,o+i * 5+3,none⟩=some c3∧w.cell? ⟨b,o+i * 5+4,none⟩=some c4∧RJ S w j (.agg #[c0,c1,c2,c3,c4]):=by
 rcases h with rfl | ⟨b,o,cs,f,ha,hs,hb,hr⟩
 ·simp at hi
 obtain⟨c0,c1,c2,c3,c4,e0,e1,e2,e3,e4,e5⟩:=RC.at l _ hr i j hi;rw[Nat.mul_comm i 5];exact⟨b,o,c0,c1,c2,c3,c4,ha,hb.lt,qu hb e0,qu (k:=5 * i+1) hb e1,qu (k:=5 * i+2) hb e2,qu (k:=5 * i+3) hb e3,qu (k:=5 * i+4) hb e4,e5⟩
theorem RowP.at {S:Nat→Prop}{w:World}{l:List (Bs × J)}{a:Option Addr}(h:RowP S w l a){i:Nat}{nm:Bs}{j:J}(hi:l[i]? = some (nm,j)) :
 ∃ b o c0 c1 c2 c3 c4,a=some ⟨b,o,none⟩∧b<w.heap.size∧w.cell? ⟨b,o+i * 6,none⟩=some (.string ⟨nm.toArray⟩)∧w.cell? ⟨b,o+i * 6+1,none⟩=some c0∧w.cell? ⟨b,o+i * 6+2,none⟩=some c1∧w.cell? ⟨b,o+i * 6+3,none⟩=some c2∧w.cell? ⟨b,o+i * 6+4,none⟩=some c3∧w.cell? ⟨b,o+i * 6+5,none⟩=some c4∧RJ S w j (.agg #[c0,c1,c2,c3,c4]):=by
 rcases h with rfl | ⟨b,o,cs,f,ha,hs,hb,hr⟩
 ·simp at hi
 obtain⟨c0,c1,c2,c3,c4,e0,e1,e2,e3,e4,e5,e6⟩:=RP.at l _ hr i nm j hi;rw[Nat.mul_comm i 6];exact⟨b,o,c0,c1,c2,c3,c4,ha,hb.lt,qu hb e0,qu (k:=6 * i+1) hb e1,qu (k:=6 * i+2) hb e2,qu (k:=6 * i+3) hb e3,qu (k:=6 * i+4) hb e4,qu (k:=6 * i+5) hb e5,e6⟩
theorem RJ.open {S:Nat→Prop}{w:World}{k n:Int}{t:Bs}{l:List J}{p:List (Bs × J)}{v:Value}(h:RJ S w (.mk k n t l p) v) :
 ∃ a1 c1 a2 c2,v = .agg #[.int .i64 k,.int .i64 n,.string ⟨t.toArray⟩,.slice a1 l.length c1,.slice a2 p.length c2]∧RowV S w l a1∧RowP S w p a2:=by
 unfold RJ at h;exact h
theorem Kp.ofFr {S:Nat→Prop}{w w':World}(hF:Fr NoB w w'):Kp S S w w':=Kp.fr hF (fun _ h _=>h) (fun _ _ _ _ _ h=>h)
end
end Go.Proofs.YtmgfncjfgkllcaaGreatDoor
