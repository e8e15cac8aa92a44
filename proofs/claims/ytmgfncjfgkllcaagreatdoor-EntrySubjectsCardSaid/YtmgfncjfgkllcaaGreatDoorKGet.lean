/-
 The value of a name in an object,as plain data.
-/
import Derived.Test.YtmgfncjfgkllcaaGreatDoorKUtf
import Derived.RangeFuncNested
import Derived.RangeFuncBound
import Derived.RangeFuncCalls
import Derived.RangeFuncLeaves
import Derived.Shelf.Abstract
import Derived.Shelf.RegionOpen
import Derived.OwnWalkIn
import Derived.TacticsInMore
import Derived.LoopNIn
import Derived.LoopIn
import Derived.Test.YtmgfncjfgkllcaaGreatDoorKNum
import Derived.Test.YtmgfncjfgkllcaaGreatDoorKStart5
open Go.Lib renaming hid→za
open Go.Proofs.Tryz renaming prog→ze
open Go.World renaming size_alloc→zf
open Go renaming heap_alloc_new→zh
open List renaming size_toArray→zn,length_cons→zo
open Nat renaming le_refl→zt
namespace Go.Proofs.YtmgfncjfgkllcaaGreatDoor
set_option linter.unusedVariables false
set_option linter.unusedSimpArgs false
set_option linter.unusedSectionVars false
set_option maxRecDepth 100000
set_option maxHeartbeats 4000000
section
def zd7 (nm:Bs):List (Bs × J)→Option J
 | []=>none
 | (n,x) :: p=>if n=nm then some x else zd7 nm p
def zb3 (b:J) (nm:Bs):Option J:=if b.kind=5 then zd7 nm b.pairs else none
end
section
open Go.RowKit Go.Shelf
variable [OldK]
attribute [local go_sem] Oper.semAt_some

def PV.enc (x:PV):Array Value:=#[.string ⟨x.nm.toArray⟩,.agg #[.int .i64 x.k,.int .i64 x.n,.string ⟨x.t.toArray⟩,.slice x.a1 x.n1 x.c1,.slice x.a2 x.n2 x.c2]]
theorem zo2 {α:Type} (P:Nat→α→Prop):∀ n:Nat,(∀ i,i<n→∃ y,P i y)→∃ xs:List α,xs.length=n∧∀ i y,xs[i]? = some y→P i y:=by
 intro n
 induction n with
 | zero=>intro _;exact⟨[],rfl,fun i y h=>by simp at h⟩
 | succ n ih =>
   intro h;obtain⟨xs,hl,hx⟩:=ih (fun i hi=>h i (by omega));obtain⟨y,hy⟩:=h n (by omega);refine⟨xs++[y],by simp[hl],fun i z hz=>?_⟩;rcases Nat.lt_trichotomy i n with hi | hi | hi
   ·rw[List.getElem?_append_left (by omega)]at hz;exact hx i z hz
   ·subst hi;rw[List.getElem?_append_right (by omega),hl]at hz;simp at hz;subst hz;exact hy
   rw[List.getElem?_eq_none (by simp;omega)]at hz;cases hz
def GRow (n₀ g o:Nat) (xs:List PV) (W:World):Prop:=g<n₀∧∀ (i:Nat) (x:PV),xs[i]? = some x→W.cell? ⟨g,o+i * 6,none⟩=some (.string ⟨x.nm.toArray⟩)∧W.cell? ⟨g,o+i * 6+1,none⟩=some (.int .i64 x.k)∧W.cell? ⟨g,o+i * 6+2,none⟩=some (.int .i64 x.n)∧W.cell? ⟨g,o+i * 6+3,none⟩=some (.string ⟨x.t.toArray⟩)∧W.cell? ⟨g,o+i * 6+4,none⟩=some (.slice x.a1 x.n1 x.c1)∧W.cell? ⟨g,o+i * 6+5,none⟩=some (.slice x.a2 x.n2 x.c2)
theorem GRow.below {n₀ g o:Nat}{xs:List PV}{A B:World}(h:GRow n₀ g o xs A)(hb:Below n₀ A B):GRow n₀ g o xs B:=by
 refine⟨h.1,fun i x hx=>?_⟩;obtain⟨e0,e1,e2,e3,e4,e5⟩:=h.2 i x hx;have c:=fun k v (hc:A.cell? ⟨g,k,none⟩=some v)=>(hb.cell (p:=⟨g,k,none⟩) h.1).trans hc
 exact⟨c _ _ e0,c _ _ e1,c _ _ e2,c _ _ e3,c _ _ e4,c _ _ e5⟩
theorem zun (F:Fence) (n:Nat) (h7:F.fn 264) (hro:F.round=none) (hn:1≤n) (l Bs n₀ g o len cap:Nat) (xs:List PV) (hlen:xs.length=len) (hll:len≤67108864) (J Jx:List PV→World→Prop)
 (hY:∀ pre x W,J pre W→pre.length<len→YieldAt F (n - 1) ze l (PV.enc x) W fun e W' =>
   (e = .returned (.bool true)∧J (pre++[x]) W'∧Below n₀ W W')∨(e = .returned (.bool false)∧Jx (pre++[x]) W'))
 (W:World) (hBs:Bs<n₀) (hn₀:n₀≤W.heap.size) (hB0:W.cell? ⟨Bs,0,none⟩=some (.int .i64 5)) (hB4:W.cell? ⟨Bs,4,none⟩=some (.slice (some ⟨g,o,none⟩) len cap)) (hr:GRow n₀ g o xs W) (h0:J [] W)
 (hJ:AbidesFrom W.heap.size J) :
 CallsIn F n ze 264 #[.func (.yield l) #[] #[],.pointer (some ⟨Bs,0,none⟩)] W fun e W'=>(∃ v,e = .returned v) ∧
  ((∃ ys,ys=xs∧J ys W')∨(∃ pre,pre <+: xs∧Jx pre W')):=by
 refine callsIn_of_wp Tryz.func264 rfl h7 ?_ hro;simp only[Tryz.ntmps264,zn,zo,List.length_nil,Nat.reduceAdd,Nat.reduceSub,Array.replicate_succ,Array.replicate_zero,List.push_toArray,List.append_toArray,List.nil_append,List.cons_append]
 gi_wp2
 gi_loopw [11] (fun i wr=>∃ k:Nat,k≤len∧i = .int .i64 k∧J (xs.take k) wr∧Below n₀ W wr∧W.heap.size≤wr.heap.size)
  (fun i _=>len - (intOf i).toNat)
 case atStart=>exact⟨0,Nat.zero_le _,rfl,h0,Below.refl _ _,zt _⟩
 case round =>
  obtain⟨k,hk,rfl,hA,hB,hsz⟩:=hrel;by_cases hlt:k<len
  ·obtain ⟨x,hx⟩:∃ x,xs[k]? = some x:=⟨_,List.getElem?_eq_getElem (by omega)⟩;obtain⟨e0,e1,e2,e3,e4,e5⟩:=(hr.below hB).2 k x hx;have hE:=hJ _ _ (wr.alloc (.cells #[.string ⟨x.nm.toArray⟩,.int .i64 x.k,.int .i64 x.n,.string ⟨x.t.toArray⟩,.slice x.a1 x.n1 x.c1,.slice x.a2 x.n2 x.c2] 133)) none hA (World.grownBy_alloc wr _ none) (fun r e=>by cases e);obtain⟨fn,tmps,assign,body,hy,hR⟩:=hY _ x _ hE (by rw[List.length_take];omega);unfold PV.enc at hy;have HX:=za hx;have Hnx:=za hB;clear hx hB hA hE
   gi_wp2
   refine hR.mono ?_;rintro e W3 (⟨rfl,hH,hC⟩ | ⟨rfl,hD⟩)
   ·have hF:Below n₀ W W3:=(Hnx.out.trans ((Below.refl n₀ wr).alloc (by omega) _)).trans hC;have hG:=hC.size;rw[zf]at hG;have hI:=za hF;clear hF hC
    gi_wp2
    go_roundw
    case rel=>exact⟨k+1,by omega,by simp,by rw[List.take_add_one,HX.out];exact hH,hI.out,by omega⟩
    case measure=>simp[intOf];omega
   gi_wp2
   refine bodyPost_ret (results_none rfl _ _ _) rfl ?_
   exact ⟨⟨_,rfl⟩,.inr ⟨_,⟨xs.drop (k+1),by
    have h2:=HX.out;obtain⟨h3,rfl⟩:=List.getElem?_eq_some_iff.1 h2
    rw[List.append_assoc,List.singleton_append,← List.drop_eq_getElem_cons h3,List.take_append_drop]⟩,hD⟩⟩
  obtain rfl:k=len:=by omega
  have e:xs.take k=xs:=List.take_of_length_le (by omega);rw[e]at hA
  gi_wp2
  go_end0
  exact⟨⟨_,rfl⟩,.inl ⟨_,rfl,hA⟩⟩
theorem zoz (F:Fence) (n:Nat) (h7:F.fn 264) (hro:F.round=none) (l Bs:Nat) (k:Int) (a:Option Addr) (len cap:Nat) (J:List PV→World→Prop)
 (W:World) (hB0:W.cell? ⟨Bs,0,none⟩=some (.int .i64 k)) (hB4:W.cell? ⟨Bs,4,none⟩=some (.slice a len cap)) (hk:(k != 5)=true∨((k != 5)=false∧len=0)) (h0:J [] W) :
 CallsIn F n ze 264 #[.func (.yield l) #[] #[],.pointer (some ⟨Bs,0,none⟩)] W fun e W'=>(∃ v,e = .returned v)∧J [] W':=by
 refine callsIn_of_wp Tryz.func264 rfl h7 ?_ hro;simp only[Tryz.ntmps264,zn,zo,List.length_nil,Nat.reduceAdd,Nat.reduceSub,Array.replicate_succ,Array.replicate_zero,List.push_toArray,List.append_toArray,List.nil_append,List.cons_append];rcases hk with hk | ⟨hk,rfl⟩
 ·gi_wp2
  refine bodyPost_ret (results_none rfl _ _ _) rfl ?_;exact⟨⟨_,rfl⟩,h0⟩
 gi_wp2
 gi_loopw [11] (fun i wr=>i = .int .i64 0∧J [] wr) (fun _ _=>0)
 case atStart=>exact⟨rfl,h0⟩
 case round =>
  obtain⟨rfl,hA⟩:=hrel
  gi_wp2
  go_end0
  exact⟨⟨_,rfl⟩,hA⟩
theorem zw9 (F:Fence)(n:Nat)(h5:F.fn 206)(hro:F.round=none)(c0 c1 c2 c3 c4:Value)(w:World) :
 CallsIn F n ze 206 #[.agg #[c0,c1,c2,c3,c4]] w fun e w'=>e = .returned (.func (.func 264) #[] #[.pointer (some ⟨w.heap.size,0,none⟩)])∧w'=w.alloc (.cells #[c0,c1,c2,c3,c4] 56):=by
 refine callsIn_of_wp Tryz.func206 rfl h5 ?_ hro;simp only[Tryz.ntmps206,zn,zo,List.length_nil,Nat.reduceAdd,Nat.reduceSub,Array.replicate_succ,Array.replicate_zero,List.push_toArray,List.append_toArray,List.nil_append,List.cons_append]
 gi_wp2
 go_ret;exact⟨rfl,rfl⟩
theorem zoy (F:Fence) (n:Nat) (h7:F.fn 264) (hro:F.round=none) (hn:1≤n) (Bs n₀:Nat) (k:Int) (a:Option Addr) (len cap:Nat) (xs:List PV) (hll:len≤67108864) (w:World) (hBs:Bs<n₀) (hn₀:n₀≤w.heap.size)
 (hB0:w.cell? ⟨Bs,0,none⟩=some (.int .i64 k)) (hB4:w.cell? ⟨Bs,4,none⟩=some (.slice a len cap)) (hx:(xs=[]∧(k≠5∨len=0))∨(k=5∧xs.length=len∧∃ g o,a=some ⟨g,o,none⟩∧GRow n₀ g o xs w)) :
 SeqStopsK F n ze 264 #[.pointer (some ⟨Bs,0,none⟩)] PV.enc (Below n₀) (fun ys=>ys=xs) (fun pre=>pre <+: xs) xs.length w:=fun l J Jx W hW hJ _ hY h0=>by
 have hWn:=hW.mono hn₀;have hc0:=(hWn.cell (p:=⟨Bs,0,none⟩) hBs).trans hB0;have hc4:=(hWn.cell (p:=⟨Bs,4,none⟩) hBs).trans hB4;rcases hx with⟨rfl,hk⟩ | ⟨rfl,rfl,g,o,rfl,hr⟩
 ·refine(zoz F n h7 hro l Bs k a len cap J W hc0 hc4 ?_ h0).mono fun e W' ⟨he,hj⟩=>⟨he,.inl ⟨_,rfl,hj⟩⟩
  by_cases h5:k=5
  ·exact .inr ⟨by simpa using h5,hk.resolve_left (fun h=>h h5)⟩
  exact .inl (by simpa using h5)
 exact zun F n h7 hro hn l Bs n₀ g o xs.length cap xs rfl hll J Jx hY W hBs (Nat.le_trans hn₀ hW.size) hc0 hc4 (hr.below hWn) h0 hJ
theorem zt0 {S:Nat→Prop} {w:World} {p:List (Bs × J)} {a:Option Addr} (h:RowP S w p a) (hp:p≠[]) :
 ∃ g o xs,a=some ⟨g,o,none⟩∧g<w.heap.size∧xs.length=p.length∧GRow w.heap.size g o xs w∧∀ (i:Nat) (x:PV) (nm:Bs) (j:J),xs[i]? = some x→p[i]? = some (nm,j)→x.nm=nm∧RJ S w j x.val:=by
 obtain ⟨q,p',rfl⟩:∃ q p',p=q :: p':=by
  cases p with
  | nil=>exact absurd rfl hp
  | cons q p'=>exact⟨q,p',rfl⟩
 obtain⟨b,o,-,-,-,-,-,ha,hC,-⟩:=h.at (i:=0) (nm:=q.1) (j:=q.2) rfl
 obtain ⟨xs,hl,hx⟩:=zo2 (α:=PV) (fun i y=>w.cell? ⟨b,o+i * 6,none⟩=some (.string ⟨y.nm.toArray⟩)∧w.cell? ⟨b,o+i * 6+1,none⟩=some (.int .i64 y.k)∧w.cell? ⟨b,o+i * 6+2,none⟩=some (.int .i64 y.n)∧w.cell? ⟨b,o+i * 6+3,none⟩=some (.string ⟨y.t.toArray⟩)∧w.cell? ⟨b,o+i * 6+4,none⟩=some (.slice y.a1 y.n1 y.c1)∧w.cell? ⟨b,o+i * 6+5,none⟩=some (.slice y.a2 y.n2 y.c2)∧∀ nm j,(q :: p')[i]? = some (nm,j)→y.nm=nm∧RJ S w j y.val) (q :: p').length (fun i hi=>by
  obtain⟨⟨nm,j⟩,hj⟩:∃ r,(q :: p')[i]? = some r:=⟨_,List.getElem?_eq_getElem hi⟩;obtain⟨b',o',x0,x1,x2,x3,x4,eb,hbl,e5,e0,e1,e2,e3,e4,hB⟩:=h.at hj;obtain⟨rfl,rfl⟩:b=b'∧o=o':=by rw[ha]at eb;simpa using eb
  obtain⟨jk,jn,jt,jl,jp⟩:=j;obtain⟨y1,n1,y2,n2,hA,_,_⟩:=hB.open;obtain⟨rfl,rfl,rfl,rfl,rfl⟩:x0 = .int .i64 jk∧x1 = .int .i64 jn∧x2 = .string ⟨jt.toArray⟩∧x3 = .slice y1 jl.length n1∧x4 = .slice y2 jp.length n2:=by simpa using hA
  exact⟨⟨nm,jk,jn,jt,y1,jl.length,n1,y2,jp.length,n2⟩,e5,e0,e1,e2,e3,e4,fun nm' j' h'=>by rw[hj]at h';cases h';exact⟨rfl,hB⟩⟩)
 exact⟨b,o,xs,ha,hC,hl,⟨hC,fun i x hi=>by obtain⟨e0,e1,e2,e3,e4,e5,_⟩:=hx i x hi;exact⟨e0,e1,e2,e3,e4,e5⟩⟩,fun i x nm j hi hj=>(hx i x hi).2.2.2.2.2.2 nm j hj⟩
theorem zu8 {nm:Bs}:∀ {p:List (Bs × J)},(∀ q∈p,q.1≠nm)→zd7 nm p=none:=by
 intro p
 induction p with
 | nil=>intro _;rfl
 | cons q p ih=>intro h;obtain⟨n,x⟩:=q;rw[zd7,if_neg (h (n,x) (by simp)),ih (fun r hr=>h r (by simp[hr]))]
theorem zz6 {nm:Bs} {j:J}:∀ {p:List (Bs × J)} {i:Nat},p[i]? = some (nm,j)→(∀ k,k<i→∀ q,p[k]? = some q→q.1≠nm)→zd7 nm p=some j:=by
 intro p
 induction p with
 | nil=>intro i h;simp at h
 | cons q p ih =>
   intro i h h2;obtain⟨n,x⟩:=q;cases i with
   | zero=>simp at h;obtain⟨rfl,rfl⟩:=h;rw[zd7,if_pos rfl]
   | succ i=>rw[zd7,if_neg (h2 0 (by omega) (n,x) rfl),ih (i:=i) (by simpa using h) (fun k hk q hq=>h2 (k+1) (by omega) q (by simpa using hq))]
theorem zcg {β:Type}(k:Nat)(cs:Array Value)(T:TypeId)(f:Nat × Nat):Own (fun(_:β) W=>W.heap[k]? = some (.cells cs T f)):=fun s W W' row hs hg hr=>by
 refine(hg.block k (jb hs) (fun e=>?_)).trans hs;obtain⟨o,ho,hc⟩:=hr k e.symm;rw[hs]at ho;cases ho;cases hc
theorem zru {b:Nat} {W:World} {T:TypeId} {q0 q1 q2 q3 q4 r:Value} (h2:W.heap[b]? = some (.cells #[q0,q1,q2,q3,q4] 56 (0,0))) (h3:W.heap[b+1]? = some (.cells #[r] T (0,0))) (v0 v1 v2 v3 v4 u:Value) :
 ∃ W2,(setV b v0 v1 v2 v3 v4 W).setCell ⟨b+1,0,none⟩ u=W2∧W2.heap[b]? = some (.cells #[v0,v1,v2,v3,v4] 56 (0,0))∧W2.heap[b+1]? = some (.cells #[u] T (0,0))∧KeepsOthers W W2∧(∀ n₀,n₀≤b→n₀≤W.heap.size→Below n₀ W W2):=by
 refine⟨_,rfl,?_,?_,?_,?_⟩
 ·refine(Below.heap_setCell _ _ _ _ (by simp)).trans ?_;exact z7 (o:=4) v4 (z7 (o:=3) v3 (z7 (o:=2) v2 (z7 (o:=1) v1 (z7 (o:=0) v0 h2))))
 ·have h5:(setV b v0 v1 v2 v3 v4 W).heap[b+1]? = some (.cells #[r] T (0,0)):=by
   unfold setV;rw[Below.heap_setCell _ _ _ _ (by simp),Below.heap_setCell _ _ _ _ (by simp),Below.heap_setCell _ _ _ _ (by simp),Below.heap_setCell _ _ _ _ (by simp),Below.heap_setCell _ _ _ _ (by simp)];exact h3
  exact z7 (o:=0) u h5
 ·unfold setV;exact((((((KeepsOthers.setCell W _ _).trans (KeepsOthers.setCell _ _ _)).trans (KeepsOthers.setCell _ _ _)).trans (KeepsOthers.setCell _ _ _)).trans (KeepsOthers.setCell _ _ _)).trans (KeepsOthers.setCell _ _ _))
 intro n₀ h1 _;unfold setV;exact((((((Below.refl n₀ W).setCell (p:=⟨b,0,none⟩) h1 _).setCell (p:=⟨b,1,none⟩) h1 _).setCell (p:=⟨b,2,none⟩) h1 _).setCell (p:=⟨b,3,none⟩) h1 _).setCell (p:=⟨b,4,none⟩) h1 _).setCell (p:=⟨b+1,0,none⟩) (by simp;omega) _
theorem z1f (S:Nat→Prop) (k n:Int) (t:Bs) (l:List J) (p:List (Bs × J)) (v:Value) (nm:Bs) (w:World) (h:RJ S w (.mk k n t l p) v) (hpl:p.length≤67108864) :
 CallsIn Fence.wide 5 ze 135 #[v,.string ⟨nm.toArray⟩] w fun e W'=>∃ x,e = .returned (.tuple #[x,.bool (zb3 (.mk k n t l p) nm).isSome])∧RJ S W' ((zb3 (.mk k n t l p) nm).getD J.zero) x∧Fr NoB w W':=by
 obtain⟨a1,c1,a2,c2,rfl,hl,hp⟩:=h.open;obtain⟨W0,hI⟩:∃ W0,((((w.alloc (.cells #[.int .i64 k,.int .i64 n,.string ⟨t.toArray⟩,.slice a1 l.length c1,.slice a2 p.length c2] 56)).alloc (.cells #[.string ⟨nm.toArray⟩] 9)).alloc (.cells #[.int .i64 0,.int .i64 0,.string ⟨#[]⟩,.slice none 0 0,.slice none 0 0] 56)).alloc (.cells #[.bool false] 4)).alloc (.cells #[.int .i64 k,.int .i64 n,.string ⟨t.toArray⟩,.slice a1 l.length c1,.slice a2 p.length c2] 56)=W0:=⟨_,rfl⟩;have hY:W0.heap.size=w.heap.size+5:=by rw[← hI];simp
 have hG:Below w.heap.size w W0:=by rw[← hI];exact(((((Below.refl _ w).alloc (zt _) _).alloc (by simp) _).alloc (by simp;try omega) _).alloc (by simp;try omega) _).alloc (by simp;try omega) _
 have hj:Fr NoB w W0:=Fr.ofBelow hG
 have hh:W0.heap[w.heap.size+1]? = some (.cells #[.string ⟨nm.toArray⟩] 9 (0,0)):=by
  rw[← hI];have:=zh (w.alloc (.cells #[.int .i64 k,.int .i64 n,.string ⟨t.toArray⟩,.slice a1 l.length c1,.slice a2 p.length c2] 56)) (.cells #[.string ⟨nm.toArray⟩] 9);rw[zf]at this;exact(((Fr.refl (M:=NoB)).alloc _ |>.alloc _ |>.alloc _).block _ _ this (fun h=>h))
 have hf:W0.heap[w.heap.size+2]? = some (.cells #[.int .i64 0,.int .i64 0,.string ⟨#[]⟩,.slice none 0 0,.slice none 0 0] 56 (0,0)):=by
  rw[← hI];have:=zh ((w.alloc (.cells #[.int .i64 k,.int .i64 n,.string ⟨t.toArray⟩,.slice a1 l.length c1,.slice a2 p.length c2] 56)).alloc (.cells #[.string ⟨nm.toArray⟩] 9)) (.cells #[.int .i64 0,.int .i64 0,.string ⟨#[]⟩,.slice none 0 0,.slice none 0 0] 56);rw[zf,zf]at this;exact(((Fr.refl (M:=NoB)).alloc _ |>.alloc _).block _ _ this (fun h=>h))
 have he:W0.heap[w.heap.size+3]? = some (.cells #[.bool false] 4 (0,0)):=by
  rw[← hI];have:=zh (((w.alloc (.cells #[.int .i64 k,.int .i64 n,.string ⟨t.toArray⟩,.slice a1 l.length c1,.slice a2 p.length c2] 56)).alloc (.cells #[.string ⟨nm.toArray⟩] 9)).alloc (.cells #[.int .i64 0,.int .i64 0,.string ⟨#[]⟩,.slice none 0 0,.slice none 0 0] 56)) (.cells #[.bool false] 4);rw[zf,zf,zf]at this;exact(((Fr.refl (M:=NoB)).alloc _).block _ _ this (fun h=>h))
 have hd:W0.heap[w.heap.size+4]? = some (.cells #[.int .i64 k,.int .i64 n,.string ⟨t.toArray⟩,.slice a1 l.length c1,.slice a2 p.length c2] 56 (0,0)):=by
  rw[← hI];have:=zh ((((w.alloc (.cells #[.int .i64 k,.int .i64 n,.string ⟨t.toArray⟩,.slice a1 l.length c1,.slice a2 p.length c2] 56)).alloc (.cells #[.string ⟨nm.toArray⟩] 9)).alloc (.cells #[.int .i64 0,.int .i64 0,.string ⟨#[]⟩,.slice none 0 0,.slice none 0 0] 56)).alloc (.cells #[.bool false] 4)) (.cells #[.int .i64 k,.int .i64 n,.string ⟨t.toArray⟩,.slice a1 l.length c1,.slice a2 p.length c2] 56);rw[zf,zf,zf,zf]at this;exact this
 obtain⟨q0,q1,q2,q3,q4,-,-⟩:=VB.at hd
 -- the pairs
 obtain ⟨xs,hW,hX⟩:∃ xs:List PV,((xs=[]∧(k≠5∨p.length=0))∨(k=5∧xs.length=p.length∧∃ g o,a2=some ⟨g,o,none⟩∧GRow W0.heap.size g o xs W0))∧(k=5→∀ (i:Nat) (x:PV) (nm:Bs) (j:J),xs[i]? = some x→p[i]? = some (nm,j)→x.nm=nm∧RJ S w j x.val):=by
  by_cases hk:k=5
  ·by_cases hZ:p=[]
   ·subst hZ;exact⟨[],.inl ⟨rfl,.inr rfl⟩,fun _ i x nm j hi _=>by simp at hi⟩
   obtain⟨g,o,xs,ha,hg,h8,hR,hx⟩:=zt0 hp hZ;exact⟨xs,.inr ⟨hk,h8,g,o,ha,⟨by omega,fun i x hi=>(hR.below hG).2 i x hi⟩⟩,fun _=>hx⟩
  exact⟨[],.inl ⟨rfl,.inl hk⟩,fun h=>absurd h hk⟩
 have Hxs:=za hW;have Hxp:=za hX;have AF:=za hh;have ht:=za hf;have ho:=za he;have hM:=za hG;have HF0:=za hj;have AC:=za hY;have AE:=za q0;have AD:=za q4;have AG:=za hI;have Hh:=za h;clear hW hX hh hf he hd hG hj hY q0 q1 q2 q3 q4 hl hp hI h;refine callsIn_of_wp_marks Tryz.func135 rfl trivial ?_ rfl;simp only[Tryz.ntmps135,zn,zo,List.length_nil,Nat.reduceAdd,Nat.reduceSub,Array.replicate_succ,Array.replicate_zero,List.push_toArray,List.append_toArray,List.nil_append,List.cons_append]
 gi_wp2_with fail
 refine⟨trivial,?_⟩;refine(zw9 Fence.wide 4 trivial rfl _ _ _ _ _ _).mono ?_;rintro e w' ⟨rfl,rfl⟩
 gi_wp2_with fail
 rw[AG.out];have hW5:=AC.out
 refine wpIn_rangeFunc_ownH (w:=W0) rfl (by omega) (gf:=264) (lb:=#[.pointer (some ⟨w.heap.size+1+1+1+1,0,none⟩)]) rfl trivial (enters_of Tryz.func264 (by kernel_rfl) rfl)
  (zoy Fence.wide 4 trivial rfl (by omega) (w.heap.size+1+1+1+1) W0.heap.size k a2 p.length c2 xs hpl W0 (by omega) (zt _) AE.out AD.out Hxs.out)
  belowK_t (belowK_b (zt _)) (Below.refl _ _) (fun _=>rfl)
  (fun hF W=>(∀ y∈hF,PV.nm y≠nm)∧Below W0.heap.size W0 W)
  (fun c hF W=>(c = .ret∧∃ hC x,hF=hC++[x]∧(∀ y∈hC,PV.nm y≠nm)∧PV.nm x=nm∧W.heap[w.heap.size+2]? = some (.cells #[.int .i64 x.k,.int .i64 x.n,.string ⟨x.t.toArray⟩,.slice x.a1 x.n1 x.c1,.slice x.a2 x.n2 x.c2] 56 (0,0))∧W.heap[w.heap.size+3]? = some (.cells #[.bool true] 4 (0,0)))∧Below w.heap.size w W)
  (OwnFrom.and (ownFrom_pure _ (fun hF=>∀ y∈hF,PV.nm y≠nm)) (ownFrom_below (zt _) (zt _)))
  (fun c s A B hJ hs hg hr=>by
    obtain⟨⟨hc,hC,x,e1,e2,e3,b2,b3⟩,hB⟩:=hs
    exact⟨⟨hc,hC,x,e1,e2,e3,zcg (β:=Unit) _ _ _ _ () A B hJ b2 hg (fun r e=>(hr r e).2),zcg (β:=Unit) _ _ _ _ () A B hJ b3 hg (fun r e=>(hr r e).2)⟩,ownFrom_below (β:=Unit) (n₀:=w.heap.size) (B:=W0.heap.size) (w₀:=w) (zt _) (by omega) () A B hJ hB hg hr⟩)
  ⟨(fun y h=>by cases h),Below.refl _ _⟩
  (fun x a' W=>∃ Bx,W0.heap.size≤Bx∧W.heap[Bx]? = some (.cells #[.int .i64 (PV.k x),.int .i64 x.n,.string ⟨x.t.toArray⟩,.slice x.a1 x.n1 x.c1,.slice x.a2 x.n2 x.c2] 56 (0,0))∧a'={ tmps:=#[Value.agg #[.int .i64 k,.int .i64 n,.string ⟨t.toArray⟩,.slice a1 l.length c1,.slice a2 p.length c2],.string ⟨nm.toArray⟩,.pointer (some ⟨w.heap.size,0,none⟩),.pointer (some ⟨w.heap.size+1,0,none⟩),.pointer (some ⟨w.heap.size+1+1,0,none⟩),.pointer (some ⟨w.heap.size+1+1+1,0,none⟩),.string ⟨x.nm.toArray⟩,.pointer (some ⟨Bx,0,none⟩),Value.agg #[.int .i64 k,.int .i64 n,.string ⟨t.toArray⟩,.slice a1 l.length c1,.slice a2 p.length c2],.func (.func 264) #[] #[.pointer (some ⟨w.heap.size+1+1+1+1,0,none⟩)],.string ⟨x.nm.toArray⟩,.agg #[.int .i64 x.k,.int .i64 x.n,.string ⟨x.t.toArray⟩,.slice x.a1 x.n1 x.c1,.slice x.a2 x.n2 x.c2],undef,undef,undef,undef,undef],defers:=[] })
  (fun x a' s A B hJ hs hg hr=>by
    obtain⟨Bx,h1,h2,h3⟩:=hs
    exact⟨Bx,h1,zcg (β:=Unit) _ _ _ _ () A B hJ h2 hg (fun r e=>(hr r e).2),h3⟩) ?assign ?body ?done ?stop
 case assign =>
  rintro l hF x W K ⟨hp,hB⟩ hK;have Hp:=za hp;have HB:=za hB;have HK:=za hK;clear hp hB hK;unfold PV.enc
  gi_wp2
  exact HK.out _ _ ((KeepsOthers.alloc _ _).from _) ((Below.refl _ W).alloc HB.out.size _) ⟨Hp.out,HB.out.alloc HB.out.size _⟩ ⟨W.heap.size,HB.out.size,zh W _,rfl⟩
 case body =>
  rintro l hF x a' W hl ⟨r,hr⟩ ⟨hp,hB⟩ ⟨Bx,hn,hT,rfl⟩ hlt
  have hn1:W.cell? ⟨w.heap.size+1,0,none⟩=some (.string ⟨nm.toArray⟩):=by
   have:=(hB.block _ (by omega)).trans AF.out;simp[World.cell?,this]
  have hH:=(hB.block _ (by omega)).trans ht.out;have hE:=(hB.block _ (by omega)).trans ho.out;obtain⟨x0,x1,x2,x3,x4,xz,xlt⟩:=VB.at hT;have Hp:=za hp;have HB:=za hB;have hV:=za hH;have hU:=za hE;cases hx:(x.nm==nm) with
  | true =>
    obtain⟨r0,r1,r2,r3,r4,rz,hu⟩:=VB.at hH;have s0:W.cell? ⟨w.heap.size+1+1+1,0,none⟩=some (.bool false):=by simp[World.cell?,hE]
    have sz:W.frozen? ⟨w.heap.size+1+1+1,0,none⟩=false:=by simp[World.frozen?,hE]
    have Hx:=za hx;clear hp hB hH hE hT hl hr hn
    gi_wp2
    have hw:x.nm=nm:=by have h:=Hx.out;simpa using h
    refine⟨((((((KeepsOthers.setCell W _ _).trans (KeepsOthers.setCell _ _ _)).trans (KeepsOthers.setCell _ _ _)).trans (KeepsOthers.setCell _ _ _)).trans (KeepsOthers.setCell _ _ _)).trans (KeepsOthers.setCell _ _ _)).from _,⟨rfl,hF,x,rfl,Hp.out,hw,?_,?_⟩,?_⟩
    ·refine(Below.heap_setCell _ _ _ _ (by simp)).trans ?_;have h5:=z7 (o:=4) (.slice x.a2 x.n2 x.c2) (z7 (o:=3) (.slice x.a1 x.n1 x.c1) (z7 (o:=2) (.string ⟨x.t.toArray⟩) (z7 (o:=1) (.int .i64 x.n) (z7 (o:=0) (.int .i64 x.k) hV.out))));exact h5
    ·have h5:((((((W.setCell ⟨w.heap.size+1+1,0,none⟩ (.int .i64 x.k)).setCell ⟨w.heap.size+1+1,1,none⟩ (.int .i64 x.n)).setCell ⟨w.heap.size+1+1,2,none⟩ (.string ⟨x.t.toArray⟩)).setCell ⟨w.heap.size+1+1,3,none⟩ (.slice x.a1 x.n1 x.c1)).setCell ⟨w.heap.size+1+1,4,none⟩ (.slice x.a2 x.n2 x.c2))).heap[w.heap.size+3]? = some (.cells #[.bool false] 4 (0,0)):=by
      rw[Below.heap_setCell _ _ _ _ (by simp),Below.heap_setCell _ _ _ _ (by simp),Below.heap_setCell _ _ _ _ (by simp),Below.heap_setCell _ _ _ _ (by simp),Below.heap_setCell _ _ _ _ (by simp)];exact hU.out
     exact z7 (o:=0) (.bool true) h5
    have h0:Below w.heap.size w W:=hM.out.trans (HB.out.mono (by omega));exact(((((h0.setCell (p:=⟨_,_,none⟩) (by simp;omega) _).setCell (p:=⟨_,_,none⟩) (by simp;omega) _).setCell (p:=⟨_,_,none⟩) (by simp;omega) _).setCell (p:=⟨_,_,none⟩) (by simp;omega) _).setCell (p:=⟨_,_,none⟩) (by simp;omega) _).setCell (p:=⟨_,_,none⟩) (by simp;omega) _
  | false =>
    have Hx:=za hx;clear hp hB hH hE hT hl hr hn
    gi_wp2
    have hO:x.nm≠nm:=by have h:=Hx.out;simpa using h
    exact⟨KeepsFrom.refl _ _,Below.refl _ _,⟨fun y hy=>(List.mem_append.1 hy).elim (Hp.out y) (fun e=>by simp at e;subst e;exact hO),HB.out⟩⟩
 case done =>
  rintro D ys W hD rfl ⟨hO,hB⟩ hK;have hH:=(hB.block _ (by omega)).trans ht.out;have hE:=(hB.block _ (by omega)).trans ho.out;obtain⟨r0,r1,r2,r3,r4,rz,hu⟩:=VB.at hH;have s0:W.cell? ⟨w.heap.size+1+1+1,0,none⟩=some (.bool false):=by simp[World.cell?,hE]
  have sz:W.frozen? ⟨w.heap.size+1+1+1,0,none⟩=false:=by simp[World.frozen?,hE]
  have Hne:=za hO;have HB:=za hB;have HK:=za hK;have hV:=za hH;have hU:=za hE;clear hO hB hK hH hE
  gi_wp2
  obtain⟨W2,eW,k2,k3,h9,AB⟩:=zru (b:=w.heap.size+1+1) hV.out hU.out (.int .i64 0) (.int .i64 0) (.string ⟨#[]⟩) (.slice none 0 0) (.slice none 0 0) (.bool false);unfold setV at eW;rw[eW];have hQ:=h9.same D _ HK.out rfl;refine⟨by simp,.inl ⟨_,_,rfl,run_takeDeferred hQ,?_⟩⟩;have hP:Below w.heap.size w (W2.putObj D (.deferred none)):=((hM.out.trans (HB.out.mono (by omega))).trans (AB w.heap.size (by omega) (by have:=HB.out.size;omega))).trans (belowK_b (w:=W0) (by omega) W2 D _ _ hD hQ rfl rfl);have m2:=zcg (β:=Unit) _ _ _ _ () _ _ _ k2 (grownBy_putObj' W2 D (.deferred none)) (fun r e=>by cases e;exact⟨_,hQ,rfl⟩);have m3:=zcg (β:=Unit) _ _ _ _ () _ _ _ k3 (grownBy_putObj' W2 D (.deferred none)) (fun r e=>by cases e;exact⟨_,hQ,rfl⟩);obtain⟨t0,t1,t2,t3,t4,-,-⟩:=VB.at m2;have u0:(W2.putObj D (.deferred none)).cell? ⟨w.heap.size+1+1+1,0,none⟩=some (.bool false):=by simp[World.cell?,m3]
  have h6:zb3 (.mk k n t l p) nm=none:=by
   unfold zb3;by_cases hk:k=5
   ·rw[if_pos (by exact hk)];refine zu8 fun q hq=>?_
    obtain⟨i,hi⟩:=List.getElem?_of_mem hq;rcases Hxs.out with⟨h0,h⟩ | ⟨_,hl,_⟩
    ·have h4:p=[]:=List.length_eq_zero_iff.1 (h.resolve_left (fun h=>h hk));rw[h4]at hq;cases hq
    obtain⟨x,hx⟩:∃ x,ys[i]? = some x:=⟨_,List.getElem?_eq_getElem (by rw[hl];exact(List.getElem?_eq_some_iff.1 hi).1)⟩;have:=(Hxp.out hk i x q.1 q.2 hx hi).1;rw[← this];exact Hne.out x (List.mem_of_getElem? hx)
   rw[if_neg (by exact hk)]
  rw[h6];refine⟨.tuple #[.agg #[.int .i64 0,.int .i64 0,.string ⟨#[]⟩,.slice none 0 0,.slice none 0 0],.bool false],?_,_,rfl,RJ.zero _ _,Fr.ofBelow hP⟩;simp[results,Tryz.f135,go_sem,t0,t1,t2,t3,t4,u0]
 case stop =>
  rintro D c hF W hD hS ⟨⟨rfl,hC,x,e1,e2,e3,b2,b3⟩,hB⟩ hK
  gi_wp2
  refine⟨by simp,.inl ⟨_,_,rfl,run_takeDeferred hK,?_⟩⟩;have hP:Below w.heap.size w (W.putObj D (.deferred none)):=hB.trans (belowK_b (w:=W0) (by omega) W D _ _ hD hK rfl rfl);have m2:=zcg (β:=Unit) _ _ _ _ () _ _ _ b2 (grownBy_putObj' W D (.deferred none)) (fun r e=>by cases e;exact⟨_,hK,rfl⟩);have m3:=zcg (β:=Unit) _ _ _ _ () _ _ _ b3 (grownBy_putObj' W D (.deferred none)) (fun r e=>by cases e;exact⟨_,hK,rfl⟩);obtain⟨t0,t1,t2,t3,t4,-,-⟩:=VB.at m2;have u0:(W.putObj D (.deferred none)).cell? ⟨w.heap.size+1+1+1,0,none⟩=some (.bool true):=by simp[World.cell?,m3]
  obtain⟨rest,hA⟩:=hS;rw[e1]at hA;have hN:xs[hC.length]? = some x:=by rw[← hA];simp
  obtain ⟨hk,hl,-⟩:k=5∧xs.length=p.length∧True:=by
   rcases Hxs.out with⟨h0,h⟩ | ⟨h,hl,_⟩
   ·rw[h0]at hN;simp at hN
   exact⟨h,hl,trivial⟩
  have AA:hC.length<p.length:=by rw[← hl];exact(List.getElem?_eq_some_iff.1 hN).1
  obtain⟨⟨hv,j'⟩,hb⟩:∃ q,p[hC.length]? = some q:=⟨_,List.getElem?_eq_getElem AA⟩;obtain⟨h7,hz⟩:=Hxp.out hk _ x hv j' hN hb
  have hL:zb3 (.mk k n t l p) nm=some j':=by
   unfold zb3;rw[if_pos (by exact hk)];refine zz6 (i:=hC.length) (by show p[hC.length]? = _;rw[hb,← h7,e3]) fun m hm q hq=>?_
   obtain⟨y,hy⟩:∃ y,xs[m]? = some y:=⟨_,List.getElem?_eq_getElem (by omega)⟩;have h1:=(Hxp.out hk m y q.1 q.2 hy hq).1;rw[← h1];refine e2 y ?_;rw[← hA,List.append_assoc,List.getElem?_append_left hm]at hy;exact List.mem_of_getElem? hy
  rw[hL];refine⟨.tuple #[x.val,.bool true],?_,_,rfl,RJ.kp (Kp.ofFr (Fr.ofBelow hP)) _ _ hz,Fr.ofBelow hP⟩;unfold PV.val;simp[results,Tryz.f135,go_sem,t0,t1,t2,t3,t4,u0]
theorem z2d (S:Nat→Prop)(j:J)(v:Value)(nm:Bs)(w:World)(h:RJ S w j v)(hfit:fits 67108864 j=true) :
 Calls ze 135 #[v,.string ⟨nm.toArray⟩] w fun e W'=>∃ x,e = .returned (.tuple #[x,.bool (zb3 j nm).isSome])∧RJ S W' ((zb3 j nm).getD J.zero) x∧Fr NoB w W':=by
 obtain⟨k,n,t,l,p⟩:=j;exact callsIn_wide.1 (z1f S k n t l p v nm w h (fits.open hfit).2.2.1)
end
end Go.Proofs.YtmgfncjfgkllcaaGreatDoor
