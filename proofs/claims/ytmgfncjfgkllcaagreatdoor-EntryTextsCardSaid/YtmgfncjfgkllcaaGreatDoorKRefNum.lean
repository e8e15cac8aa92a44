/-
 A text is parsed.
-/
import Derived.Test.YtmgfncjfgkllcaaGreatDoorKReader10
import Derived.Test.YtmgfncjfgkllcaaGreatDoorKOwn
import Derived.Test.YtmgfncjfgkllcaaGreatDoorKCellRows
import Derived.Test.YtmgfncjfgkllcaaGreatDoorKFits
namespace Go.Proofs.YtmgfncjfgkllcaaGreatDoor
set_option linter.unusedVariables false
set_option linter.unusedSimpArgs false
set_option linter.unusedSectionVars false
set_option maxRecDepth 100000
set_option maxHeartbeats 1000000
section
open Go.RowKit
variable [OldK]

def zf8 (n:Nat):Value:=if n=0 then .nilIface else .iface 49 (.int .i64 n)
def za8 (s:Bs):J × Nat:=if 4096<s.length then (J.zero,10) else match zhc s with | none=>(J.zero,1) | some j=>(j,0)
theorem zjo {r:Nat}{w w':World}(h:Fr (MR r) w w')(hr:w.heap.size≤r):Fr NoB w w' :=
 (Fr.refl (M:=NoB)).trans h (fun k _ hm => .inr (by rw[hm.1];exact hr))
theorem VB.at {b:Nat}{w:World}{q0 q1 q2 q3 q4:Value}(h:w.heap[b]? = some (.cells #[q0,q1,q2,q3,q4] 56 (0,0))) :
 w.cell? ⟨b,0,none⟩=some q0∧w.cell? ⟨b,1,none⟩=some q1∧w.cell? ⟨b,2,none⟩=some q2∧w.cell? ⟨b,3,none⟩=some q3∧w.cell? ⟨b,4,none⟩=some q4∧(∀ o,w.frozen? ⟨b,o,none⟩=false)∧b<w.heap.size :=
 ⟨by simp[World.cell?,h],by simp[World.cell?,h],by simp[World.cell?,h],by simp[World.cell?,h],by simp[World.cell?,h],by simp[World.frozen?,h],jb h⟩
theorem zq5 (S:Nat→Prop) (l:Bs) (v:Value) (w:World) (hv:SB S l v w) (hg:Gl w) (hlen:l.length≤maxLen) :
 Calls Tryz.prog 61 #[v] w fun e w'=>∃ x,e = .returned (.tuple #[x,zf8 (za8 l).2])∧RJ (fun k=>w.heap.size≤k) w' (za8 l).1 x∧Fr NoB w w':=by
 unfold za8;have hgs:=hg.size;obtain⟨a,cap,hB⟩:=hv.form;by_cases hl:4096<l.length
 ·simp only[if_pos hl];subst hB;unfold maxLen at hlen;go_enter Tryz.func61,Tryz.ntmps61
  go_wp2_with fail
  obtain⟨a0,a1,a2,a3,a4,fz,hK⟩:=VB.at (heap_alloc_new w (.cells #[.int .i64 0,.int .i64 0,.string ⟨#[]⟩,.slice none 0 0,.slice none 0 0] 56));refine bodyPost_ret (v := .tuple #[.agg #[.int .i64 0,.int .i64 0,.string ⟨#[]⟩,.slice none 0 0,.slice none 0 0],.iface 49 (.int .i64 10)]) (by simp[results,Tryz.results61,go_sem,a0,a1,a2,a3,a4]) rfl ?_;exact⟨_,rfl,RJ.zero _ _,Fr.refl.alloc _⟩
 simp only[if_neg hl];have hC:=fun r W hR hT=>zvg 10 0 r l false W hR hT (by omega) (by omega) (by omega) (by omega)
 have hA:∀ W,Fr NoB w W→(convert 24 9 v).run Tryz.prog W = .ok (.string ⟨l.toArray⟩) W:=fun W hF=>(hv.fr hF (fun _ _ _ _ h=>h)).text
 have ht:=hA _ (Fr.refl.alloc (.cells #[.int .i64 0,.int .i64 0,.string ⟨#[]⟩,.slice none 0 0,.slice none 0 0] 56));have hl2:decide ((4096:Int)<(l.length:Int))=false:=by rw[decide_eq_false_iff_not];omega
 unfold zhc;generalize jy 10 0 ⟨l,false⟩=G at *;obtain⟨j,s1,b1⟩:=G;have Hval:=Lib.hid hC;clear hC hA;simp only;obtain⟨bl,hL⟩:∃ bl,jg s1=bl:=⟨_,rfl⟩;rw[hL];have Hbl:=Lib.hid hL;clear hL
 have hD:(∃ G,G=(match if b1=true∨bl≠[] then none else some j with | none=>(J.zero,1) | some j=>(j,0))∧((b1=true∧G=(J.zero,1))∨(b1=false∧∃ y m,bl=y :: m∧G=(J.zero,1))∨(b1=false∧bl=[]∧G=(j,0)))):=by
  refine⟨_,rfl,?_⟩;cases b1 with
  | true=>left;simp
  | false =>
    right;cases bl with
    | nil=>right;simp
    | cons y m=>left;exact⟨rfl,y,m,rfl,by simp⟩
 obtain⟨G,hG,hc⟩:=hD;rw[← hG];clear hG;rcases hc with⟨rfl,rfl⟩ | ⟨rfl,y,m,rfl,rfl⟩ | ⟨rfl,rfl,rfl⟩
 all_goals
  subst hB;clear hl;go_enter Tryz.func61,Tryz.ntmps61
  go_wp2_with fail
  have hS:(w.alloc (.cells #[.int .i64 0,.int .i64 0,.string ⟨#[]⟩,.slice none 0 0,.slice none 0 0] 56)).heap.size=w.heap.size+1:=World.size_alloc _ _;have hE:=heap_alloc_new (w.alloc (.cells #[.int .i64 0,.int .i64 0,.string ⟨#[]⟩,.slice none 0 0,.slice none 0 0] 56)) (.cells #[.string ⟨l.toArray⟩,.bool false,.int .i64 0] 203);rw[hS]at hE;have hW:=(VB.new w (.int .i64 0) (.int .i64 0) (.string ⟨#[]⟩) (.slice none 0 0) (.slice none 0 0)).fr (Fr.refl.alloc (M:=NoB) (.cells #[.string ⟨l.toArray⟩,.bool false,.int .i64 0] 203)) (fun _ _ h=>h);refine(Hval.out (w.heap.size+1) _ ⟨by omega,hE⟩ ((hg.alloc _).alloc _).zero).mono ?_;rintro e w1 ⟨x,rfl,hj,hX,hN⟩;have hV:=hW.rd hN;obtain⟨jk,jn,jt,jl,jp⟩:=j;have hO:=hj;unfold RJ at hO;obtain⟨x1,n1,x2,n2,rfl,_,_⟩:=hO;have Hj:=Lib.hid hj;clear hj
  go_wp2_with fail
  refine(zdd _ _ _ _ _ (hX.alloc _)).mono ?_;rintro e w2 ⟨rfl,hP,hH⟩;rw[Hbl.out]at hP;have hU:=(hV.fr (Fr.refl.alloc (M:=NoB) _) (fun _ _ h=>h)).rd hH;have hQ:=hH.block _ _ (heap_alloc_new w1 _) (fun⟨_,_,_,hm⟩=>by simp at hm);obtain⟨q0,q1,q2,q3,q4,a0,a1,a2,a3,a4,fz,hK⟩:=hU.cells;obtain⟨b0,b1,b2,b3,b4,bz,blt⟩:=VB.at hQ;obtain⟨c0,c1,c2,f1,hr1⟩:=hP.cells
  go_wp2_with fail
  have hM:Fr (MR (w.heap.size+1)) w w2:=((((Fr.refl.alloc _).alloc _).trans' hN).alloc _).trans' hH;have hJ:=hN.size;have hI:=hH.size;simp only[World.size_alloc]at hJ hI
 ·refine bodyPost_ret (v := .tuple #[.agg #[.int .i64 0,.int .i64 0,.string ⟨#[]⟩,.slice none 0 0,.slice none 0 0],.iface 49 (.int .i64 1)]) (by simp[results,Tryz.results61,go_sem,a0,a1,a2,a3,a4]) rfl ?_;exact⟨_,rfl,RJ.zero _ _,zjo (hM.setV (Nat.le_refl _) _ _ _ _ _) (by omega)⟩
 ·refine bodyPost_ret (v := .tuple #[.agg #[.int .i64 0,.int .i64 0,.string ⟨#[]⟩,.slice none 0 0,.slice none 0 0],.iface 49 (.int .i64 1)]) (by simp[results,Tryz.results61,go_sem,a0,a1,a2,a3,a4]) rfl ?_;exact⟨_,rfl,RJ.zero _ _,zjo (hM.setV (Nat.le_refl _) _ _ _ _ _) (by omega)⟩
 refine bodyPost_ret (v := .tuple #[.agg #[.int .i64 jk,.int .i64 jn,.string ⟨jt.toArray⟩,.slice x1 jl.length n1,.slice x2 jp.length n2],.nilIface]) (by simp[results,Tryz.results61,go_sem,a0,a1,a2,a3,a4]) rfl ?_;refine⟨_,rfl,RJ.kp (fun b o hb ho _=>?_) _ _ (RJ.old _ _ Hj.out),zjo (hM.setV (Nat.le_refl _) _ _ _ _ _) (by omega)⟩;simp only[World.size_alloc]at hb
 rename_i hty
 have h1:=(Fr.refl (M:=NoB)).alloc (.cells #[.int .i64 jk,.int .i64 jn,.string ⟨jt.toArray⟩,.slice x1 jl.length n1,.slice x2 jp.length n2] 56) |>.block b o ho (fun h=>h)
 have h2:=hH.block b o h1 (fun⟨hm,_⟩=>by omega);exact⟨by omega,(za5 _ _ _ _ _ _ _).block b o h2 (by omega)⟩
end
section
open Go.RowKit
variable [OldK]

theorem RJ.lt {S:Nat→Prop}{w:World}{j:J}{v:Value}(h:RJ S w j v):RJ (fun k=>S k∧k<w.heap.size) w j v :=
 RJ.kp (fun b o hs hb _=>⟨⟨hs,jb hb⟩,hb⟩) j v h
theorem RowV.lt {S:Nat→Prop}{w:World}{l:List J}{a:Option Addr}(h:RowV S w l a):RowV (fun k=>S k∧k<w.heap.size) w l a :=
 h.kp (fun b o hs hb _=>⟨⟨hs,jb hb⟩,hb⟩)
theorem RowP.lt {S:Nat→Prop}{w:World}{l:List (Bs × J)}{a:Option Addr}(h:RowP S w l a):RowP (fun k=>S k∧k<w.heap.size) w l a :=
 h.kp (fun b o hs hb _=>⟨⟨hs,jb hb⟩,hb⟩)
def LRow (S:Nat→Prop) (N:Nat) (l:List J) (lv:Value) (w:World):Prop :=
 ∃ xs,w.ownsRow N 56 5 lv l.length xs∧RC (fun k=>(S k∨N≤k)∧lv.ownBlock≠some k) w l xs
theorem LRow.nil (S:Nat→Prop)(N:Nat)(w:World):LRow S N [] (.slice none 0 0) w:=⟨[],⟨rfl,.inl ⟨rfl,rfl⟩⟩,by unfold RC;rfl⟩
theorem LRow.fr {S:Nat→Prop}{N:Nat}{l:List J}{lv:Value}{w w':World}(h:LRow S N l lv w)(hF:Fr NoB w w'):LRow S N l lv w':=by
 obtain⟨xs,hA,hB⟩:=h;exact⟨xs,za1 hA hF (fun _ _ _ _ _ h=>h),RC.kp (Kp.ofFr hF) l xs hB⟩
theorem zas {W w2:World}{row:Option Nat}(hgr:W.grownBy w2 row){k:Nat}{o:Obj}(hk:W.heap[k]? = some o)(hne:row≠some k):w2.heap[k]? = some o :=
 (Fr.ofGrown hgr).block k o hk (fun e=>hne e.symm)
theorem zeh {w:World}{k:Nat}{o:Obj}(Z:Obj)(hk:w.heap[k]? = some o):(w.alloc Z).heap[k]? = some o :=
 ((Fr.refl (M:=NoB)).alloc Z).block k o hk (fun h=>h)
theorem zgp {w:World}{b c k:Nat}{o:Obj}{x:Value}(hk:w.heap[k]? = some o)(hne:k≠b):(w.setCell ⟨b,c,none⟩ x).heap[k]? = some o:=by
 rw[Below.heap_setCell _ _ _ _ hne];exact hk
section
variable {S:Nat→Prop} {N M bv g cap c n':Nat} {w1 w2:World} {Z:Obj} {lv X:Value} {xs:List Value} {e:TypeId}
theorem zja (hgr:(w1.alloc Z).grownBy w2 lv.ownBlock):Fr (fun k _=>lv.ownBlock=some k∨k=bv) w1 (w2.setCell ⟨bv,c,none⟩ X):=by
 refine Fr.setCell ?_ _ _ (fun _ _ => .inr rfl);exact((Fr.refl (M:=fun k _=>lv.ownBlock=some k∨k=bv)).alloc Z).trans (Fr.ofGrown hgr) (fun k o hm => .inl (.inl hm.symm))
theorem zmg {size:Nat} (hown:w1.ownsRow N e size lv n' xs) (hgr:(w1.alloc Z).grownBy w2 lv.ownBlock) (hg2:lv.ownBlock=some g∨w1.heap.size+1≤g)
 (hbv:bv<N) (hSbv:¬ S bv):Kp (fun k=>(S k∨N≤k)∧lv.ownBlock≠some k) (fun k=>(S k∨N≤k)∧some g≠some k) w1 (w2.setCell ⟨bv,c,none⟩ X):=by
 intro b o hs hb _
 have hA:b≠g:=by
  rintro rfl;rcases hg2 with h | h
  ·exact hs.2 h
  have:=jb hb;omega
 refine⟨⟨hs.1,fun e=>hA (by simpa using e.symm)⟩,(zja hgr).block b o hb ?_⟩;rintro(h | rfl)
 ·exact hs.2 h
 rcases hs.1 with h | h
 ·exact hSbv h
 omega
theorem znt {size:Nat} (hown:w1.ownsRow N e size lv n' xs) (hgr:(w1.alloc Z).grownBy w2 lv.ownBlock) (hg2:lv.ownBlock=some g∨w1.heap.size+1≤g)
 (hSN:∀ k,S k→k<N) (hM:N≤M) (hlw:∀ k,lv.ownBlock=some k→k<M) (hbv:bv<N) (hSbv:¬ S bv) :
 Kp (fun k=>S k∨M≤k) (fun k=>(S k∨N≤k)∧some g≠some k) w1 (w2.setCell ⟨bv,c,none⟩ X):=by
 intro b o hs hb ht
 have hA:lv.ownBlock≠some b:=by
  intro h;have h1:=(qy hown b h).1;have h2:=hlw b h;rcases hs with h3 | h3
  ·have:=hSN b h3;omega
  omega
 exact zmg (S:=S) hown hgr hg2 hbv hSbv b o ⟨hs.imp id (fun h=>Nat.le_trans hM h),hA⟩ hb ht
end

theorem LRow.push {S:Nat→Prop} {N M bv g cap:Nat} {w1 w2:World} {Z:Obj} {l:List J} {j:J} {lv X v0 v1 v2 v3 v4:Value} {xs:List Value}
 (hown:w1.ownsRow N 56 5 lv l.length xs) (hrc:RC (fun k=>(S k∨N≤k)∧lv.ownBlock≠some k) w1 l xs) (hSN:∀ k,S k→k<N)
 (hj:RJ (fun k=>S k∨M≤k) w1 j (.agg #[v0,v1,v2,v3,v4])) (hM:N≤M) (hlw:∀ k,lv.ownBlock=some k→k<M)
 (hgr:(w1.alloc Z).grownBy w2 lv.ownBlock) (hg2:lv.ownBlock=some g∨w1.heap.size+1≤g)
 (hown2:w2.ownsRow N 56 5 (.slice (some ⟨g,0,none⟩) (l.length+1) cap) (l.length+1) (xs++[v0,v1,v2,v3,v4]))
 (hbv:bv<N) (hSbv:¬ S bv) (hgN:N≤g) (c:Nat):LRow S N (l++[j]) (.slice (some ⟨g,0,none⟩) (l.length+1) cap) (w2.setCell ⟨bv,c,none⟩ X):=by
 refine⟨xs++[v0,v1,v2,v3,v4],za9 (by simpa using hown2) (fun k hk=>?_),?_⟩
 ·have:k=g:=by simpa[Value.ownBlock] using hk.symm
  exact Below.heap_setCell _ _ _ _ (by show k≠bv;omega)
 exact RC.append l xs [j] _ (RC.kp (zmg hown hgr hg2 hbv hSbv) l xs hrc) (RC.one (RJ.kp (znt hown hgr hg2 hSN hM hlw hbv hSbv) j _ hj))
def QRow (S:Nat→Prop) (N:Nat) (l:List (Bs × J)) (lv:Value) (w:World):Prop :=
 ∃ xs,w.ownsRow N 133 6 lv l.length xs∧RP (fun k=>(S k∨N≤k)∧lv.ownBlock≠some k) w l xs
theorem QRow.nil (S:Nat→Prop)(N:Nat)(w:World):QRow S N [] (.slice none 0 0) w:=⟨[],⟨rfl,.inl ⟨rfl,rfl⟩⟩,by unfold RP;rfl⟩
theorem QRow.push {S:Nat→Prop} {N M bv g cap:Nat} {w1 w2:World} {Z:Obj} {l:List (Bs × J)} {nm:Bs} {j:J} {lv X v0 v1 v2 v3 v4:Value} {xs:List Value}
 (hown:w1.ownsRow N 133 6 lv l.length xs) (hrc:RP (fun k=>(S k∨N≤k)∧lv.ownBlock≠some k) w1 l xs) (hSN:∀ k,S k→k<N)
 (hj:RJ (fun k=>S k∨M≤k) w1 j (.agg #[v0,v1,v2,v3,v4])) (hM:N≤M) (hlw:∀ k,lv.ownBlock=some k→k<M)
 (hgr:(w1.alloc Z).grownBy w2 lv.ownBlock) (hg2:lv.ownBlock=some g∨w1.heap.size+1≤g)
 (hown2:w2.ownsRow N 133 6 (.slice (some ⟨g,0,none⟩) (l.length+1) cap) (l.length+1) (xs++[.string ⟨nm.toArray⟩,v0,v1,v2,v3,v4]))
 (hbv:bv<N) (hSbv:¬ S bv) (hgN:N≤g) (c:Nat):QRow S N (l++[(nm,j)]) (.slice (some ⟨g,0,none⟩) (l.length+1) cap) (w2.setCell ⟨bv,c,none⟩ X):=by
 refine⟨xs++[.string ⟨nm.toArray⟩,v0,v1,v2,v3,v4],za9 (by simpa using hown2) (fun k hk=>?_),?_⟩
 ·have:k=g:=by simpa[Value.ownBlock] using hk.symm
  exact Below.heap_setCell _ _ _ _ (by show k≠bv;omega)
 exact RP.append l xs [(nm,j)] _ (RP.kp (zmg hown hgr hg2 hbv hSbv) l xs hrc) (RP.one (RJ.kp (znt hown hgr hg2 hSN hM hlw hbv hSbv) j _ hj))
theorem LRow.row {S:Nat→Prop}{N:Nat}{l:List J}{lv:Value}{w:World}(h:LRow S N l lv w):∃ a c,lv = .slice a l.length c∧RowV (fun k=>(S k∨N≤k)∧k<w.heap.size) w l a:=by
 obtain⟨xs,hA,hB⟩:=h;rcases hA.2 with⟨rfl,h0⟩ | ⟨g,cap,cur,rfl,hb,hg,hn,hcm,hcs,htake⟩
 ·exact⟨none,0,by rw[h0],.inl (List.length_eq_zero_iff.1 h0)⟩
 refine⟨_,_,rfl,.inr ⟨g,0,cur,(0,0),rfl,⟨.inr hb,jb hg⟩,Blk.of hg,?_⟩⟩;have e:(cur.toList.drop 0).take (5 * l.length)=xs:=by rw[List.drop_zero,Nat.mul_comm];exact htake
 rw[e];exact RC.kp (fun b o hs hb _=>⟨⟨hs.1,jb hb⟩,hb⟩) l xs hB
def RowVN (B:Nat) (S:Nat→Prop) (w:World) (l:List J) (a:Option Addr):Prop :=
 RowV S w l a∧(l=[]∨∃ g cs,a=some ⟨g,0,none⟩∧S g∧B≤g∧w.heap[g]? = some (.cells cs 56 (0,0)))
theorem RowVN.kp {B:Nat}{S S':Nat→Prop}{w w':World}{l:List J}{a:Option Addr}(h:RowVN B S w l a)(hk:Kp S S' w w'):RowVN B S' w' l a:=by
 refine⟨h.1.kp hk,?_⟩;rcases h.2 with h | ⟨g,cs,ha,hs,hB,hg⟩
 ·exact .inl h
 obtain⟨h1,h2⟩:=hk g _ hs hg (.inl ⟨_,_,rfl⟩);exact .inr ⟨g,cs,ha,h1,hB,h2⟩
theorem LRow.rowN {S:Nat→Prop} {N:Nat} {l:List J} {lv:Value} {w:World} (h:LRow S N l lv w):∃ a c,lv = .slice a l.length c∧RowVN N (fun k=>(S k∨N≤k)∧k<w.heap.size) w l a:=by
 obtain⟨a,c,e,h1⟩:=h.row;refine⟨a,c,e,h1,?_⟩;obtain⟨xs,hA,hrc⟩:=h;rcases hA.2 with⟨rfl,h0⟩ | ⟨g,cap,cur,rfl,hb,hg,hn,hcm,hcs,htake⟩
 ·exact .inl (List.length_eq_zero_iff.1 h0)
 right
 obtain ⟨rfl,rfl⟩:a=some ⟨g,0,none⟩∧c=cap:=by
  simp at e;exact⟨e.1.symm,e.2.symm⟩
 exact⟨g,cur,rfl,⟨.inr hb,jb hg⟩,hb,hg⟩
end
section
open Go.RowKit
variable [OldK]

theorem zwt (S S':Nat→Prop)(l m:Bs)(v u:Value)(w:World)(hv:SB S l v w)(hu:SB S' m u w) :
 Calls Tryz.prog 20 #[v,u] w fun e w'=>e = .returned (.bool (l==m))∧w=w':=by
 have h1:=hv.text;have h2:=hu.text;clear hv hu;go_enter Tryz.func20,Tryz.ntmps20
 go_wp2_with fail
 go_ret;exact⟨ju (by simp),rfl⟩
end
end Go.Proofs.YtmgfncjfgkllcaaGreatDoor
