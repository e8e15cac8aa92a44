/-
 Rows of values and of pairs that grow by append.
-/
import Derived.Test.YtmgfncjfgkllcaaGreatDoorKCellRows
import Derived.Test.YtmgfncjfgkllcaaGreatDoorKNum
import Derived.Test.YtmgfncjfgkllcaaGreatDoorKGet
import Derived.Test.YtmgfncjfgkllcaaGreatDoorKReader10
import Derived.Test.YtmgfncjfgkllcaaGreatDoorKTxt5
open Go.Lib renaming hid→za
open Go renaming heap_alloc_new→zh
namespace Go.Proofs.YtmgfncjfgkllcaaGreatDoor
set_option linter.unusedVariables false
set_option linter.unusedSimpArgs false
set_option linter.unusedSectionVars false
set_option maxRecDepth 100000
set_option maxHeartbeats 4000000
section
open Go.RowKit
variable [OldK]

theorem RJ.lt {S:Nat→Prop}{w:World}{j:J}{v:Value}(h:RJ S w j v):RJ (fun k=>S k∧k<w.heap.size) w j v :=
 RJ.kp (fun b o hs hb _=>⟨⟨hs,jb hb⟩,hb⟩) j v h
theorem RowV.lt {S:Nat→Prop}{w:World}{l:List J}{a:Option Addr}(h:RowV S w l a):RowV (fun k=>S k∧k<w.heap.size) w l a :=
 h.kp (fun b o hs hb _=>⟨⟨hs,jb hb⟩,hb⟩)
theorem RowP.lt {S:Nat→Prop}{w:World}{l:List (Bs × J)}{a:Option Addr}(h:RowP S w l a):RowP (fun k=>S k∧k<w.heap.size) w l a :=
 h.kp (fun b o hs hb _=>⟨⟨hs,jb hb⟩,hb⟩)
def LRow (S:Nat→Prop) (N:Nat) (l:List J) (lv:Value) (w:World):Prop :=
 ∃ xs,w.ownsRow N 56 5 lv l.length xs∧RC (fun k=>(S k∨N≤k)∧lv.ownBlock≠some k) w l xs
theorem LRow.nil (S:Nat→Prop)(N:Nat)(w:World):LRow S N [] (.slice none 0 0) w:=⟨[],⟨rfl,.inl ⟨rfl,rfl⟩⟩,by unfold RC;rfl⟩
theorem LRow.fr {S:Nat→Prop}{N:Nat}{l:List J}{lv:Value}{w w':World}(h:LRow S N l lv w)(hF:Fr NoB w w'):LRow S N l lv w':=by
 obtain⟨xs,hA,hB⟩:=h;exact⟨xs,za9 hA hF (fun _ _ _ _ _ h=>h),RC.kp (Kp.ofFr hF) l xs hB⟩
theorem zaq {W w2:World}{row:Option Nat}(hgr:W.grownBy w2 row){k:Nat}{o:Obj}(hk:W.heap[k]? = some o)(hne:row≠some k):w2.heap[k]? = some o :=
 (Fr.ofGrown hgr).block k o hk (fun e=>hne e.symm)
theorem qm {w:World}{k:Nat}{o:Obj}(Z:Obj)(hk:w.heap[k]? = some o):(w.alloc Z).heap[k]? = some o :=
 ((Fr.refl (M:=NoB)).alloc Z).block k o hk (fun h=>h)
theorem zij {w:World}{b c k:Nat}{o:Obj}{x:Value}(hk:w.heap[k]? = some o)(hne:k≠b):(w.setCell ⟨b,c,none⟩ x).heap[k]? = some o:=by
 rw[Below.heap_setCell _ _ _ _ hne];exact hk
section
variable {S:Nat→Prop} {N M bv g cap c n':Nat} {w1 w2:World} {Z:Obj} {lv X:Value} {xs:List Value} {e:TypeId}
theorem zja (hgr:(w1.alloc Z).grownBy w2 lv.ownBlock):Fr (fun k _=>lv.ownBlock=some k∨k=bv) w1 (w2.setCell ⟨bv,c,none⟩ X):=by
 refine Fr.setCell ?_ _ _ (fun _ _ => .inr rfl);exact((Fr.refl (M:=fun k _=>lv.ownBlock=some k∨k=bv)).alloc Z).trans (Fr.ofGrown hgr) (fun k o hm => .inl (.inl hm.symm))
theorem zop {size:Nat} (hown:w1.ownsRow N e size lv n' xs) (hgr:(w1.alloc Z).grownBy w2 lv.ownBlock) (hg2:lv.ownBlock=some g∨w1.heap.size+1≤g)
 (hbv:bv<N) (hSbv:¬ S bv):Kp (fun k=>(S k∨N≤k)∧lv.ownBlock≠some k) (fun k=>(S k∨N≤k)∧some g≠some k) w1 (w2.setCell ⟨bv,c,none⟩ X):=by
 intro b o hs hb _
 have hA:b≠g:=by
  rintro rfl;rcases hg2 with h | h
  ·exact hs.2 h
  have:=jb hb;omega
 refine⟨⟨hs.1,fun e=>hA (by simpa using e.symm)⟩,(zja hgr).block b o hb ?_⟩;rintro(h | rfl)
 ·exact hs.2 h
 rcases hs.1 with h | h
 ·exact hSbv h
 omega
theorem zp5 {size:Nat} (hown:w1.ownsRow N e size lv n' xs) (hgr:(w1.alloc Z).grownBy w2 lv.ownBlock) (hg2:lv.ownBlock=some g∨w1.heap.size+1≤g)
 (hSN:∀ k,S k→k<N) (hM:N≤M) (hlw:∀ k,lv.ownBlock=some k→k<M) (hbv:bv<N) (hSbv:¬ S bv) :
 Kp (fun k=>S k∨M≤k) (fun k=>(S k∨N≤k)∧some g≠some k) w1 (w2.setCell ⟨bv,c,none⟩ X):=by
 intro b o hs hb ht
 have hA:lv.ownBlock≠some b:=by
  intro h;have h1:=(zam hown b h).1;have h2:=hlw b h;rcases hs with h3 | h3
  ·have:=hSN b h3;omega
  omega
 exact zop (S:=S) hown hgr hg2 hbv hSbv b o ⟨hs.imp id (fun h=>Nat.le_trans hM h),hA⟩ hb ht
end

theorem LRow.push {S:Nat→Prop} {N M bv g cap:Nat} {w1 w2:World} {Z:Obj} {l:List J} {j:J} {lv X v0 v1 v2 v3 v4:Value} {xs:List Value}
 (hown:w1.ownsRow N 56 5 lv l.length xs) (hrc:RC (fun k=>(S k∨N≤k)∧lv.ownBlock≠some k) w1 l xs) (hSN:∀ k,S k→k<N)
 (hj:RJ (fun k=>S k∨M≤k) w1 j (.agg #[v0,v1,v2,v3,v4])) (hM:N≤M) (hlw:∀ k,lv.ownBlock=some k→k<M)
 (hgr:(w1.alloc Z).grownBy w2 lv.ownBlock) (hg2:lv.ownBlock=some g∨w1.heap.size+1≤g)
 (hown2:w2.ownsRow N 56 5 (.slice (some ⟨g,0,none⟩) (l.length+1) cap) (l.length+1) (xs++[v0,v1,v2,v3,v4]))
 (hbv:bv<N) (hSbv:¬ S bv) (hgN:N≤g) (c:Nat):LRow S N (l++[j]) (.slice (some ⟨g,0,none⟩) (l.length+1) cap) (w2.setCell ⟨bv,c,none⟩ X):=by
 refine⟨xs++[v0,v1,v2,v3,v4],zcf (by simpa using hown2) (fun k hk=>?_),?_⟩
 ·have:k=g:=by simpa[Value.ownBlock] using hk.symm
  exact Below.heap_setCell _ _ _ _ (by show k≠bv;omega)
 exact RC.append l xs [j] _ (RC.kp (zop hown hgr hg2 hbv hSbv) l xs hrc) (RC.one (RJ.kp (zp5 hown hgr hg2 hSN hM hlw hbv hSbv) j _ hj))
def QRow (S:Nat→Prop) (N:Nat) (l:List (Bs × J)) (lv:Value) (w:World):Prop :=
 ∃ xs,w.ownsRow N 133 6 lv l.length xs∧RP (fun k=>(S k∨N≤k)∧lv.ownBlock≠some k) w l xs
theorem QRow.nil (S:Nat→Prop)(N:Nat)(w:World):QRow S N [] (.slice none 0 0) w:=⟨[],⟨rfl,.inl ⟨rfl,rfl⟩⟩,by unfold RP;rfl⟩
theorem QRow.push {S:Nat→Prop} {N M bv g cap:Nat} {w1 w2:World} {Z:Obj} {l:List (Bs × J)} {nm:Bs} {j:J} {lv X v0 v1 v2 v3 v4:Value} {xs:List Value}
 (hown:w1.ownsRow N 133 6 lv l.length xs) (hrc:RP (fun k=>(S k∨N≤k)∧lv.ownBlock≠some k) w1 l xs) (hSN:∀ k,S k→k<N)
 (hj:RJ (fun k=>S k∨M≤k) w1 j (.agg #[v0,v1,v2,v3,v4])) (hM:N≤M) (hlw:∀ k,lv.ownBlock=some k→k<M)
 (hgr:(w1.alloc Z).grownBy w2 lv.ownBlock) (hg2:lv.ownBlock=some g∨w1.heap.size+1≤g)
 (hown2:w2.ownsRow N 133 6 (.slice (some ⟨g,0,none⟩) (l.length+1) cap) (l.length+1) (xs++[.string ⟨nm.toArray⟩,v0,v1,v2,v3,v4]))
 (hbv:bv<N) (hSbv:¬ S bv) (hgN:N≤g) (c:Nat):QRow S N (l++[(nm,j)]) (.slice (some ⟨g,0,none⟩) (l.length+1) cap) (w2.setCell ⟨bv,c,none⟩ X):=by
 refine⟨xs++[.string ⟨nm.toArray⟩,v0,v1,v2,v3,v4],zcf (by simpa using hown2) (fun k hk=>?_),?_⟩
 ·have:k=g:=by simpa[Value.ownBlock] using hk.symm
  exact Below.heap_setCell _ _ _ _ (by show k≠bv;omega)
 exact RP.append l xs [(nm,j)] _ (RP.kp (zop hown hgr hg2 hbv hSbv) l xs hrc) (RP.one (RJ.kp (zp5 hown hgr hg2 hSN hM hlw hbv hSbv) j _ hj))
theorem LRow.row {S:Nat→Prop}{N:Nat}{l:List J}{lv:Value}{w:World}(h:LRow S N l lv w):∃ a c,lv = .slice a l.length c∧RowV (fun k=>(S k∨N≤k)∧k<w.heap.size) w l a:=by
 obtain⟨xs,hA,hB⟩:=h;rcases hA.2 with⟨rfl,h0⟩ | ⟨g,cap,cur,rfl,hb,hg,hn,hcm,hcs,htake⟩
 ·exact⟨none,0,by rw[h0],.inl (List.length_eq_zero_iff.1 h0)⟩
 refine⟨_,_,rfl,.inr ⟨g,0,cur,(0,0),rfl,⟨.inr hb,jb hg⟩,Blk.of hg,?_⟩⟩;have e:(cur.toList.drop 0).take (5 * l.length)=xs:=by rw[List.drop_zero,Nat.mul_comm];exact htake
 rw[e];exact RC.kp (fun b o hs hb _=>⟨⟨hs.1,jb hb⟩,hb⟩) l xs hB
def RowVN (B:Nat) (S:Nat→Prop) (w:World) (l:List J) (a:Option Addr):Prop :=
 RowV S w l a∧(l=[]∨∃ g cs,a=some ⟨g,0,none⟩∧S g∧B≤g∧w.heap[g]? = some (.cells cs 56 (0,0)))
theorem RowVN.kp {B:Nat}{S S':Nat→Prop}{w w':World}{l:List J}{a:Option Addr}(h:RowVN B S w l a)(hk:Kp S S' w w'):RowVN B S' w' l a:=by
 refine⟨h.1.kp hk,?_⟩;rcases h.2 with h | ⟨g,cs,ha,hs,hB,hg⟩
 ·exact .inl h
 obtain⟨h1,h2⟩:=hk g _ hs hg (.inl ⟨_,_,rfl⟩);exact .inr ⟨g,cs,ha,h1,hB,h2⟩
theorem LRow.rowN {S:Nat→Prop} {N:Nat} {l:List J} {lv:Value} {w:World} (h:LRow S N l lv w):∃ a c,lv = .slice a l.length c∧RowVN N (fun k=>(S k∨N≤k)∧k<w.heap.size) w l a:=by
 obtain⟨a,c,e,h1⟩:=h.row;refine⟨a,c,e,h1,?_⟩;obtain⟨xs,hA,hrc⟩:=h;rcases hA.2 with⟨rfl,h0⟩ | ⟨g,cap,cur,rfl,hb,hg,hn,hcm,hcs,htake⟩
 ·exact .inl (List.length_eq_zero_iff.1 h0)
 right
 obtain ⟨rfl,rfl⟩:a=some ⟨g,0,none⟩∧c=cap:=by
  simp at e;exact⟨e.1.symm,e.2.symm⟩
 exact⟨g,cur,rfl,⟨.inr hb,jb hg⟩,hb,hg⟩
end
section
open Go.RowKit
variable [OldK]
theorem ztd (w:World)(a b:Obj):((w.alloc a).alloc b).heap[w.heap.size]? = some a∧((w.alloc a).alloc b).heap[w.heap.size+1]? = some b:=by
 have s1:(w.alloc a).heap.size=w.heap.size+1:=World.size_alloc _ _;have e2:=zh (w.alloc a) b;rw[s1]at e2;refine⟨?_,e2⟩;rw[Below.heap_alloc _ _ _ (by omega)];exact zh w a
theorem zqa (n:Int)(t:Bs)(l:List J)(p:List (Bs × J))(nm:Bs):zb3 (.mk 5 n t l p) nm=zd7 nm p:=by
 unfold zb3;exact if_pos rfl
theorem zzs {k:Int}(n:Int)(t:Bs)(l:List J)(p:List (Bs × J))(nm:Bs)(h:¬ k=5):zb3 (.mk k n t l p) nm=none:=by
 unfold zb3;exact if_neg h
theorem zpy (S:Nat→Prop) (j:J) (v:Value) (nm:Bs) (w:World) (h:RJ S w j v) (hpl:j.pairs.length≤67108864) :
 Calls Tryz.prog 71 #[v,.string ⟨nm.toArray⟩] w fun e W'=>∃ x,e = .returned (.tuple #[x,.bool (zb3 j nm).isSome])∧RJ S W' ((zb3 j nm).getD J.zero) x∧Fr NoB w W':=by
 obtain⟨k,n,t,l,p⟩:=j;obtain⟨a1,c1,a2,c2,rfl,hl,hp⟩:=h.open;simp only[J.pairs]at hpl;have Hp:=za hp.lt;have hJ:=ztd w (.cells #[.int .i64 k,.int .i64 n,.string ⟨t.toArray⟩,.slice a1 l.length c1,.slice a2 p.length c2] 56) (.cells #[.int .i64 0,.int .i64 0,.string ⟨#[]⟩,.slice none 0 0,.slice none 0 0] 56);have hF:Hid (Fr NoB w ((w.alloc (.cells #[.int .i64 k,.int .i64 n,.string ⟨t.toArray⟩,.slice a1 l.length c1,.slice a2 p.length c2] 56)).alloc (.cells #[.int .i64 0,.int .i64 0,.string ⟨#[]⟩,.slice none 0 0,.slice none 0 0] 56))):=za ((Fr.refl.alloc _).alloc _);obtain⟨hA,hB⟩:=hJ;have HA:=za hA;have HB:=za hB;obtain⟨P,hP⟩:∃ P,zd7 nm p=P:=⟨_,rfl⟩;have HP:Hid (zd7 nm (p.drop 0)=P):=za hP;clear hA hB hp hl h;by_cases hk:k=5
 ·subst hk;rw[zqa,hP];clear hP;go_enter Tryz.func71,Tryz.ntmps71
  go_wp2_with fail
  go_loopg [6] (p.length+1) (fun g vi wr=>∃ i:Nat,vi = .int .i64 i∧i≤p.length∧i+g=p.length+1 ∧
   wr.heap[w.heap.size]? = some (.cells #[.int .i64 5,.int .i64 n,.string ⟨t.toArray⟩,.slice a1 l.length c1,.slice a2 p.length c2] 56 (0,0)) ∧
   wr.heap[w.heap.size+1]? = some (.cells #[.int .i64 0,.int .i64 0,.string ⟨#[]⟩,.slice none 0 0,.slice none 0 0] 56 (0,0))∧Hid (Fr NoB w wr)∧Hid (zd7 nm (p.drop i)=P))
  case atStart=>exact⟨0,rfl,by omega,by omega,HA.out,HB.out,hF,HP⟩
  case round =>
   obtain⟨i,rfl,hi,hig,hA,hB,HF,hD⟩:=hrel;clear HA HB hF HP;obtain⟨v0,v1,v2,v3,v4,vz,hH⟩:=VB.at hA;obtain⟨r0,r1,r2,r3,r4,rz,hI⟩:=VB.at hB;have HA:=za hA;have HB:=za hB;clear hA hB;rcases Nat.lt_or_ge i p.length with hlt | hge
   ·obtain ⟨⟨hG,j'⟩,hj⟩:∃ q,p[i]? = some q:=⟨_,List.getElem?_eq_getElem hlt⟩;obtain⟨b,o,x0,x1,x2,x3,x4,rfl,hbl,e5,e0,e1,e2,e3,e4,hE⟩:=(Hp.out.kp (Kp.ofFr HF.out)).at hj
    have hd:p.drop i=(hG,j') :: p.drop (i+1):=by
     rw[List.drop_eq_getElem_cons hlt]
     congr 1
     exact(List.getElem?_eq_some_iff.1 hj).2
    have hC:=hD.out;rw[hd,zd7]at hC;clear hD hd;by_cases he:hG=nm
    ·subst he;rw[if_pos rfl]at hC;subst hC;obtain⟨jk,jn,jt,jl,jp⟩:=j';obtain⟨y1,m1,y2,m2,hx,_,_⟩:=hE.open;simp only[Value.agg.injEq,Array.mk.injEq,List.cons.injEq,and_true]at hx;obtain⟨rfl,rfl,rfl,rfl,rfl⟩:=hx;have Hrj:=za hE;clear hE hj
     go_wp2_with fail
     refine bodyPost_ret (v := .tuple #[.agg #[.int .i64 jk,.int .i64 jn,.string ⟨jt.toArray⟩,.slice y1 jl.length m1,.slice y2 jp.length m2],.bool true]) (by simp[results,Tryz.results71,go_sem,r0,r1,r2,r3,r4]) rfl ?_;have hK:Fr NoB w (setV (w.heap.size+1) (.int .i64 jk) (.int .i64 jn) (.string ⟨jt.toArray⟩) (.slice y1 jl.length m1) (.slice y2 jp.length m2) wr):=HF.out.trans (q9 _ _ _ _ _ _ _) (fun k _ hm => .inr (by omega));refine⟨_,rfl,?_,hK⟩;exact RJ.kp (fun q o hq ho _=>⟨hq.1,(q9 _ _ _ _ _ _ _).block q o ho (by have:=hq.2;omega)⟩) _ _ Hrj.out
    rw[if_neg he]at hC;have hD:=za hC;have hne:(hG==nm)=false:=by rw[beq_eq_false_iff_ne];exact he
    clear he hC hE hj
    go_wp2_with fail
    go_roundg (gk - 1)
    case measure=>omega
    case rel=>exact⟨i+1,by simp,by omega,by omega,HA.out,HB.out,HF,hD⟩
   obtain rfl:i=p.length:=by omega
   have hC:=hD.out;rw[List.drop_length,zd7]at hC;subst hC;clear hD
   go_wp2_with fail
   refine bodyPost_ret (v := .tuple #[.agg #[.int .i64 0,.int .i64 0,.string ⟨#[]⟩,.slice none 0 0,.slice none 0 0],.bool false]) (by simp[results,Tryz.results71,go_sem,r0,r1,r2,r3,r4]) rfl ?_;exact⟨_,rfl,RJ.zero _ _,HF.out.trans (q9 _ _ _ _ _ _ _) (fun k _ hm => .inr (by omega))⟩
 rw[zzs _ _ _ _ _ hk];clear hP;have hk5:(k==5)=false:=by rw[beq_eq_false_iff_ne];exact hk
 clear hk;go_enter Tryz.func71,Tryz.ntmps71
 go_wp2_with fail
 go_loopg [6] 1 (fun g vi wr=>vi = .int .i64 0 ∧
  wr.heap[w.heap.size]? = some (.cells #[.int .i64 k,.int .i64 n,.string ⟨t.toArray⟩,.slice a1 l.length c1,.slice a2 p.length c2] 56 (0,0)) ∧
  wr.heap[w.heap.size+1]? = some (.cells #[.int .i64 0,.int .i64 0,.string ⟨#[]⟩,.slice none 0 0,.slice none 0 0] 56 (0,0))∧Hid (Fr NoB w wr))
 case atStart=>exact⟨rfl,HA.out,HB.out,hF⟩
 case round =>
  obtain⟨rfl,hA,hB,HF⟩:=hrel;clear HA HB hF HP;obtain⟨v0,v1,v2,v3,v4,vz,hH⟩:=VB.at hA;obtain⟨r0,r1,r2,r3,r4,rz,hI⟩:=VB.at hB;clear hA hB;rcases Nat.eq_zero_or_pos p.length with h0 | h0
  all_goals
   go_wp2_with fail
   refine bodyPost_ret (v := .tuple #[.agg #[.int .i64 0,.int .i64 0,.string ⟨#[]⟩,.slice none 0 0,.slice none 0 0],.bool false]) (by simp[results,Tryz.results71,go_sem,r0,r1,r2,r3,r4]) rfl ?_;exact⟨_,rfl,RJ.zero _ _,HF.out.trans (q9 _ _ _ _ _ _ _) (fun k _ hm => .inr (by omega))⟩
end
section
open Go.RowKit
variable [OldK]
theorem zrp {s out:Bs} {C:Int} {k:Nat} (h:zb8 s=(C,k)) :
 (k=0∨C<32→∃ st,qf out ⟨s,false⟩=(none,out,st)∧st.bad=true) ∧
 (k ≠ 0→32≤C→(C=34→qf out ⟨s,false⟩=(some out,out,⟨s.drop k,false⟩)) ∧
   (C=92→qf out ⟨s,false⟩=(none,out++Lib.encodeRune ((j5 ⟨s.drop k,false⟩).1:Int),(j5 ⟨s.drop k,false⟩).2)) ∧
   (C≠34→C≠92→qf out ⟨s,false⟩=(none,out++Lib.encodeRune C,⟨s.drop k,false⟩))):=by
 obtain⟨-,-,-,f4⟩:=zfj s;unfold zb8 at h;unfold qf;simp only;by_cases hs:s=[]
 ·rw[if_pos hs]at h;simp only[Prod.mk.injEq]at h;obtain⟨rfl,rfl⟩:=h;subst hs;have hz:(Lib.decodeGo ⟨([]:Bs).toArray⟩).2=0:=rfl;refine⟨fun _=>?_,fun h=>absurd rfl h⟩;rw[if_pos (.inl hz)];exact⟨_,rfl,rfl⟩
 rw[if_neg hs]at h;have f5:=f4 hs;by_cases hb:(Lib.decodeGo ⟨s.toArray⟩).1=65533∧(Lib.decodeGo ⟨s.toArray⟩).2=1
 ·rw[if_pos hb]at h;simp only[Prod.mk.injEq]at h;obtain⟨rfl,rfl⟩:=h;refine⟨fun _=>?_,fun h=>absurd rfl h⟩;rw[if_pos (.inr (.inr hb))];exact⟨_,rfl,rfl⟩
 rw[if_neg hb]at h;simp only[Prod.mk.injEq]at h;obtain⟨rfl,rfl⟩:=h;refine⟨fun h=>?_,fun h1 h2=>⟨fun h3=>?_,fun h3=>?_,fun h3 h4=>?_⟩⟩
 ·rw[if_pos (by omega)];exact⟨_,rfl,rfl⟩
 ·rw[if_neg (by omega),if_pos (by omega)]
 ·rw[if_neg (by omega),if_neg (by omega),if_pos (by omega)]
 rw[if_neg (by omega),if_neg (by omega),if_neg (by omega)]
theorem zzi (st:St):Sc ((zdo st).1:Int):=by
 have hx:=zlu 4 0 st;unfold zdo;generalize zcp 4 0 st=G at *;obtain⟨n,hA⟩:=G;simp only at hx ⊢;unfold Sc;split
 ·simp only;omega
 split
 ·simp only;omega
 have hB:=zlu 4 0 (zaa [92,117] hA);generalize zcp 4 0 (zaa [92,117] hA)=G2 at *;obtain⟨low,st2⟩:=G2;simp only at hB ⊢;split
 ·simp only;omega
 rename_i h1 h2 h3
 simp only[not_or]at h3;simp only;omega
theorem z1j (st:St):Sc ((j5 st).1:Int):=by
 unfold j5;split
 ·unfold Sc;simp only;omega
 rename_i c l hl
 cases hp:zcc c with
 | some v =>
   simp only
   have:v<128:=by
    unfold zcc at hp
    repeat' split at hp
    all_goals (first | (simp at hp;done) | (simp only[Option.some.injEq]at hp;omega))
   unfold Sc;omega
 | none =>
   simp only;split
   ·exact zzi _
   unfold Sc;simp only;omega
theorem zi0 (k:Nat)(out:Bs)(st:St)(h:st.bad=true):j4 k out st=([],st):=by
 cases k with
 | zero=>rfl
 | succ k=>unfold j4;rw[if_pos h]
theorem SB.below {l:Bs}{v:Value}{w:World}(h:SB (fun _=>True) l v w):SB (fun k=>k<w.heap.size) l v w :=
 h.kp (fun k o _ hk _=>⟨jb hk,hk⟩)
theorem TX.grow {b B:Nat}{L:Bs}{v:Value}{c:Nat}{bd:Bool}{w w':World}(h:TX b L v c bd w)(hS:SB (fun k=>k<B) L v w)(hb:b<B)(hF:Fr (fun k _=>B≤k) w w') :
 TX b L v c bd w'∧SB (fun k=>k<B) L v w':=by
 have hA:SB (fun k=>k<B) L v w':=hS.fr hF (fun k o hk _ hm=>by omega);refine⟨⟨h.1,hA.kp (fun k o _ hk _=>⟨trivial,hk⟩),hF.block _ _ h.2.2 (by omega)⟩,hA⟩
theorem zs2 {b B:Nat}{L:Bs}{v:Value}{w w':World}(hS:SB (fun k=>k<B) L v w)(hb:OldK.k≤b)(hF:Fr (MT b) w w'):SB (fun k=>k<B) L v w':=by
 refine hS.fr hF (fun k o _ ho hm=>?_);obtain⟨rfl,c,f,rfl⟩:=hm;rcases ho with⟨c',f',e⟩ | hk
 ·cases e
 omega
theorem OB.nil (B:Nat)(w:World):OB B [] (.slice none 0 0) w:=World.ownsRow_nil w B _ 1
theorem OB.mt {b B:Nat} {out:Bs} {v:Value} {w w':World} (h:OB B out v w) (hF:Fr (MT b) w w'):OB B out v w' :=
 h.fr hF (fun k o _ ho hm=>by
  obtain⟨rfl,c,f,rfl⟩:=hm;obtain⟨c',f',e⟩:=ho
  cases e)
theorem SB.from {S:Nat→Prop} {L:Bs} {g o cap c:Nat} {w:World} (h:SB S L (.slice (some ⟨g,o,none⟩) L.length cap) w) (hc:c≤L.length) (hcap:L.length≤cap) :
 SB S (L.drop c) (.slice (if cap=c then some ⟨g,o,none⟩ else some ⟨g,o+c,none⟩) (L.length - c) (cap - c)) w:=by
 split
 ·rename_i e
  have e1:L.drop c=[]:=List.drop_eq_nil_of_le (by omega);have e2:L.length - c=0:=by omega
  rw[e1,e2];exact h.none' _
 exact h.drop c hc
end
section
open Go.RowKit
variable [OldK]
theorem zd8 {t:Bs} {x:UInt8} (hx:0<x.toNat) (h:nxT t=(x.toNat:Int)):∃ l,t=x :: l:=by
 cases t with
 | nil=>simp[nxT]at h;omega
 | cons y l =>
   simp only[nxT]at h;have:y=x:=UInt8.toNat_inj.1 (by omega);exact⟨l,by rw[this]⟩
theorem zw5 {t:Bs}{x:UInt8}(h:nxT t≠(x.toNat:Int)):∀ l,t≠x :: l:=by
 rintro l rfl;exact h rfl
theorem zpg {s:Bs}:∀ x l,ja s=x :: l→¬ (x=32∨x=9∨x=10∨x=13):=by
 induction s with
 | nil=>intro x l h;simp[ja,Lib.trimLeftS]at h
 | cons y m ih =>
   intro x l h;rw[zb4]at h;split at h
   ·exact ih x l h
   rename_i hy
   simp only[List.cons.injEq]at h;rw[← h.1];exact hy
theorem zjw (s:Bs):ja (ja s)=ja s:=by
 have h:=zpg (s:=s);generalize ja s=t at *;cases t with
 | nil=>rfl
 | cons x l=>rw[zb4,if_neg (h x l rfl)]
theorem zfp {c:UInt8}{s l:Bs}(h:ja s=c :: l):zdn c s=some l:=by
 unfold zdn;rw[h];simp
theorem zi5 {c:UInt8} {s:Bs} (h:∀ l,ja s≠c :: l):zdn c s=none:=by
 unfold zdn;generalize ja s=t at *;cases t with
 | nil=>rfl
 | cons x m =>
   simp only;rw[if_neg];rintro rfl;exact h m rfl
section
variable {α:Type} {one:St→α→St × α} {shut:UInt8}
theorem zm0 {k:Nat} {s:Bs} {a:α} {st1:St} {a1:α} (h:one ⟨s,false⟩ a=(st1,a1)) :
 (st1.bad=true→zbm one shut (k+1) ⟨s,false⟩ a=(st1,a1)) ∧
 (st1.bad=false→(∀ l,ja st1.s=shut :: l→zbm one shut (k+1) ⟨s,false⟩ a=(⟨l,false⟩,a1)) ∧
   (∀ l,shut≠44→ja st1.s=44 :: l→zbm one shut (k+1) ⟨s,false⟩ a=zbm one shut k ⟨l,false⟩ a1) ∧
   ((∀ l,ja st1.s≠shut :: l)→(∀ l,ja st1.s≠44 :: l)→(zbm one shut (k+1) ⟨s,false⟩ a).1.bad=true)):=by
 rw[zbm,h];simp only[Bool.false_eq_true,if_false];refine⟨fun hb=>by rw[if_pos hb],fun hb=>?_⟩;rw[if_neg (by simp[hb])];refine⟨fun l hl=>by rw[zfp hl],fun l hs hl=>?_,fun h1 h2=>?_⟩
 ·have hn:∀ m,ja st1.s≠shut :: m:=by
   intro m hm;rw[hl]at hm;simp only[List.cons.injEq]at hm;exact hs hm.1.symm
  rw[zi5 hn,zfp (by rw[zjw];exact hl)]
 rw[zi5 h1,zi5 (by rw[zjw];exact h2)];exact zgt _ _ _
theorem zkw {op:UInt8} {d:Int} {l:Bs} {a:α} (hop:¬ (op=32∨op=9∨op=10∨op=13)) (hd:d≤8) :
 (∀ m,ja l=shut :: m→zae one op shut d ⟨op :: l,false⟩ a=(⟨m,false⟩,a)) ∧
 ((∀ m,ja l≠shut :: m)→zae one op shut d ⟨op :: l,false⟩ a=zbm one shut (l.length+2) ⟨ja l,false⟩ a):=by
 have h1:zb9 op d ⟨op :: l,false⟩=⟨l,false⟩:=by
  unfold zb9;simp only;rw[zfp (by rw[zb4,if_neg hop])];simp only[Bool.false_or];rw[decide_eq_false (by omega)]
 unfold zae;rw[h1];refine⟨fun m hm=>by rw[zfp hm],fun hm=>by rw[zi5 hm]⟩
theorem znd {op:UInt8} {d:Int} {l:Bs} {a:α} (hop:¬ (op=32∨op=9∨op=10∨op=13)) (hd:8<d):(zae one op shut d ⟨op :: l,false⟩ a).1.bad=true:=by
 have h1:zb9 op d ⟨op :: l,false⟩=⟨l,true⟩:=by
  unfold zb9;simp only;rw[zfp (by rw[zb4,if_neg hop])];simp only[Bool.false_or];rw[decide_eq_true hd]
 unfold zae;rw[h1];split
 ·rfl
 exact zgt _ _ _
theorem zi7 (hs:shut≠44) (hs0:0<shut.toNat) {L:Bs} {c k a' K:Nat} {acc a1:α} {st1:St} {G:St × α}
 (h1:one ⟨L.drop c,false⟩ acc=(st1,a1)) (hle:st1.s.length≤(L.drop c).length) (hcL:c≤L.length) (hk:(L.drop c).length+1≤k+1)
 (hG:zbm one shut (k+1) ⟨L.drop c,false⟩ acc=G) (hpos:st1.bad=false→L.drop a'=st1.s∧a'≤L.length) (hK:a'+1≤K) (hK2:L.length+1≤K) :
 blk L a'+1≤K ∧
 (nxT (L.drop (blk L a'))=(shut.toNat:Int)→(G.1.bad=false→st1.bad=false∧G.2=a1)∧(∀ b v W,TX b L v (blk L a'+1) st1.bad W→RS b L v K G.1 W)) ∧
 (nxT (L.drop (blk L a'))=44→(st1.bad=true→G.1.bad=true) ∧
   (st1.bad=false→c+1≤blk L a'+1∧blk L a'+1≤L.length∧(L.drop (blk L a'+1)).length+1≤k∧zbm one shut k ⟨L.drop (blk L a'+1),false⟩ a1=G)) ∧
 (¬ nxT (L.drop (blk L a'))=(shut.toNat:Int)→¬ nxT (L.drop (blk L a'))=44→G.1.bad=true):=by
 have hb:=zh0 L a';have hd:=zeo L a';obtain⟨s1,s2⟩:=zm0 (one:=one) (shut:=shut) (k:=k) h1;rw[hG]at s1 s2;have hE:=zac st1.s;rw[List.length_drop]at hle hk;refine⟨by omega,fun hm=>?_,fun hm=>?_,fun hD hC=>?_⟩
 ·obtain ⟨l,hl⟩:=zd8 hs0 hm;obtain⟨q1,q2,q3,q4⟩:=zd4 hl;cases hA:st1.bad with
  | true =>
    have hB:=s1 hA;subst hB;exact⟨fun h=>by simp only at h;rw[hA]at h;exact absurd h (by decide),fun b v W hW=>⟨_,by simp only;rw[hA];exact hW,fun h=>by simp only at h;rw[hA]at h;exact absurd h (by decide),by omega⟩⟩
  | false =>
    rw[(hpos hA).1]at hd;rw[hd]at hl;have hB:=(s2 hA).1 l hl;subst hB;exact⟨fun _=>⟨rfl,rfl⟩,fun b v W hW=>⟨_,hW,fun _=>⟨q3,by omega⟩,by omega⟩⟩
 ·obtain⟨l,hl⟩:=zd8 (x:=44) (by decide) hm;obtain⟨q1,q2,q3,q4⟩:=zd4 hl;refine⟨fun hA=>by rw[s1 hA];exact hA,fun hA=>?_⟩;rw[(hpos hA).1]at hd;rw[hd]at hl;have hB:=(s2 hA).2.1 l hs hl;rw[hl,List.length_cons]at hE;refine⟨by omega,by omega,by rw[q3];omega,by rw[q3];exact hB.symm⟩
 cases hA:st1.bad with
 | true=>rw[s1 hA];exact hA
 | false =>
   rw[(hpos hA).1]at hd;rw[hd]at hD hC;exact(s2 hA).2.2 (zw5 hD) (zw5 (x:=44) hC)
end
end
section
open Go.RowKit
variable [OldK]
attribute [local irreducible] wpStill
def zv0 (b:Nat) (L:Bs) (v:Value) (f:Nat):Prop:=∀ (d:Int) (a:Nat) (w:World),TX b L v a false w→a≤L.length→0≤d→d≤8→d+f=10 →
 Calls Tryz.prog 136 #[.pointer (some ⟨b,0,none⟩),.int .i64 d] w fun e w'=>∃ j x,e = .returned x∧RJ (fun k=>w.heap.size≤k) w' j x ∧
  ((jg f d ⟨L.drop a,false⟩).2.bad=false→j=(jg f d ⟨L.drop a,false⟩).1)∧RS b L v (L.length+10 - d.toNat) (jg f d ⟨L.drop a,false⟩).2 w'∧Fr (MT b) w w'
structure LS (b:Nat) (L:Bs) (v:Value) (w:World) (c:Nat) (bd:Bool) (cs:Array Value) (wr:World):Prop where
 tx:TX b L v c bd wr
 sb:SB (fun k=>k<w.heap.size) L v wr
 ra:wr.heap[w.heap.size]? = some (.cells #[.int .i64 0,.int .i64 0,.string ⟨#[]⟩,.slice none 0 0,.slice none 0 0] 56 (0,0))
 rb:wr.heap[w.heap.size+1]? = some (.cells cs 56 (0,0))
 fr:Fr (MT b) w wr
 lt:b<w.heap.size
 old:OldK.k≤b
section
variable {b:Nat} {L:Bs} {v:Value} {w wr w1:World} {c c':Nat} {bd bd':Bool} {cs:Array Value}
theorem zai {k:Nat}{cs:Array Value}{f:Nat × Nat}:¬ MT b k (.cells cs 56 f):=by
 rintro⟨_,_,_,h⟩;cases h
theorem zes {k:Nat}{cs:Array Value}{f:Nat × Nat}:¬ MT b k (.cells cs 133 f):=by
 rintro⟨_,_,_,h⟩;cases h
theorem LS.start (h:TX b L v c bd w)(cs:Array Value) :
 LS b L v w c bd cs ((w.alloc (.cells #[.int .i64 0,.int .i64 0,.string ⟨#[]⟩,.slice none 0 0,.slice none 0 0] 56)).alloc (.cells cs 56)):=by
 have hF:Fr NoB w ((w.alloc (.cells #[.int .i64 0,.int .i64 0,.string ⟨#[]⟩,.slice none 0 0,.slice none 0 0] 56)).alloc (.cells cs 56)):=(Fr.refl.alloc _).alloc _;have s1:(w.alloc (.cells #[.int .i64 0,.int .i64 0,.string ⟨#[]⟩,.slice none 0 0,.slice none 0 0] 56)).heap.size=w.heap.size+1:=World.size_alloc _ _;refine⟨h.frN hF,(h.2.1.below).fr hF (fun _ _ _ _ h=>h),?_,?_,hF.mono (fun _ _ h=>h.elim),h.lt,h.1.2⟩
 ·rw[Below.heap_alloc _ _ _ (by omega)];exact zh w _
 have e2:=zh (w.alloc (.cells #[.int .i64 0,.int .i64 0,.string ⟨#[]⟩,.slice none 0 0,.slice none 0 0] 56)) (.cells cs 56);rw[s1]at e2;exact e2
theorem LS.call (h:LS b L v w c bd cs wr)(hT:TX b L v c' bd' w1)(hF:Fr (MT b) wr w1):LS b L v w c' bd' cs w1 :=
 ⟨hT,zs2 h.sb h.old hF,hF.block _ _ h.ra zai,hF.block _ _ h.rb zai,h.fr.trans' hF,h.lt,h.old⟩
theorem LS.callN (h:LS b L v w c bd cs wr)(hF:Fr NoB wr w1):LS b L v w c bd cs w1:=h.call (h.tx.frN hF) (hF.mono (fun _ _ h=>h.elim))
theorem LS.put1 (h:LS b L v w c bd cs wr)(x:Int)(a:Nat)(hx:x=(a:Int)):LS b L v w a bd cs (wr.setCell ⟨b,1,none⟩ (.int .i64 x)) :=
 h.call (h.tx.put1 x a hx) (h.tx.setF _ _)
theorem LS.set2 (h:LS b L v w c bd cs wr)(b':Bool):LS b L v w c b' cs (wr.setCell ⟨b,2,none⟩ (.bool b')):=h.call (h.tx.set2 b') (h.tx.setF _ _)
theorem LS.push (h:LS b L v w c bd cs w1) {Z:Obj} {w2:World} {lv X:Value} {o:Nat} (hgr:(w1.alloc Z).grownBy w2 lv.ownBlock) (hlv:∀ k,lv.ownBlock=some k→w.heap.size+2≤k) :
 LS b L v w c bd (cs.setIfInBounds o X) (w2.setCell ⟨w.heap.size+1,o,none⟩ X):=by
 have hF:=zja (bv:=w.heap.size+1) (c:=o) (X:=X) hgr
 obtain ⟨g1,g2⟩:=h.tx.grow h.sb h.lt (hF.mono (M':=fun k _=>w.heap.size≤k) (fun k _ hm=>by
  rcases hm with hm | hm
  ·have:=hlv k hm;omega
  omega))
 refine⟨g1,g2,hF.block _ _ h.ra ?_,?_,h.fr.trans hF (fun k _ hm => .inr ?_),h.lt,h.old⟩
 ·rintro(hm | hm)
  ·have:=hlv _ hm;omega
  omega
 ·refine z7 (o:=o) X ?_;exact zaq hgr (qm _ h.rb) (fun e=>by have:=hlv _ e;omega)
 rcases hm with hm | hm
 ·have:=hlv _ hm;omega
 omega
theorem zuh {N n:Nat}{lv:Value}{xs:List Value}(h:wr.ownsRow N 56 5 lv n xs)(hF:Fr (MT b) wr w1):w1.ownsRow N 56 5 lv n xs :=
 za9 h hF (by rintro k o _ _ ⟨c,f,rfl⟩;exact zai)
theorem zov {N n:Nat}{lv:Value}{xs:List Value}(h:wr.ownsRow N 133 6 lv n xs)(hF:Fr (MT b) wr w1):w1.ownsRow N 133 6 lv n xs :=
 za9 h hF (by rintro k o _ _ ⟨c,f,rfl⟩;exact zes)
theorem RC.mt {S:Nat→Prop}{l:List J}{xs:List Value}(h:RC S wr l xs)(hb:OldK.k≤b)(hF:Fr (MT b) wr w1):RC S w1 l xs:=by
 refine RC.kp (Kp.fr hF (fun b hb _=>hb) ?_) l xs h;rintro k o _ _ (⟨c,f,rfl⟩ | ⟨c,f,rfl⟩ | hk)
 ·exact zai
 ·exact zes
 rintro⟨rfl,-⟩;omega
theorem RP.mt {S:Nat→Prop}{l:List (Bs × J)}{xs:List Value}(h:RP S wr l xs)(hb:OldK.k≤b)(hF:Fr (MT b) wr w1):RP S w1 l xs:=by
 refine RP.kp (Kp.fr hF (fun b hb _=>hb) ?_) l xs h;rintro k o _ _ (⟨c,f,rfl⟩ | ⟨c,f,rfl⟩ | hk)
 ·exact zai
 ·exact zes
 rintro⟨rfl,-⟩;omega
theorem LRow.mt {S:Nat→Prop}{N:Nat}{l:List J}{lv:Value}(h:LRow S N l lv wr)(hb:OldK.k≤b)(hF:Fr (MT b) wr w1):LRow S N l lv w1:=by
 obtain⟨xs,hA,hB⟩:=h;refine⟨xs,za9 hA hF ?_,RC.kp (Kp.fr hF (fun b hb _=>hb) ?_) l xs hB⟩
 ·rintro k o _ _ ⟨c,f,rfl⟩;exact zai
 rintro k o _ _ (⟨c,f,rfl⟩ | ⟨c,f,rfl⟩ | hk)
 ·exact zai
 ·exact zes
 rintro⟨rfl,-⟩;omega
theorem QRow.mt {S:Nat→Prop}{N:Nat}{l:List (Bs × J)}{lv:Value}(h:QRow S N l lv wr)(hb:OldK.k≤b)(hF:Fr (MT b) wr w1):QRow S N l lv w1:=by
 obtain⟨xs,hA,hB⟩:=h;refine⟨xs,za9 hA hF ?_,RP.kp (Kp.fr hF (fun b hb _=>hb) ?_) l xs hB⟩
 ·rintro k o _ _ ⟨c,f,rfl⟩;exact zes
 rintro k o _ _ (⟨c,f,rfl⟩ | ⟨c,f,rfl⟩ | hk)
 ·exact zai
 ·exact zes
 rintro⟨rfl,-⟩;omega
theorem QRow.rowQ {S:Nat→Prop}{N:Nat}{l:List (Bs × J)}{lv:Value}(h:QRow S N l lv wr):∃ a c,lv = .slice a l.length c∧RowP (fun k=>(S k∨N≤k)∧k<wr.heap.size) wr l a:=by
 obtain⟨xs,hA,hB⟩:=h;rcases hA.2 with⟨rfl,h0⟩ | ⟨g,cap,cur,rfl,hb,hg,hn,hcm,hcs,htake⟩
 ·exact⟨none,0,by rw[h0],.inl (List.length_eq_zero_iff.1 h0)⟩
 refine⟨_,_,rfl,.inr ⟨g,0,cur,(0,0),rfl,⟨.inr hb,jb hg⟩,Blk.of hg,?_⟩⟩;have e:(cur.toList.drop 0).take (6 * l.length)=xs:=by rw[List.drop_zero,Nat.mul_comm];exact htake
 rw[e];exact RP.kp (fun b o hs hb _=>⟨⟨hs.1,jb hb⟩,hb⟩) l xs hB
theorem LRow.val {l:List J} {lv:Value} {N:Nat} (h:LRow (fun _=>False) (N+2) l lv wr) (v0 v1 v2 v3 v4:Value) :
 RJ (fun k=>N≤k) (setV N v0 v1 v2 v3 v4 wr) (.mk 4 0 [] l []) (.agg #[.int .i64 4,.int .i64 0,.string ⟨#[]⟩,lv,.slice none 0 0]):=by
 obtain⟨a,e,rfl,hr⟩:=h.row
 have h1:RJ (fun k=>(False∨N+2≤k)∧k<wr.heap.size) wr (.mk 4 0 [] l []) (.agg #[.int .i64 4,.int .i64 0,.string ⟨#[]⟩,.slice a l.length e,.slice none 0 0]):=by
  unfold RJ;exact⟨a,e,none,0,rfl,hr,.inl rfl⟩
 exact RJ.kp (fun q o hq ho _=>⟨by rcases hq.1 with h | h;exact h.elim;omega,(q9 _ _ _ _ _ _ _).block q o ho (by rcases hq.1 with h | h;exact h.elim;omega)⟩) _ _ h1
theorem QRow.val {l:List (Bs × J)} {lv:Value} {N:Nat} (h:QRow (fun _=>False) (N+2) l lv wr) (v0 v1 v2 v3 v4:Value) :
 RJ (fun k=>N≤k) (setV N v0 v1 v2 v3 v4 wr) (.mk 5 0 [] [] l) (.agg #[.int .i64 5,.int .i64 0,.string ⟨#[]⟩,.slice none 0 0,lv]):=by
 obtain⟨a,e,rfl,hr⟩:=h.rowQ
 have h1:RJ (fun k=>(False∨N+2≤k)∧k<wr.heap.size) wr (.mk 5 0 [] [] l) (.agg #[.int .i64 5,.int .i64 0,.string ⟨#[]⟩,.slice none 0 0,.slice a l.length e]):=by
  unfold RJ;exact⟨none,0,a,e,rfl,.inl rfl,hr⟩
 exact RJ.kp (fun q o hq ho _=>⟨by rcases hq.1 with h | h;exact h.elim;omega,(q9 _ _ _ _ _ _ _).block q o ho (by rcases hq.1 with h | h;exact h.elim;omega)⟩) _ _ h1
theorem LS.tset (h:LS b L v w c bd cs wr)(v0 v1 v2 v3 v4:Value):TX b L v c bd (setV w.heap.size v0 v1 v2 v3 v4 wr)∧Fr (MT b) w (setV w.heap.size v0 v1 v2 v3 v4 wr) :=
 ⟨(h.tx.grow h.sb h.lt ((q9 _ _ _ _ _ _ _).mono (fun _ _ hm=>by omega))).1,h.fr.setV (Nat.le_refl _) _ _ _ _ _⟩
end
end
end Go.Proofs.YtmgfncjfgkllcaaGreatDoor
