/-
 Rows of values and of pairs that grow by append.
-/
import Derived.Test.YtffggpplnjibgaaGreatDoorKPairs
import Derived.Test.YtffggpplnjibgaaGreatDoorKOwn
import Derived.Test.YtffggpplnjibgaaGreatDoorKGet
import Derived.Test.YtffggpplnjibgaaGreatDoorKReader10
import Derived.Test.YtffggpplnjibgaaGreatDoorKTxt5
open Go.Lib renaming hid→zi
open Go renaming heap_alloc_new→zo
namespace Go.Proofs.YtffggpplnjibgaaGreatDoor
set_option linter.unusedVariables false
set_option linter.unusedSimpArgs false
set_option linter.unusedSectionVars false
set_option maxRecDepth 100000
set_option maxHeartbeats 4000000
section
open Go.RowKit
variable [OldK]

theorem RJ.lt {S:Nat→Prop}{w:World}{j:J}{v:Value}(h:RJ S w j v):RJ (fun k=>S k∧k<w.heap.size) w j v :=
 RJ.kp (fun b o hs hb _=>⟨⟨hs,ju hb⟩,hb⟩) j v h
theorem RowV.lt {S:Nat→Prop}{w:World}{l:List J}{a:Option Addr}(h:RowV S w l a):RowV (fun k=>S k∧k<w.heap.size) w l a :=
 h.kp (fun b o hs hb _=>⟨⟨hs,ju hb⟩,hb⟩)
theorem RowP.lt {S:Nat→Prop}{w:World}{l:List (Bs × J)}{a:Option Addr}(h:RowP S w l a):RowP (fun k=>S k∧k<w.heap.size) w l a :=
 h.kp (fun b o hs hb _=>⟨⟨hs,ju hb⟩,hb⟩)
def LRow (S:Nat→Prop) (N:Nat) (l:List J) (lv:Value) (w:World):Prop :=
 ∃ xs,w.ownsRow N 65 5 lv l.length xs∧RC (fun k=>(S k∨N≤k)∧lv.ownBlock≠some k) w l xs
theorem LRow.nil (S:Nat→Prop)(N:Nat)(w:World):LRow S N [] (.slice none 0 0) w:=⟨[],⟨rfl,.inl ⟨rfl,rfl⟩⟩,by unfold RC;rfl⟩
theorem LRow.fr {S:Nat→Prop}{N:Nat}{l:List J}{lv:Value}{w w':World}(h:LRow S N l lv w)(hF:Fr NoB w w'):LRow S N l lv w':=by
 obtain⟨xs,hB,hC⟩:=h;exact⟨xs,zc0 hB hF (fun _ _ _ _ _ h=>h),RC.kp (Kp.ofFr hF) l xs hC⟩
theorem zg0 {W w2:World}{row:Option Nat}(hgr:W.grownBy w2 row){k:Nat}{o:Obj}(hk:W.heap[k]? = some o)(hne:row≠some k):w2.heap[k]? = some o :=
 (Fr.ofGrown hgr).block k o hk (fun e=>hne e.symm)
theorem zaf {w:World}{k:Nat}{o:Obj}(Z:Obj)(hk:w.heap[k]? = some o):(w.alloc Z).heap[k]? = some o :=
 ((Fr.refl (M:=NoB)).alloc Z).block k o hk (fun h=>h)
section
variable {S:Nat→Prop} {N M bv g cap c n':Nat} {w1 w2:World} {Z:Obj} {lv X:Value} {xs:List Value} {e:TypeId}
theorem zre (hgr:(w1.alloc Z).grownBy w2 lv.ownBlock):Fr (fun k _=>lv.ownBlock=some k∨k=bv) w1 (w2.setCell ⟨bv,c,none⟩ X):=by
 refine Fr.setCell ?_ _ _ (fun _ _ => .inr rfl);exact((Fr.refl (M:=fun k _=>lv.ownBlock=some k∨k=bv)).alloc Z).trans (Fr.ofGrown hgr) (fun k o hm => .inl (.inl hm.symm))
theorem zm8 {size:Nat} (hown:w1.ownsRow N e size lv n' xs) (hgr:(w1.alloc Z).grownBy w2 lv.ownBlock) (hg2:lv.ownBlock=some g∨w1.heap.size+1≤g)
 (hbv:bv<N) (hSbv:¬ S bv):Kp (fun k=>(S k∨N≤k)∧lv.ownBlock≠some k) (fun k=>(S k∨N≤k)∧some g≠some k) w1 (w2.setCell ⟨bv,c,none⟩ X):=by
 intro b o hs hb _
 have hB:b≠g:=by
  rintro rfl;rcases hg2 with h | h
  ·exact hs.2 h
  have:=ju hb;omega
 refine⟨⟨hs.1,fun e=>hB (by simpa using e.symm)⟩,(zre hgr).block b o hb ?_⟩;rintro(h | rfl)
 ·exact hs.2 h
 rcases hs.1 with h | h
 ·exact hSbv h
 omega
theorem zoc {size:Nat} (hown:w1.ownsRow N e size lv n' xs) (hgr:(w1.alloc Z).grownBy w2 lv.ownBlock) (hg2:lv.ownBlock=some g∨w1.heap.size+1≤g)
 (hSN:∀ k,S k→k<N) (hM:N≤M) (hlw:∀ k,lv.ownBlock=some k→k<M) (hbv:bv<N) (hSbv:¬ S bv) :
 Kp (fun k=>S k∨M≤k) (fun k=>(S k∨N≤k)∧some g≠some k) w1 (w2.setCell ⟨bv,c,none⟩ X):=by
 intro b o hs hb ht
 have hB:lv.ownBlock≠some b:=by
  intro h;have h1:=(zcj hown b h).1;have h2:=hlw b h;rcases hs with h3 | h3
  ·have:=hSN b h3;omega
  omega
 exact zm8 (S:=S) hown hgr hg2 hbv hSbv b o ⟨hs.imp id (fun h=>Nat.le_trans hM h),hB⟩ hb ht
end

theorem LRow.push {S:Nat→Prop} {N M bv g cap:Nat} {w1 w2:World} {Z:Obj} {l:List J} {j:J} {lv X v0 v1 v2 v3 v4:Value} {xs:List Value}
 (hown:w1.ownsRow N 65 5 lv l.length xs) (hrc:RC (fun k=>(S k∨N≤k)∧lv.ownBlock≠some k) w1 l xs) (hSN:∀ k,S k→k<N)
 (hj:RJ (fun k=>S k∨M≤k) w1 j (.agg #[v0,v1,v2,v3,v4])) (hM:N≤M) (hlw:∀ k,lv.ownBlock=some k→k<M)
 (hgr:(w1.alloc Z).grownBy w2 lv.ownBlock) (hg2:lv.ownBlock=some g∨w1.heap.size+1≤g)
 (hown2:w2.ownsRow N 65 5 (.slice (some ⟨g,0,none⟩) (l.length+1) cap) (l.length+1) (xs++[v0,v1,v2,v3,v4]))
 (hbv:bv<N) (hSbv:¬ S bv) (hgN:N≤g) (c:Nat):LRow S N (l++[j]) (.slice (some ⟨g,0,none⟩) (l.length+1) cap) (w2.setCell ⟨bv,c,none⟩ X):=by
 refine⟨xs++[v0,v1,v2,v3,v4],zdc (by simpa using hown2) (fun k hk=>?_),?_⟩
 ·have:k=g:=by simpa[Value.ownBlock] using hk.symm
  exact Below.heap_setCell _ _ _ _ (by show k≠bv;omega)
 exact RC.append l xs [j] _ (RC.kp (zm8 hown hgr hg2 hbv hSbv) l xs hrc) (RC.one (RJ.kp (zoc hown hgr hg2 hSN hM hlw hbv hSbv) j _ hj))
def QRow (S:Nat→Prop) (N:Nat) (l:List (Bs × J)) (lv:Value) (w:World):Prop :=
 ∃ xs,w.ownsRow N 116 6 lv l.length xs∧RP (fun k=>(S k∨N≤k)∧lv.ownBlock≠some k) w l xs
theorem QRow.nil (S:Nat→Prop)(N:Nat)(w:World):QRow S N [] (.slice none 0 0) w:=⟨[],⟨rfl,.inl ⟨rfl,rfl⟩⟩,by unfold RP;rfl⟩
theorem QRow.push {S:Nat→Prop} {N M bv g cap:Nat} {w1 w2:World} {Z:Obj} {l:List (Bs × J)} {nm:Bs} {j:J} {lv X v0 v1 v2 v3 v4:Value} {xs:List Value}
 (hown:w1.ownsRow N 116 6 lv l.length xs) (hrc:RP (fun k=>(S k∨N≤k)∧lv.ownBlock≠some k) w1 l xs) (hSN:∀ k,S k→k<N)
 (hj:RJ (fun k=>S k∨M≤k) w1 j (.agg #[v0,v1,v2,v3,v4])) (hM:N≤M) (hlw:∀ k,lv.ownBlock=some k→k<M)
 (hgr:(w1.alloc Z).grownBy w2 lv.ownBlock) (hg2:lv.ownBlock=some g∨w1.heap.size+1≤g)
 (hown2:w2.ownsRow N 116 6 (.slice (some ⟨g,0,none⟩) (l.length+1) cap) (l.length+1) (xs++[.string ⟨nm.toArray⟩,v0,v1,v2,v3,v4]))
 (hbv:bv<N) (hSbv:¬ S bv) (hgN:N≤g) (c:Nat):QRow S N (l++[(nm,j)]) (.slice (some ⟨g,0,none⟩) (l.length+1) cap) (w2.setCell ⟨bv,c,none⟩ X):=by
 refine⟨xs++[.string ⟨nm.toArray⟩,v0,v1,v2,v3,v4],zdc (by simpa using hown2) (fun k hk=>?_),?_⟩
 ·have:k=g:=by simpa[Value.ownBlock] using hk.symm
  exact Below.heap_setCell _ _ _ _ (by show k≠bv;omega)
 exact RP.append l xs [(nm,j)] _ (RP.kp (zm8 hown hgr hg2 hbv hSbv) l xs hrc) (RP.one (RJ.kp (zoc hown hgr hg2 hSN hM hlw hbv hSbv) j _ hj))
theorem LRow.row {S:Nat→Prop}{N:Nat}{l:List J}{lv:Value}{w:World}(h:LRow S N l lv w):∃ a c,lv = .slice a l.length c∧RowV (fun k=>(S k∨N≤k)∧k<w.heap.size) w l a:=by
 obtain⟨xs,hB,hC⟩:=h;rcases hB.2 with⟨rfl,h0⟩ | ⟨g,cap,cur,rfl,hb,hg,hn,hcm,hcs,htake⟩
 ·exact⟨none,0,by rw[h0],.inl (List.length_eq_zero_iff.1 h0)⟩
 refine⟨_,_,rfl,.inr ⟨g,0,cur,(0,0),rfl,⟨.inr hb,ju hg⟩,Blk.of hg,?_⟩⟩;have e:(cur.toList.drop 0).take (5 * l.length)=xs:=by rw[List.drop_zero,Nat.mul_comm];exact htake
 rw[e];exact RC.kp (fun b o hs hb _=>⟨⟨hs.1,ju hb⟩,hb⟩) l xs hC
def RowVN (B:Nat) (S:Nat→Prop) (w:World) (l:List J) (a:Option Addr):Prop :=
 RowV S w l a∧(l=[]∨∃ g cs,a=some ⟨g,0,none⟩∧S g∧B≤g∧w.heap[g]? = some (.cells cs 65 (0,0)))
theorem RowVN.kp {B:Nat}{S S':Nat→Prop}{w w':World}{l:List J}{a:Option Addr}(h:RowVN B S w l a)(hk:Kp S S' w w'):RowVN B S' w' l a:=by
 refine⟨h.1.kp hk,?_⟩;rcases h.2 with h | ⟨g,cs,ha,hs,hB,hg⟩
 ·exact .inl h
 obtain⟨h1,h2⟩:=hk g _ hs hg (.inl ⟨_,_,rfl⟩);exact .inr ⟨g,cs,ha,h1,hB,h2⟩
end
section
open Go.RowKit
variable [OldK]
theorem zqm (w:World)(a b:Obj):((w.alloc a).alloc b).heap[w.heap.size]? = some a∧((w.alloc a).alloc b).heap[w.heap.size+1]? = some b:=by
 have s1:(w.alloc a).heap.size=w.heap.size+1:=World.size_alloc _ _;have e2:=zo (w.alloc a) b;rw[s1]at e2;refine⟨?_,e2⟩;rw[Below.heap_alloc _ _ _ (by omega)];exact zo w a
theorem zoh (n:Int)(t:Bs)(l:List J)(p:List (Bs × J))(nm:Bs):zbw (.mk 5 n t l p) nm=zdo nm p:=by
 unfold zbw;exact if_pos rfl
theorem zwg {k:Int}(n:Int)(t:Bs)(l:List J)(p:List (Bs × J))(nm:Bs)(h:¬ k=5):zbw (.mk k n t l p) nm=none:=by
 unfold zbw;exact if_neg h
theorem zoa (S:Nat→Prop) (j:J) (v:Value) (nm:Bs) (w:World) (h:RJ S w j v) (hpl:j.pairs.length≤67108864) :
 Calls Tryz.prog 96 #[v,.string ⟨nm.toArray⟩] w fun e W'=>∃ x,e = .returned (.tuple #[x,.bool (zbw j nm).isSome])∧RJ S W' ((zbw j nm).getD J.zero) x∧Fr NoB w W':=by
 obtain⟨k,n,t,l,p⟩:=j;obtain⟨a1,c1,a2,c2,rfl,hl,hp⟩:=h.open;simp only[J.pairs]at hpl;have Hp:=zi hp.lt;have hJ:=zqm w (.cells #[.int .i64 k,.int .i64 n,.string ⟨t.toArray⟩,.slice a1 l.length c1,.slice a2 p.length c2] 65) (.cells #[.int .i64 0,.int .i64 0,.string ⟨#[]⟩,.slice none 0 0,.slice none 0 0] 65);have hF:Hid (Fr NoB w ((w.alloc (.cells #[.int .i64 k,.int .i64 n,.string ⟨t.toArray⟩,.slice a1 l.length c1,.slice a2 p.length c2] 65)).alloc (.cells #[.int .i64 0,.int .i64 0,.string ⟨#[]⟩,.slice none 0 0,.slice none 0 0] 65))):=zi ((Fr.refl.alloc _).alloc _);obtain⟨hA,hB⟩:=hJ;have HA:=zi hA;have HB:=zi hB;obtain⟨P,hP⟩:∃ P,zdo nm p=P:=⟨_,rfl⟩;have HP:Hid (zdo nm (p.drop 0)=P):=zi hP;clear hA hB hp hl h;by_cases hk:k=5
 ·subst hk;rw[zoh,hP];clear hP;go_enter Tryz.func96,Tryz.ntmps96
  go_wp2_with fail
  go_loopg [6] (p.length+1) (fun g vi wr=>∃ i:Nat,vi = .int .i64 i∧i≤p.length∧i+g=p.length+1 ∧
   wr.heap[w.heap.size]? = some (.cells #[.int .i64 5,.int .i64 n,.string ⟨t.toArray⟩,.slice a1 l.length c1,.slice a2 p.length c2] 65 (0,0)) ∧
   wr.heap[w.heap.size+1]? = some (.cells #[.int .i64 0,.int .i64 0,.string ⟨#[]⟩,.slice none 0 0,.slice none 0 0] 65 (0,0))∧Hid (Fr NoB w wr)∧Hid (zdo nm (p.drop i)=P))
  case atStart=>exact⟨0,rfl,by omega,by omega,HA.out,HB.out,hF,HP⟩
  case round =>
   obtain⟨i,rfl,hi,hig,hA,hB,HF,hD⟩:=hrel;clear HA HB hF HP;obtain⟨v0,v1,v2,v3,v4,vz,hH⟩:=VB.at hA;obtain⟨r0,r1,r2,r3,r4,rz,hI⟩:=VB.at hB;have HA:=zi hA;have HB:=zi hB;clear hA hB;rcases Nat.lt_or_ge i p.length with hlt | hge
   ·obtain ⟨⟨hG,j'⟩,hj⟩:∃ q,p[i]? = some q:=⟨_,List.getElem?_eq_getElem hlt⟩;obtain⟨b,o,x0,x1,x2,x3,x4,rfl,hbl,e5,e0,e1,e2,e3,e4,hE⟩:=(Hp.out.kp (Kp.ofFr HF.out)).at hj
    have hd:p.drop i=(hG,j') :: p.drop (i+1):=by
     rw[List.drop_eq_getElem_cons hlt]
     congr 1
     exact(List.getElem?_eq_some_iff.1 hj).2
    have hC:=hD.out;rw[hd,zdo]at hC;clear hD hd;by_cases he:hG=nm
    ·subst he;rw[if_pos rfl]at hC;subst hC;obtain⟨jk,jn,jt,jl,jp⟩:=j';obtain⟨y1,m1,y2,m2,hx,_,_⟩:=hE.open;simp only[Value.agg.injEq,Array.mk.injEq,List.cons.injEq,and_true]at hx;obtain⟨rfl,rfl,rfl,rfl,rfl⟩:=hx;have Hrj:=zi hE;clear hE hj
     go_wp2_with fail
     refine bodyPost_ret (v := .tuple #[.agg #[.int .i64 jk,.int .i64 jn,.string ⟨jt.toArray⟩,.slice y1 jl.length m1,.slice y2 jp.length m2],.bool true]) (by simp[results,Tryz.results96,go_sem,r0,r1,r2,r3,r4]) rfl ?_;have hK:Fr NoB w (setV (w.heap.size+1) (.int .i64 jk) (.int .i64 jn) (.string ⟨jt.toArray⟩) (.slice y1 jl.length m1) (.slice y2 jp.length m2) wr):=HF.out.trans (za1 _ _ _ _ _ _ _) (fun k _ hm => .inr (by omega));refine⟨_,rfl,?_,hK⟩;exact RJ.kp (fun q o hq ho _=>⟨hq.1,(za1 _ _ _ _ _ _ _).block q o ho (by have:=hq.2;omega)⟩) _ _ Hrj.out
    rw[if_neg he]at hC;have hD:=zi hC;have hne:(hG==nm)=false:=by rw[beq_eq_false_iff_ne];exact he
    clear he hC hE hj
    go_wp2_with fail
    go_roundg (gk - 1)
    case measure=>omega
    case rel=>exact⟨i+1,by simp,by omega,by omega,HA.out,HB.out,HF,hD⟩
   obtain rfl:i=p.length:=by omega
   have hC:=hD.out;rw[List.drop_length,zdo]at hC;subst hC;clear hD
   go_wp2_with fail
   refine bodyPost_ret (v := .tuple #[.agg #[.int .i64 0,.int .i64 0,.string ⟨#[]⟩,.slice none 0 0,.slice none 0 0],.bool false]) (by simp[results,Tryz.results96,go_sem,r0,r1,r2,r3,r4]) rfl ?_;exact⟨_,rfl,RJ.zero _ _,HF.out.trans (za1 _ _ _ _ _ _ _) (fun k _ hm => .inr (by omega))⟩
 rw[zwg _ _ _ _ _ hk];clear hP;have hk5:(k==5)=false:=by rw[beq_eq_false_iff_ne];exact hk
 clear hk;go_enter Tryz.func96,Tryz.ntmps96
 go_wp2_with fail
 go_loopg [6] 1 (fun g vi wr=>vi = .int .i64 0 ∧
  wr.heap[w.heap.size]? = some (.cells #[.int .i64 k,.int .i64 n,.string ⟨t.toArray⟩,.slice a1 l.length c1,.slice a2 p.length c2] 65 (0,0)) ∧
  wr.heap[w.heap.size+1]? = some (.cells #[.int .i64 0,.int .i64 0,.string ⟨#[]⟩,.slice none 0 0,.slice none 0 0] 65 (0,0))∧Hid (Fr NoB w wr))
 case atStart=>exact⟨rfl,HA.out,HB.out,hF⟩
 case round =>
  obtain⟨rfl,hA,hB,HF⟩:=hrel;clear HA HB hF HP;obtain⟨v0,v1,v2,v3,v4,vz,hH⟩:=VB.at hA;obtain⟨r0,r1,r2,r3,r4,rz,hI⟩:=VB.at hB;clear hA hB;rcases Nat.eq_zero_or_pos p.length with h0 | h0
  all_goals
   go_wp2_with fail
   refine bodyPost_ret (v := .tuple #[.agg #[.int .i64 0,.int .i64 0,.string ⟨#[]⟩,.slice none 0 0,.slice none 0 0],.bool false]) (by simp[results,Tryz.results96,go_sem,r0,r1,r2,r3,r4]) rfl ?_;exact⟨_,rfl,RJ.zero _ _,HF.out.trans (za1 _ _ _ _ _ _ _) (fun k _ hm => .inr (by omega))⟩
end
section
open Go.RowKit
variable [OldK]
theorem zpd {s out:Bs} {C:Int} {k:Nat} (h:zbp s=(C,k)) :
 (k=0∨C<32→∃ st,zao out ⟨s,false⟩=(none,out,st)∧st.bad=true) ∧
 (k ≠ 0→32≤C→(C=34→zao out ⟨s,false⟩=(some out,out,⟨s.drop k,false⟩)) ∧
   (C=92→zao out ⟨s,false⟩=(none,out++Lib.encodeRune ((qf ⟨s.drop k,false⟩).1:Int),(qf ⟨s.drop k,false⟩).2)) ∧
   (C≠34→C≠92→zao out ⟨s,false⟩=(none,out++Lib.encodeRune C,⟨s.drop k,false⟩))):=by
 obtain⟨-,-,-,f4⟩:=zey s;unfold zbp at h;unfold zao;simp only;by_cases hs:s=[]
 ·rw[if_pos hs]at h;simp only[Prod.mk.injEq]at h;obtain⟨rfl,rfl⟩:=h;subst hs;have hz:(Lib.decodeGo ⟨([]:Bs).toArray⟩).2=0:=rfl;refine⟨fun _=>?_,fun h=>absurd rfl h⟩;rw[if_pos (.inl hz)];exact⟨_,rfl,rfl⟩
 rw[if_neg hs]at h;have f5:=f4 hs;by_cases hb:(Lib.decodeGo ⟨s.toArray⟩).1=65533∧(Lib.decodeGo ⟨s.toArray⟩).2=1
 ·rw[if_pos hb]at h;simp only[Prod.mk.injEq]at h;obtain⟨rfl,rfl⟩:=h;refine⟨fun _=>?_,fun h=>absurd rfl h⟩;rw[if_pos (.inr (.inr hb))];exact⟨_,rfl,rfl⟩
 rw[if_neg hb]at h;simp only[Prod.mk.injEq]at h;obtain⟨rfl,rfl⟩:=h;refine⟨fun h=>?_,fun h1 h2=>⟨fun h3=>?_,fun h3=>?_,fun h3 h4=>?_⟩⟩
 ·rw[if_pos (by omega)];exact⟨_,rfl,rfl⟩
 ·rw[if_neg (by omega),if_pos (by omega)]
 ·rw[if_neg (by omega),if_neg (by omega),if_pos (by omega)]
 rw[if_neg (by omega),if_neg (by omega),if_neg (by omega)]
theorem zv0 (st:St):Sc ((zds st).1:Int):=by
 have hx:=zkr 4 0 st;unfold zds;generalize zb6 4 0 st=G at *;obtain⟨n,hB⟩:=G;simp only at hx ⊢;unfold Sc;split
 ·simp only;omega
 split
 ·simp only;omega
 have hC:=zkr 4 0 (zaa [92,117] hB);generalize zb6 4 0 (zaa [92,117] hB)=G2 at *;obtain⟨low,st2⟩:=G2;simp only at hC ⊢;split
 ·simp only;omega
 rename_i h1 h2 h3
 simp only[not_or]at h3;simp only;omega
theorem zx7 (st:St):Sc ((qf st).1:Int):=by
 unfold qf;split
 ·unfold Sc;simp only;omega
 rename_i c l hl
 cases hp:zcq c with
 | some v =>
   simp only
   have:v<128:=by
    unfold zcq at hp
    repeat' split at hp
    all_goals (first | (simp at hp;done) | (simp only[Option.some.injEq]at hp;omega))
   unfold Sc;omega
 | none =>
   simp only;split
   ·exact zv0 _
   unfold Sc;simp only;omega
theorem zh6 (k:Nat)(out:Bs)(st:St)(h:st.bad=true):qe k out st=([],st):=by
 cases k with
 | zero=>rfl
 | succ k=>unfold qe;rw[if_pos h]
theorem SB.below {l:Bs}{v:Value}{w:World}(h:SB (fun _=>True) l v w):SB (fun k=>k<w.heap.size) l v w :=
 h.kp (fun k o _ hk _=>⟨ju hk,hk⟩)
theorem TX.grow {b B:Nat}{L:Bs}{v:Value}{c:Nat}{bd:Bool}{w w':World}(h:TX b L v c bd w)(hS:SB (fun k=>k<B) L v w)(hb:b<B)(hF:Fr (fun k _=>B≤k) w w') :
 TX b L v c bd w'∧SB (fun k=>k<B) L v w':=by
 have hB:SB (fun k=>k<B) L v w':=hS.fr hF (fun k o hk _ hm=>by omega);refine⟨⟨h.1,hB.kp (fun k o _ hk _=>⟨trivial,hk⟩),hF.block _ _ h.2.2 (by omega)⟩,hB⟩
theorem zqc {b B:Nat}{L:Bs}{v:Value}{w w':World}(hS:SB (fun k=>k<B) L v w)(hb:OldK.k≤b)(hF:Fr (MT b) w w'):SB (fun k=>k<B) L v w':=by
 refine hS.fr hF (fun k o _ ho hm=>?_);obtain⟨rfl,c,f,rfl⟩:=hm;rcases ho with⟨c',f',e⟩ | hk
 ·cases e
 omega
theorem OB.nil (B:Nat)(w:World):OB B [] (.slice none 0 0) w:=World.ownsRow_nil w B _ 1
theorem OB.mt {b B:Nat} {out:Bs} {v:Value} {w w':World} (h:OB B out v w) (hF:Fr (MT b) w w'):OB B out v w' :=
 h.fr hF (fun k o _ ho hm=>by
  obtain⟨rfl,c,f,rfl⟩:=hm;obtain⟨c',f',e⟩:=ho
  cases e)
theorem SB.from {S:Nat→Prop} {L:Bs} {g o cap c:Nat} {w:World} (h:SB S L (.slice (some ⟨g,o,none⟩) L.length cap) w) (hc:c≤L.length) (hcap:L.length≤cap) :
 SB S (L.drop c) (.slice (if cap=c then some ⟨g,o,none⟩ else some ⟨g,o+c,none⟩) (L.length - c) (cap - c)) w:=by
 split
 ·rename_i e
  have e1:L.drop c=[]:=List.drop_eq_nil_of_le (by omega);have e2:L.length - c=0:=by omega
  rw[e1,e2];exact h.none' _
 exact h.drop c hc
end
section
open Go.RowKit
variable [OldK]
theorem zdp {t:Bs} {x:UInt8} (hx:0<x.toNat) (h:nxT t=(x.toNat:Int)):∃ l,t=x :: l:=by
 cases t with
 | nil=>simp[nxT]at h;omega
 | cons y l =>
   simp only[nxT]at h;have:y=x:=UInt8.toNat_inj.1 (by omega);exact⟨l,by rw[this]⟩
theorem ztz {t:Bs}{x:UInt8}(h:nxT t≠(x.toNat:Int)):∀ l,t≠x :: l:=by
 rintro l rfl;exact h rfl
theorem zn2 {s:Bs}:∀ x l,jq s=x :: l→¬ (x=32∨x=9∨x=10∨x=13):=by
 induction s with
 | nil=>intro x l h;simp[jq,Lib.trimLeftS]at h
 | cons y m ih =>
   intro x l h;rw[zbk]at h;split at h
   ·exact ih x l h
   rename_i hy
   simp only[List.cons.injEq]at h;rw[← h.1];exact hy
theorem zi6 (s:Bs):jq (jq s)=jq s:=by
 have h:=zn2 (s:=s);generalize jq s=t at *;cases t with
 | nil=>rfl
 | cons x l=>rw[zbk,if_neg (h x l rfl)]
theorem ze3 {c:UInt8}{s l:Bs}(h:jq s=c :: l):zel c s=some l:=by
 unfold zel;rw[h];simp
theorem zic {c:UInt8} {s:Bs} (h:∀ l,jq s≠c :: l):zel c s=none:=by
 unfold zel;generalize jq s=t at *;cases t with
 | nil=>rfl
 | cons x m =>
   simp only;rw[if_neg];rintro rfl;exact h m rfl
section
variable {α:Type} {one:St→α→St × α} {shut:UInt8}
theorem zlx {k:Nat} {s:Bs} {a:α} {st1:St} {a1:α} (h:one ⟨s,false⟩ a=(st1,a1)) :
 (st1.bad=true→zbz one shut (k+1) ⟨s,false⟩ a=(st1,a1)) ∧
 (st1.bad=false→(∀ l,jq st1.s=shut :: l→zbz one shut (k+1) ⟨s,false⟩ a=(⟨l,false⟩,a1)) ∧
   (∀ l,shut≠44→jq st1.s=44 :: l→zbz one shut (k+1) ⟨s,false⟩ a=zbz one shut k ⟨l,false⟩ a1) ∧
   ((∀ l,jq st1.s≠shut :: l)→(∀ l,jq st1.s≠44 :: l)→(zbz one shut (k+1) ⟨s,false⟩ a).1.bad=true)):=by
 rw[zbz,h];simp only[Bool.false_eq_true,if_false];refine⟨fun hb=>by rw[if_pos hb],fun hb=>?_⟩;rw[if_neg (by simp[hb])];refine⟨fun l hl=>by rw[ze3 hl],fun l hs hl=>?_,fun h1 h2=>?_⟩
 ·have hn:∀ m,jq st1.s≠shut :: m:=by
   intro m hm;rw[hl]at hm;simp only[List.cons.injEq]at hm;exact hs hm.1.symm
  rw[zic hn,ze3 (by rw[zi6];exact hl)]
 rw[zic h1,zic (by rw[zi6];exact h2)];exact zgg _ _ _
theorem zj0 {op:UInt8} {d:Int} {l:Bs} {a:α} (hop:¬ (op=32∨op=9∨op=10∨op=13)) (hd:d≤8) :
 (∀ m,jq l=shut :: m→zaj one op shut d ⟨op :: l,false⟩ a=(⟨m,false⟩,a)) ∧
 ((∀ m,jq l≠shut :: m)→zaj one op shut d ⟨op :: l,false⟩ a=zbz one shut (l.length+2) ⟨jq l,false⟩ a):=by
 have h1:zcf op d ⟨op :: l,false⟩=⟨l,false⟩:=by
  unfold zcf;simp only;rw[ze3 (by rw[zbk,if_neg hop])];simp only[Bool.false_or];rw[decide_eq_false (by omega)]
 unfold zaj;rw[h1];refine⟨fun m hm=>by rw[ze3 hm],fun hm=>by rw[zic hm]⟩
theorem zl5 {op:UInt8} {d:Int} {l:Bs} {a:α} (hop:¬ (op=32∨op=9∨op=10∨op=13)) (hd:8<d):(zaj one op shut d ⟨op :: l,false⟩ a).1.bad=true:=by
 have h1:zcf op d ⟨op :: l,false⟩=⟨l,true⟩:=by
  unfold zcf;simp only;rw[ze3 (by rw[zbk,if_neg hop])];simp only[Bool.false_or];rw[decide_eq_true hd]
 unfold zaj;rw[h1];split
 ·rfl
 exact zgg _ _ _
theorem zif (hs:shut≠44) (hs0:0<shut.toNat) {L:Bs} {c k a' K:Nat} {acc a1:α} {st1:St} {G:St × α}
 (h1:one ⟨L.drop c,false⟩ acc=(st1,a1)) (hle:st1.s.length≤(L.drop c).length) (hcL:c≤L.length) (hk:(L.drop c).length+1≤k+1)
 (hG:zbz one shut (k+1) ⟨L.drop c,false⟩ acc=G) (hpos:st1.bad=false→L.drop a'=st1.s∧a'≤L.length) (hK:a'+1≤K) (hK2:L.length+1≤K) :
 blk L a'+1≤K ∧
 (nxT (L.drop (blk L a'))=(shut.toNat:Int)→(G.1.bad=false→st1.bad=false∧G.2=a1)∧(∀ b v W,TX b L v (blk L a'+1) st1.bad W→RS b L v K G.1 W)) ∧
 (nxT (L.drop (blk L a'))=44→(st1.bad=true→G.1.bad=true) ∧
   (st1.bad=false→c+1≤blk L a'+1∧blk L a'+1≤L.length∧(L.drop (blk L a'+1)).length+1≤k∧zbz one shut k ⟨L.drop (blk L a'+1),false⟩ a1=G)) ∧
 (¬ nxT (L.drop (blk L a'))=(shut.toNat:Int)→¬ nxT (L.drop (blk L a'))=44→G.1.bad=true):=by
 have hb:=zha L a';have hd:=zea L a';obtain⟨s1,s2⟩:=zlx (one:=one) (shut:=shut) (k:=k) h1;rw[hG]at s1 s2;have hF:=zab st1.s;rw[List.length_drop]at hle hk;refine⟨by omega,fun hm=>?_,fun hm=>?_,fun hE hD=>?_⟩
 ·obtain ⟨l,hl⟩:=zdp hs0 hm;obtain⟨q1,q2,q3,q4⟩:=zdi hl;cases hB:st1.bad with
  | true =>
    have hC:=s1 hB;subst hC;exact⟨fun h=>by simp only at h;rw[hB]at h;exact absurd h (by decide),fun b v W hW=>⟨_,by simp only;rw[hB];exact hW,fun h=>by simp only at h;rw[hB]at h;exact absurd h (by decide),by omega⟩⟩
  | false =>
    rw[(hpos hB).1]at hd;rw[hd]at hl;have hC:=(s2 hB).1 l hl;subst hC;exact⟨fun _=>⟨rfl,rfl⟩,fun b v W hW=>⟨_,hW,fun _=>⟨q3,by omega⟩,by omega⟩⟩
 ·obtain⟨l,hl⟩:=zdp (x:=44) (by decide) hm;obtain⟨q1,q2,q3,q4⟩:=zdi hl;refine⟨fun hB=>by rw[s1 hB];exact hB,fun hB=>?_⟩;rw[(hpos hB).1]at hd;rw[hd]at hl;have hC:=(s2 hB).2.1 l hs hl;rw[hl,List.length_cons]at hF;refine⟨by omega,by omega,by rw[q3];omega,by rw[q3];exact hC.symm⟩
 cases hB:st1.bad with
 | true=>rw[s1 hB];exact hB
 | false =>
   rw[(hpos hB).1]at hd;rw[hd]at hE hD;exact(s2 hB).2.2 (ztz hE) (ztz (x:=44) hD)
end
end
section
open Go.RowKit
variable [OldK]
attribute [local irreducible] wpStill
def zsw (b:Nat) (L:Bs) (v:Value) (f:Nat):Prop:=∀ (d:Int) (a:Nat) (w:World),TX b L v a false w→a≤L.length→0≤d→d≤8→d+f=10 →
 Calls Tryz.prog 131 #[.pointer (some ⟨b,0,none⟩),.int .i64 d] w fun e w'=>∃ j x,e = .returned x∧RJ (fun k=>w.heap.size≤k) w' j x ∧
  ((jy f d ⟨L.drop a,false⟩).2.bad=false→j=(jy f d ⟨L.drop a,false⟩).1)∧RS b L v (L.length+10 - d.toNat) (jy f d ⟨L.drop a,false⟩).2 w'∧Fr (MT b) w w'
structure LS (b:Nat) (L:Bs) (v:Value) (w:World) (c:Nat) (bd:Bool) (cs:Array Value) (wr:World):Prop where
 tx:TX b L v c bd wr
 sb:SB (fun k=>k<w.heap.size) L v wr
 ra:wr.heap[w.heap.size]? = some (.cells #[.int .i64 0,.int .i64 0,.string ⟨#[]⟩,.slice none 0 0,.slice none 0 0] 65 (0,0))
 rb:wr.heap[w.heap.size+1]? = some (.cells cs 65 (0,0))
 fr:Fr (MT b) w wr
 lt:b<w.heap.size
 old:OldK.k≤b
section
variable {b:Nat} {L:Bs} {v:Value} {w wr w1:World} {c c':Nat} {bd bd':Bool} {cs:Array Value}
theorem zae {k:Nat}{cs:Array Value}{f:Nat × Nat}:¬ MT b k (.cells cs 65 f):=by
 rintro⟨_,_,_,h⟩;cases h
theorem zeg {k:Nat}{cs:Array Value}{f:Nat × Nat}:¬ MT b k (.cells cs 116 f):=by
 rintro⟨_,_,_,h⟩;cases h
theorem LS.start (h:TX b L v c bd w)(cs:Array Value) :
 LS b L v w c bd cs ((w.alloc (.cells #[.int .i64 0,.int .i64 0,.string ⟨#[]⟩,.slice none 0 0,.slice none 0 0] 65)).alloc (.cells cs 65)):=by
 have hF:Fr NoB w ((w.alloc (.cells #[.int .i64 0,.int .i64 0,.string ⟨#[]⟩,.slice none 0 0,.slice none 0 0] 65)).alloc (.cells cs 65)):=(Fr.refl.alloc _).alloc _;have s1:(w.alloc (.cells #[.int .i64 0,.int .i64 0,.string ⟨#[]⟩,.slice none 0 0,.slice none 0 0] 65)).heap.size=w.heap.size+1:=World.size_alloc _ _;refine⟨h.frN hF,(h.2.1.below).fr hF (fun _ _ _ _ h=>h),?_,?_,hF.mono (fun _ _ h=>h.elim),h.lt,h.1.2⟩
 ·rw[Below.heap_alloc _ _ _ (by omega)];exact zo w _
 have e2:=zo (w.alloc (.cells #[.int .i64 0,.int .i64 0,.string ⟨#[]⟩,.slice none 0 0,.slice none 0 0] 65)) (.cells cs 65);rw[s1]at e2;exact e2
theorem LS.call (h:LS b L v w c bd cs wr)(hT:TX b L v c' bd' w1)(hF:Fr (MT b) wr w1):LS b L v w c' bd' cs w1 :=
 ⟨hT,zqc h.sb h.old hF,hF.block _ _ h.ra zae,hF.block _ _ h.rb zae,h.fr.trans' hF,h.lt,h.old⟩
theorem LS.callN (h:LS b L v w c bd cs wr)(hF:Fr NoB wr w1):LS b L v w c bd cs w1:=h.call (h.tx.frN hF) (hF.mono (fun _ _ h=>h.elim))
theorem LS.put1 (h:LS b L v w c bd cs wr)(x:Int)(a:Nat)(hx:x=(a:Int)):LS b L v w a bd cs (wr.setCell ⟨b,1,none⟩ (.int .i64 x)) :=
 h.call (h.tx.put1 x a hx) (h.tx.setF _ _)
theorem LS.set2 (h:LS b L v w c bd cs wr)(b':Bool):LS b L v w c b' cs (wr.setCell ⟨b,2,none⟩ (.bool b')):=h.call (h.tx.set2 b') (h.tx.setF _ _)
theorem LS.push (h:LS b L v w c bd cs w1) {Z:Obj} {w2:World} {lv X:Value} {o:Nat} (hgr:(w1.alloc Z).grownBy w2 lv.ownBlock) (hlv:∀ k,lv.ownBlock=some k→w.heap.size+2≤k) :
 LS b L v w c bd (cs.setIfInBounds o X) (w2.setCell ⟨w.heap.size+1,o,none⟩ X):=by
 have hF:=zre (bv:=w.heap.size+1) (c:=o) (X:=X) hgr
 obtain ⟨g1,g2⟩:=h.tx.grow h.sb h.lt (hF.mono (M':=fun k _=>w.heap.size≤k) (fun k _ hm=>by
  rcases hm with hm | hm
  ·have:=hlv k hm;omega
  omega))
 refine⟨g1,g2,hF.block _ _ h.ra ?_,?_,h.fr.trans hF (fun k _ hm => .inr ?_),h.lt,h.old⟩
 ·rintro(hm | hm)
  ·have:=hlv _ hm;omega
  omega
 ·refine jh (o:=o) X ?_;exact zg0 hgr (zaf _ h.rb) (fun e=>by have:=hlv _ e;omega)
 rcases hm with hm | hm
 ·have:=hlv _ hm;omega
 omega
theorem zrn {N n:Nat}{lv:Value}{xs:List Value}(h:wr.ownsRow N 65 5 lv n xs)(hF:Fr (MT b) wr w1):w1.ownsRow N 65 5 lv n xs :=
 zc0 h hF (by rintro k o _ _ ⟨c,f,rfl⟩;exact zae)
theorem znd {N n:Nat}{lv:Value}{xs:List Value}(h:wr.ownsRow N 116 6 lv n xs)(hF:Fr (MT b) wr w1):w1.ownsRow N 116 6 lv n xs :=
 zc0 h hF (by rintro k o _ _ ⟨c,f,rfl⟩;exact zeg)
theorem RC.mt {S:Nat→Prop}{l:List J}{xs:List Value}(h:RC S wr l xs)(hb:OldK.k≤b)(hF:Fr (MT b) wr w1):RC S w1 l xs:=by
 refine RC.kp (Kp.fr hF (fun b hb _=>hb) ?_) l xs h;rintro k o _ _ (⟨c,f,rfl⟩ | ⟨c,f,rfl⟩ | hk)
 ·exact zae
 ·exact zeg
 rintro⟨rfl,-⟩;omega
theorem RP.mt {S:Nat→Prop}{l:List (Bs × J)}{xs:List Value}(h:RP S wr l xs)(hb:OldK.k≤b)(hF:Fr (MT b) wr w1):RP S w1 l xs:=by
 refine RP.kp (Kp.fr hF (fun b hb _=>hb) ?_) l xs h;rintro k o _ _ (⟨c,f,rfl⟩ | ⟨c,f,rfl⟩ | hk)
 ·exact zae
 ·exact zeg
 rintro⟨rfl,-⟩;omega
theorem LRow.mt {S:Nat→Prop}{N:Nat}{l:List J}{lv:Value}(h:LRow S N l lv wr)(hb:OldK.k≤b)(hF:Fr (MT b) wr w1):LRow S N l lv w1:=by
 obtain⟨xs,hB,hC⟩:=h;refine⟨xs,zc0 hB hF ?_,RC.kp (Kp.fr hF (fun b hb _=>hb) ?_) l xs hC⟩
 ·rintro k o _ _ ⟨c,f,rfl⟩;exact zae
 rintro k o _ _ (⟨c,f,rfl⟩ | ⟨c,f,rfl⟩ | hk)
 ·exact zae
 ·exact zeg
 rintro⟨rfl,-⟩;omega
theorem QRow.mt {S:Nat→Prop}{N:Nat}{l:List (Bs × J)}{lv:Value}(h:QRow S N l lv wr)(hb:OldK.k≤b)(hF:Fr (MT b) wr w1):QRow S N l lv w1:=by
 obtain⟨xs,hB,hC⟩:=h;refine⟨xs,zc0 hB hF ?_,RP.kp (Kp.fr hF (fun b hb _=>hb) ?_) l xs hC⟩
 ·rintro k o _ _ ⟨c,f,rfl⟩;exact zeg
 rintro k o _ _ (⟨c,f,rfl⟩ | ⟨c,f,rfl⟩ | hk)
 ·exact zae
 ·exact zeg
 rintro⟨rfl,-⟩;omega
theorem QRow.rowQ {S:Nat→Prop}{N:Nat}{l:List (Bs × J)}{lv:Value}(h:QRow S N l lv wr):∃ a c,lv = .slice a l.length c∧RowP (fun k=>(S k∨N≤k)∧k<wr.heap.size) wr l a:=by
 obtain⟨xs,hB,hC⟩:=h;rcases hB.2 with⟨rfl,h0⟩ | ⟨g,cap,cur,rfl,hb,hg,hn,hcm,hcs,htake⟩
 ·exact⟨none,0,by rw[h0],.inl (List.length_eq_zero_iff.1 h0)⟩
 refine⟨_,_,rfl,.inr ⟨g,0,cur,(0,0),rfl,⟨.inr hb,ju hg⟩,Blk.of hg,?_⟩⟩;have e:(cur.toList.drop 0).take (6 * l.length)=xs:=by rw[List.drop_zero,Nat.mul_comm];exact htake
 rw[e];exact RP.kp (fun b o hs hb _=>⟨⟨hs.1,ju hb⟩,hb⟩) l xs hC
theorem LRow.val {l:List J} {lv:Value} {N:Nat} (h:LRow (fun _=>False) (N+2) l lv wr) (v0 v1 v2 v3 v4:Value) :
 RJ (fun k=>N≤k) (setV N v0 v1 v2 v3 v4 wr) (.mk 4 0 [] l []) (.agg #[.int .i64 4,.int .i64 0,.string ⟨#[]⟩,lv,.slice none 0 0]):=by
 obtain⟨a,e,rfl,hr⟩:=h.row
 have h1:RJ (fun k=>(False∨N+2≤k)∧k<wr.heap.size) wr (.mk 4 0 [] l []) (.agg #[.int .i64 4,.int .i64 0,.string ⟨#[]⟩,.slice a l.length e,.slice none 0 0]):=by
  unfold RJ;exact⟨a,e,none,0,rfl,hr,.inl rfl⟩
 exact RJ.kp (fun q o hq ho _=>⟨by rcases hq.1 with h | h;exact h.elim;omega,(za1 _ _ _ _ _ _ _).block q o ho (by rcases hq.1 with h | h;exact h.elim;omega)⟩) _ _ h1
theorem QRow.val {l:List (Bs × J)} {lv:Value} {N:Nat} (h:QRow (fun _=>False) (N+2) l lv wr) (v0 v1 v2 v3 v4:Value) :
 RJ (fun k=>N≤k) (setV N v0 v1 v2 v3 v4 wr) (.mk 5 0 [] [] l) (.agg #[.int .i64 5,.int .i64 0,.string ⟨#[]⟩,.slice none 0 0,lv]):=by
 obtain⟨a,e,rfl,hr⟩:=h.rowQ
 have h1:RJ (fun k=>(False∨N+2≤k)∧k<wr.heap.size) wr (.mk 5 0 [] [] l) (.agg #[.int .i64 5,.int .i64 0,.string ⟨#[]⟩,.slice none 0 0,.slice a l.length e]):=by
  unfold RJ;exact⟨none,0,a,e,rfl,.inl rfl,hr⟩
 exact RJ.kp (fun q o hq ho _=>⟨by rcases hq.1 with h | h;exact h.elim;omega,(za1 _ _ _ _ _ _ _).block q o ho (by rcases hq.1 with h | h;exact h.elim;omega)⟩) _ _ h1
theorem LS.tset (h:LS b L v w c bd cs wr)(v0 v1 v2 v3 v4:Value):TX b L v c bd (setV w.heap.size v0 v1 v2 v3 v4 wr)∧Fr (MT b) w (setV w.heap.size v0 v1 v2 v3 v4 wr) :=
 ⟨(h.tx.grow h.sb h.lt ((za1 _ _ _ _ _ _ _).mono (fun _ _ hm=>by omega))).1,h.fr.setV (Nat.le_refl _) _ _ _ _ _⟩
end
end
end Go.Proofs.YtffggpplnjibgaaGreatDoor
