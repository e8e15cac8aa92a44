/-
 The walk of canon's sorted.
-/
import Derived.Test.YtmgfncjfgkllcaaGreatDoorKStart5
import Derived.Test.YtmgfncjfgkllcaaGreatDoorKStable
import Derived.Test.YtmgfncjfgkllcaaGreatDoorKSound3
import Derived.Test.YtmgfncjfgkllcaaGreatDoorKTxt10
import Derived.Deep.RegionLaw
import Derived.Deep.LoopGhost
import Derived.Test.YtmgfncjfgkllcaaGreatDoorKReader10
open Go.Lib renaming hid→za
open Go.World renaming size_alloc→zf
open Go renaming heap_alloc_new→zh
namespace Go.Proofs.YtmgfncjfgkllcaaGreatDoor
set_option linter.unusedVariables false
set_option linter.unusedSimpArgs false
set_option linter.unusedSectionVars false
set_option maxRecDepth 100000
set_option maxHeartbeats 4000000
section
open Go.RowKit
variable [OldK]

def TopN (B:Nat) (w:World) (x:Value):Prop:=∃ k n t a1 n1 c1 a2 n2 c2,x = .agg #[k,n,t,.slice a1 n1 c1,.slice a2 n2 c2] ∧
 (n1=0∨∃ g cs,a1=some ⟨g,0,none⟩∧B≤g∧w.heap[g]? = some (.cells cs 56 (0,0))) ∧
 (n2=0∨∃ g cs,a2=some ⟨g,0,none⟩∧B≤g∧w.heap[g]? = some (.cells cs 133 (0,0))∧cs.size=c2 * 6∧n2≤c2∧c2≤maxLen)
def ziu (N f:Nat):Prop:=∀ (d:Int) (S:Nat→Prop) (j:J) (v:Value) (w:World),RJ S w j v→fits 67108864 j=true→few N j=true→0≤d→d+f=8 →
 Calls Tryz.prog 196 #[v,.int .i64 d] w fun e w'=>∃ x,e = .returned x∧RJ (fun k=>S k∨w.heap.size≤k) w' (jw f j) x∧Fr NoB w w'∧(f=0∨TopN w.heap.size w' x)
theorem zoj (N:Nat):ziu N 0:=by
 intro d S j v w h hA hB hd0 hd;have hC:d=8:=by simp at hd;omega
 subst hC;simp only[jw];obtain⟨k,n,t,l,p⟩:=j;obtain⟨a1,c1,a2,c2,rfl,_,_⟩:=h.open;have hb:=zh w (.cells #[.int .i64 k,.int .i64 n,.string ⟨t.toArray⟩,.slice a1 l.length c1,.slice a2 p.length c2] 56);obtain⟨b0,b1,b2,b3,b4,bz,blt⟩:=VB.at hb;have hr:=zh (w.alloc (.cells #[.int .i64 k,.int .i64 n,.string ⟨t.toArray⟩,.slice a1 l.length c1,.slice a2 p.length c2] 56)) (.cells #[.int .i64 k,.int .i64 n,.string ⟨t.toArray⟩,.slice a1 l.length c1,.slice a2 p.length c2] 56);rw[zf]at hr;obtain⟨r0,r1,r2,r3,r4,rz,rlt⟩:=VB.at hr;have hF:Fr NoB w ((w.alloc (.cells #[.int .i64 k,.int .i64 n,.string ⟨t.toArray⟩,.slice a1 l.length c1,.slice a2 p.length c2] 56)).alloc (.cells #[.int .i64 k,.int .i64 n,.string ⟨t.toArray⟩,.slice a1 l.length c1,.slice a2 p.length c2] 56)):=(Fr.refl.alloc _).alloc _;have HF:=za hF;have Hx:=za (RJ.kp (Kp.fr (S':=fun k=>S k∨w.heap.size≤k) hF (fun _ h _ => .inl h) (fun _ _ _ _ _ h=>h)) _ _ h);clear hF h hA hB hb hr;go_enter Tryz.func196,Tryz.ntmps196
 go_wp2_with fail
 refine bodyPost_ret (v := .agg #[.int .i64 k,.int .i64 n,.string ⟨t.toArray⟩,.slice a1 l.length c1,.slice a2 p.length c2]) (by simp[results,Tryz.results196,go_sem,r0,r1,r2,r3,r4]) rfl ?_;exact⟨_,rfl,Hx.out,HF.out,by simp⟩
end
section
open Go.RowKit
variable [OldK]

def z1u (S:Nat→Prop) (w:World) (q:Bs × J) (v:PV):Prop:=q.1=v.nm∧RJ S w q.2 v.val
theorem RP.pvs {S:Nat→Prop} {w:World}:∀ (l:List (Bs × J)) (xs:List Value),RP S w l xs→∃ pvs,xs=zay pvs∧All2 (z1u S w) l pvs:=by
 intro l
 induction l with
 | nil=>intro xs h;unfold RP at h;exact⟨[],h,.nil⟩
 | cons x l ih =>
   obtain⟨nm,jk,jn,jt,jl,jp⟩:=x;intro xs h;unfold RP at h;obtain⟨c0,c1,c2,c3,c4,ys,rfl,hj,hr⟩:=h;obtain⟨pvs,rfl,ha⟩:=ih ys hr;obtain⟨y1,n1,y2,n2,hA,_,_⟩:=hj.open;obtain⟨rfl,rfl,rfl,rfl,rfl⟩:c0 = .int .i64 jk∧c1 = .int .i64 jn∧c2 = .string ⟨jt.toArray⟩∧c3 = .slice y1 jl.length n1∧c4 = .slice y2 jp.length n2:=by simpa using hA
   exact⟨⟨nm,jk,jn,jt,y1,jl.length,n1,y2,jp.length,n2⟩ :: pvs,rfl,.cons ⟨rfl,hj⟩ ha⟩
theorem RP.of_pvs {S:Nat→Prop} {w:World} {l:List (Bs × J)} {pvs:List PV} (h:All2 (z1u S w) l pvs):RP S w l (zay pvs):=by
 induction h with
 | nil=>unfold RP;rfl
 | @cons q v l m h1 h2 ih =>
   obtain⟨nm,j⟩:=q;obtain⟨h3,h4⟩:=h1;simp only at h3 h4;subst h3;unfold RP;exact⟨_,_,_,_,_,zay m,rfl,h4,ih⟩
theorem All2.imp {α β:Type}{R R':α→β→Prop}{l:List α}{m:List β}(h:All2 R l m)(hR:∀ a b,R a b→R' a b):All2 R' l m:=by
 induction h with
 | nil=>exact .nil
 | cons h1 _ ih=>exact .cons (hR _ _ h1) ih
theorem All2.length {α β:Type}{R:α→β→Prop}{l:List α}{m:List β}(h:All2 R l m):l.length=m.length:=by
 induction h with
 | nil=>rfl
 | cons _ _ ih=>simp[ih]
theorem QRow.row {S:Nat→Prop}{N:Nat}{l:List (Bs × J)}{lv:Value}{w:World}(h:QRow S N l lv w) :
 (l=[]∧lv = .slice none 0 0)∨∃ g cap pvs,lv = .slice (some ⟨g,0,none⟩) l.length cap∧N≤g∧(l.length≤cap∧cap≤maxLen)∧@PRow ⟨(cap - l.length) * 6⟩ g 0 pvs w∧All2 (z1u (fun k=>(S k∨N≤k)∧k≠g∧k<w.heap.size) w) l pvs:=by
 obtain⟨xs,hB,hC⟩:=h;rcases hB.2 with⟨rfl,h0⟩ | ⟨g,cap,cur,rfl,hb,hg,hn,hcm,hcs,htake⟩
 ·exact .inl ⟨List.length_eq_zero_iff.1 h0,rfl⟩
 right;have hA:=RP.kp (S':=fun k=>(S k∨N≤k)∧k≠g∧k<w.heap.size) (w':=w) (fun b o hs hb _=>⟨⟨hs.1,fun e=>hs.2 (by rw[e];rfl),jb hb⟩,hb⟩) l xs hC;obtain⟨pvs,rfl,ha⟩:=hA.pvs;refine⟨g,cap,pvs,rfl,hb,⟨hn,hcm⟩,⟨[],⟨cur.toList.drop (l.length * 6),by show _=(cap - l.length) * 6;rw[List.length_drop,Array.length_toList,hcs,Nat.sub_mul]⟩,?_,rfl⟩,ha⟩;rw[hg,List.nil_append,← htake,List.take_append_drop]
theorem zwi [PostL] {S:Nat→Prop} {g:Nat} {l:List (Bs × J)} {pvs:List PV} {w w':World} (ha:All2 (z1u S w) l pvs) (hS:∀ k,S k→k≠g) (hF:Fr (MBk g) w w') (hP:PRow g 0 (zek PV.nm pvs) w') :
 RowP (fun k=>S k∨k=g) w' (zek (fun q:Bs × J=>q.1) l) (some ⟨g,0,none⟩):=by
 have hD:All2 (z1u (fun k=>S k∨k=g) w') l pvs:=ha.imp (fun q v h=>⟨h.1,RJ.kp (Kp.fr hF (fun _ h _ => .inl h) (fun b o hs _ _ hm=>hS b hs hm)) _ _ h.2⟩);have hC:=zuy (key:=fun q:Bs × J=>q.1) (key':=PV.nm) (fun a b h=>h.1) hD;obtain⟨hB,⟨hA,hpz⟩,hb,ho⟩:=hP;refine .inr ⟨g,0,_,_,rfl,.inr rfl,Blk.of hb,?_⟩
 have e:((hB++(zay (zek PV.nm pvs)++hA)).toArray.toList.drop 0).take (6 * (zek (fun q:Bs × J=>q.1) l).length)=zay (zek PV.nm pvs):=by
  have hp:hB=[]:=List.length_eq_zero_iff.1 ho;subst hp;rw[List.drop_zero,List.nil_append,hC.length,← zc7];simp
 rw[e];exact RP.of_pvs hC
end
section
open Go.RowKit
variable [OldK]

theorem zyf {B B':Nat}{S:Nat→Prop}{w:World}{l:List J}{al a2:Option Addr}{m cl n2 c2:Nat}{k n t:Value}(h:RowVN B S w l al)(hm:l.length=m)(hB:B'≤B)
 (h2:n2=0∨∃ g cs,a2=some ⟨g,0,none⟩∧B'≤g∧w.heap[g]? = some (.cells cs 133 (0,0))∧cs.size=c2 * 6∧n2≤c2∧c2≤maxLen):TopN B' w (.agg #[k,n,t,.slice al m cl,.slice a2 n2 c2]):=by
 refine⟨k,n,t,al,m,cl,a2,n2,c2,rfl,?_,h2⟩;rcases h.2 with h | ⟨g,cs,ha,hs,hb,hg⟩
 ·exact .inl (by rw[← hm,h];rfl)
 exact .inr ⟨g,cs,ha,by omega,hg⟩
theorem zoi (N f:Nat) (ih:ziu N f) (hN:zn7 N):ziu N (f+1):=by
 intro d S j v w h hU hZ hd0 hd;have hd8:decide (8≤d)=false:=by rw[decide_eq_false_iff_not];simp at hd;omega
 have AX:d+1+(f:Int)=8:=by simp at hd;omega
 have hwr:IntKind.i64.wrap (d+1)=d+1:=by rw[IntKind.wrap_i64];simp at hd;omega
 obtain⟨k,n,t,l,p⟩:=j;simp only[jw];obtain⟨a1,c1,a2,c2,rfl,hl,hp⟩:=h.open;have hll:=(fits.open hU).2.1;have hpl:=(fits.open hU).2.2.1;have Hfl:=za (fits.open hU).2.2.2.1;have Hfp:=za (fits.open hU).2.2.2.2;have Hwl:=za (few.open hZ).2.1;have Hwp:=za (few.open hZ).2.2;have Hpn:=za (few.open hZ).1;have Hl:=za hl.lt;have Hp:=za hp.lt;clear h hU hZ hl hp hd
 -- the world ahead of the loops
 obtain⟨B,hB⟩:∃ B,B=w.heap.size:=⟨_,rfl⟩;have hb:=zh w (.cells #[.int .i64 k,.int .i64 n,.string ⟨t.toArray⟩,.slice a1 l.length c1,.slice a2 p.length c2] 56);obtain⟨b0,b1,b2,b3,b4,bz,blt⟩:=VB.at hb
 have AZ:((w.alloc (.cells #[.int .i64 k,.int .i64 n,.string ⟨t.toArray⟩,.slice none 0 0,.slice a2 p.length c2] 56)).alloc (.cells #[.int .i64 0,.int .i64 0,.string ⟨#[]⟩,.slice none 0 0,.slice none 0 0] 56)).heap[w.heap.size]? =
  some (.cells #[.int .i64 k,.int .i64 n,.string ⟨t.toArray⟩,.slice none 0 0,.slice a2 p.length c2] 56 (0,0)) :=
  (Fr.refl (M:=NoB)).alloc _ |>.block _ _ (zh w _) (fun h=>h)
 have AL:=zh (w.alloc (.cells #[.int .i64 k,.int .i64 n,.string ⟨t.toArray⟩,.slice none 0 0,.slice a2 p.length c2] 56)) (.cells #[.int .i64 0,.int .i64 0,.string ⟨#[]⟩,.slice none 0 0,.slice none 0 0] 56);rw[zf]at AL;have Ae:Fr NoB w ((w.alloc (.cells #[.int .i64 k,.int .i64 n,.string ⟨t.toArray⟩,.slice none 0 0,.slice a2 p.length c2] 56)).alloc (.cells #[.int .i64 0,.int .i64 0,.string ⟨#[]⟩,.slice none 0 0,.slice none 0 0] 56)):=(Fr.refl.alloc _).alloc _;have A0:=za AZ;have Ay:=za AL;have Az:=za Ae;clear hb AZ AL Ae;obtain⟨i0,hi,Aj,Ai,Ah⟩:=info_parts zfw;go_enter Tryz.func196,Tryz.ntmps196
 go_wp2_with fail
 go_loopg [19] (l.length+1) (fun g vi wr=>∃ (i:Nat) (lv:Value),vi = .int .i64 i∧i≤l.length∧i+g=l.length+1 ∧
  wr.heap[w.heap.size]? = some (.cells #[.int .i64 k,.int .i64 n,.string ⟨t.toArray⟩,lv,.slice a2 p.length c2] 56 (0,0)) ∧
  wr.heap[w.heap.size+1]? = some (.cells #[.int .i64 0,.int .i64 0,.string ⟨#[]⟩,.slice none 0 0,.slice none 0 0] 56 (0,0)) ∧
  LRow (fun k=>S k∧k<w.heap.size) (w.heap.size+2) ((l.take i).map (jw f)) lv wr∧Fr NoB w wr)
 case atStart=>exact⟨0,_,rfl,by omega,by omega,A0.out,Ay.out,LRow.nil _ _ _,Az.out⟩
 case round =>
  obtain⟨i,lv,rfl,Aq,Ar,hb,hr,hC,hF⟩:=hrel;rcases Nat.lt_or_ge i l.length with hlt | hge
  ·obtain ⟨j,hj⟩:∃ j,l[i]? = some j:=⟨_,List.getElem?_eq_getElem hlt⟩;obtain⟨b,o,x0,x1,x2,x3,x4,rfl,Au,e0,e1,e2,e3,e4,hn⟩:=(Hl.out.kp (Kp.ofFr hF)).at hj;obtain⟨jk,jn,jt,jl,jp⟩:=j;obtain⟨y1,n1,y2,n2,hM,_,_⟩:=hn.open;obtain⟨rfl,rfl,rfl,rfl,rfl⟩:x0 = .int .i64 jk∧x1 = .int .i64 jn∧x2 = .string ⟨jt.toArray⟩∧x3 = .slice y1 jl.length n1∧x4 = .slice y2 jp.length n2:=by simpa using hM
   have h5:=zh wr (.cells #[.int .i64 jk,.int .i64 jn,.string ⟨jt.toArray⟩,.slice y1 jl.length n1,.slice y2 jp.length n2] 56);obtain⟨d0,d1,d2,d3,d4,dz,Aw⟩:=VB.at h5;have hf:=(Fr.refl (M:=NoB)).alloc (w:=wr) (.cells #[.int .i64 jk,.int .i64 jn,.string ⟨jt.toArray⟩,.slice y1 jl.length n1,.slice y2 jp.length n2] 56);have hQ:=RJ.kp (Kp.ofFr (hf.drew)) _ _ hn;have hA:=ih (d+1) _ _ _ _ hQ (fitsl.at l Hfl.out i _ hj) (fewl.at l Hwl.out i _ hj) (by omega) AX;clear hn hQ hM;obtain⟨⟨h4,hz,hw,h0,hx⟩,hq⟩:∃ j',jw f (.mk jk jn jt jl jp)=j':=⟨_,rfl⟩;rw[hq]at hA;obtain⟨xs,hD,h7⟩:=hC;obtain⟨ao,co,rfl⟩:=qj hD;have ht:=(hf.drew).block _ _ hb (fun h=>h);have B3:(wr.alloc (.cells #[.int .i64 jk,.int .i64 jn,.string ⟨jt.toArray⟩,.slice y1 jl.length n1,.slice y2 jp.length n2] 56)).cell? ⟨w.heap.size,3,none⟩=some (.slice ao ((l.take i).map (jw f)).length co):=(VB.at ht).2.2.2.1;have hJ:((l.take i).map (jw f)).length=i:=by simp;omega
   rw[hJ]at B3 hD;have Hcall:=za hA;have Hjs:=za hq;have Hown:=za hD;have Hrc:=za h7;have Hb:=za hb;have Hr:=za hr;have AS:=za (hF.trans' hf.drew);have hX:=za hf.drew;have Hbx:=za ht;have AU:w.heap.size+1<wr.heap.size:=jb hr;clear hA hq hD h7 hb hr ht hJ
   go_wp2_with fail
   have hS:(i+1) * 80≤140737488355328:=by omega
   have hR:i+1≤maxLen:=by unfold maxLen;omega
   have hI:=fun k hk=>(zam Hown.out k hk).1
   have hW:=za hI;clear hI
   go_region_law (first
    | (go_simp;go_at_call 196;refine Hcall.out.mono ?_;rintro e w1 ⟨y,rfl,hy,hL,_⟩;obtain⟨z1,m1,z2,m2,rfl,_,_⟩:=hy.open;have Hy:=za hy;have hG:=za hL;have hg:=za (hL.block _ _ Hbx.out (fun h=>h));have A5:=(VB.at hg.out).2.2.2.1;have A2:=(VB.at hg.out).2.2.2.2.2.1 3;have A3:=(VB.at hg.out).2.2.2.2.2.2;clear hy hL)
    | (refine zbe rfl (.tmp 24) (.tmp 29) 53 rfl (w.heap.size+2) 56 i0 (.agg #[.int .i64 0,.int .i64 0,.string ⟨#[]⟩,.slice none 0 0,.slice none 0 0]) 5 80 Tryz.underlying53 hi Aj Ai Ah rfl (by decide) (.slice ao i co) i xs rfl (by exact((za9 Hown.out (hX.out.trans' hG.out) (fun _ _ _ _ _ h=>h)).alloc _)) ⟨w1.heap.size,0,none⟩ 1 [.int .i64 h4,.int .i64 hz,.string ⟨hw.toArray⟩,.slice z1 h0.length m1,.slice z2 hx.length m2] rfl rfl (by exact zck w1 _ _ _ rfl) (by simp[Value.oneCell']) hR hS (by simp;omega) ?_;intro g cap w2 hH hK hT AO AN;have hV:=za hH;have hE:=za hK;have AR:=za hT;have hu:=za (zaq hK (qm _ hg.out) (fun e=>by have:=hW.out _ e;omega));have A4:=(VB.at hu.out).2.2.2.1;have A1:=(VB.at hu.out).2.2.2.2.2.1 3;clear hH hK hT AO AN))
   all_goals
    go_wp2_with fail
    go_roundg (gk - 1)
    case measure=>omega
    case rel =>
     have hJ:((l.take i).map (jw f)).length=i:=by simp;omega
     have AH:(l.take (i+1)).map (jw f)=(l.take i).map (jw f)++[.mk h4 hz hw h0 hx]:=by
      obtain⟨AA,he⟩:=List.getElem?_eq_some_iff.1 hj;rw[List.take_succ_eq_append_getElem AA,List.map_append,he,← Hjs.out];rfl
     have hT:(Value.slice ao i co).ownBlock=some g∨w1.heap.size+1≤g:=by have:=AR.out;simp only[zf]at this;exact this
     have AF:w.heap.size+2≤g:=by
      rcases hT with h | h
      ·exact hW.out _ h
      have:=hG.out.size;simp only[World.size_drew,zf]at this;omega
     refine⟨i+1,.slice (some ⟨g,0,none⟩) (i+1) cap,by simp,by omega,by omega,z7 (o:=3) _ hu.out,zij (zaq hE.out (qm _ (hG.out.block _ _ (hX.out.block _ _ Hr.out (fun h=>h)) (fun h=>h))) (fun e=>by have:=hW.out _ e;omega)) (by omega),?_,?_⟩
     ·rw [AH]
      have hp:=LRow.push (S:=fun k=>S k∧k<w.heap.size) (N:=w.heap.size+2) (bv:=w.heap.size) (g:=g) (cap:=cap) (l:=(l.take i).map (jw f)) (xs:=xs) (lv := .slice ao i co) (by rw[hJ];exact za9 Hown.out (hX.out.trans' hG.out) (fun _ _ _ _ _ h=>h)) (RC.kp (Kp.ofFr (hX.out.trans' hG.out)) _ _ (by have:=Hrc.out;rw[hJ]at this;exact this)) (fun k h=>by omega) Hy.out (by simp only[World.size_drew,zf];omega) (fun k h=>by
       obtain⟨_,o',ho,_⟩:=zam Hown.out k h;have:=jb ho
       simp only[World.size_drew,zf];omega) hE.out hT (by rw[hJ];exact hV.out) (by omega) (fun h=>by omega) AF 3 (X := .slice (some ⟨g,0,none⟩) (i+1) cap)
      rw[hJ]at hp;exact hp
     exact (AS.out.trans' hG.out).trans (zja hE.out) (fun k o hm => .inr (by
      rcases hm with h | rfl
      ·have:=hW.out _ h;omega
      omega))
  obtain rfl:i=l.length:=by omega
  rw[List.take_length]at hC;obtain⟨al,cl,rfl,hY⟩:=hC.rowN;rw[List.length_map]at hb;obtain⟨c0,AE,AD,c3,c4,cz,AC⟩:=VB.at hb;have AU:w.heap.size+1<wr.heap.size:=jb hr;obtain⟨N2,Ac⟩:∃ N2,N2=wr.heap.size:=⟨_,rfl⟩;have AY:(wr.setCell ⟨w.heap.size,4,none⟩ (.slice none 0 0)).heap[w.heap.size]? = some (.cells #[.int .i64 k,.int .i64 n,.string ⟨t.toArray⟩,.slice al l.length cl,.slice none 0 0] 56 (0,0)):=z7 (o:=4) _ hb;have AV:(wr.setCell ⟨w.heap.size,4,none⟩ (.slice none 0 0)).heap[w.heap.size+1]? = _:=zij hr (by omega);have Ad:Fr NoB w (wr.setCell ⟨w.heap.size,4,none⟩ (.slice none 0 0)):=hF.setNew _ _ (Nat.le_refl _)
  have h6:RowVN (w.heap.size+2) (fun k=>((S k∧k<w.heap.size)∨w.heap.size+2≤k)∧k<N2) (wr.setCell ⟨w.heap.size,4,none⟩ (.slice none 0 0)) (l.map (jw f)) al :=
   hY.kp (fun b o hs hb _=>⟨by rw[Ac];exact hs,zij hb (by omega)⟩)
  have AB:N2≤(wr.setCell ⟨w.heap.size,4,none⟩ (.slice none 0 0)).heap.size:=by rw[World.size_setCell];omega
  have hN3:w.heap.size+2≤N2:=by omega
  have Hbs:=za AY;have Hrs:=za AV;have Ag:=za Ad;have Hrvs:=za h6;have hv:=za AB;clear hb hr hF hC hY AY AV Ad h6 Ac AB
  go_wp2_with fail
  clear c0 AE AD c3 c4 cz AC AU
  go_loopg [38] (p.length+1) (fun g vi wr=>∃ (i:Nat) (lv:Value),vi = .int .i64 i∧i≤p.length∧i+g=p.length+1 ∧
   wr.heap[w.heap.size]? = some (.cells #[.int .i64 k,.int .i64 n,.string ⟨t.toArray⟩,.slice al l.length cl,lv] 56 (0,0)) ∧
   wr.heap[w.heap.size+1]? = some (.cells #[.int .i64 0,.int .i64 0,.string ⟨#[]⟩,.slice none 0 0,.slice none 0 0] 56 (0,0)) ∧
   QRow (fun k=>S k∧k<w.heap.size) N2 ((p.take i).map fun q=>(q.1,jw f q.2)) lv wr ∧
   RowVN (w.heap.size+2) (fun k=>((S k∧k<w.heap.size)∨w.heap.size+2≤k)∧k<N2) wr (l.map (jw f)) al∧N2≤wr.heap.size∧Fr NoB w wr)
  case atStart=>exact⟨0,_,rfl,by omega,by omega,Hbs.out,Hrs.out,QRow.nil _ _ _,Hrvs.out,hv.out,Ag.out⟩
  case round =>
   clear Ag Hrvs hv Hbs Hrs;obtain⟨i,lv,rfl,Aq,Ar,hb,hr,hC,hY,AB,hF⟩:=hrel;rcases Nat.lt_or_ge i p.length with hlt | hge
   ·obtain ⟨⟨nm,j⟩,hj⟩:∃ j,p[i]? = some j:=⟨_,List.getElem?_eq_getElem hlt⟩;obtain⟨b,o,x0,x1,x2,x3,x4,rfl,Au,e5,e0,e1,e2,e3,e4,hn⟩:=(Hp.out.kp (Kp.ofFr hF)).at hj;obtain⟨jk,jn,jt,jl,jp⟩:=j;obtain⟨y1,n1,y2,n2,hM,_,_⟩:=hn.open;obtain⟨rfl,rfl,rfl,rfl,rfl⟩:x0 = .int .i64 jk∧x1 = .int .i64 jn∧x2 = .string ⟨jt.toArray⟩∧x3 = .slice y1 jl.length n1∧x4 = .slice y2 jp.length n2:=by simpa using hM
    have h5:=zh wr (.cells #[.string ⟨nm.toArray⟩,.int .i64 jk,.int .i64 jn,.string ⟨jt.toArray⟩,.slice y1 jl.length n1,.slice y2 jp.length n2] 133);obtain⟨d5,d0,d1,d2,d3,d4,dz,Aw⟩:=PB.at h5;have hf:=(Fr.refl (M:=NoB)).alloc (w:=wr) (.cells #[.string ⟨nm.toArray⟩,.int .i64 jk,.int .i64 jn,.string ⟨jt.toArray⟩,.slice y1 jl.length n1,.slice y2 jp.length n2] 133);have hQ:=RJ.kp (Kp.ofFr (hf.drew)) _ _ hn;have hA:=ih (d+1) _ _ _ _ hQ (fitsp.at p Hfp.out i _ _ hj).2 (fewp.at p Hwp.out i _ _ hj) (by omega) AX;clear hn hQ hM;obtain⟨⟨h4,hz,hw,h0,hx⟩,hq⟩:∃ j',jw f (.mk jk jn jt jl jp)=j':=⟨_,rfl⟩;rw[hq]at hA;obtain⟨xs,hD,h7⟩:=hC;obtain⟨ao,co,rfl⟩:=qj hD;have ht:=(hf.drew).block _ _ hb (fun h=>h);have AT:(wr.alloc (.cells #[.string ⟨nm.toArray⟩,.int .i64 jk,.int .i64 jn,.string ⟨jt.toArray⟩,.slice y1 jl.length n1,.slice y2 jp.length n2] 133)).drew.heap[wr.heap.size]? = _:=h5;have B3:(wr.alloc (.cells #[.string ⟨nm.toArray⟩,.int .i64 jk,.int .i64 jn,.string ⟨jt.toArray⟩,.slice y1 jl.length n1,.slice y2 jp.length n2] 133)).cell? ⟨w.heap.size,4,none⟩=some (.slice ao ((p.take i).map fun q=>(q.1,jw f q.2)).length co):=(VB.at ht).2.2.2.2.1;have hJ:((p.take i).map fun q=>(q.1,jw f q.2)).length=i:=by simp;omega
    rw[hJ]at B3 hD;have Hcall:=za hA;have Hjs:=za hq;have Hown:=za hD;have Hrc:=za h7;have Hb:=za hb;have Hr:=za hr;have AS:=za (hF.trans' hf.drew);have hX:=za hf.drew;have Hbx:=za ht;have Hxx:=za AT;have Hrv:=za hY;have hv:=za AB;clear hA hq hD h7 hb hr ht hJ h5 AT hY
    go_wp2_with fail
    have hS:(i+1) * 96≤140737488355328:=by omega
    have hR:i+1≤maxLen:=by unfold maxLen;omega
    have hI:=fun k hk=>(zam Hown.out k hk).1
    have hW:=za hI;obtain⟨i1,AA,Am,Al,Ak⟩:=info_parts zdb;clear hI
    go_region_law (first
     | (go_simp;go_at_call 196;refine Hcall.out.mono ?_;rintro e w1 ⟨y,rfl,hy,hL,_⟩;obtain⟨z1,m1,z2,m2,rfl,_,_⟩:=hy.open;have Hy:=za hy;have hG:=za hL;have hg:=za (hL.block _ _ Hbx.out (fun h=>h));have A5:=(VB.at hg.out).2.2.2.2.1;have A2:=(VB.at hg.out).2.2.2.2.2.1 4;have A3:=(VB.at hg.out).2.2.2.2.2.2;have BN1:=(PB.at (hL.block _ _ Hxx.out (fun h=>h))).1;have BX1:=(PB.at (hL.block _ _ Hxx.out (fun h=>h))).2.2.2.2.2.2.2;clear hy hL)
     | (refine zbe rfl (.tmp 43) (.tmp 52) 54 rfl N2 133 i1 (.agg #[.string ⟨#[]⟩,.int .i64 0,.int .i64 0,.string ⟨#[]⟩,.slice none 0 0,.slice none 0 0]) 6 96 Tryz.underlying54 AA Am Al Ak rfl (by decide) (.slice ao i co) i xs rfl (by exact((za9 Hown.out (hX.out.trans' hG.out) (fun _ _ _ _ _ h=>h)).alloc _)) ⟨w1.heap.size,0,none⟩ 1 [.string ⟨nm.toArray⟩,.int .i64 h4,.int .i64 hz,.string ⟨hw.toArray⟩,.slice z1 h0.length m1,.slice z2 hx.length m2] rfl rfl (by exact zck w1 _ _ _ rfl) (by simp[Value.oneCell']) hR hS (by have:=hG.out.size;simp only[World.size_drew,zf]at this ⊢;omega) ?_;intro g cap w2 hH hK hT AO AN;have hV:=za hH;have hE:=za hK;have AR:=za hT;have hu:=za (zaq hK (qm _ hg.out) (fun e=>by have:=hW.out _ e;omega));have A4:=(VB.at hu.out).2.2.2.2.1;have A1:=(VB.at hu.out).2.2.2.2.2.1 4;clear hH hK hT AO AN))
    all_goals
     go_wp2_with fail
     go_roundg (gk - 1)
     case measure=>omega
     case rel =>
      have hJ:((p.take i).map fun q=>(q.1,jw f q.2)).length=i:=by simp;omega
      have AH:((p.take (i+1)).map fun q=>(q.1,jw f q.2))=((p.take i).map fun q=>(q.1,jw f q.2))++[(nm,.mk h4 hz hw h0 hx)]:=by
       obtain⟨AA,he⟩:=List.getElem?_eq_some_iff.1 hj;rw[List.take_succ_eq_append_getElem AA,List.map_append,he,← Hjs.out];rfl
      have hT:(Value.slice ao i co).ownBlock=some g∨w1.heap.size+1≤g:=by have:=AR.out;simp only[zf]at this;exact this
      have AJ:=hG.out.size;have AI:=hE.out.size;have AP:=hv.out;simp only[World.size_drew,zf]at AJ AI
      have AF:N2≤g:=by
       rcases hT with h | h
       ·exact hW.out _ h
       omega
      refine⟨i+1,.slice (some ⟨g,0,none⟩) (i+1) cap,by simp,by omega,by omega,z7 (o:=4) _ hu.out,zij (zaq hE.out (qm _ (hG.out.block _ _ (hX.out.block _ _ Hr.out (fun h=>h)) (fun h=>h))) (fun e=>by have:=hW.out _ e;omega)) (by omega),?_,?_,?_,?_⟩
      ·rw [AH]
       have hp:=QRow.push (S:=fun k=>S k∧k<w.heap.size) (N:=N2) (bv:=w.heap.size) (g:=g) (cap:=cap) (l:=(p.take i).map fun q=>(q.1,jw f q.2)) (xs:=xs) (lv := .slice ao i co) (nm:=nm) (by rw[hJ];exact za9 Hown.out (hX.out.trans' hG.out) (fun _ _ _ _ _ h=>h)) (RP.kp (Kp.ofFr (hX.out.trans' hG.out)) _ _ (by have:=Hrc.out;rw[hJ]at this;exact this)) (fun k h=>by omega) Hy.out (by simp only[World.size_drew,zf];omega) (fun k h=>by
        obtain⟨_,o',ho,_⟩:=zam Hown.out k h;have:=jb ho
        simp only[World.size_drew,zf];omega) hE.out hT (by rw[hJ];exact hV.out) (by omega) (fun h=>by omega) AF 4 (X := .slice (some ⟨g,0,none⟩) (i+1) cap)
       rw[hJ]at hp;exact hp
      ·refine(Hrv.out.kp (Kp.ofFr (hX.out.trans' hG.out))).kp (fun b' o' hs hc _=>⟨hs,(zja hE.out).block b' o' hc ?_⟩);rintro(h | h)
       ·have:=hW.out _ h;omega
       omega
      ·rw[World.size_setCell];omega
      exact (AS.out.trans' hG.out).trans (zja hE.out) (fun k o hm => .inr (by
       rcases hm with h | rfl
       ·have:=hW.out _ h;omega
       omega))
   obtain rfl:i=p.length:=by omega
   rw[List.take_length]at hC;rcases hC.row with⟨hp0,rfl⟩ | ⟨g,cap,pvs,rfl,AF,hcp,hP,ha⟩
   ·obtain ⟨c0,AE,AD,c3,c4,cz,AC⟩:=VB.at hb;have Hrv:=za hY;have HF:=za hF;have Ax:=za hp0;clear hC hp0 hY hF
    go_wp2_with fail
    refine(zto none 0 _).mono ?_;rintro e w1 ⟨rfl,rfl⟩;obtain⟨a0,a1,a2,a3,a4,fz,AM⟩:=VB.at hr;have Hr:=za hr;clear hr
    go_wp2_with fail
    refine bodyPost_ret (v := .agg #[.int .i64 k,.int .i64 n,.string ⟨t.toArray⟩,.slice al l.length cl,.slice none 0 0]) (by simp[results,Tryz.results196,go_sem,a0,a1,a2,a3,a4]) rfl ?_
    have h8:=fun(u0 u1 u2 u3 u4:Value)=>Hrv.out.kp (S':=fun k=>S k∨w.heap.size≤k) (w':=setV (w.heap.size+1) u0 u1 u2 u3 u4 _) (fun b' o' hs hc _=>by
     have AK:(S b'∧b'<w.heap.size)∨w.heap.size+2≤b':=hs.1
     exact ⟨AK.elim (fun h => .inl h.1) (fun h => .inr (by omega)),(q9 (w.heap.size+1) u0 u1 u2 u3 u4 _).block b' o' hc (by
      show ¬ b'=w.heap.size+1
      omega)⟩)
    refine⟨_,rfl,?_,HF.out.setV (by omega) _ _ _ _ _,.inr (zyf (h8 _ _ _ _ _) (by simp) (by omega) (.inl rfl))⟩;rw[Ax.out];unfold RJ;exact⟨al,cl,none,0,by rw[List.length_map];rfl,(h8 _ _ _ _ _).1,.inl rfl⟩
   rw[List.length_map]at hb;obtain⟨c0,AE,AD,c3,c4,cz,AC⟩:=VB.at hb;have Hrv:=za hY;have HF:=za hF;have Ha:=za ha;have HP:=za hP;have h9:pvs.length=p.length:=by rw[← ha.length,List.length_map]
   simp only[List.length_map]at hcp;have Hcp:=za hcp;clear hcp;have hO:=@hN ⟨(cap - (List.map (fun q:Bs × J=>(q.1,jw f q.2)) p).length) * 6⟩ g 0 cap pvs;rw[h9]at hO;have Hsort:=za hO;have AQ:=Hpn.out;have hv:=za AB;clear hC hY hF ha hP hO
   go_wp2_with fail
   refine(Hsort.out _ HP.out AQ).mono ?_;rintro e w1 ⟨rfl,Ab,hL⟩;have AP:=hv.out;have Aa:=hL.block _ _ hb (fun h=>by have:w.heap.size=g:=h;omega);have AW:=hL.block _ _ hr (fun h=>by have:w.heap.size+1=g:=h;omega);clear c0 AE AD c3 c4 cz AC;obtain⟨c0,AE,AD,c3,c4,cz,AC⟩:=VB.at Aa;obtain⟨a0,a1,a2,a3,a4,fz,AM⟩:=VB.at AW;have Af:=za Ab;have hG:=za hL;clear Ab hL Aa AW hb hr
   go_wp2_with fail
   refine bodyPost_ret (v := .agg #[.int .i64 k,.int .i64 n,.string ⟨t.toArray⟩,.slice al l.length cl,   .slice (some ⟨g,0,none⟩) p.length cap]) (by simp[results,Tryz.results196,go_sem,a0,a1,a2,a3,a4]) rfl ?_;have Av:Fr NoB w w1:=HF.out.trans hG.out (fun k o hm => .inr (by have:k=g:=hm;omega))
   letI:PostL:=⟨(cap - (List.map (fun q:Bs × J=>(q.1,jw f q.2)) p).length) * 6⟩
   have An:=zwi Ha.out (fun k h=>h.2.1) hG.out Af.out
   have h8:=fun(u0 u1 u2 u3 u4:Value)=>((Hrv.out.kp (w':=w1) (fun b' o' hs hc _=>⟨hs,hG.out.block b' o' hc (fun h=>by have:b'=g:=h;have:=hs.2;omega)⟩)).kp (S':=fun k=>S k∨w.heap.size≤k) (w':=setV (w.heap.size+1) u0 u1 u2 u3 u4 w1) (fun b' o' hs hc _=>by
    have AK:(S b'∧b'<w.heap.size)∨w.heap.size+2≤b':=hs.1
    exact ⟨AK.elim (fun h => .inl h.1) (fun h => .inr (by omega)),(q9 (w.heap.size+1) u0 u1 u2 u3 u4 _).block b' o' hc (by
     show ¬ b'=w.heap.size+1
     omega)⟩))
   obtain⟨AG,⟨hh,Ao⟩,As,Ap⟩:=Af.out
   have At:((AG++(zay (zek PV.nm pvs)++hh)).toArray).size=cap * 6:=by
    have h1:hh.length=(cap - (List.map (fun q:Bs × J=>(q.1,jw f q.2)) p).length) * 6:=Ao;rw[List.length_map]at h1;have h2:=Hcp.out.1;have h3:(zek PV.nm pvs).length=p.length:=by rw[zfg];exact h9
    rw[List.size_toArray,List.length_append,List.length_append,Ap,zc7,h3,h1];omega
   refine⟨_,rfl,?_,Av.setV (by omega) _ _ _ _ _,.inr (zyf (h8 _ _ _ _ _) (by simp) (by omega) (.inr ⟨g,_,rfl,by omega,(q9 _ _ _ _ _ _ _).block _ _ As (by omega),At,Hcp.out.1,Hcp.out.2⟩))⟩;unfold RJ;refine⟨al,cl,some ⟨g,0,none⟩,cap,by rw[List.length_map,zfg,List.length_map],(h8 _ _ _ _ _).1,An.kp (fun b' o' hs hc _=>⟨?_,(q9 _ _ _ _ _ _ _).block b' o' hc (by omega)⟩)⟩;rcases hs with h | h
   ·rcases h.1 with h' | h'
    ·exact .inl h'.1
    right;omega
   right;omega
theorem zwh (N:Nat)(hN:zn7 N):∀ f,ziu N f:=by
 intro f
 induction f with
 | zero=>exact zoj N
 | succ f ih=>exact zoi N f ih hN
end
end Go.Proofs.YtmgfncjfgkllcaaGreatDoor
