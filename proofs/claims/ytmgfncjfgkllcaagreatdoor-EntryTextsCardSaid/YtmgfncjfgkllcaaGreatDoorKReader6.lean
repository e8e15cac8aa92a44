/-
 The walks of json's reader,further: one of a list.
-/
import Derived.Test.YtmgfncjfgkllcaaGreatDoorKReader5
import Derived.Test.YtmgfncjfgkllcaaGreatDoorKOwn
open Go.Lib renaming hid→za
open Option.some renaming inj→zx
namespace Go.Proofs.YtmgfncjfgkllcaaGreatDoor
set_option linter.unusedVariables false
set_option linter.unusedSimpArgs false
set_option linter.unusedSectionVars false
set_option maxRecDepth 100000
set_option maxHeartbeats 1000000
open Go.RowKit
attribute [local instance] zbb

theorem zf0:(Tryz.prog.info? 56).map (fun i=>(i.zero,i.size,i.bytes))=some (some (.agg #[.int .i64 0,.int .i64 0,.string ⟨#[]⟩,.slice none 0 0,.slice none 0 0]),5,80):=by kernel_rfl
def zlb (f:Nat):Prop:=∀ (d:Int) (r:Nat) (s:Bs) (bad:Bool) (w:World),Rd r s bad d w→Gl w→s.length≤67108864→0≤d→d≤8→d+f=10 →
 Calls Tryz.prog 130 #[.pointer (some ⟨r,0,none⟩)] w fun e w'=>∃ v,e = .returned v∧RJ (fun k=>w.heap.size≤k) w' (jy f d ⟨s,bad⟩).1 v∧Rd r (jy f d ⟨s,bad⟩).2.s (jy f d ⟨s,bad⟩).2.bad d w'∧Fr (MR r) w w'
def ListInv (r q bv:Nat) (l:List J) (w:World):Prop :=
 Bx q r w∧q<bv∧∃ lv xs,w.heap[bv]? = some (.cells #[.int .i64 4,.int .i64 0,.string ⟨#[]⟩,lv,.slice none 0 0] 56 (0,0)) ∧
  w.ownsRow (bv+1) 56 5 lv l.length xs∧RC (fun k=>bv<k∧lv.ownBlock≠some k) w l xs
theorem ListInv.fr {M:Nat→Obj→Prop}{r q bv:Nat}{l:List J}{w w':World}(h:ListInv r q bv l w)(hF:Fr M w w')
 (hM:∀ k o,q≤k→(zav 201 o∨zav 56 o∨zav 133 o)→¬ M k o):ListInv r q bv l w':=by
 obtain⟨hq,hB,lv,xs,hb,hA,hC⟩:=h;refine⟨hF.block _ _ hq (hM _ _ (Nat.le_refl _) (.inl ⟨_,_,rfl⟩)),hB,lv,xs,hF.block _ _ hb (hM _ _ (Nat.le_of_lt hB) (.inr (.inl ⟨_,_,rfl⟩))),?_,?_⟩
 ·exact za1 hA hF (fun k o _ hk ht=>hM k o (by omega) (.inr (.inl ht)))
 exact RC.kp (Kp.fr hF (fun b hb _=>hb) (fun b o hs _ ht=>hM b o (by omega) (.inr (zl1 ht)))) l xs hC
theorem zsv {r k:Nat}{o:Obj}(h:zav 201 o∨zav 56 o∨zav 133 o):¬ MR r k o:=by
 rintro⟨_,c,f,rfl⟩;rcases h with⟨_,_,h⟩ | ⟨_,_,h⟩ | ⟨_,_,h⟩<;>simp at h
theorem zn1 {r q bv B g cap:Nat} {l:List J} {j:J} {d:Int} {s:Bs} {bad:Bool} {w w1 w2 w3:World} {X Z:Obj} {lv v0 v1 v2 v3 v4:Value} {xs:List Value}
 (hqB:B≤bv) (hR:Rd r s bad d w1) (hF:Fr (MR r) w w1) (hbw:bv<w.heap.size) (hq:Bx q r w1) (hqb:q<bv)
 (hown:w1.ownsRow (bv+1) 56 5 lv l.length xs) (hrc:RC (fun k=>bv<k∧lv.ownBlock≠some k) w1 l xs)
 (hb:w1.heap[bv]? = some (.cells #[.int .i64 4,.int .i64 0,.string ⟨#[]⟩,lv,.slice none 0 0] 56 (0,0)))
 (hlw:∀ k,lv.ownBlock=some k→k<w.heap.size)
 (hj:RJ (fun k=>w.heap.size≤k) w1 j (.agg #[v0,v1,v2,v3,v4]))
 (hgr:((w1.alloc X).alloc Z).drew.grownBy w2 lv.ownBlock) (hg2:lv.ownBlock=some g∨w1.heap.size+2≤g)
 (hown3:w3.ownsRow (bv+1) 56 5 (.slice (some ⟨g,0,none⟩) (l.length+1) cap) (l.length+1) (xs++[v0,v1,v2,v3,v4]))
 (hb3:w3.heap[bv]? = some (.cells #[.int .i64 4,.int .i64 0,.string ⟨#[]⟩,.slice (some ⟨g,0,none⟩) (l.length+1) cap,.slice none 0 0] 56 (0,0)))
 (h3:But2 g bv w2 w3):Rd r s bad d w3∧ListInv r q bv (l++[j]) w3∧Fr (ML r B) w w3:=by
 have hB:Fr (fun k _=>lv.ownBlock=some k∨k=g∨k=bv) w1 w3 :=
  ((zki hgr).mono (fun _ _ h => .inl h)).trans h3.fr (fun _ _ h => .inl (.inr h))
 have hC:=qy hown
 have hI:∀ o,w1.heap[g]? = some o→zav 56 o∧bv<g:=by
  intro o ho;rcases hg2 with hg | hg
  ·obtain⟨h1,o',h2,h3⟩:=hC g hg;rw[ho]at h2;exact⟨(zx h2)▸h3,h1⟩
  have:=jb ho;omega
 have hJ:∀ k,zav 56 k→¬ zav 203 k:=by
  rintro k ⟨_,_,rfl⟩ ⟨_,_,h⟩;simp at h
 have hH:∀ k,zav 56 k→¬ zav 201 k:=by
  rintro k ⟨_,_,rfl⟩ ⟨_,_,h⟩;simp at h
 have hA:∀ k,(lv.ownBlock=some k∨k=g∨k=bv)→∀ o,w1.heap[k]? = some o→zav 56 o∧B≤k:=by
  rintro k hk o ho;rcases hk with hk | rfl | rfl
  ·obtain⟨h1,o',h2,h3⟩:=hC k hk;rw[ho]at h2;exact⟨(zx h2)▸h3,by omega⟩
  ·exact⟨(hI o ho).1,by have:=(hI o ho).2;omega⟩
  rw[hb]at ho;exact⟨⟨_,_,(zx ho).symm⟩,by omega⟩
 refine⟨⟨hR.1,hB.block _ _ hR.2 (fun hm=>hJ _ (hA _ hm _ hR.2).1 ⟨_,_,rfl⟩)⟩,⟨hB.block _ _ hq (fun hm=>hH _ (hA _ hm _ hq).1 ⟨_,_,rfl⟩),hqb,_,_,hb3,by simpa using hown3,?_⟩,?_⟩
 ·have hE:(Value.slice (some ⟨g,0,none⟩) (l.length+1) cap).ownBlock=some g:=rfl;rw[hE];refine RC.append l xs [j] _ (RC.kp ?_ l xs hrc) (RC.one (RJ.kp ?_ j _ hj))
  ·intro b o hs ho _
   have hD:b≠g:=by
    rintro rfl;rcases hg2 with hg | hg
    ·exact hs.2 hg
    have:=jb ho;omega
   exact ⟨⟨hs.1,fun e=>hD (by simpa using e.symm)⟩,hB.block b o ho (fun hm=>by
    rcases hm with hm | hm | hm
    ·exact hs.2 hm
    ·exact hD hm
    omega)⟩
  intro b o hs ho _
  have hD:b≠g:=by
   rintro rfl;rcases hg2 with hg | hg
   ·have:=hlw _ hg;omega
   have:=jb ho;omega
  exact ⟨⟨by omega,fun e=>hD (by simpa using e.symm)⟩,hB.block b o ho (fun hm=>by
   rcases hm with hm | hm | hm
   ·have:=hlw _ hm;omega
   ·exact hD hm
   omega)⟩
 refine⟨hB.os.trans hF.os,hB.tape.trans hF.tape,hB.output.trans hF.output,Nat.le_trans hF.size hB.size,fun k o hk hn=>?_⟩;have hG:=hF.block k o hk (fun hm=>hn (.inl hm));exact hB.block k o hG (fun hm=>hn (.inr ⟨(hA k hm o hG).2,hH _ (hA k hm o hG).1⟩))
theorem zrn {r q bv B g cap:Nat} {l:List J} {j:J} {d:Int} {s:Bs} {bad:Bool} {w w1 w2:World} {X Z:Obj} {lv v0 v1 v2 v3 v4 z0 z1 z2 z3 z4:Value} {xs:List Value}
 (hqB:B≤bv) (hR:Rd r s bad d w1) (hF:Fr (MR r) w w1) (hbw:bv<w.heap.size) (hq:Bx q r w1) (hqb:q<bv)
 (hown:w1.ownsRow (bv+1) 56 5 lv l.length xs) (hrc:RC (fun k=>bv<k∧lv.ownBlock≠some k) w1 l xs)
 (hb:w1.heap[bv]? = some (.cells #[.int .i64 4,.int .i64 0,.string ⟨#[]⟩,lv,.slice none 0 0] 56 (0,0)))
 (hlw:∀ k,lv.ownBlock=some k→k<w.heap.size)
 (hj:RJ (fun k=>w.heap.size≤k) w1 j (.agg #[v0,v1,v2,v3,v4]))
 (hgr:((w1.alloc X).alloc Z).drew.grownBy w2 lv.ownBlock) (hg2:lv.ownBlock=some g∨w1.heap.size+2≤g) (hgb:¬ g=bv)
 (hown2:w2.ownsRow (bv+1) 56 5 (.slice (some ⟨g,0,none⟩) (l.length+1) cap) (l.length+1) (xs++[z0,z1,z2,z3,z4]))
 (hb2:w2.heap[bv]? = some (.cells #[.int .i64 4,.int .i64 0,.string ⟨#[]⟩,lv,.slice none 0 0] 56 (0,0))) (w3:World)
 (h3:w3=(put5 g (l.length * 5) v0 v1 v2 v3 v4 w2).setCell ⟨bv,3,none⟩ (.slice (some ⟨g,0,none⟩) (l.length+1) cap) ∨
   w3=put5 g (l.length * 5) v0 v1 v2 v3 v4 (w2.setCell ⟨bv,3,none⟩ (.slice (some ⟨g,0,none⟩) (l.length+1) cap))) :
 Rd r s bad d w3∧ListInv r q bv (l++[j]) w3∧Fr (ML r B) w w3:=by
 have hB:xs.length=l.length * 5:=by have:=RC.length l xs hrc;omega
 have hA:bv≠g:=fun e=>hgb e.symm
 have hown2':=hown2;rcases h3 with rfl | rfl
 ·refine zn1 hqB hR hF hbw hq hqb hown hrc hb hlw hj hgr hg2 (za9 (znz hown2 hB v0 v1 v2 v3 v4) (fun k hk=>?_)) ?_ (But2.put5 _ _ _ _ _ _ _ _ _ _ _)
  ·have:k=g:=by simpa[Value.ownBlock] using hk.symm
   subst this;exact Below.heap_setCell _ _ _ _ hgb
  exact z7 (o:=3) _ ((zcw hA).trans hb2)
 refine zn1 hqB hR hF hbw hq hqb hown hrc hb hlw hj hgr hg2 (znz (za9 hown2 (fun k hk=>?_)) hB v0 v1 v2 v3 v4) ?_ (But2.put5' _ _ _ _ _ _ _ _ _ _ _)
 ·have:k=g:=by simpa[Value.ownBlock] using hk.symm
  subst this;exact Below.heap_setCell _ _ _ _ hgb
 exact(zcw hA).trans (z7 (o:=3) _ hb2)
theorem zv2 (f:Nat) (hv:zlb f) (d:Int) (hd0:0≤d) (hd1:d≤8) (hdf:d+f=10) (r q bv B N:Nat) (hqB:B≤bv) (hN:N≤67108864) (s:Bs) (l:List J) (w:World)
 (h:Rd r s false d w) (hI:ListInv r q bv l w) (hg:Gl w) (hB:B≤w.heap.size) (hsz:l.length+s.length≤N) :
 Calls Tryz.prog 301 #[.pointer (some ⟨q,0,none⟩),.pointer (some ⟨bv,0,none⟩)] w fun e w'=>e = .returned (.tuple #[]) ∧
  Rd r (zcs (jy f d) ⟨s,false⟩ l).1.s (zcs (jy f d) ⟨s,false⟩ l).1.bad d w'∧ListInv r q bv (zcs (jy f d) ⟨s,false⟩ l).2 w'∧Fr (ML r B) w w':=by
 have hE:=hv d r s false w h hg (by omega) hd0 hd1 hdf;obtain⟨hn,hC⟩:bv<w.heap.size∧True:=⟨by obtain⟨_,_,lv,xs,hb,_⟩:=hI;exact jb hb,trivial⟩;clear hC;simp only[zcs];generalize jy f d ⟨s,false⟩=V at *;obtain⟨j,st⟩:=V;simp only at hE ⊢;have Hval:=za hE;have cq:=hI.1.cell;obtain⟨i0,hi,hf,he,hd⟩:=info_parts zf0;have hlen:l.length≤67108864:=by omega
 clear hE hv;go_enter Tryz.func301,Tryz.ntmps301
 go_wp2_with fail
 refine Hval.out.mono ?_;rintro e w1 ⟨v,rfl,hj,hp,hS⟩;have hq:ListInv r q bv l w1:=hI.fr hS (fun _ _ _ ht=>zsv ht)
 have hT:∃ lv,w.heap[bv]? = some (.cells #[.int .i64 4,.int .i64 0,.string ⟨#[]⟩,lv,.slice none 0 0] 56 (0,0))∧(∀ k,lv.ownBlock=some k→k<w.heap.size):=by
  obtain⟨_,_,lv,xs,hb,hA,_⟩:=hI;exact⟨lv,hb,fun k hk=>(hA.lt k hk).2⟩
 obtain⟨lw,hP,hC⟩:=hT;have hG:=hS.block _ _ hP (fun hm=>zsv (.inr (.inl ⟨_,_,rfl⟩)) hm);have hsz1:w.heap.size≤w1.heap.size:=hS.size;obtain⟨jk,jn,jt,jl,jp⟩:=j;have ha:=hj;unfold RJ at ha;obtain⟨a1,c1,a2,c2,rfl,_,_⟩:=ha;obtain⟨hZ,hh,lv,xs,hb,hA,hR⟩:=hq;obtain⟨a0,c0,hJ⟩:=qg hA;have ho:bv<w1.heap.size:=jb hb;obtain rfl:lw=lv:=by rw[hb]at hG;simpa using hG.symm
 have hW:=za hC;have Hlw:Hid (∀ k,(Value.slice a0 l.length c0).ownBlock=some k→k<w.heap.size):=by rw[← hJ];exact hW
 clear hC hG hP;have v3:w1.cell? ⟨bv,3,none⟩=some (.slice a0 l.length c0):=by simp[World.cell?,hb,hJ]
 have f3:w1.frozen? ⟨bv,3,none⟩=false:=by simp[World.frozen?,hb]
 have cq1:=hZ.cell;have hnn:(l.length:Int)<l.length+1:=by omega
 -- what the row was: it lies behind bv
 have hL:∀ g,(Value.slice a0 l.length c0).ownBlock=some g∨w1.heap.size+2≤g→¬ g=bv∧¬ bv=g:=by
  intro g hg;rw[← hJ]at hg;rcases hg with hg | hg
  ·have:=(qy hA g hg).1;omega
  omega
 have hY:=RC.length l xs hR;rw[hJ]at hA hR;have Hown:=za hA;have Hrow:=za hL;have Hrc:=za hR;have Hb:=za hb;have Hxl:=za hY;have Hj:=za hj;have Hlv:=za hJ;clear hA hL hR hb hY hj hJ
 go_wp2_with fail
 have hO:(l.length+1) * 80≤140737488355328:=by omega
 have hM:l.length+1≤maxLen:=by unfold maxLen;omega
 go_region_law (refine za4 rfl (.tmp 6) (.tmp 9) 53 rfl (bv+1) 56 i0 (.agg #[.int .i64 0,.int .i64 0,.string ⟨#[]⟩,.slice none 0 0,.slice none 0 0]) 5 80 Tryz.underlying53 hi hf he hd rfl (by decide) (.slice a0 l.length c0) l.length xs rfl (by exact(Hown.out.alloc _).alloc _) ⟨w1.heap.size+1,0,none⟩ 1 [.int .i64 0,.int .i64 0,.string ⟨#[]⟩,.slice none 0 0,.slice none 0 0] rfl rfl (by exact zdb (w1.alloc _) _ _ _ (by simp)) (by simp[Value.oneCell']) hM hO (by simp;omega) ?_;intro g cap w2 hD hF hV hK hf2;have hQ:=za hD;clear hD;have k0:=hK 0 _ rfl;have k1:=hK 1 _ rfl;have k2:=hK 2 _ rfl;have k3:=hK 3 _ rfl;have k4:=hK 4 _ rfl;rw[Nat.add_zero]at k0;clear hK;obtain⟨hl,hg4⟩:=Hrow.out g (by simpa using hV);have hH:=(zen hF ho (fun e=>(Hrow.out bv (.inl e)).1 rfl)).trans Hb.out;have b1:w2.cell? ⟨bv,3,none⟩=some (.slice a0 l.length c0):=(by simp[World.cell?,hH,Hlv.out]);have b2:w2.frozen? ⟨bv,3,none⟩=false:=(by simp[World.frozen?,hH]);have hr:=za hV;have hs:=za hH;have hX:=za hF;clear hV hH hF)
 all_goals
  go_wp2_with fail
  go_end0
  refine⟨rfl,?_⟩;have hc:=Hb.out;have hH:=hs.out;rw[Hlv.out]at hc hH;have hU:(Value.slice a0 l.length c0).ownBlock=some g∨w1.heap.size+2≤g:=by have:=hr.out;simp only[World.size_drew,World.size_alloc]at this;exact this
  refine zrn hqB hp hS hn hZ hh Hown.out Hrc.out hc Hlw.out Hj.out hX.out hU hl hQ.out hH _ ?_;simp only[put5,true_or,or_true]
end Go.Proofs.YtmgfncjfgkllcaaGreatDoor
