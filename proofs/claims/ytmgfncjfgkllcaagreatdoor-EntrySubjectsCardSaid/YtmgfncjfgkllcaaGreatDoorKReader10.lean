/-
 The walks of json's reader,further: a list,an object.
-/
import Derived.Test.YtmgfncjfgkllcaaGreatDoorKReader7
import Derived.Test.YtmgfncjfgkllcaaGreatDoorKUtf
open Go.Lib renaming hid→za
open Go.Proofs.Tryz renaming prog→ze
open Go.World renaming size_alloc→zf
open Go renaming heap_alloc_new→zh
open Nat renaming le_refl→zt
namespace Go.Proofs.YtmgfncjfgkllcaaGreatDoor
set_option linter.unusedVariables false
set_option linter.unusedSimpArgs false
set_option linter.unusedSectionVars false
set_option maxRecDepth 100000
set_option maxHeartbeats 1000000
section
open Go.RowKit
attribute [local instance] zch

theorem RJ.ofList {S S':Nat→Prop}{w:World}{B:Nat}{lv:Value}{l:List J}{xs:List Value}(k n:Int)(t:Bs)(ho:w.ownsRow B 56 5 lv l.length xs)(hr:RC S w l xs)
 (hS:∀ b,S b→S' b) (hS2:∀ b,lv.ownBlock=some b→S' b):RJ S' w (.mk k n t l []) (.agg #[.int .i64 k,.int .i64 n,.string ⟨t.toArray⟩,lv,.slice none 0 0]):=by
 unfold RJ;obtain⟨h1,⟨rfl,h2⟩ | ⟨g,cap,hA,rfl,h2,h3,h4,h5,h6,h7⟩⟩:=ho
 ·refine⟨none,0,none,0,by simp[h2],.inl (List.length_eq_zero_iff.1 h2),.inl rfl⟩
 refine⟨_,_,none,0,rfl,.inr ⟨g,0,hA,_,rfl,hS2 g rfl,Blk.of h3,?_⟩,.inl rfl⟩;rw[List.drop_zero,Nat.mul_comm,h7];exact RC.kp (fun b o hb ho _=>⟨hS b hb,ho⟩) _ _ hr
theorem RJ.ofPairs {S S':Nat→Prop}{w:World}{B:Nat}{lv:Value}{l:List (Bs × J)}{xs:List Value}(k n:Int)(t:Bs)(ho:w.ownsRow B 133 6 lv l.length xs)(hr:RP S w l xs)
 (hS:∀ b,S b→S' b) (hS2:∀ b,lv.ownBlock=some b→S' b):RJ S' w (.mk k n t [] l) (.agg #[.int .i64 k,.int .i64 n,.string ⟨t.toArray⟩,.slice none 0 0,lv]):=by
 unfold RJ;obtain⟨h1,⟨rfl,h2⟩ | ⟨g,cap,hA,rfl,h2,h3,h4,h5,h6,h7⟩⟩:=ho
 ·refine⟨none,0,none,0,by simp[h2],.inl rfl,.inl (List.length_eq_zero_iff.1 h2)⟩
 refine⟨none,0,_,_,rfl,.inl rfl,.inr ⟨g,0,hA,_,rfl,hS2 g rfl,Blk.of h3,?_⟩⟩;rw[List.drop_zero,Nat.mul_comm,h7];exact RP.kp (fun b o hb ho _=>⟨hS b hb,ho⟩) _ _ hr
theorem zy0 (w:World)(a b c:Obj):(((w.alloc a).alloc b).alloc c).heap[w.heap.size]? = some a∧(((w.alloc a).alloc b).alloc c).heap[w.heap.size+1]? = some b∧(((w.alloc a).alloc b).alloc c).heap[w.heap.size+1+1]? = some c:=by
 have s1:(w.alloc a).heap.size=w.heap.size+1:=zf _ _;have s2:((w.alloc a).alloc b).heap.size=w.heap.size+1+1:=(zf _ _).trans (by rw[s1]);have e1:=zh w a;have e2:=zh (w.alloc a) b;have e3:=zh ((w.alloc a).alloc b) c;rw[s1]at e2;rw[s2]at e3;refine⟨?_,?_,e3⟩
 ·rw[Below.heap_alloc _ _ _ (by omega),Below.heap_alloc _ _ _ (by omega)];exact e1
 rw[Below.heap_alloc _ _ _ (by omega)];exact e2
theorem VB.ml {b r B:Nat}{w w':World}(h:VB b w)(hF:Fr (ML r B) w w')(hb:b<B):VB b w':=h.fr hF (fun o ho hm=>by
 rcases hm with⟨rfl,⟨c,f,h1⟩⟩ | ⟨h1,_⟩
 ·obtain⟨_,_,h2⟩:=ho;rw[h2]at h1;simp at h1
 omega)
theorem q9 (b:Nat)(v0 v1 v2 v3 v4:Value)(w:World):Fr (fun k _=>k=b) w (setV b v0 v1 v2 v3 v4 w) :=
 ((((Fr.refl.setCell _ _ (fun _ _=>rfl)).setCell _ _ (fun _ _=>rfl)).setCell _ _ (fun _ _=>rfl)).setCell _ _ (fun _ _=>rfl)).setCell _ _ (fun _ _=>rfl)
theorem z1x {r:Nat}{w W w1:World}{B:Nat}(h:Fr (MR r) w W)(hF:Fr (ML r B) W w1)(hB:w.heap.size≤B):Fr (MR r) w w1:=h.trans hF (fun k o hm=>by
 rcases hm with hm | ⟨hm,_⟩
 ·exact .inl hm
 exact .inr (Nat.le_trans hB hm))
theorem zz2 (f:Nat)(hv:znp f)(d:Int)(hd0:0≤d)(hdf:d+1+f=10)(r q bv:Nat)(hbn:6≤bv) :
 OneOk 301 #[.pointer (some ⟨q,0,none⟩),.pointer (some ⟨bv,0,none⟩)] (zbn (jg f (d+1))) (ListInv r q bv) List.length r bv 67108864 d where
 enters:=fun args w=>by simp[go_sem]
 keeps:=fun a w w' h hF=>h.fr hF (fun _ _ _ ht=>zv3 ht)
 boxes:=fun a w o h=>h.fr (Fr.refl.alloc (M:=NoB) o) (fun _ _ _ _ hm=>hm.elim)
 shrinks:=fun st a _=>⟨zuw (zig f (d+1)) st a,by simp[zbn]⟩
 does:=fun s a w h hd1 hI hg hB hsz=>zz3 f hv (d+1) (by omega) hd1 hdf r q bv bv 67108864 (zt _) (by omega) s a w h hI hg hB hsz
theorem z08 (f:Nat) (hv:znp f) (d:Int) (hd0:0≤d) (hd1:d≤8) (hdf:d+1+f=10) (r:Nat) (s:Bs) (w:World) (h:Rd r s false d w) (hg:Gl w) (hlen:s.length≤67108864) :
 Calls ze 257 #[.pointer (some ⟨r,0,none⟩)] w fun e w'=>∃ v,e = .returned v ∧
  RJ (fun k=>w.heap.size≤k) w' (.mk 4 0 [] (zae (zbn (jg f (d+1))) 91 93 (d+1) ⟨s,false⟩ []).2 []) v ∧
  Rd r (zae (zbn (jg f (d+1))) 91 93 (d+1) ⟨s,false⟩ []).1.s (zae (zbn (jg f (d+1))) 91 93 (d+1) ⟨s,false⟩ []).1.bad d w'∧Fr (MR r) w w':=by
 have hgs:=hg.size;have ok:=zz2 f hv d hd0 hdf r w.heap.size (w.heap.size+2) (by omega);have hC:=fun W hR hI hg hB=>zyw ok 91 93 s false [] W hR hI hg hB (by omega) hd0 (by omega) (by simpa using hlen)
 generalize zae (zbn (jg f (d+1))) 91 93 (d+1) ⟨s,false⟩ []=G at *;obtain⟨st,l⟩:=G;simp only at hC ⊢;have Heach:=za hC;clear hC ok;go_enter Tryz.func257,Tryz.ntmps257
 go_wp2_with fail
 obtain⟨a1,a2,a3⟩:=zy0 w (.cells #[.pointer (some ⟨r,0,none⟩)] 201) (.cells #[.int .i64 0,.int .i64 0,.string ⟨#[]⟩,.slice none 0 0,.slice none 0 0] 56) (.cells #[.int .i64 4,.int .i64 0,.string ⟨#[]⟩,.slice none 0 0,.slice none 0 0] 56);refine(Heach.out _ (((h.alloc _).alloc _).alloc _) ⟨a1,by omega,_,[],a3,⟨rfl,.inl ⟨rfl,rfl⟩⟩,by unfold RC;rfl⟩ (((hg.alloc _).alloc _).alloc _) (by simp)).mono ?_;rintro e w1 ⟨rfl,hK,⟨hq1,_,lv,xs,hD,hA,hE⟩,hF⟩;obtain⟨la,lc,rfl⟩:=qj hA;have hJ:VB (w.heap.size+1) _:=⟨_,_,_,_,_,a2⟩;have hH:=hJ.ml hF (by omega);obtain⟨q0,q1,q2,q3,q4,b0,b1,b2,b3,b4,fz,hlt⟩:=hH.cells;obtain⟨n0,n1,n2,n3,n4,nz,nlt⟩:=(⟨by simp[World.cell?,hD],by simp[World.cell?,hD],by simp[World.cell?,hD],by simp[World.cell?,hD],by simp[World.cell?,hD],by simp[World.frozen?,hD],jb hD⟩:w1.cell? ⟨w.heap.size+1+1,0,none⟩=some (.int .i64 4)∧w1.cell? ⟨w.heap.size+1+1,1,none⟩=some (.int .i64 0)∧w1.cell? ⟨w.heap.size+1+1,2,none⟩=some (.string ⟨#[]⟩)∧w1.cell? ⟨w.heap.size+1+1,3,none⟩=some (.slice la l.length lc)∧w1.cell? ⟨w.heap.size+1+1,4,none⟩=some (.slice none 0 0)∧(∀ o,w1.frozen? ⟨w.heap.size+1+1,o,none⟩=false)∧w.heap.size+2<w1.heap.size)
 go_wp2_with fail
 refine bodyPost_ret (v := .agg #[.int .i64 4,.int .i64 0,.string ⟨#[]⟩,.slice la l.length lc,.slice none 0 0]) (by simp[results,Tryz.results257,go_sem,b0,b1,b2,b3,b4]) rfl ?_;have hG:=hF.size;simp only[zf]at hG;refine⟨_,rfl,?_,hK.setV (by have:=h.lt;omega) _ _ _ _ _,(z1x (((Fr.refl.alloc _).alloc _).alloc _) hF (by omega)).setV (by omega) _ _ _ _ _⟩;refine RJ.kp (S:=fun k=>w.heap.size+2<k∨Value.ownBlock (.slice la l.length lc)=some k) (fun b o hb ho _=>?_) _ _ (RJ.ofList 4 0 [] hA hE (fun b hb => .inl hb.1) (fun b hb => .inr hb))
 have hb2:w.heap.size+2<b:=by
  rcases hb with hb | hb
  ·exact hb
  exact(zam hA b hb).1
 exact⟨by omega,(q9 _ _ _ _ _ _ _).block b o ho (by omega)⟩
theorem zui (f:Nat)(hv:znp f)(d:Int)(hd0:0≤d)(hdf:d+1+f=10)(r q mq bv:Nat)(hbn:6≤bv) :
 OneOk 302 #[.pointer (some ⟨q,0,none⟩),.pointer (some ⟨mq,0,none⟩),.pointer (some ⟨bv,0,none⟩)] (za4 (jg f (d+1))) (zn8 r q mq bv) List.length r bv 67108864 d where
 enters:=fun args w=>by simp[go_sem]
 keeps:=fun a w w' ⟨mb,lv,xs,h⟩ hF=>⟨mb,lv,xs,h.fr hF (fun _ _ ht=>zfl ht)⟩
 boxes:=fun a w o ⟨mb,lv,xs,h⟩=>⟨mb,lv,xs,h.fr (Fr.refl.alloc (M:=NoB) o) (fun _ _ _ hm=>hm.elim)⟩
 shrinks:=fun st a _=>⟨zou (zig f (d+1)) st a,zuc st a⟩
 does:=fun s a w h hd1 hI hg hB hsz=>zuk f hv (d+1) (by omega) hd1 hdf r q mq bv bv 67108864 (zt _) (by omega) s a w h hI hg hB hbn hsz
theorem zw4 (f:Nat) (hv:znp f) (d:Int) (hd0:0≤d) (hd1:d≤8) (hdf:d+1+f=10) (r:Nat) (s:Bs) (w:World) (h:Rd r s false d w) (hg:Gl w) (hlen:s.length≤67108864) :
 Calls ze 258 #[.pointer (some ⟨r,0,none⟩)] w fun e w'=>∃ v,e = .returned v ∧
  RJ (fun k=>w.heap.size≤k) w' (.mk 5 0 [] [] (zae (za4 (jg f (d+1))) 123 125 (d+1) ⟨s,false⟩ []).2) v ∧
  Rd r (zae (za4 (jg f (d+1))) 123 125 (d+1) ⟨s,false⟩ []).1.s (zae (za4 (jg f (d+1))) 123 125 (d+1) ⟨s,false⟩ []).1.bad d w'∧Fr (MR r) w w':=by
 have hgs:=hg.size;have ok:=zui f hv d hd0 hdf r w.heap.size (w.heap.size+1+1+1+1) (w.heap.size+2) (by omega);have hC:=fun W hR hI hg hB=>zyw ok 123 125 s false [] W hR hI hg hB (by omega) hd0 (by omega) (by simpa using hlen)
 generalize zae (za4 (jg f (d+1))) 123 125 (d+1) ⟨s,false⟩ []=G at *;obtain⟨st,l⟩:=G;simp only at hC ⊢;have Heach:=za hC;clear hC ok;have hmm:=@run_makeMap ze;go_enter Tryz.func258,Tryz.ntmps258
 go_wp2_with fail
 obtain⟨a1,a2,a3⟩:=zy0 w (.cells #[.pointer (some ⟨r,0,none⟩)] 201) (.cells #[.int .i64 0,.int .i64 0,.string ⟨#[]⟩,.slice none 0 0,.slice none 0 0] 56) (.cells #[.int .i64 5,.int .i64 0,.string ⟨#[]⟩,.slice none 0 0,.slice none 0 0] 56);generalize hF:((w.alloc (.cells #[.pointer (some ⟨r,0,none⟩)] 201)).alloc (.cells #[.int .i64 0,.int .i64 0,.string ⟨#[]⟩,.slice none 0 0,.slice none 0 0] 56)).alloc (.cells #[.int .i64 5,.int .i64 0,.string ⟨#[]⟩,.slice none 0 0,.slice none 0 0] 56)=W3 at *;have hO:W3.heap.size=w.heap.size+1+1+1:=by rw[← hF];simp
 have hV:Rd r s false d W3:=by rw[← hF];exact(((h.alloc _).alloc _).alloc _)
 have hS:Gl W3:=by rw[← hF];exact(((hg.alloc _).alloc _).alloc _)
 have hX:Fr (MR r) w W3:=by rw[← hF];exact(((Fr.refl.alloc _).alloc _).alloc _)
 clear hF;have hL:=Seen.made W3;have hP:=zh (W3.alloc (.map #[] 0)) (.cells #[.map (some (w.heap.size+1+1+1))] 280);have hN:(W3.alloc (.map #[] 0)).heap.size=w.heap.size+1+1+1+1:=(zf _ _).trans (by rw[hO]);rw[hN]at hP;rw[hO]at hL;have hE:Fr NoB W3 ((W3.alloc (.map #[] 0)).alloc (.cells #[.map (some (w.heap.size+1+1+1))] 280)):=(Fr.refl.alloc _).alloc _;have hJ:Fr NoB (W3.alloc (.map #[] 0)) ((W3.alloc (.map #[] 0)).alloc (.cells #[.map (some (w.heap.size+1+1+1))] 280)):=Fr.refl.alloc _;have hG:∀ k o,¬ NoB k o:=fun _ _ h=>h
 have hM:((W3.alloc (.map #[] 0)).alloc (.cells #[.map (some (w.heap.size+1+1+1))] 280)).heap.size=w.heap.size+1+1+1+1+1:=(zf _ _).trans (by rw[hN]);refine(Heach.out _ ((hV.alloc _).alloc _) ⟨w.heap.size+1+1+1,_,[],hE.block _ _ a1 (hG _ _),by omega,by omega,hP,hL.fr hJ (fun _ _=>hG _ _),hE.block _ _ a3 (hG _ _),⟨rfl,.inl ⟨rfl,rfl⟩⟩,by unfold RP;rfl⟩ ((hS.alloc _).alloc _) (by rw[hM];omega)).mono ?_;rintro e w1 ⟨rfl,hW,⟨mb1,lv,xs,hq1,_,_,_,_,hD,hA,hH⟩,hK⟩;obtain⟨la,lc,rfl⟩:=qj hA;have hU:VB (w.heap.size+1) _:=⟨_,_,_,_,_,hE.block _ _ a2 (hG _ _)⟩;have hT:=hU.ml hK (by omega);have hQ:=hK.size;rw[hM]at hQ;obtain⟨q0,q1,q2,q3,q4,b0,b1,b2,b3,b4,fz,hlt⟩:=hT.cells;obtain⟨n0,n1,n2,n3,n4,nz,nlt⟩:=(⟨by simp[World.cell?,hD],by simp[World.cell?,hD],by simp[World.cell?,hD],by simp[World.cell?,hD],by simp[World.cell?,hD],by simp[World.frozen?,hD],jb hD⟩:w1.cell? ⟨w.heap.size+1+1,0,none⟩=some (.int .i64 5)∧w1.cell? ⟨w.heap.size+1+1,1,none⟩=some (.int .i64 0)∧w1.cell? ⟨w.heap.size+1+1,2,none⟩=some (.string ⟨#[]⟩)∧w1.cell? ⟨w.heap.size+1+1,3,none⟩=some (.slice none 0 0)∧w1.cell? ⟨w.heap.size+1+1,4,none⟩=some (.slice la l.length lc)∧(∀ o,w1.frozen? ⟨w.heap.size+1+1,o,none⟩=false)∧w.heap.size+2<w1.heap.size)
 go_wp2_with fail
 refine bodyPost_ret (v := .agg #[.int .i64 5,.int .i64 0,.string ⟨#[]⟩,.slice none 0 0,.slice la l.length lc]) (by simp[results,Tryz.results258,go_sem,b0,b1,b2,b3,b4]) rfl ?_;refine⟨_,rfl,?_,hW.setV (by have:=h.lt;omega) _ _ _ _ _,(z1x ((hX.alloc _).alloc _) hK (by omega)).setV (by omega) _ _ _ _ _⟩;refine RJ.kp (S:=fun k=>w.heap.size+2<k∨Value.ownBlock (.slice la l.length lc)=some k) (fun b o hb ho _=>?_) _ _ (RJ.ofPairs 5 0 [] hA hH (fun b hb => .inl hb.1) (fun b hb => .inr hb))
 have hb2:w.heap.size+2<b:=by
  rcases hb with hb | hb
  ·exact hb
  exact(zam hA b hb).1
 exact⟨by omega,(q9 _ _ _ _ _ _ _).block b o ho (by omega)⟩
end
section
open Go.RowKit
attribute [local instance] zch

theorem zzr (q r:Nat)(s:Bs)(bad:Bool)(d:Int)(w:World)(hq:Bx q r w)(h:Rd r s bad d w) :
 Calls ze 251 #[.pointer (some ⟨q,0,none⟩)] w fun e w'=>∃ v,e = .returned v∧RJ (fun k=>w.heap.size≤k) w' J.zero v∧Rd r (zaa zlc ⟨s,bad⟩).s (zaa zlc ⟨s,bad⟩).bad d w'∧Fr (MR r) w w':=by
 have cq:=hq.cell;have hql:=jb hq;have hlt:=h.lt;have hA:=fun W hR=>zmz r s zlc bad d W hR
 generalize zaa zlc ⟨s,bad⟩=G at *;obtain⟨s1,b1⟩:=G;have Hmust:=za hA;clear hA;go_enter Tryz.func251,Tryz.ntmps251
 go_wp2_with fail
 refine(Hmust.out _ (h.alloc _)).mono ?_;rintro e w1 ⟨rfl,hD,hB⟩;have hC:=(VB.new w _ _ _ _ _).rd hB;obtain⟨q0,q1,q2,q3,q4,a0,a1,a2,a3,a4,fz,hlt1⟩:=hC.cells
 go_wp2_with fail
 refine bodyPost_ret (v := .agg #[.int .i64 0,.int .i64 0,.string ⟨#[]⟩,.slice none 0 0,.slice none 0 0]) (by simp[results,Tryz.results251,go_sem,a0,a1,a2,a3,a4]) rfl ?_;exact⟨_,rfl,RJ.zero _ _,hD.setV (by omega) _ _ _ _ _,((Fr.refl.alloc _).trans' hB).setV (zt _) _ _ _ _ _⟩
theorem zzq (q r:Nat)(s:Bs)(bad:Bool)(d:Int)(w:World)(hq:Bx q r w)(h:Rd r s bad d w) :
 Calls ze 253 #[.pointer (some ⟨q,0,none⟩)] w fun e w'=>∃ v,e = .returned v∧RJ (fun k=>w.heap.size≤k) w' (.mk 1 1 [] [] []) v∧Rd r (zaa zlb ⟨s,bad⟩).s (zaa zlb ⟨s,bad⟩).bad d w'∧Fr (MR r) w w':=by
 have cq:=hq.cell;have hql:=jb hq;have hlt:=h.lt;have hA:=fun W hR=>zmz r s zlb bad d W hR
 generalize zaa zlb ⟨s,bad⟩=G at *;obtain⟨s1,b1⟩:=G;have Hmust:=za hA;clear hA;go_enter Tryz.func253,Tryz.ntmps253
 go_wp2_with fail
 refine(Hmust.out _ (h.alloc _)).mono ?_;rintro e w1 ⟨rfl,hD,hB⟩;have hC:=(VB.new w _ _ _ _ _).rd hB;obtain⟨q0,q1,q2,q3,q4,a0,a1,a2,a3,a4,fz,hlt1⟩:=hC.cells
 go_wp2_with fail
 refine bodyPost_ret (v := .agg #[.int .i64 1,.int .i64 1,.string ⟨#[]⟩,.slice none 0 0,.slice none 0 0]) (by simp[results,Tryz.results253,go_sem,a0,a1,a2,a3,a4]) rfl ?_;exact⟨_,rfl,RJ.flat _ _ _ _ [],hD.setV (by omega) _ _ _ _ _,((Fr.refl.alloc _).trans' hB).setV (zt _) _ _ _ _ _⟩
theorem zzp (q r:Nat)(s:Bs)(bad:Bool)(d:Int)(w:World)(hq:Bx q r w)(h:Rd r s bad d w) :
 Calls ze 254 #[.pointer (some ⟨q,0,none⟩)] w fun e w'=>∃ v,e = .returned v∧RJ (fun k=>w.heap.size≤k) w' (.mk 1 0 [] [] []) v∧Rd r (zaa zgn ⟨s,bad⟩).s (zaa zgn ⟨s,bad⟩).bad d w'∧Fr (MR r) w w':=by
 have cq:=hq.cell;have hql:=jb hq;have hlt:=h.lt;have hA:=fun W hR=>zmz r s zgn bad d W hR
 generalize zaa zgn ⟨s,bad⟩=G at *;obtain⟨s1,b1⟩:=G;have Hmust:=za hA;clear hA;go_enter Tryz.func254,Tryz.ntmps254
 go_wp2_with fail
 refine(Hmust.out _ (h.alloc _)).mono ?_;rintro e w1 ⟨rfl,hD,hB⟩;have hC:=(VB.new w _ _ _ _ _).rd hB;obtain⟨q0,q1,q2,q3,q4,a0,a1,a2,a3,a4,fz,hlt1⟩:=hC.cells
 go_wp2_with fail
 refine bodyPost_ret (v := .agg #[.int .i64 1,.int .i64 0,.string ⟨#[]⟩,.slice none 0 0,.slice none 0 0]) (by simp[results,Tryz.results254,go_sem,a0,a1,a2,a3,a4]) rfl ?_;exact⟨_,rfl,RJ.flat _ _ _ _ [],hD.setV (by omega) _ _ _ _ _,((Fr.refl.alloc _).trans' hB).setV (zt _) _ _ _ _ _⟩
theorem zzo (q r:Nat)(s:Bs)(bad:Bool)(d:Int)(w:World)(hq:Bx q r w)(h:Rd r s bad d w)(hg:Gl w)(hlen:s.length≤1073741824) :
 Calls ze 255 #[.pointer (some ⟨q,0,none⟩)] w fun e w'=>∃ v,e = .returned v∧RJ (fun k=>w.heap.size≤k) w' (.mk 3 0 (zbk ⟨s,bad⟩).1 [] []) v∧Rd r (zbk ⟨s,bad⟩).2.s (zbk ⟨s,bad⟩).2.bad d w'∧Fr (MR r) w w':=by
 have cq:=hq.cell;have hql:=jb hq;have hlt:=h.lt;have hA:=fun W hR hC=>zyg r s bad d W hR hC hlen
 generalize zbk ⟨s,bad⟩=G at *;obtain⟨nm,s1,b1⟩:=G;have Htext:=za hA;clear hA;go_enter Tryz.func255,Tryz.ntmps255
 go_wp2_with fail
 refine(Htext.out _ (h.alloc _) (hg.alloc _)).mono ?_;rintro e w1 ⟨rfl,hE,hB⟩;have hD:=(VB.new w _ _ _ _ _).rd hB;obtain⟨q0,q1,q2,q3,q4,a0,a1,a2,a3,a4,fz,hlt1⟩:=hD.cells
 go_wp2_with fail
 refine bodyPost_ret (v := .agg #[.int .i64 3,.int .i64 0,.string ⟨nm.toArray⟩,.slice none 0 0,.slice none 0 0]) (by simp[results,Tryz.results255,go_sem,a0,a1,a2,a3,a4]) rfl ?_;exact⟨_,rfl,RJ.flat _ _ _ _ nm,hE.setV (by omega) _ _ _ _ _,((Fr.refl.alloc _).trans' hB).setV (zt _) _ _ _ _ _⟩
def z0z (r q:Nat) (c:UInt8):Value :=
 if c=110 then .func (.func 251) #[] #[.pointer (some ⟨q,0,none⟩)]
 else if c=116 then .func (.func 253) #[] #[.pointer (some ⟨q,0,none⟩)]
 else if c=102 then .func (.func 254) #[] #[.pointer (some ⟨q,0,none⟩)]
 else if c=34 then .func (.func 255) #[] #[.pointer (some ⟨q,0,none⟩)]
 else if c=91 then .func (.func 257) #[.pointer (some ⟨r,0,none⟩)] #[]
 else if c=123 then .func (.func 258) #[.pointer (some ⟨r,0,none⟩)] #[]
 else .func (.func 259) #[.pointer (some ⟨r,0,none⟩)] #[]
theorem zhh (c:UInt8) (n:Nat) (hn:n<256):((c.toNat:Int)==(n:Int))=decide (c=UInt8.ofNat n):=by
 rw[Bool.eq_iff_iff,beq_iff_eq,decide_eq_true_eq];constructor
 ·intro e;have:c.toNat=n:=by omega
  apply UInt8.toNat_inj.1;rw[this];simp;omega
 rintro rfl;simp;omega
theorem z0y (r:Nat) (c:UInt8) (w:World) :
 Calls ze 202 #[.pointer (some ⟨r,0,none⟩),.int .u8 c.toNat] w fun e w'=>e = .returned (z0z r w.heap.size c)∧w'=w.alloc (.cells #[.pointer (some ⟨r,0,none⟩)] 201):=by
 have e1:((c.toNat:Int)==110)=decide (c=110):=zhh c 110 (by decide);have e2:((c.toNat:Int)==116)=decide (c=116):=zhh c 116 (by decide);have e3:((c.toNat:Int)==102)=decide (c=102):=zhh c 102 (by decide);have e4:((c.toNat:Int)==34)=decide (c=34):=zhh c 34 (by decide);have e5:((c.toNat:Int)==91)=decide (c=91):=zhh c 91 (by decide);have e6:((c.toNat:Int)==123)=decide (c=123):=zhh c 123 (by decide);generalize hG:z0z r w.heap.size c=G;unfold z0z at hG;by_cases h1:c=110
 ·rw[decide_eq_true h1]at e1;rw[if_pos h1]at hG;clear e2 e3 e4 e5 e6;go_enter Tryz.func202,Tryz.ntmps202
  go_wp2_with fail
  go_ret;exact⟨rfl,rfl⟩
 rw[decide_eq_false h1]at e1;rw[if_neg h1]at hG;by_cases h2:c=116
 ·rw[decide_eq_true h2]at e2;rw[if_pos h2]at hG;clear e3 e4 e5 e6;go_enter Tryz.func202,Tryz.ntmps202
  go_wp2_with fail
  go_ret;exact⟨rfl,rfl⟩
 rw[decide_eq_false h2]at e2;rw[if_neg h2]at hG;by_cases h3:c=102
 ·rw[decide_eq_true h3]at e3;rw[if_pos h3]at hG;clear e4 e5 e6;go_enter Tryz.func202,Tryz.ntmps202
  go_wp2_with fail
  go_ret;exact⟨rfl,rfl⟩
 rw[decide_eq_false h3]at e3;rw[if_neg h3]at hG;by_cases h4:c=34
 ·rw[decide_eq_true h4]at e4;rw[if_pos h4]at hG;clear e5 e6;go_enter Tryz.func202,Tryz.ntmps202
  go_wp2_with fail
  go_ret;exact⟨rfl,rfl⟩
 rw[decide_eq_false h4]at e4;rw[if_neg h4]at hG;by_cases h5:c=91
 ·rw[decide_eq_true h5]at e5;rw[if_pos h5]at hG;clear e6;go_enter Tryz.func202,Tryz.ntmps202
  go_wp2_with fail
  go_ret;exact⟨rfl,rfl⟩
 rw[decide_eq_false h5]at e5;rw[if_neg h5]at hG;by_cases h6:c=123
 ·rw[decide_eq_true h6]at e6;rw[if_pos h6]at hG;go_enter Tryz.func202,Tryz.ntmps202
  go_wp2_with fail
  go_ret;exact⟨rfl,rfl⟩
 rw[decide_eq_false h6]at e6;rw[if_neg h6]at hG;go_enter Tryz.func202,Tryz.ntmps202
 go_wp2_with fail
 go_ret;exact⟨rfl,rfl⟩
end
section
open Go.RowKit
attribute [local instance] zch

theorem z2l (f:Nat) (hv:znp f) (d:Int) (hd0:0≤d) (hd1:d≤8) (hdf:d+1+f=10) (r q:Nat) (c:UInt8) (l:Bs) (w:World) (hq:Bx q r w) (h:Rd r (c :: l) false d w) (hg:Gl w) (hlen:(c :: l).length≤67108864) :
 ∃ g a b,z0z r q c = .func (.func g) a b∧(callFunc g (a++b)).run ze w = .ok (.enter g (a++b)) w∧Calls ze g (a++b) w fun e w'=>∃ v,e = .returned v ∧
  RJ (fun k=>w.heap.size≤k) w' (zc5 (jg f (d+1)) d c ⟨c :: l,false⟩).1 v ∧
  Rd r (zc5 (jg f (d+1)) d c ⟨c :: l,false⟩).2.s (zc5 (jg f (d+1)) d c ⟨c :: l,false⟩).2.bad d w'∧Fr (MR r) w w':=by
 unfold z0z zc5;by_cases h1:c=110
 ·simp only[if_pos h1];exact⟨_,_,_,rfl,by simp[go_sem],zzr q r _ _ d w hq h⟩
 simp only[if_neg h1];by_cases h2:c=116
 ·simp only[if_pos h2];exact⟨_,_,_,rfl,by simp[go_sem],zzq q r _ _ d w hq h⟩
 simp only[if_neg h2];by_cases h3:c=102
 ·simp only[if_pos h3];exact⟨_,_,_,rfl,by simp[go_sem],zzp q r _ _ d w hq h⟩
 simp only[if_neg h3];by_cases h4:c=34
 ·simp only[if_pos h4];exact⟨_,_,_,rfl,by simp[go_sem],zzo q r _ _ d w hq h hg (by omega)⟩
 simp only[if_neg h4];by_cases h5:c=91
 ·simp only[if_pos h5];exact⟨_,_,_,rfl,by simp[go_sem],z08 f hv d hd0 hd1 hdf r _ w h hg hlen⟩
 simp only[if_neg h5];by_cases h6:c=123
 ·simp only[if_pos h6];exact⟨_,_,_,rfl,by simp[go_sem],zw4 f hv d hd0 hd1 hdf r _ w h hg hlen⟩
 simp only[if_neg h6];exact⟨_,_,_,rfl,by simp[go_sem],zw6 r c l false d w h (by omega)⟩
theorem zy3:∀ f,znp f:=by
 intro f
 induction f with
 | zero=>intro d r s hL w _ _ _ h0 h1 h2;exfalso;simp at h2;omega
 | succ f ih =>
   intro d r s hL w h hg hlen hV hU hT;have hlt:=h.lt;have hH:d+1+(f:Int)=10:=by simp at hT;omega
   have hW:=zac s;simp only[jg];cases hs:ja s with
   | nil =>
     simp only;go_enter Tryz.func130,Tryz.ntmps130
     go_wp2_with fail
     refine(zeq r s hL d _ (h.alloc _)).mono ?_;rintro e w1 ⟨rfl,hA,hB⟩;rw[hs]at hA;have hE:=(VB.new w _ _ _ _ _).rd hB;obtain⟨c0,c1,c2,f1,hM⟩:=hA.cells
     go_wp2_with fail
     refine(zcl r _ _ d _ hA).mono ?_;rintro e w2 ⟨rfl,hJ,hF⟩;have hI:=hE.rd hF;obtain⟨q0,q1,q2,q3,q4,a0,a1,a2,a3,a4,fz,hD⟩:=hI.cells
     go_wp2_with fail
     refine bodyPost_ret (v := .agg #[.int .i64 0,.int .i64 0,.string ⟨#[]⟩,.slice none 0 0,.slice none 0 0]) (by simp[results,Tryz.results130,go_sem,a0,a1,a2,a3,a4]) rfl ?_;exact⟨_,rfl,RJ.zero _ _,hJ.setV (by omega) _ _ _ _ _,(((Fr.refl.alloc _).trans' hB).trans' hF).setV (zt _) _ _ _ _ _⟩
   | cons c l =>
     rw[hs]at hW;cases hL with
     | true =>
       simp only[if_true];go_enter Tryz.func130,Tryz.ntmps130
       go_wp2_with fail
       refine(zeq r s true d _ (h.alloc _)).mono ?_;rintro e w1 ⟨rfl,hA,hB⟩;rw[hs]at hA;have hE:=(VB.new w _ _ _ _ _).rd hB;obtain⟨c0,c1,c2,f1,hM⟩:=hA.cells
       go_wp2_with fail
       refine(zcl r _ _ d _ hA).mono ?_;rintro e w2 ⟨rfl,hJ,hF⟩;have hI:=hE.rd hF;obtain⟨q0,q1,q2,q3,q4,a0,a1,a2,a3,a4,fz,hD⟩:=hI.cells
       go_wp2_with fail
       refine bodyPost_ret (v := .agg #[.int .i64 0,.int .i64 0,.string ⟨#[]⟩,.slice none 0 0,.slice none 0 0]) (by simp[results,Tryz.results130,go_sem,a0,a1,a2,a3,a4]) rfl ?_;exact⟨_,rfl,RJ.zero _ _,hJ.setV (by omega) _ _ _ _ _,(((Fr.refl.alloc _).trans' hB).trans' hF).setV (zt _) _ _ _ _ _⟩
     | false =>
       simp only[Bool.false_eq_true,if_false];have hG:=fun q W hq hR hQ=>z2l f ih d hV hU hH r q c l W hq hR hQ (by omega)
       generalize zc5 (jg f (d+1)) d c ⟨c :: l,false⟩=G at *;obtain⟨j,st⟩:=G;have Hfn:=za hG;clear hG;go_enter Tryz.func130,Tryz.ntmps130
       go_wp2_with fail
       refine(zeq r s false d _ (h.alloc _)).mono ?_;rintro e w1 ⟨rfl,hA,hB⟩;rw[hs]at hA;have hE:=(VB.new w _ _ _ _ _).rd hB;have hS:=(hg.alloc _).rd (h.alloc _) hB;obtain⟨c0,c1,c2,f1,hM⟩:=hA.cells
       go_wp2_with fail
       refine(z0y r c w1).mono ?_;rintro e w2 ⟨rfl,rfl⟩;obtain⟨g,a,b,hG,hent,hC⟩:=Hfn.out w1.heap.size _ (zh w1 _) (hA.alloc _) (hS.alloc _);have Hcall:=za hC;clear hC;rw[hG]
       go_wp2_with fail
       refine Hcall.out.mono ?_;rintro e w3 ⟨v,rfl,hj,hY,hK⟩;have hX:=(hE.fr (Fr.refl.alloc (M:=NoB) _) (fun _ _ h=>h)).rd hK;obtain⟨q0,q1,q2,q3,q4,a0,a1,a2,a3,a4,fz,hD⟩:=hX.cells;obtain⟨jk,jn,jt,jl,jp⟩:=j;have hN:=hj;unfold RJ at hN;obtain⟨x1,n1,x2,n2,rfl,_,_⟩:=hN;have Hj:=za hj;clear hj;have hP:=hB.size;have hO:=hK.size;simp only[zf]at hP hO
       go_wp2_with fail
       refine bodyPost_ret (v := .agg #[.int .i64 jk,.int .i64 jn,.string ⟨jt.toArray⟩,.slice x1 jl.length n1,.slice x2 jp.length n2]) (by simp[results,Tryz.results130,go_sem,a0,a1,a2,a3,a4]) rfl ?_;refine⟨_,rfl,RJ.kp (fun b o hb ho _=>⟨?_,(q9 _ _ _ _ _ _ _).block b o ho ?_⟩) _ _ Hj.out,hY.setV (by omega) _ _ _ _ _,((((Fr.refl.alloc _).trans' hB).alloc _).trans' hK).setV (zt _) _ _ _ _ _⟩
       ·simp only[zf]at hb;omega
       simp only[zf]at hb;omega
end
end Go.Proofs.YtmgfncjfgkllcaaGreatDoor
