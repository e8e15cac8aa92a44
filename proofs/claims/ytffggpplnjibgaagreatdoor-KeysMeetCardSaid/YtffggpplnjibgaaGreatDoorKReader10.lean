/-
 The walks of json's reader,further: a list,an object.
-/
import Derived.Test.YtffggpplnjibgaaGreatDoorKReader7
import Derived.Test.YtffggpplnjibgaaGreatDoorKSpecEntry
open Go.Lib renaming hid→zi
open Go.Proofs.Tryz renaming prog→zl
open Go.World renaming size_alloc→zm
open Go renaming heap_alloc_new→zo
open Nat renaming le_refl→ja
namespace Go.Proofs.YtffggpplnjibgaaGreatDoor
set_option linter.unusedVariables false
set_option linter.unusedSimpArgs false
set_option linter.unusedSectionVars false
set_option maxRecDepth 100000
set_option maxHeartbeats 1000000
section
open Go.RowKit
attribute [local instance] zb3

theorem RJ.ofList {S S':Nat→Prop}{w:World}{B:Nat}{lv:Value}{l:List J}{xs:List Value}(k n:Int)(t:Bs)(ho:w.ownsRow B 65 5 lv l.length xs)(hr:RC S w l xs)
 (hS:∀ b,S b→S' b) (hS2:∀ b,lv.ownBlock=some b→S' b):RJ S' w (.mk k n t l []) (.agg #[.int .i64 k,.int .i64 n,.string ⟨t.toArray⟩,lv,.slice none 0 0]):=by
 unfold RJ;obtain⟨h1,⟨rfl,h2⟩ | ⟨g,cap,hB,rfl,h2,h3,h4,h5,h6,h7⟩⟩:=ho
 ·refine⟨none,0,none,0,by simp[h2],.inl (List.length_eq_zero_iff.1 h2),.inl rfl⟩
 refine⟨_,_,none,0,rfl,.inr ⟨g,0,hB,_,rfl,hS2 g rfl,Blk.of h3,?_⟩,.inl rfl⟩;rw[List.drop_zero,Nat.mul_comm,h7];exact RC.kp (fun b o hb ho _=>⟨hS b hb,ho⟩) _ _ hr
theorem RJ.ofPairs {S S':Nat→Prop}{w:World}{B:Nat}{lv:Value}{l:List (Bs × J)}{xs:List Value}(k n:Int)(t:Bs)(ho:w.ownsRow B 116 6 lv l.length xs)(hr:RP S w l xs)
 (hS:∀ b,S b→S' b) (hS2:∀ b,lv.ownBlock=some b→S' b):RJ S' w (.mk k n t [] l) (.agg #[.int .i64 k,.int .i64 n,.string ⟨t.toArray⟩,.slice none 0 0,lv]):=by
 unfold RJ;obtain⟨h1,⟨rfl,h2⟩ | ⟨g,cap,hB,rfl,h2,h3,h4,h5,h6,h7⟩⟩:=ho
 ·refine⟨none,0,none,0,by simp[h2],.inl rfl,.inl (List.length_eq_zero_iff.1 h2)⟩
 refine⟨none,0,_,_,rfl,.inl rfl,.inr ⟨g,0,hB,_,rfl,hS2 g rfl,Blk.of h3,?_⟩⟩;rw[List.drop_zero,Nat.mul_comm,h7];exact RP.kp (fun b o hb ho _=>⟨hS b hb,ho⟩) _ _ hr
theorem zvh (w:World)(a b c:Obj):(((w.alloc a).alloc b).alloc c).heap[w.heap.size]? = some a∧(((w.alloc a).alloc b).alloc c).heap[w.heap.size+1]? = some b∧(((w.alloc a).alloc b).alloc c).heap[w.heap.size+1+1]? = some c:=by
 have s1:(w.alloc a).heap.size=w.heap.size+1:=zm _ _;have s2:((w.alloc a).alloc b).heap.size=w.heap.size+1+1:=(zm _ _).trans (by rw[s1]);have e1:=zo w a;have e2:=zo (w.alloc a) b;have e3:=zo ((w.alloc a).alloc b) c;rw[s1]at e2;rw[s2]at e3;refine⟨?_,?_,e3⟩
 ·rw[Below.heap_alloc _ _ _ (by omega),Below.heap_alloc _ _ _ (by omega)];exact e1
 rw[Below.heap_alloc _ _ _ (by omega)];exact e2
theorem VB.ml {b r B:Nat}{w w':World}(h:VB b w)(hF:Fr (ML r B) w w')(hb:b<B):VB b w':=h.fr hF (fun o ho hm=>by
 rcases hm with⟨rfl,⟨c,f,h1⟩⟩ | ⟨h1,_⟩
 ·obtain⟨_,_,h2⟩:=ho;rw[h2]at h1;simp at h1
 omega)
theorem za1 (b:Nat)(v0 v1 v2 v3 v4:Value)(w:World):Fr (fun k _=>k=b) w (setV b v0 v1 v2 v3 v4 w) :=
 ((((Fr.refl.setCell _ _ (fun _ _=>rfl)).setCell _ _ (fun _ _=>rfl)).setCell _ _ (fun _ _=>rfl)).setCell _ _ (fun _ _=>rfl)).setCell _ _ (fun _ _=>rfl)
theorem zyh {r:Nat}{w W w1:World}{B:Nat}(h:Fr (MR r) w W)(hF:Fr (ML r B) W w1)(hB:w.heap.size≤B):Fr (MR r) w w1:=h.trans hF (fun k o hm=>by
 rcases hm with hm | ⟨hm,_⟩
 ·exact .inl hm
 exact .inr (Nat.le_trans hB hm))
theorem zwq (f:Nat)(hv:zmg f)(d:Int)(hd0:0≤d)(hdf:d+1+f=10)(r q bv:Nat)(hbn:2≤bv) :
 OneOk 259 #[.pointer (some ⟨q,0,none⟩),.pointer (some ⟨bv,0,none⟩)] (zbq (jy f (d+1))) (ListInv r q bv) List.length r bv 67108864 d where
 enters:=fun args w=>by simp[go_sem]
 keeps:=fun a w w' h hF=>h.fr hF (fun _ _ _ ht=>zsy ht)
 boxes:=fun a w o h=>h.fr (Fr.refl.alloc (M:=NoB) o) (fun _ _ _ _ hm=>hm.elim)
 shrinks:=fun st a _=>⟨zr7 (zht f (d+1)) st a,by simp[zbq]⟩
 does:=fun s a w h hd1 hI hg hB hsz=>zwr f hv (d+1) (by omega) hd1 hdf r q bv bv 67108864 (ja _) (by omega) s a w h hI hg hB hsz
theorem zxt (f:Nat) (hv:zmg f) (d:Int) (hd0:0≤d) (hd1:d≤8) (hdf:d+1+f=10) (r:Nat) (s:Bs) (w:World) (h:Rd r s false d w) (hg:Gl w) (hlen:s.length≤67108864) :
 Calls zl 225 #[.pointer (some ⟨r,0,none⟩)] w fun e w'=>∃ v,e = .returned v ∧
  RJ (fun k=>w.heap.size≤k) w' (.mk 4 0 [] (zaj (zbq (jy f (d+1))) 91 93 (d+1) ⟨s,false⟩ []).2 []) v ∧
  Rd r (zaj (zbq (jy f (d+1))) 91 93 (d+1) ⟨s,false⟩ []).1.s (zaj (zbq (jy f (d+1))) 91 93 (d+1) ⟨s,false⟩ []).1.bad d w'∧Fr (MR r) w w':=by
 have hgs:=hg.size;have ok:=zwq f hv d hd0 hdf r w.heap.size (w.heap.size+2) (by omega);have hD:=fun W hR hI hg hB=>zve ok 91 93 s false [] W hR hI hg hB (by omega) hd0 (by omega) (by simpa using hlen)
 generalize zaj (zbq (jy f (d+1))) 91 93 (d+1) ⟨s,false⟩ []=G at *;obtain⟨st,l⟩:=G;simp only at hD ⊢;have Heach:=zi hD;clear hD ok;go_enter Tryz.func225,Tryz.ntmps225
 go_wp2_with fail
 obtain⟨a1,a2,a3⟩:=zvh w (.cells #[.pointer (some ⟨r,0,none⟩)] 177) (.cells #[.int .i64 0,.int .i64 0,.string ⟨#[]⟩,.slice none 0 0,.slice none 0 0] 65) (.cells #[.int .i64 4,.int .i64 0,.string ⟨#[]⟩,.slice none 0 0,.slice none 0 0] 65);refine(Heach.out _ (((h.alloc _).alloc _).alloc _) ⟨a1,by omega,_,[],a3,⟨rfl,.inl ⟨rfl,rfl⟩⟩,by unfold RC;rfl⟩ (((hg.alloc _).alloc _).alloc _) (by simp)).mono ?_;rintro e w1 ⟨rfl,hL,⟨hq1,_,lv,xs,hE,hC,hF⟩,hG⟩;obtain⟨la,lc,rfl⟩:=zaw hC;have hK:VB (w.heap.size+1) _:=⟨_,_,_,_,_,a2⟩;have hJ:=hK.ml hG (by omega);obtain⟨q0,q1,q2,q3,q4,b0,b1,b2,b3,b4,fz,hlt⟩:=hJ.cells;obtain⟨n0,n1,n2,n3,n4,nz,nlt⟩:=(⟨by simp[World.cell?,hE],by simp[World.cell?,hE],by simp[World.cell?,hE],by simp[World.cell?,hE],by simp[World.cell?,hE],by simp[World.frozen?,hE],ju hE⟩:w1.cell? ⟨w.heap.size+1+1,0,none⟩=some (.int .i64 4)∧w1.cell? ⟨w.heap.size+1+1,1,none⟩=some (.int .i64 0)∧w1.cell? ⟨w.heap.size+1+1,2,none⟩=some (.string ⟨#[]⟩)∧w1.cell? ⟨w.heap.size+1+1,3,none⟩=some (.slice la l.length lc)∧w1.cell? ⟨w.heap.size+1+1,4,none⟩=some (.slice none 0 0)∧(∀ o,w1.frozen? ⟨w.heap.size+1+1,o,none⟩=false)∧w.heap.size+2<w1.heap.size)
 go_wp2_with fail
 refine bodyPost_ret (v := .agg #[.int .i64 4,.int .i64 0,.string ⟨#[]⟩,.slice la l.length lc,.slice none 0 0]) (by simp[results,Tryz.results225,go_sem,b0,b1,b2,b3,b4]) rfl ?_;have hH:=hG.size;simp only[zm]at hH;refine⟨_,rfl,?_,hL.setV (by have:=h.lt;omega) _ _ _ _ _,(zyh (((Fr.refl.alloc _).alloc _).alloc _) hG (by omega)).setV (by omega) _ _ _ _ _⟩;refine RJ.kp (S:=fun k=>w.heap.size+2<k∨Value.ownBlock (.slice la l.length lc)=some k) (fun b o hb ho _=>?_) _ _ (RJ.ofList 4 0 [] hC hF (fun b hb => .inl hb.1) (fun b hb => .inr hb))
 have hb2:w.heap.size+2<b:=by
  rcases hb with hb | hb
  ·exact hb
  exact(zcj hC b hb).1
 exact⟨by omega,(za1 _ _ _ _ _ _ _).block b o ho (by omega)⟩
theorem zro (f:Nat)(hv:zmg f)(d:Int)(hd0:0≤d)(hdf:d+1+f=10)(r q mq bv:Nat)(hbn:2≤bv) :
 OneOk 260 #[.pointer (some ⟨q,0,none⟩),.pointer (some ⟨mq,0,none⟩),.pointer (some ⟨bv,0,none⟩)] (za2 (jy f (d+1))) (zmw r q mq bv) List.length r bv 67108864 d where
 enters:=fun args w=>by simp[go_sem]
 keeps:=fun a w w' ⟨mb,lv,xs,h⟩ hF=>⟨mb,lv,xs,h.fr hF (fun _ _ ht=>ze1 ht)⟩
 boxes:=fun a w o ⟨mb,lv,xs,h⟩=>⟨mb,lv,xs,h.fr (Fr.refl.alloc (M:=NoB) o) (fun _ _ _ hm=>hm.elim)⟩
 shrinks:=fun st a _=>⟨znc (zht f (d+1)) st a,zrh st a⟩
 does:=fun s a w h hd1 hI hg hB hsz=>zrp f hv (d+1) (by omega) hd1 hdf r q mq bv bv 67108864 (ja _) (by omega) s a w h hI hg hB hbn hsz
theorem zty (f:Nat) (hv:zmg f) (d:Int) (hd0:0≤d) (hd1:d≤8) (hdf:d+1+f=10) (r:Nat) (s:Bs) (w:World) (h:Rd r s false d w) (hg:Gl w) (hlen:s.length≤67108864) :
 Calls zl 226 #[.pointer (some ⟨r,0,none⟩)] w fun e w'=>∃ v,e = .returned v ∧
  RJ (fun k=>w.heap.size≤k) w' (.mk 5 0 [] [] (zaj (za2 (jy f (d+1))) 123 125 (d+1) ⟨s,false⟩ []).2) v ∧
  Rd r (zaj (za2 (jy f (d+1))) 123 125 (d+1) ⟨s,false⟩ []).1.s (zaj (za2 (jy f (d+1))) 123 125 (d+1) ⟨s,false⟩ []).1.bad d w'∧Fr (MR r) w w':=by
 have hgs:=hg.size;have ok:=zro f hv d hd0 hdf r w.heap.size (w.heap.size+1+1+1+1) (w.heap.size+2) (by omega);have hD:=fun W hR hI hg hB=>zve ok 123 125 s false [] W hR hI hg hB (by omega) hd0 (by omega) (by simpa using hlen)
 generalize zaj (za2 (jy f (d+1))) 123 125 (d+1) ⟨s,false⟩ []=G at *;obtain⟨st,l⟩:=G;simp only at hD ⊢;have Heach:=zi hD;clear hD ok;have hmm:=@run_makeMap zl;go_enter Tryz.func226,Tryz.ntmps226
 go_wp2_with fail
 obtain⟨a1,a2,a3⟩:=zvh w (.cells #[.pointer (some ⟨r,0,none⟩)] 177) (.cells #[.int .i64 0,.int .i64 0,.string ⟨#[]⟩,.slice none 0 0,.slice none 0 0] 65) (.cells #[.int .i64 5,.int .i64 0,.string ⟨#[]⟩,.slice none 0 0,.slice none 0 0] 65);generalize hG:((w.alloc (.cells #[.pointer (some ⟨r,0,none⟩)] 177)).alloc (.cells #[.int .i64 0,.int .i64 0,.string ⟨#[]⟩,.slice none 0 0,.slice none 0 0] 65)).alloc (.cells #[.int .i64 5,.int .i64 0,.string ⟨#[]⟩,.slice none 0 0,.slice none 0 0] 65)=W3 at *;have hP:W3.heap.size=w.heap.size+1+1+1:=by rw[← hG];simp
 have hW:Rd r s false d W3:=by rw[← hG];exact(((h.alloc _).alloc _).alloc _)
 have hT:Gl W3:=by rw[← hG];exact(((hg.alloc _).alloc _).alloc _)
 have hY:Fr (MR r) w W3:=by rw[← hG];exact(((Fr.refl.alloc _).alloc _).alloc _)
 clear hG;have hM:=Seen.made W3;have hQ:=zo (W3.alloc (.map #[] 0)) (.cells #[.map (some (w.heap.size+1+1+1))] 225);have hO:(W3.alloc (.map #[] 0)).heap.size=w.heap.size+1+1+1+1:=(zm _ _).trans (by rw[hP]);rw[hO]at hQ;rw[hP]at hM;have hF:Fr NoB W3 ((W3.alloc (.map #[] 0)).alloc (.cells #[.map (some (w.heap.size+1+1+1))] 225)):=(Fr.refl.alloc _).alloc _;have hK:Fr NoB (W3.alloc (.map #[] 0)) ((W3.alloc (.map #[] 0)).alloc (.cells #[.map (some (w.heap.size+1+1+1))] 225)):=Fr.refl.alloc _;have hH:∀ k o,¬ NoB k o:=fun _ _ h=>h
 have hN:((W3.alloc (.map #[] 0)).alloc (.cells #[.map (some (w.heap.size+1+1+1))] 225)).heap.size=w.heap.size+1+1+1+1+1:=(zm _ _).trans (by rw[hO]);refine(Heach.out _ ((hW.alloc _).alloc _) ⟨w.heap.size+1+1+1,_,[],hF.block _ _ a1 (hH _ _),by omega,by omega,hQ,hM.fr hK (fun _ _=>hH _ _),hF.block _ _ a3 (hH _ _),⟨rfl,.inl ⟨rfl,rfl⟩⟩,by unfold RP;rfl⟩ ((hT.alloc _).alloc _) (by rw[hN];omega)).mono ?_;rintro e w1 ⟨rfl,hX,⟨mb1,lv,xs,hq1,_,_,_,_,hE,hC,hJ⟩,hL⟩;obtain⟨la,lc,rfl⟩:=zaw hC;have hV:VB (w.heap.size+1) _:=⟨_,_,_,_,_,hF.block _ _ a2 (hH _ _)⟩;have hU:=hV.ml hL (by omega);have hS:=hL.size;rw[hN]at hS;obtain⟨q0,q1,q2,q3,q4,b0,b1,b2,b3,b4,fz,hlt⟩:=hU.cells;obtain⟨n0,n1,n2,n3,n4,nz,nlt⟩:=(⟨by simp[World.cell?,hE],by simp[World.cell?,hE],by simp[World.cell?,hE],by simp[World.cell?,hE],by simp[World.cell?,hE],by simp[World.frozen?,hE],ju hE⟩:w1.cell? ⟨w.heap.size+1+1,0,none⟩=some (.int .i64 5)∧w1.cell? ⟨w.heap.size+1+1,1,none⟩=some (.int .i64 0)∧w1.cell? ⟨w.heap.size+1+1,2,none⟩=some (.string ⟨#[]⟩)∧w1.cell? ⟨w.heap.size+1+1,3,none⟩=some (.slice none 0 0)∧w1.cell? ⟨w.heap.size+1+1,4,none⟩=some (.slice la l.length lc)∧(∀ o,w1.frozen? ⟨w.heap.size+1+1,o,none⟩=false)∧w.heap.size+2<w1.heap.size)
 go_wp2_with fail
 refine bodyPost_ret (v := .agg #[.int .i64 5,.int .i64 0,.string ⟨#[]⟩,.slice none 0 0,.slice la l.length lc]) (by simp[results,Tryz.results226,go_sem,b0,b1,b2,b3,b4]) rfl ?_;refine⟨_,rfl,?_,hX.setV (by have:=h.lt;omega) _ _ _ _ _,(zyh ((hY.alloc _).alloc _) hL (by omega)).setV (by omega) _ _ _ _ _⟩;refine RJ.kp (S:=fun k=>w.heap.size+2<k∨Value.ownBlock (.slice la l.length lc)=some k) (fun b o hb ho _=>?_) _ _ (RJ.ofPairs 5 0 [] hC hJ (fun b hb => .inl hb.1) (fun b hb => .inr hb))
 have hb2:w.heap.size+2<b:=by
  rcases hb with hb | hb
  ·exact hb
  exact(zcj hC b hb).1
 exact⟨by omega,(za1 _ _ _ _ _ _ _).block b o ho (by omega)⟩
end
section
open Go.RowKit
attribute [local instance] zb3

theorem zwb (q r:Nat)(s:Bs)(bad:Bool)(d:Int)(w:World)(hq:Bx q r w)(h:Rd r s bad d w) :
 Calls zl 219 #[.pointer (some ⟨q,0,none⟩)] w fun e w'=>∃ v,e = .returned v∧RJ (fun k=>w.heap.size≤k) w' J.zero v∧Rd r (zaa zlg ⟨s,bad⟩).s (zaa zlg ⟨s,bad⟩).bad d w'∧Fr (MR r) w w':=by
 have cq:=hq.cell;have hql:=ju hq;have hlt:=h.lt;have hB:=fun W hR=>zlv r s zlg bad d W hR
 generalize zaa zlg ⟨s,bad⟩=G at *;obtain⟨s1,b1⟩:=G;have Hmust:=zi hB;clear hB;go_enter Tryz.func219,Tryz.ntmps219
 go_wp2_with fail
 refine(Hmust.out _ (h.alloc _)).mono ?_;rintro e w1 ⟨rfl,hE,hC⟩;have hD:=(VB.new w _ _ _ _ _).rd hC;obtain⟨q0,q1,q2,q3,q4,a0,a1,a2,a3,a4,fz,hlt1⟩:=hD.cells
 go_wp2_with fail
 refine bodyPost_ret (v := .agg #[.int .i64 0,.int .i64 0,.string ⟨#[]⟩,.slice none 0 0,.slice none 0 0]) (by simp[results,Tryz.results219,go_sem,a0,a1,a2,a3,a4]) rfl ?_;exact⟨_,rfl,RJ.zero _ _,hE.setV (by omega) _ _ _ _ _,((Fr.refl.alloc _).trans' hC).setV (ja _) _ _ _ _ _⟩
theorem zwa (q r:Nat)(s:Bs)(bad:Bool)(d:Int)(w:World)(hq:Bx q r w)(h:Rd r s bad d w) :
 Calls zl 221 #[.pointer (some ⟨q,0,none⟩)] w fun e w'=>∃ v,e = .returned v∧RJ (fun k=>w.heap.size≤k) w' (.mk 1 1 [] [] []) v∧Rd r (zaa zlf ⟨s,bad⟩).s (zaa zlf ⟨s,bad⟩).bad d w'∧Fr (MR r) w w':=by
 have cq:=hq.cell;have hql:=ju hq;have hlt:=h.lt;have hB:=fun W hR=>zlv r s zlf bad d W hR
 generalize zaa zlf ⟨s,bad⟩=G at *;obtain⟨s1,b1⟩:=G;have Hmust:=zi hB;clear hB;go_enter Tryz.func221,Tryz.ntmps221
 go_wp2_with fail
 refine(Hmust.out _ (h.alloc _)).mono ?_;rintro e w1 ⟨rfl,hE,hC⟩;have hD:=(VB.new w _ _ _ _ _).rd hC;obtain⟨q0,q1,q2,q3,q4,a0,a1,a2,a3,a4,fz,hlt1⟩:=hD.cells
 go_wp2_with fail
 refine bodyPost_ret (v := .agg #[.int .i64 1,.int .i64 1,.string ⟨#[]⟩,.slice none 0 0,.slice none 0 0]) (by simp[results,Tryz.results221,go_sem,a0,a1,a2,a3,a4]) rfl ?_;exact⟨_,rfl,RJ.flat _ _ _ _ [],hE.setV (by omega) _ _ _ _ _,((Fr.refl.alloc _).trans' hC).setV (ja _) _ _ _ _ _⟩
theorem zv9 (q r:Nat)(s:Bs)(bad:Bool)(d:Int)(w:World)(hq:Bx q r w)(h:Rd r s bad d w) :
 Calls zl 222 #[.pointer (some ⟨q,0,none⟩)] w fun e w'=>∃ v,e = .returned v∧RJ (fun k=>w.heap.size≤k) w' (.mk 1 0 [] [] []) v∧Rd r (zaa zg5 ⟨s,bad⟩).s (zaa zg5 ⟨s,bad⟩).bad d w'∧Fr (MR r) w w':=by
 have cq:=hq.cell;have hql:=ju hq;have hlt:=h.lt;have hB:=fun W hR=>zlv r s zg5 bad d W hR
 generalize zaa zg5 ⟨s,bad⟩=G at *;obtain⟨s1,b1⟩:=G;have Hmust:=zi hB;clear hB;go_enter Tryz.func222,Tryz.ntmps222
 go_wp2_with fail
 refine(Hmust.out _ (h.alloc _)).mono ?_;rintro e w1 ⟨rfl,hE,hC⟩;have hD:=(VB.new w _ _ _ _ _).rd hC;obtain⟨q0,q1,q2,q3,q4,a0,a1,a2,a3,a4,fz,hlt1⟩:=hD.cells
 go_wp2_with fail
 refine bodyPost_ret (v := .agg #[.int .i64 1,.int .i64 0,.string ⟨#[]⟩,.slice none 0 0,.slice none 0 0]) (by simp[results,Tryz.results222,go_sem,a0,a1,a2,a3,a4]) rfl ?_;exact⟨_,rfl,RJ.flat _ _ _ _ [],hE.setV (by omega) _ _ _ _ _,((Fr.refl.alloc _).trans' hC).setV (ja _) _ _ _ _ _⟩
theorem zv8 (q r:Nat)(s:Bs)(bad:Bool)(d:Int)(w:World)(hq:Bx q r w)(h:Rd r s bad d w)(hg:Gl w)(hlen:s.length≤1073741824) :
 Calls zl 223 #[.pointer (some ⟨q,0,none⟩)] w fun e w'=>∃ v,e = .returned v∧RJ (fun k=>w.heap.size≤k) w' (.mk 3 0 (zbc ⟨s,bad⟩).1 [] []) v∧Rd r (zbc ⟨s,bad⟩).2.s (zbc ⟨s,bad⟩).2.bad d w'∧Fr (MR r) w w':=by
 have cq:=hq.cell;have hql:=ju hq;have hlt:=h.lt;have hB:=fun W hR hD=>zuy r s bad d W hR hD hlen
 generalize zbc ⟨s,bad⟩=G at *;obtain⟨nm,s1,b1⟩:=G;have Htext:=zi hB;clear hB;go_enter Tryz.func223,Tryz.ntmps223
 go_wp2_with fail
 refine(Htext.out _ (h.alloc _) (hg.alloc _)).mono ?_;rintro e w1 ⟨rfl,hF,hC⟩;have hE:=(VB.new w _ _ _ _ _).rd hC;obtain⟨q0,q1,q2,q3,q4,a0,a1,a2,a3,a4,fz,hlt1⟩:=hE.cells
 go_wp2_with fail
 refine bodyPost_ret (v := .agg #[.int .i64 3,.int .i64 0,.string ⟨nm.toArray⟩,.slice none 0 0,.slice none 0 0]) (by simp[results,Tryz.results223,go_sem,a0,a1,a2,a3,a4]) rfl ?_;exact⟨_,rfl,RJ.flat _ _ _ _ nm,hF.setV (by omega) _ _ _ _ _,((Fr.refl.alloc _).trans' hC).setV (ja _) _ _ _ _ _⟩
def zxl (r q:Nat) (c:UInt8):Value :=
 if c=110 then .func (.func 219) #[] #[.pointer (some ⟨q,0,none⟩)]
 else if c=116 then .func (.func 221) #[] #[.pointer (some ⟨q,0,none⟩)]
 else if c=102 then .func (.func 222) #[] #[.pointer (some ⟨q,0,none⟩)]
 else if c=34 then .func (.func 223) #[] #[.pointer (some ⟨q,0,none⟩)]
 else if c=91 then .func (.func 225) #[.pointer (some ⟨r,0,none⟩)] #[]
 else if c=123 then .func (.func 226) #[.pointer (some ⟨r,0,none⟩)] #[]
 else .func (.func 227) #[.pointer (some ⟨r,0,none⟩)] #[]
theorem zgw (c:UInt8) (n:Nat) (hn:n<256):((c.toNat:Int)==(n:Int))=decide (c=UInt8.ofNat n):=by
 rw[Bool.eq_iff_iff,beq_iff_eq,decide_eq_true_eq];constructor
 ·intro e;have:c.toNat=n:=by omega
  apply UInt8.toNat_inj.1;rw[this];simp;omega
 rintro rfl;simp;omega
theorem zxk (r:Nat) (c:UInt8) (w:World) :
 Calls zl 180 #[.pointer (some ⟨r,0,none⟩),.int .u8 c.toNat] w fun e w'=>e = .returned (zxl r w.heap.size c)∧w'=w.alloc (.cells #[.pointer (some ⟨r,0,none⟩)] 177):=by
 have e1:((c.toNat:Int)==110)=decide (c=110):=zgw c 110 (by decide);have e2:((c.toNat:Int)==116)=decide (c=116):=zgw c 116 (by decide);have e3:((c.toNat:Int)==102)=decide (c=102):=zgw c 102 (by decide);have e4:((c.toNat:Int)==34)=decide (c=34):=zgw c 34 (by decide);have e5:((c.toNat:Int)==91)=decide (c=91):=zgw c 91 (by decide);have e6:((c.toNat:Int)==123)=decide (c=123):=zgw c 123 (by decide);generalize hG:zxl r w.heap.size c=G;unfold zxl at hG;by_cases h1:c=110
 ·rw[decide_eq_true h1]at e1;rw[if_pos h1]at hG;clear e2 e3 e4 e5 e6;go_enter Tryz.func180,Tryz.ntmps180
  go_wp2_with fail
  go_ret;exact⟨rfl,rfl⟩
 rw[decide_eq_false h1]at e1;rw[if_neg h1]at hG;by_cases h2:c=116
 ·rw[decide_eq_true h2]at e2;rw[if_pos h2]at hG;clear e3 e4 e5 e6;go_enter Tryz.func180,Tryz.ntmps180
  go_wp2_with fail
  go_ret;exact⟨rfl,rfl⟩
 rw[decide_eq_false h2]at e2;rw[if_neg h2]at hG;by_cases h3:c=102
 ·rw[decide_eq_true h3]at e3;rw[if_pos h3]at hG;clear e4 e5 e6;go_enter Tryz.func180,Tryz.ntmps180
  go_wp2_with fail
  go_ret;exact⟨rfl,rfl⟩
 rw[decide_eq_false h3]at e3;rw[if_neg h3]at hG;by_cases h4:c=34
 ·rw[decide_eq_true h4]at e4;rw[if_pos h4]at hG;clear e5 e6;go_enter Tryz.func180,Tryz.ntmps180
  go_wp2_with fail
  go_ret;exact⟨rfl,rfl⟩
 rw[decide_eq_false h4]at e4;rw[if_neg h4]at hG;by_cases h5:c=91
 ·rw[decide_eq_true h5]at e5;rw[if_pos h5]at hG;clear e6;go_enter Tryz.func180,Tryz.ntmps180
  go_wp2_with fail
  go_ret;exact⟨rfl,rfl⟩
 rw[decide_eq_false h5]at e5;rw[if_neg h5]at hG;by_cases h6:c=123
 ·rw[decide_eq_true h6]at e6;rw[if_pos h6]at hG;go_enter Tryz.func180,Tryz.ntmps180
  go_wp2_with fail
  go_ret;exact⟨rfl,rfl⟩
 rw[decide_eq_false h6]at e6;rw[if_neg h6]at hG;go_enter Tryz.func180,Tryz.ntmps180
 go_wp2_with fail
 go_ret;exact⟨rfl,rfl⟩
end
section
open Go.RowKit
attribute [local instance] zb3

theorem zy3 (f:Nat) (hv:zmg f) (d:Int) (hd0:0≤d) (hd1:d≤8) (hdf:d+1+f=10) (r q:Nat) (c:UInt8) (l:Bs) (w:World) (hq:Bx q r w) (h:Rd r (c :: l) false d w) (hg:Gl w) (hlen:(c :: l).length≤67108864) :
 ∃ g a b,zxl r q c = .func (.func g) a b∧(callFunc g (a++b)).run zl w = .ok (.enter g (a++b)) w∧Calls zl g (a++b) w fun e w'=>∃ v,e = .returned v ∧
  RJ (fun k=>w.heap.size≤k) w' (zcw (jy f (d+1)) d c ⟨c :: l,false⟩).1 v ∧
  Rd r (zcw (jy f (d+1)) d c ⟨c :: l,false⟩).2.s (zcw (jy f (d+1)) d c ⟨c :: l,false⟩).2.bad d w'∧Fr (MR r) w w':=by
 unfold zxl zcw;by_cases h1:c=110
 ·simp only[if_pos h1];exact⟨_,_,_,rfl,by simp[go_sem],zwb q r _ _ d w hq h⟩
 simp only[if_neg h1];by_cases h2:c=116
 ·simp only[if_pos h2];exact⟨_,_,_,rfl,by simp[go_sem],zwa q r _ _ d w hq h⟩
 simp only[if_neg h2];by_cases h3:c=102
 ·simp only[if_pos h3];exact⟨_,_,_,rfl,by simp[go_sem],zv9 q r _ _ d w hq h⟩
 simp only[if_neg h3];by_cases h4:c=34
 ·simp only[if_pos h4];exact⟨_,_,_,rfl,by simp[go_sem],zv8 q r _ _ d w hq h hg (by omega)⟩
 simp only[if_neg h4];by_cases h5:c=91
 ·simp only[if_pos h5];exact⟨_,_,_,rfl,by simp[go_sem],zxt f hv d hd0 hd1 hdf r _ w h hg hlen⟩
 simp only[if_neg h5];by_cases h6:c=123
 ·simp only[if_pos h6];exact⟨_,_,_,rfl,by simp[go_sem],zty f hv d hd0 hd1 hdf r _ w h hg hlen⟩
 simp only[if_neg h6];exact⟨_,_,_,rfl,by simp[go_sem],zt0 r c l false d w h (by omega)⟩
theorem zvo:∀ f,zmg f:=by
 intro f
 induction f with
 | zero=>intro d r s hM w _ _ _ h0 h1 h2;exfalso;simp at h2;omega
 | succ f ih =>
   intro d r s hM w h hg hlen hW hV hU;have hlt:=h.lt;have hI:d+1+(f:Int)=10:=by simp at hU;omega
   have hX:=zab s;simp only[jy];cases hs:jq s with
   | nil =>
     simp only;go_enter Tryz.func129,Tryz.ntmps129
     go_wp2_with fail
     refine(zee r s hM d _ (h.alloc _)).mono ?_;rintro e w1 ⟨rfl,hB,hC⟩;rw[hs]at hB;have hF:=(VB.new w _ _ _ _ _).rd hC;obtain⟨c0,c1,c2,f1,hN⟩:=hB.cells
     go_wp2_with fail
     refine(zby r _ _ d _ hB).mono ?_;rintro e w2 ⟨rfl,hK,hG⟩;have hJ:=hF.rd hG;obtain⟨q0,q1,q2,q3,q4,a0,a1,a2,a3,a4,fz,hE⟩:=hJ.cells
     go_wp2_with fail
     refine bodyPost_ret (v := .agg #[.int .i64 0,.int .i64 0,.string ⟨#[]⟩,.slice none 0 0,.slice none 0 0]) (by simp[results,Tryz.results129,go_sem,a0,a1,a2,a3,a4]) rfl ?_;exact⟨_,rfl,RJ.zero _ _,hK.setV (by omega) _ _ _ _ _,(((Fr.refl.alloc _).trans' hC).trans' hG).setV (ja _) _ _ _ _ _⟩
   | cons c l =>
     rw[hs]at hX;cases hM with
     | true =>
       simp only[if_true];go_enter Tryz.func129,Tryz.ntmps129
       go_wp2_with fail
       refine(zee r s true d _ (h.alloc _)).mono ?_;rintro e w1 ⟨rfl,hB,hC⟩;rw[hs]at hB;have hF:=(VB.new w _ _ _ _ _).rd hC;obtain⟨c0,c1,c2,f1,hN⟩:=hB.cells
       go_wp2_with fail
       refine(zby r _ _ d _ hB).mono ?_;rintro e w2 ⟨rfl,hK,hG⟩;have hJ:=hF.rd hG;obtain⟨q0,q1,q2,q3,q4,a0,a1,a2,a3,a4,fz,hE⟩:=hJ.cells
       go_wp2_with fail
       refine bodyPost_ret (v := .agg #[.int .i64 0,.int .i64 0,.string ⟨#[]⟩,.slice none 0 0,.slice none 0 0]) (by simp[results,Tryz.results129,go_sem,a0,a1,a2,a3,a4]) rfl ?_;exact⟨_,rfl,RJ.zero _ _,hK.setV (by omega) _ _ _ _ _,(((Fr.refl.alloc _).trans' hC).trans' hG).setV (ja _) _ _ _ _ _⟩
     | false =>
       simp only[Bool.false_eq_true,if_false];have hH:=fun q W hq hR hS=>zy3 f ih d hW hV hI r q c l W hq hR hS (by omega)
       generalize zcw (jy f (d+1)) d c ⟨c :: l,false⟩=G at *;obtain⟨j,st⟩:=G;have Hfn:=zi hH;clear hH;go_enter Tryz.func129,Tryz.ntmps129
       go_wp2_with fail
       refine(zee r s false d _ (h.alloc _)).mono ?_;rintro e w1 ⟨rfl,hB,hC⟩;rw[hs]at hB;have hF:=(VB.new w _ _ _ _ _).rd hC;have hT:=(hg.alloc _).rd (h.alloc _) hC;obtain⟨c0,c1,c2,f1,hN⟩:=hB.cells
       go_wp2_with fail
       refine(zxk r c w1).mono ?_;rintro e w2 ⟨rfl,rfl⟩;obtain⟨g,a,b,hH,hent,hD⟩:=Hfn.out w1.heap.size _ (zo w1 _) (hB.alloc _) (hT.alloc _);have Hcall:=zi hD;clear hD;rw[hH]
       go_wp2_with fail
       refine Hcall.out.mono ?_;rintro e w3 ⟨v,rfl,hj,hZ,hL⟩;have hY:=(hF.fr (Fr.refl.alloc (M:=NoB) _) (fun _ _ h=>h)).rd hL;obtain⟨q0,q1,q2,q3,q4,a0,a1,a2,a3,a4,fz,hE⟩:=hY.cells;obtain⟨jk,jn,jt,jl,jp⟩:=j;have hO:=hj;unfold RJ at hO;obtain⟨x1,n1,x2,n2,rfl,_,_⟩:=hO;have Hj:=zi hj;clear hj;have hQ:=hC.size;have hP:=hL.size;simp only[zm]at hQ hP
       go_wp2_with fail
       refine bodyPost_ret (v := .agg #[.int .i64 jk,.int .i64 jn,.string ⟨jt.toArray⟩,.slice x1 jl.length n1,.slice x2 jp.length n2]) (by simp[results,Tryz.results129,go_sem,a0,a1,a2,a3,a4]) rfl ?_;refine⟨_,rfl,RJ.kp (fun b o hb ho _=>⟨?_,(za1 _ _ _ _ _ _ _).block b o ho ?_⟩) _ _ Hj.out,hZ.setV (by omega) _ _ _ _ _,((((Fr.refl.alloc _).trans' hC).alloc _).trans' hL).setV (ja _) _ _ _ _ _⟩
       ·simp only[zm]at hb;omega
       simp only[zm]at hb;omega
end
end Go.Proofs.YtffggpplnjibgaaGreatDoor
