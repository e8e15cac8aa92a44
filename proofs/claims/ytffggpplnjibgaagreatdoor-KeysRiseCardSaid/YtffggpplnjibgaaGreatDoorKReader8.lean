/-
 The walks of json's reader,further: a list,an object.
-/
import Derived.Test.YtffggpplnjibgaaGreatDoorKReader7
import Derived.Test.YtffggpplnjibgaaGreatDoorKSpecSound
open Go.World renaming size_alloc→zm
open Go renaming heap_alloc_new→zo
namespace Go.Proofs.YtffggpplnjibgaaGreatDoor
set_option linter.unusedVariables false
set_option linter.unusedSimpArgs false
set_option linter.unusedSectionVars false
set_option maxRecDepth 100000
set_option maxHeartbeats 1000000
open Go.RowKit
attribute [local instance] zaj

theorem RJ.ofList {S S':Nat→Prop}{w:World}{B:Nat}{lv:Value}{l:List J}{xs:List Value}(k n:Int)(t:Bs)(ho:w.ownsRow B 65 5 lv l.length xs)(hr:RC S w l xs)
 (hS:∀ b,S b→S' b) (hS2:∀ b,lv.ownBlock=some b→S' b):RJ S' w (.mk k n t l []) (.agg #[.int .i64 k,.int .i64 n,.string ⟨t.toArray⟩,lv,.slice none 0 0]):=by
 unfold RJ;obtain⟨h1,⟨rfl,h2⟩ | ⟨g,cap,hA,rfl,h2,h3,h4,h5,h6,h7⟩⟩:=ho
 ·refine⟨none,0,none,0,by simp[h2],.inl (List.length_eq_zero_iff.1 h2),.inl rfl⟩
 refine⟨_,_,none,0,rfl,.inr ⟨g,0,hA,_,rfl,hS2 g rfl,Blk.of h3,?_⟩,.inl rfl⟩;rw[List.drop_zero,Nat.mul_comm,h7];exact RC.kp (fun b o hb ho _=>⟨hS b hb,ho⟩) _ _ hr
theorem RJ.ofPairs {S S':Nat→Prop}{w:World}{B:Nat}{lv:Value}{l:List (Bs × J)}{xs:List Value}(k n:Int)(t:Bs)(ho:w.ownsRow B 116 6 lv l.length xs)(hr:RP S w l xs)
 (hS:∀ b,S b→S' b) (hS2:∀ b,lv.ownBlock=some b→S' b):RJ S' w (.mk k n t [] l) (.agg #[.int .i64 k,.int .i64 n,.string ⟨t.toArray⟩,.slice none 0 0,lv]):=by
 unfold RJ;obtain⟨h1,⟨rfl,h2⟩ | ⟨g,cap,hA,rfl,h2,h3,h4,h5,h6,h7⟩⟩:=ho
 ·refine⟨none,0,none,0,by simp[h2],.inl rfl,.inl (List.length_eq_zero_iff.1 h2)⟩
 refine⟨none,0,_,_,rfl,.inl rfl,.inr ⟨g,0,hA,_,rfl,hS2 g rfl,Blk.of h3,?_⟩⟩;rw[List.drop_zero,Nat.mul_comm,h7];exact RP.kp (fun b o hb ho _=>⟨hS b hb,ho⟩) _ _ hr
theorem zpg (w:World)(a b c:Obj):(((w.alloc a).alloc b).alloc c).heap[w.heap.size]? = some a∧(((w.alloc a).alloc b).alloc c).heap[w.heap.size+1]? = some b∧(((w.alloc a).alloc b).alloc c).heap[w.heap.size+1+1]? = some c:=by
 have s1:(w.alloc a).heap.size=w.heap.size+1:=zm _ _;have s2:((w.alloc a).alloc b).heap.size=w.heap.size+1+1:=(zm _ _).trans (by rw[s1]);have e1:=zo w a;have e2:=zo (w.alloc a) b;have e3:=zo ((w.alloc a).alloc b) c;rw[s1]at e2;rw[s2]at e3;refine⟨?_,?_,e3⟩
 ·rw[Below.heap_alloc _ _ _ (by omega),Below.heap_alloc _ _ _ (by omega)];exact e1
 rw[Below.heap_alloc _ _ _ (by omega)];exact e2
theorem VB.ml {b r B:Nat}{w w':World}(h:VB b w)(hF:Fr (ML r B) w w')(hb:b<B):VB b w':=h.fr hF (fun o ho hm=>by
 rcases hm with⟨rfl,⟨c,f,h1⟩⟩ | ⟨h1,_⟩
 ·obtain⟨_,_,h2⟩:=ho;rw[h2]at h1;simp at h1
 omega)
theorem zgt (b:Nat)(v0 v1 v2 v3 v4:Value)(w:World):Fr (fun k _=>k=b) w (setV b v0 v1 v2 v3 v4 w) :=
 ((((Fr.refl.setCell _ _ (fun _ _=>rfl)).setCell _ _ (fun _ _=>rfl)).setCell _ _ (fun _ _=>rfl)).setCell _ _ (fun _ _=>rfl)).setCell _ _ (fun _ _=>rfl)
theorem zrh {r:Nat}{w W w1:World}{B:Nat}(h:Fr (MR r) w W)(hF:Fr (ML r B) W w1)(hB:w.heap.size≤B):Fr (MR r) w w1:=h.trans hF (fun k o hm=>by
 rcases hm with hm | ⟨hm,_⟩
 ·exact .inl hm
 exact .inr (Nat.le_trans hB hm))
theorem zp5 (f:Nat)(hv:zh7 f)(d:Int)(hd0:0≤d)(hdf:d+1+f=10)(r q bv:Nat)(hbn:2≤bv) :
 OneOk 259 #[.pointer (some ⟨q,0,none⟩),.pointer (some ⟨bv,0,none⟩)] (zcj (j6 f (d+1))) (ListInv r q bv) List.length r bv 67108864 d where
 enters:=fun args w=>by simp[go_sem]
 keeps:=fun a w w' h hF=>h.fr hF (fun _ _ _ ht=>zna ht)
 boxes:=fun a w o h=>h.fr (Fr.refl.alloc (M:=NoB) o) (fun _ _ _ _ hm=>hm.elim)
 shrinks:=fun st a _=>⟨zml (zjm f (d+1)) st a,by simp[zcj]⟩
 does:=fun s a w h hd1 hI hg hB hsz=>zp6 f hv (d+1) (by omega) hd1 hdf r q bv bv 67108864 (Nat.le_refl _) (by omega) s a w h hI hg hB hsz
theorem zqz (f:Nat) (hv:zh7 f) (d:Int) (hd0:0≤d) (hd1:d≤8) (hdf:d+1+f=10) (r:Nat) (s:Bs) (w:World) (h:Rd r s false d w) (hg:Gl w) (hlen:s.length≤67108864) :
 Calls Tryz.prog 225 #[.pointer (some ⟨r,0,none⟩)] w fun e w'=>∃ v,e = .returned v ∧
  RJ (fun k=>w.heap.size≤k) w' (.mk 4 0 [] (za5 (zcj (j6 f (d+1))) 91 93 (d+1) ⟨s,false⟩ []).2 []) v ∧
  Rd r (za5 (zcj (j6 f (d+1))) 91 93 (d+1) ⟨s,false⟩ []).1.s (za5 (zcj (j6 f (d+1))) 91 93 (d+1) ⟨s,false⟩ []).1.bad d w'∧Fr (MR r) w w':=by
 have hgs:=hg.size;have ok:=zp5 f hv d hd0 hdf r w.heap.size (w.heap.size+2) (by omega);have hC:=fun W hR hI hg hB=>zpe ok 91 93 s false [] W hR hI hg hB (by omega) hd0 (by omega) (by simpa using hlen)
 generalize za5 (zcj (j6 f (d+1))) 91 93 (d+1) ⟨s,false⟩ []=G at *;obtain⟨st,l⟩:=G;simp only at hC ⊢;have Heach:=Lib.hid hC;clear hC ok;go_enter Tryz.func225,Tryz.ntmps225
 go_wp2_with fail
 obtain⟨a1,a2,a3⟩:=zpg w (.cells #[.pointer (some ⟨r,0,none⟩)] 177) (.cells #[.int .i64 0,.int .i64 0,.string ⟨#[]⟩,.slice none 0 0,.slice none 0 0] 65) (.cells #[.int .i64 4,.int .i64 0,.string ⟨#[]⟩,.slice none 0 0,.slice none 0 0] 65);refine(Heach.out _ (((h.alloc _).alloc _).alloc _) ⟨a1,by omega,_,[],a3,⟨rfl,.inl ⟨rfl,rfl⟩⟩,by unfold RC;rfl⟩ (((hg.alloc _).alloc _).alloc _) (by simp)).mono ?_;rintro e w1 ⟨rfl,hK,⟨hq1,_,lv,xs,hD,hA,hE⟩,hF⟩;obtain⟨la,lc,rfl⟩:=zal hA;have hJ:VB (w.heap.size+1) _:=⟨_,_,_,_,_,a2⟩;have hH:=hJ.ml hF (by omega);obtain⟨q0,q1,q2,q3,q4,b0,b1,b2,b3,b4,fz,hlt⟩:=hH.cells;obtain⟨n0,n1,n2,n3,n4,nz,nlt⟩:=(⟨by simp[World.cell?,hD],by simp[World.cell?,hD],by simp[World.cell?,hD],by simp[World.cell?,hD],by simp[World.cell?,hD],by simp[World.frozen?,hD],jq hD⟩:w1.cell? ⟨w.heap.size+1+1,0,none⟩=some (.int .i64 4)∧w1.cell? ⟨w.heap.size+1+1,1,none⟩=some (.int .i64 0)∧w1.cell? ⟨w.heap.size+1+1,2,none⟩=some (.string ⟨#[]⟩)∧w1.cell? ⟨w.heap.size+1+1,3,none⟩=some (.slice la l.length lc)∧w1.cell? ⟨w.heap.size+1+1,4,none⟩=some (.slice none 0 0)∧(∀ o,w1.frozen? ⟨w.heap.size+1+1,o,none⟩=false)∧w.heap.size+2<w1.heap.size)
 go_wp2_with fail
 refine bodyPost_ret (v := .agg #[.int .i64 4,.int .i64 0,.string ⟨#[]⟩,.slice la l.length lc,.slice none 0 0]) (by simp[results,Tryz.results225,go_sem,b0,b1,b2,b3,b4]) rfl ?_;have hG:=hF.size;simp only[zm]at hG;refine⟨_,rfl,?_,hK.setV (by have:=h.lt;omega) _ _ _ _ _,(zrh (((Fr.refl.alloc _).alloc _).alloc _) hF (by omega)).setV (by omega) _ _ _ _ _⟩;refine RJ.kp (S:=fun k=>w.heap.size+2<k∨Value.ownBlock (.slice la l.length lc)=some k) (fun b o hb ho _=>?_) _ _ (RJ.ofList 4 0 [] hA hE (fun b hb => .inl hb.1) (fun b hb => .inr hb))
 have hb2:w.heap.size+2<b:=by
  rcases hb with hb | hb
  ·exact hb
  exact(zcn hA b hb).1
 exact⟨by omega,(zgt _ _ _ _ _ _ _).block b o ho (by omega)⟩
theorem zl4 (f:Nat)(hv:zh7 f)(d:Int)(hd0:0≤d)(hdf:d+1+f=10)(r q mq bv:Nat)(hbn:2≤bv) :
 OneOk 260 #[.pointer (some ⟨q,0,none⟩),.pointer (some ⟨mq,0,none⟩),.pointer (some ⟨bv,0,none⟩)] (zbp (j6 f (d+1))) (zio r q mq bv) List.length r bv 67108864 d where
 enters:=fun args w=>by simp[go_sem]
 keeps:=fun a w w' ⟨mb,lv,xs,h⟩ hF=>⟨mb,lv,xs,h.fr hF (fun _ _ ht=>zcu ht)⟩
 boxes:=fun a w o ⟨mb,lv,xs,h⟩=>⟨mb,lv,xs,h.fr (Fr.refl.alloc (M:=NoB) o) (fun _ _ _ hm=>hm.elim)⟩
 shrinks:=fun st a _=>⟨zly (zjm f (d+1)) st a,zlx st a⟩
 does:=fun s a w h hd1 hI hg hB hsz=>zl5 f hv (d+1) (by omega) hd1 hdf r q mq bv bv 67108864 (Nat.le_refl _) (by omega) s a w h hI hg hB hbn hsz
theorem zn2 (f:Nat) (hv:zh7 f) (d:Int) (hd0:0≤d) (hd1:d≤8) (hdf:d+1+f=10) (r:Nat) (s:Bs) (w:World) (h:Rd r s false d w) (hg:Gl w) (hlen:s.length≤67108864) :
 Calls Tryz.prog 226 #[.pointer (some ⟨r,0,none⟩)] w fun e w'=>∃ v,e = .returned v ∧
  RJ (fun k=>w.heap.size≤k) w' (.mk 5 0 [] [] (za5 (zbp (j6 f (d+1))) 123 125 (d+1) ⟨s,false⟩ []).2) v ∧
  Rd r (za5 (zbp (j6 f (d+1))) 123 125 (d+1) ⟨s,false⟩ []).1.s (za5 (zbp (j6 f (d+1))) 123 125 (d+1) ⟨s,false⟩ []).1.bad d w'∧Fr (MR r) w w':=by
 have hgs:=hg.size;have ok:=zl4 f hv d hd0 hdf r w.heap.size (w.heap.size+1+1+1+1) (w.heap.size+2) (by omega);have hC:=fun W hR hI hg hB=>zpe ok 123 125 s false [] W hR hI hg hB (by omega) hd0 (by omega) (by simpa using hlen)
 generalize za5 (zbp (j6 f (d+1))) 123 125 (d+1) ⟨s,false⟩ []=G at *;obtain⟨st,l⟩:=G;simp only at hC ⊢;have Heach:=Lib.hid hC;clear hC ok;have hmm:=@run_makeMap Tryz.prog;go_enter Tryz.func226,Tryz.ntmps226
 go_wp2_with fail
 obtain⟨a1,a2,a3⟩:=zpg w (.cells #[.pointer (some ⟨r,0,none⟩)] 177) (.cells #[.int .i64 0,.int .i64 0,.string ⟨#[]⟩,.slice none 0 0,.slice none 0 0] 65) (.cells #[.int .i64 5,.int .i64 0,.string ⟨#[]⟩,.slice none 0 0,.slice none 0 0] 65);generalize hF:((w.alloc (.cells #[.pointer (some ⟨r,0,none⟩)] 177)).alloc (.cells #[.int .i64 0,.int .i64 0,.string ⟨#[]⟩,.slice none 0 0,.slice none 0 0] 65)).alloc (.cells #[.int .i64 5,.int .i64 0,.string ⟨#[]⟩,.slice none 0 0,.slice none 0 0] 65)=W3 at *;have hO:W3.heap.size=w.heap.size+1+1+1:=by rw[← hF];simp
 have hV:Rd r s false d W3:=by rw[← hF];exact(((h.alloc _).alloc _).alloc _)
 have hS:Gl W3:=by rw[← hF];exact(((hg.alloc _).alloc _).alloc _)
 have hX:Fr (MR r) w W3:=by rw[← hF];exact(((Fr.refl.alloc _).alloc _).alloc _)
 clear hF;have hL:=Seen.made W3;have hP:=zo (W3.alloc (.map #[] 0)) (.cells #[.map (some (w.heap.size+1+1+1))] 225);have hN:(W3.alloc (.map #[] 0)).heap.size=w.heap.size+1+1+1+1:=(zm _ _).trans (by rw[hO]);rw[hN]at hP;rw[hO]at hL;have hE:Fr NoB W3 ((W3.alloc (.map #[] 0)).alloc (.cells #[.map (some (w.heap.size+1+1+1))] 225)):=(Fr.refl.alloc _).alloc _;have hJ:Fr NoB (W3.alloc (.map #[] 0)) ((W3.alloc (.map #[] 0)).alloc (.cells #[.map (some (w.heap.size+1+1+1))] 225)):=Fr.refl.alloc _;have hG:∀ k o,¬ NoB k o:=fun _ _ h=>h
 have hM:((W3.alloc (.map #[] 0)).alloc (.cells #[.map (some (w.heap.size+1+1+1))] 225)).heap.size=w.heap.size+1+1+1+1+1:=(zm _ _).trans (by rw[hN]);refine(Heach.out _ ((hV.alloc _).alloc _) ⟨w.heap.size+1+1+1,_,[],hE.block _ _ a1 (hG _ _),by omega,by omega,hP,hL.fr hJ (fun _ _=>hG _ _),hE.block _ _ a3 (hG _ _),⟨rfl,.inl ⟨rfl,rfl⟩⟩,by unfold RP;rfl⟩ ((hS.alloc _).alloc _) (by rw[hM];omega)).mono ?_;rintro e w1 ⟨rfl,hW,⟨mb1,lv,xs,hq1,_,_,_,_,hD,hA,hH⟩,hK⟩;obtain⟨la,lc,rfl⟩:=zal hA;have hU:VB (w.heap.size+1) _:=⟨_,_,_,_,_,hE.block _ _ a2 (hG _ _)⟩;have hT:=hU.ml hK (by omega);have hQ:=hK.size;rw[hM]at hQ;obtain⟨q0,q1,q2,q3,q4,b0,b1,b2,b3,b4,fz,hlt⟩:=hT.cells;obtain⟨n0,n1,n2,n3,n4,nz,nlt⟩:=(⟨by simp[World.cell?,hD],by simp[World.cell?,hD],by simp[World.cell?,hD],by simp[World.cell?,hD],by simp[World.cell?,hD],by simp[World.frozen?,hD],jq hD⟩:w1.cell? ⟨w.heap.size+1+1,0,none⟩=some (.int .i64 5)∧w1.cell? ⟨w.heap.size+1+1,1,none⟩=some (.int .i64 0)∧w1.cell? ⟨w.heap.size+1+1,2,none⟩=some (.string ⟨#[]⟩)∧w1.cell? ⟨w.heap.size+1+1,3,none⟩=some (.slice none 0 0)∧w1.cell? ⟨w.heap.size+1+1,4,none⟩=some (.slice la l.length lc)∧(∀ o,w1.frozen? ⟨w.heap.size+1+1,o,none⟩=false)∧w.heap.size+2<w1.heap.size)
 go_wp2_with fail
 refine bodyPost_ret (v := .agg #[.int .i64 5,.int .i64 0,.string ⟨#[]⟩,.slice none 0 0,.slice la l.length lc]) (by simp[results,Tryz.results226,go_sem,b0,b1,b2,b3,b4]) rfl ?_;refine⟨_,rfl,?_,hW.setV (by have:=h.lt;omega) _ _ _ _ _,(zrh ((hX.alloc _).alloc _) hK (by omega)).setV (by omega) _ _ _ _ _⟩;refine RJ.kp (S:=fun k=>w.heap.size+2<k∨Value.ownBlock (.slice la l.length lc)=some k) (fun b o hb ho _=>?_) _ _ (RJ.ofPairs 5 0 [] hA hH (fun b hb => .inl hb.1) (fun b hb => .inr hb))
 have hb2:w.heap.size+2<b:=by
  rcases hb with hb | hb
  ·exact hb
  exact(zcn hA b hb).1
 exact⟨by omega,(zgt _ _ _ _ _ _ _).block b o ho (by omega)⟩
end Go.Proofs.YtffggpplnjibgaaGreatDoor
