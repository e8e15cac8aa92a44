/-
 The walk of chapter 16's fixed fact.
-/
import Derived.Test.YtffggpplnjibgaaGreatDoorKKeysOfK
import Derived.OrdersHeld
import Derived.Deep.RegionHeld3
open Go.Lib renaming hid→zi
open Go.Value renaming int→jf
open Go.IntKind renaming u8→jg
namespace Go.Proofs.YtffggpplnjibgaaGreatDoor
set_option linter.unusedVariables false
set_option linter.unusedSimpArgs false
set_option linter.unusedSectionVars false
set_option maxRecDepth 100000
set_option maxHeartbeats 2000000
open Go.RowKit Go.Sort
variable [OldK]
def zrf:Bs:=[97,108,105,99,101]
def sgAlice:Sg:=⟨zrf,j0,zlb⟩
def enAlice:En:=⟨1,j0,[],[],0,[],j0,[sgAlice]⟩
theorem zc1:enAlice.ok:=⟨rfl,rfl,fun s hs=>by
 simp only[enAlice,List.mem_singleton]at hs;subst hs
 exact⟨rfl,rfl⟩⟩
theorem zp3 (w:World):Calls Tryz.prog 50 #[] w fun e w'=>(∃ g,e = .returned (.agg (enAlice.cells (.slice none 0 0) (.slice (some ⟨g,0,none⟩) 1 1)).toArray)∧GS (fun k=>w.heap.size≤k) [sgAlice] (.slice (some ⟨g,0,none⟩) 1 1) w')∧Fr NoB w w':=by
 obtain⟨d,hu,hd⟩:=qm;have Hu:=zi hu;have Hd:=zi hd;clear hu hd;have hA:(w.alloc (.cells Tryz.zeroCells28 28)).heap.size=w.heap.size+1:=by rw[World.size_alloc]
 have hH:=heap_alloc_new w (.cells Tryz.zeroCells28 28);have hD:=heap_alloc_new (w.alloc (.cells Tryz.zeroCells28 28)) (.cells sgAlice.cells 40);rw[hA]at hD
 have hG:((w.alloc (.cells Tryz.zeroCells28 28)).alloc (.cells sgAlice.cells 40)).heap[w.heap.size]? = some (.cells Tryz.zeroCells28 28):=by
  rw[Below.heap_alloc _ _ _ (by omega)];exact hH
 have hE:=zi (show((w.alloc (.cells Tryz.zeroCells28 28)).alloc (.cells sgAlice.cells 40)).there w.heap.size 0 (enAlice.cells (.slice none 0 0) (.slice (some ⟨w.heap.size+1,0,none⟩) 1 1)).toArray.size from jw hG (by rw[List.size_toArray,En.size zc1];exact Nat.le_refl _));have Hz:=zi (show(Tryz.prog.info? 28).map (·.size)=some (enAlice.cells (.slice none 0 0) (.slice (some ⟨w.heap.size+1,0,none⟩) 1 1)).length by rw[jm,En.size zc1]);have hK:=zi (show(Tryz.prog.info? 28).map (·.size)=some (enAlice.cells (.slice none 0 0) (.slice (some ⟨w.heap.size+1,0,none⟩) 1 1)).toArray.size by rw[jm,List.size_toArray,En.size zc1]);have HO:=zi (En.one (e:=enAlice) (pv := .slice none 0 0) (sv := .slice (some ⟨w.heap.size+1,0,none⟩) 1 1) rfl rfl);have HA:=zi hA;have hI:=zi hD;clear hA hH hD hG;go_enter Tryz.func50,Tryz.ntmps50
 go_wp2_with (first
  | ((with_reducible refine wpList_buildTo ?_ 40 _ rfl _ rfl sgAlice.cells ?_ ?_);rfl;kernel_rfl)
  | ((with_reducible refine Great.wpList_buildSliceTo ?_ 26 40 1 _ rfl (w.heap.size+1) HA.out _ rfl Tryz.underlying26 sgAlice.cells ?_ ?_);rfl;kernel_rfl)
  | ((with_reducible refine wpList_buildTo ?_ 28 _ rfl _ rfl (enAlice.cells (.slice none 0 0) (.slice (some ⟨w.heap.size+1,0,none⟩) 1 1)).toArray ?_ ?_);rfl;kernel_rfl)
  | ((with_reducible refine wpList_store_mid ?_ 28 _ _ rfl w.heap.size 0 (enAlice.cells (.slice none 0 0) (.slice (some ⟨w.heap.size+1,0,none⟩) 1 1)).toArray ?_ ?_ hE.out hK.out HO.out ?_);rfl;rfl;rfl))
 obtain⟨C,hC⟩:∃ C,enAlice.cells (.slice none 0 0) (.slice (some ⟨w.heap.size+1,0,none⟩) 1 1)=C:=⟨_,rfl⟩;have HC:=zi hC;rw[hC]at hE Hz ⊢;have hJ:=run_loadVar_mid (P:=Tryz.prog) _ w.heap.size 0 28 C d (World.rangeAt_setCells_same _ w.heap.size 0 C (by simpa using hE.out)) Hu.out Hd.out Hz.out;have hF:Fr NoB w ((((w.alloc (.cells Tryz.zeroCells28 28)).alloc (.cells sgAlice.cells 40)).setCells w.heap.size 0 C)):=((Fr.refl.alloc _).alloc _).trans (ji _ _ _ _) (fun k _ hm => .inr (by omega));refine bodyPost_ret (v := .agg C.toArray) ?_ rfl ⟨⟨w.heap.size+1,by rw[HC.out],?_⟩,hF⟩
 ·rw[qb rfl];simp[asAddr,Result.andThen,hJ,Act.put]
 have h0:GS (fun k=>w.heap.size+1≤k) [sgAlice] (.slice (some ⟨w.heap.size+1,0,none⟩) 1 1) ((w.alloc (.cells Tryz.zeroCells28 28)).alloc (.cells sgAlice.cells 40)):=by
  refine⟨_,_,rfl,Nat.le_refl _,.inr ⟨w.heap.size+1,0,rfl,Nat.le_refl _,jq hI.out,fun i hi=>?_⟩⟩;obtain rfl:i=0:=by simpa using hi
  exact jz hI.out
 obtain⟨a,c,e1,e2,h | ⟨b,o,e3,hb,hB⟩⟩:=h0.fr (ji w.heap.size C 0 _) (fun k _ hk hm=>by omega)
 ·exact absurd h (by simp)
 exact⟨a,c,e1,e2,.inr ⟨b,o,e3,by omega,hB⟩⟩
theorem zjh:zae zi0 enAlice=true:=by
 have h1:qw [sgAlice]=true:=by decide +kernel
 have h2:zjc (qj enAlice) (za7 1 [sgAlice])=true:=by
  unfold zjc qj enAlice za7;simp[zcw]
 unfold zae;show(zip _ enAlice&&(qw [sgAlice]&&zjc (qj enAlice) (za7 1 [sgAlice])))=_;rw[h1,h2];rfl
def zfq:Bs:=sId++zrf
def zi8:Bs:=sSha++za9 j0
theorem zkx:zac enAlice=[zfq,zi8]:=by
 have h1:enAlice.sigs.map qx++zds enAlice=[zfq,zi8]:=rfl;unfold zac;rw[h1];have hA:zfq≤zi8:=by decide +kernel
 have h2:zd4 [zfq,zi8]=[zfq,zi8]:=by
  unfold zd4;refine List.mergeSort_of_pairwise ?_;simp[hA]
 rw[h2];refine Lib.compact_all _ (fun j hj=>?_);have:j=0∨j=1:=by simp at hj;omega
 rcases this with rfl | rfl
 ·exact Lib.keeps_lt_one _ 0 (by omega)
 refine Lib.keeps_pos ?_;show zi8≠zfq;decide +kernel
theorem zm7 (w:World) (hgl:Gl w):Calls Tryz.prog 14 #[] w fun e w'=>e = .returned (.bool true)∧Fr NoB w w':=by
 have Ho:=zi (zp3 w);have Hd:=zi (fun W=>zco j0 W rfl);obtain⟨K0,hG⟩:∃ K,zfq=K:=⟨_,rfl⟩;obtain⟨K1,hC⟩:∃ K,zi8=K:=⟨_,rfl⟩;have HK:=zi (show zac enAlice=[K0,K1] by rw[← hG,← hC];exact zkx);have q0:(K0==[105,100,58,97,108,105,99,101])=true:=by rw[← hG];rfl
 have q1:K1.length=71:=by rw[← hC];rfl
 have hN:Hid (∀ W,Calls Tryz.prog 51 #[.agg #[jf jg 0,jf jg 0,jf jg 0,jf jg 0,jf jg 0,jf jg 0,jf jg 0,jf jg 0,jf jg 0,jf jg 0,jf jg 0,jf jg 0,jf jg 0,jf jg 0,jf jg 0,jf jg 0,jf jg 0,jf jg 0,jf jg 0,jf jg 0,jf jg 0,jf jg 0,jf jg 0,jf jg 0,jf jg 0,jf jg 0,jf jg 0,jf jg 0,jf jg 0,jf jg 0,jf jg 0,jf jg 0]] W fun e w'=>e = .returned (.string ⟨K1.toArray⟩)∧Fr NoB W w'):=zi (fun W=>by rw[← hC];exact Hd.out W);clear hG hC Hd;go_enter Tryz.func14,Tryz.ntmps14
 go_wp2_with fail
 refine Ho.out.mono ?_;rintro e w1 ⟨⟨g,rfl,hI⟩,hH⟩
 have hE:=zfn (fun _=>True) _ enAlice (.slice none 0 0) (.slice (some ⟨g,0,none⟩) 1 1) w1 ⟨zc1,SB.nil _ w1 0,hI,hgl.fr hH (fun _ _ _ h=>h.elim),Nat.zero_le _,Nat.zero_le _,Nat.zero_le _,(by show 1≤1000;omega),(fun s hs=>by
  simp only[enAlice,List.mem_singleton]at hs;subst hs
  show 5≤1000000;omega)⟩ (Nat.zero_le _) (fun n c h=>by cases h;rfl) zjh
 rw[HK.out]at hE;have Hof:=zi hE;have hQ:=zi hH;clear hI hE hH
 go_wp2_with fail
 refine Hof.out.mono ?_;rintro r w2 ⟨⟨v,rfl,a,c,rfl,hc,h | ⟨b,o,rfl,hb,hbs,hB⟩⟩,hJ⟩
 ·exact absurd h.1 (by simp)
 have k0:=(hB 0 K0 rfl).1;have k1:=(hB 1 K1 rfl).1;rw[Nat.add_zero]at k0;have hP:=zi (hQ.out.trans' hJ);have hc2:2≤c:=hc;clear hB hJ hc;have HH:=zi (show w2.drew.cell? ⟨b,o,none⟩=some (.string ⟨K0.toArray⟩)∧w2.drew.cell? ⟨b,o+1,none⟩=some (.string ⟨K1.toArray⟩) from ⟨by simpa using k0,by simpa using k1⟩);clear k0 k1
 go_upto_region 2 with(fail)
 refine wp_region_held_drew (S:=fun V=>V.cell? ⟨b,o,none⟩=some (.string ⟨K0.toArray⟩)∧V.cell? ⟨b,o+1,none⟩=some (.string ⟨K1.toArray⟩)) (by kernel_rfl) HH.out (fun hA=>?_);simp only[qV]
 iterate 18
  refine qt (v:=?_) rfl (Or.inl ⟨by rfl,?_⟩) hA ?_;rotate_left
  ·intro W hF;obtain⟨hM,hL⟩:=hF
   try simp only[qQ]
   go_simp
   try rw[if_neg (by omega)]
   try with_reducible rfl
  try simp only[Act.put,qP]
 refine qr (i:=18) (by kernel_rfl) rfl (fun K hK=>?_)
 try simp only[qQ]
 go_simp;refine(hN.out _).mono ?_;rintro r w3 ⟨rfl,hD⟩;refine hK.out _ _ ⟨Fr.cell hD hA.1,Fr.cell hD hA.2⟩ (fun hA=>?_);clear hK K
 try simp only[Act.put,qP]
 have hO:=zi (hP.out.drew.trans' hD);clear hD
 iterate 10
  refine qt (v:=?_) rfl (Or.inl ⟨by rfl,?_⟩) hA ?_;rotate_left
  ·intro W hF;obtain⟨hM,hL⟩:=hF
   try simp only[qQ]
   go_simp
   try rw[if_neg (by omega)]
   try with_reducible rfl
  try simp only[Act.put,qP]
 refine wpAnyH_done (by kernel_rfl) ?_ _;clear hA
 go_wp2_with fail
 go_ret;exact⟨rfl,hO.out⟩
end Go.Proofs.YtffggpplnjibgaaGreatDoor
