/-
 The walk of chapter 16's fixed fact.
-/
import Derived.Test.YtffggpplnjibgaaGreatDoorKKeysOfK
import Derived.OrdersHeld
import Derived.Deep.RegionHeld3
import Derived.Test.YtffggpplnjibgaaGreatDoorKTextsEq
import Derived.Test.YtffggpplnjibgaaGreatDoorKRefOfP
import Derived.Test.YtffggpplnjibgaaGreatDoorKShelf
import Derived.Test.YtffggpplnjibgaaGreatDoorKReadCame
import Derived.Test.YtffggpplnjibgaaGreatDoorKLarge16
import Derived.Test.YtffggpplnjibgaaGreatDoorKRefOf16
import Derived.Test.YtffggpplnjibgaaGreatDoorKRefEnt
open Go.Lib renaming hid→zi
open Go.Proofs.Tryz renaming prog→zl
open Go renaming heap_alloc_new→zo,wpList_load_mid→zq
open Nat renaming le_refl→ja,lt_of_lt_of_le→jb
open Go.Value renaming int→jf
open Go.IntKind renaming u8→jg
namespace Go.Proofs.YtffggpplnjibgaaGreatDoor
set_option linter.unusedVariables false
set_option linter.unusedSimpArgs false
set_option linter.unusedSectionVars false
set_option maxRecDepth 100000
set_option maxHeartbeats 8000000
section
open Go.RowKit Go.Sort
variable [OldK]
def zye:Bs:=[97,108,105,99,101]
def sgAlice:Sg:=⟨zye,jz,zvi⟩
def enAlice:En:=⟨1,jz,[],[],0,[],jz,[sgAlice]⟩
theorem zfc:enAlice.ok:=⟨rfl,rfl,fun s hs=>by
 simp only[enAlice,List.mem_singleton]at hs;subst hs
 exact⟨rfl,rfl⟩⟩
theorem zwl (w:World):Calls zl 50 #[] w fun e w'=>(∃ g,e = .returned (.agg (enAlice.cells (.slice none 0 0) (.slice (some ⟨g,0,none⟩) 1 1)).toArray)∧GS (fun k=>w.heap.size≤k) [sgAlice] (.slice (some ⟨g,0,none⟩) 1 1) w')∧Fr NoB w w':=by
 obtain⟨d,hu,hd⟩:=zaq;have Hu:=zi hu;have Hd:=zi hd;clear hu hd;have hA:(w.alloc (.cells Tryz.zeroCells28 28)).heap.size=w.heap.size+1:=by rw[World.size_alloc]
 have hH:=zo w (.cells Tryz.zeroCells28 28);have hD:=zo (w.alloc (.cells Tryz.zeroCells28 28)) (.cells sgAlice.cells 40);rw[hA]at hD
 have hG:((w.alloc (.cells Tryz.zeroCells28 28)).alloc (.cells sgAlice.cells 40)).heap[w.heap.size]? = some (.cells Tryz.zeroCells28 28):=by
  rw[Below.heap_alloc _ _ _ (by omega)];exact hH
 have hE:=zi (show((w.alloc (.cells Tryz.zeroCells28 28)).alloc (.cells sgAlice.cells 40)).there w.heap.size 0 (enAlice.cells (.slice none 0 0) (.slice (some ⟨w.heap.size+1,0,none⟩) 1 1)).toArray.size from qa hG (by rw[List.size_toArray,En.size zfc];exact ja _));have Hz:=zi (show(Tryz.prog.info? 28).map (·.size)=some (enAlice.cells (.slice none 0 0) (.slice (some ⟨w.heap.size+1,0,none⟩) 1 1)).length by rw[j4,En.size zfc]);have hK:=zi (show(Tryz.prog.info? 28).map (·.size)=some (enAlice.cells (.slice none 0 0) (.slice (some ⟨w.heap.size+1,0,none⟩) 1 1)).toArray.size by rw[j4,List.size_toArray,En.size zfc]);have HO:=zi (En.one (e:=enAlice) (pv := .slice none 0 0) (sv := .slice (some ⟨w.heap.size+1,0,none⟩) 1 1) rfl rfl);have HA:=zi hA;have hI:=zi hD;clear hA hH hD hG;go_enter Tryz.func50,Tryz.ntmps50
 go_wp2_with (first
  | ((with_reducible refine wpList_buildTo ?_ 40 _ rfl _ rfl sgAlice.cells ?_ ?_);rfl;kernel_rfl)
  | ((with_reducible refine Great.wpList_buildSliceTo ?_ 26 40 1 _ rfl (w.heap.size+1) HA.out _ rfl Tryz.underlying26 sgAlice.cells ?_ ?_);rfl;kernel_rfl)
  | ((with_reducible refine wpList_buildTo ?_ 28 _ rfl _ rfl (enAlice.cells (.slice none 0 0) (.slice (some ⟨w.heap.size+1,0,none⟩) 1 1)).toArray ?_ ?_);rfl;kernel_rfl)
  | ((with_reducible refine wpList_store_mid ?_ 28 _ _ rfl w.heap.size 0 (enAlice.cells (.slice none 0 0) (.slice (some ⟨w.heap.size+1,0,none⟩) 1 1)).toArray ?_ ?_ hE.out hK.out HO.out ?_);rfl;rfl;rfl))
 obtain⟨C,hC⟩:∃ C,enAlice.cells (.slice none 0 0) (.slice (some ⟨w.heap.size+1,0,none⟩) 1 1)=C:=⟨_,rfl⟩;have HC:=zi hC;rw[hC]at hE Hz ⊢;have hJ:=run_loadVar_mid (P:=zl) _ w.heap.size 0 28 C d (World.rangeAt_setCells_same _ w.heap.size 0 C (by simpa using hE.out)) Hu.out Hd.out Hz.out;have hF:Fr NoB w ((((w.alloc (.cells Tryz.zeroCells28 28)).alloc (.cells sgAlice.cells 40)).setCells w.heap.size 0 C)):=((Fr.refl.alloc _).alloc _).trans (jr _ _ _ _) (fun k _ hm => .inr (by omega));refine bodyPost_ret (v := .agg C.toArray) ?_ rfl ⟨⟨w.heap.size+1,by rw[HC.out],?_⟩,hF⟩
 ·rw[qu rfl];simp[asAddr,Result.andThen,hJ,Act.put]
 have h0:GS (fun k=>w.heap.size+1≤k) [sgAlice] (.slice (some ⟨w.heap.size+1,0,none⟩) 1 1) ((w.alloc (.cells Tryz.zeroCells28 28)).alloc (.cells sgAlice.cells 40)):=by
  refine⟨_,_,rfl,ja _,.inr ⟨w.heap.size+1,0,rfl,ja _,ju hI.out,fun i hi=>?_⟩⟩;obtain rfl:i=0:=by simpa using hi
  exact j8 hI.out
 obtain⟨a,c,e1,e2,h | ⟨b,o,e3,hb,hB⟩⟩:=h0.fr (jr w.heap.size C 0 _) (fun k _ hk hm=>by omega)
 ·exact absurd h (by simp)
 exact⟨a,c,e1,e2,.inr ⟨b,o,e3,by omega,hB⟩⟩
theorem zn0:zau zjs enAlice=true:=by
 have h1:zb0 [sgAlice]=true:=by decide +kernel
 have h2:zp5 (zav enAlice) (zdz 1 [sgAlice])=true:=by
  unfold zp5 zav enAlice zdz;simp[zcr]
 unfold zau;show(zju _ enAlice&&(zb0 [sgAlice]&&zp5 (zav enAlice) (zdz 1 [sgAlice])))=_;rw[h1,h2];rfl
def ziu:Bs:=sId++zye
def znl:Bs:=zgx++zat jz
theorem zp0:zb1 enAlice=[ziu,znl]:=by
 have h1:enAlice.sigs.map qs++zfv enAlice=[ziu,znl]:=rfl;unfold zb1;rw[h1];have hB:ziu≤znl:=by decide +kernel
 have h2:zf3 [ziu,znl]=[ziu,znl]:=by
  unfold zf3;refine List.mergeSort_of_pairwise ?_;simp[hB]
 rw[h2];refine Lib.compact_all _ (fun j hj=>?_);have:j=0∨j=1:=by simp at hj;omega
 rcases this with rfl | rfl
 ·exact Lib.keeps_lt_one _ 0 (by omega)
 refine Lib.keeps_pos ?_;show znl≠ziu;decide +kernel
theorem zsu (w:World) (hgl:Gl w):Calls zl 14 #[] w fun e w'=>e = .returned (.bool true)∧Fr NoB w w':=by
 have Ho:=zi (zwl w);have Hd:=zi (fun W=>zeu jz W rfl);obtain⟨K0,hH⟩:∃ K,ziu=K:=⟨_,rfl⟩;obtain⟨K1,hD⟩:∃ K,znl=K:=⟨_,rfl⟩;have HK:=zi (show zb1 enAlice=[K0,K1] by rw[← hH,← hD];exact zp0);have q0:(K0==[105,100,58,97,108,105,99,101])=true:=by rw[← hH];rfl
 have q1:K1.length=71:=by rw[← hD];rfl
 have hO:Hid (∀ W,Calls zl 51 #[.agg #[jf jg 0,jf jg 0,jf jg 0,jf jg 0,jf jg 0,jf jg 0,jf jg 0,jf jg 0,jf jg 0,jf jg 0,jf jg 0,jf jg 0,jf jg 0,jf jg 0,jf jg 0,jf jg 0,jf jg 0,jf jg 0,jf jg 0,jf jg 0,jf jg 0,jf jg 0,jf jg 0,jf jg 0,jf jg 0,jf jg 0,jf jg 0,jf jg 0,jf jg 0,jf jg 0,jf jg 0,jf jg 0]] W fun e w'=>e = .returned (.string ⟨K1.toArray⟩)∧Fr NoB W w'):=zi (fun W=>by rw[← hD];exact Hd.out W);clear hH hD Hd;go_enter Tryz.func14,Tryz.ntmps14
 go_wp2_with fail
 refine Ho.out.mono ?_;rintro e w1 ⟨⟨g,rfl,hJ⟩,hI⟩
 have hF:=zly (fun _=>True) _ enAlice (.slice none 0 0) (.slice (some ⟨g,0,none⟩) 1 1) w1 ⟨zfc,SB.nil _ w1 0,hJ,hgl.fr hI (fun _ _ _ h=>h.elim),Nat.zero_le _,Nat.zero_le _,Nat.zero_le _,(by show 1≤1000;omega),(fun s hs=>by
  simp only[enAlice,List.mem_singleton]at hs;subst hs
  show 5≤1000000;omega)⟩ (Nat.zero_le _) (fun n c h=>by cases h;rfl) zn0
 rw[HK.out]at hF;have Hof:=zi hF;have hR:=zi hI;clear hJ hF hI
 go_wp2_with fail
 refine Hof.out.mono ?_;rintro r w2 ⟨⟨v,rfl,a,c,rfl,hc,h | ⟨b,o,rfl,hb,hbs,hC⟩⟩,hL⟩
 ·exact absurd h.1 (by simp)
 have k0:=(hC 0 K0 rfl).1;have k1:=(hC 1 K1 rfl).1;rw[Nat.add_zero]at k0;have hQ:=zi (hR.out.trans' hL);have hc2:2≤c:=hc;clear hC hL hc;have HH:=zi (show w2.drew.cell? ⟨b,o,none⟩=some (.string ⟨K0.toArray⟩)∧w2.drew.cell? ⟨b,o+1,none⟩=some (.string ⟨K1.toArray⟩) from ⟨by simpa using k0,by simpa using k1⟩);clear k0 k1
 go_upto_region 2 with(fail)
 refine wp_region_held_drew (S:=fun V=>V.cell? ⟨b,o,none⟩=some (.string ⟨K0.toArray⟩)∧V.cell? ⟨b,o+1,none⟩=some (.string ⟨K1.toArray⟩)) (by kernel_rfl) HH.out (fun hB=>?_);simp only[qV]
 iterate 18
  refine qt (v:=?_) rfl (Or.inl ⟨by rfl,?_⟩) hB ?_;rotate_left
  ·intro W hG;obtain⟨hN,hM⟩:=hG
   try simp only[qQ]
   go_simp
   try rw[if_neg (by omega)]
   try with_reducible rfl
  try simp only[Act.put,qP]
 refine qr (i:=18) (by kernel_rfl) rfl (fun K hK=>?_)
 try simp only[qQ]
 go_simp;refine(hO.out _).mono ?_;rintro r w3 ⟨rfl,hE⟩;refine hK.out _ _ ⟨Fr.cell hE hB.1,Fr.cell hE hB.2⟩ (fun hB=>?_);clear hK K
 try simp only[Act.put,qP]
 have hP:=zi (hQ.out.drew.trans' hE);clear hE
 iterate 10
  refine qt (v:=?_) rfl (Or.inl ⟨by rfl,?_⟩) hB ?_;rotate_left
  ·intro W hG;obtain⟨hN,hM⟩:=hG
   try simp only[qQ]
   go_simp
   try rw[if_neg (by omega)]
   try with_reducible rfl
  try simp only[Act.put,qP]
 refine wpAnyH_done (by kernel_rfl) ?_ _;clear hB
 go_wp2_with fail
 go_ret;exact⟨rfl,hP.out⟩
end
section
open Go.RowKit Go.Sort Go.Shelf
variable [OldK]
def SR (S:Nat→Prop) (l:List Bs) (v:Value) (w:World):Prop:=∃ a cap,v = .slice a l.length cap∧l.length≤cap ∧
 (l=[]∨∃ b o,a=some ⟨b,o,none⟩∧S b∧b<w.heap.size∧∀ i s,l[i]? = some s→w.cell? ⟨b,o+i,none⟩=some (.string ⟨s.toArray⟩))
theorem SR.fr {S:Nat→Prop}{M:Nat→Obj→Prop}{l:List Bs}{v:Value}{w w':World}(h:SR S l v w)(hF:Fr M w w')(hM:∀ k o,S k→¬ M k o):SR S l v w':=by
 obtain⟨a,c,hv,hc,h | ⟨b,o,ha,hS,hb,hr⟩⟩:=h
 ·exact⟨a,c,hv,hc,.inl h⟩
 exact⟨a,c,hv,hc,.inr ⟨b,o,ha,hS,jb hb hF.size,fun i s hi=>Fr.cell hF (hr i s hi) (fun o=>hM _ o hS)⟩⟩
theorem SR.form {S:Nat→Prop}{l:List Bs}{v:Value}{w:World}(h:SR S l v w):∃ a c,v = .slice a l.length c∧l.length≤c:=by
 obtain⟨a,c,hv,hc,-⟩:=h;exact⟨a,c,hv,hc⟩
theorem SR.at {S:Nat→Prop}{l:List Bs}{a:Option Addr}{n c:Nat}{w:World}(h:SR S l (.slice a n c) w){i:Nat}{s:Bs}(hi:l[i]? = some s):∃ b o,a=some ⟨b,o,none⟩∧S b∧b<w.heap.size∧w.cell? ⟨b,o+i,none⟩=some (.string ⟨s.toArray⟩):=by
 obtain⟨a',c',hv,hc,h | ⟨b,o,ha,hS,hb,hr⟩⟩:=h
 ·rw[h]at hi;cases hi
 cases hv;exact⟨b,o,ha,hS,hb,hr i s hi⟩
def zk3 (wl:List Bs) (k:Bs):Bool:=wl.any (fun u=>k==u)
theorem zug (wl:List Bs)(k:Bs):Lib.containsS (wl.map fun s=>(⟨s.toArray⟩:ByteArray)) ⟨k.toArray⟩=zk3 wl k:=by
 rw[Bool.eq_iff_iff,Lib.containsS_iff];unfold zk3;rw[List.any_eq_true];constructor
 ·intro h;obtain⟨s,hs,he⟩:=List.mem_map.1 h;refine⟨s,hs,?_⟩;have:=congrArg (fun b:ByteArray=>b.data.toList) he;simp at this;rw[this];simp
 rintro⟨s,hs,he⟩;have:k=s:=by simpa using he
 exact List.mem_map.2 ⟨s,hs,by rw[this]⟩
theorem zp9 (S:Nat→Prop) (wl:List Bs) (v:Value) (k:Bs) (w:World) (hv:SR S wl v w) (hl:wl.length≤1000000) :
 Calls zl 70 #[v,.string ⟨k.toArray⟩] w fun e w'=>e = .returned (.bool (zk3 wl k))∧w'=w:=by
 obtain⟨a,c,rfl,hc,rfl | ⟨b,o,rfl,hS,hb,hr⟩⟩:=hv
 ·exact Tryz.slices_Contains_string_empty _ _ _ w
 have h:=Tryz.slices_Contains_string b o wl.length c (wl.map fun s=>(⟨s.toArray⟩:ByteArray)) ⟨k.toArray⟩ w (by rw[List.length_map];exact ja _) (by omega) (fun j hj=>by
  rw[List.length_map]at hj;rw[hr j _ (List.getElem?_eq_getElem hj),List.getD_eq_getElem?_getD,List.getElem?_map,List.getElem?_eq_getElem hj]
  rfl)
 rw[List.take_of_length_le (by rw[List.length_map];exact ja _),zug]at h;exact h
theorem zt9 (S:Nat→Prop)(wl:List Bs)(v:Value)(k:Bs)(b:Nat)(w:World)(hb:w.cell? ⟨b,0,none⟩=some v)(hv:SR S wl v w)(hl:wl.length≤1000000) :
 Calls zl 69 #[.string ⟨k.toArray⟩,.pointer (some ⟨b,0,none⟩)] w fun e w'=>e = .returned (.bool (zk3 wl k))∧w'=w:=by
 obtain⟨a,c,rfl,-⟩:=hv.form;have Hc:=zi (zp9 S wl _ k w hv hl);clear hv;go_enter Tryz.func69,Tryz.ntmps69
 go_wp2_with fail
 refine Hc.out.mono ?_;rintro e w1 ⟨rfl,rfl⟩
 go_wp2_with fail
 go_ret;exact⟨rfl,rfl⟩
theorem zud (S S':Nat→Prop) (l wl:List Bs) (v u:Value) (b:Nat) (w:World) (hb:w.cell? ⟨b,0,none⟩=some u) (hu:SR S wl u w) (hwl:wl.length≤1000000) (hv:SS S' l v w) (hl:l.length≤1000000) :
 Calls zl 128 #[v,.func (.func 69) #[] #[.pointer (some ⟨b,0,none⟩)]] w fun e w'=>(∃ r:Int,e = .returned (.int .i64 r)∧decide (0≤r)=l.any (zk3 wl) ∧ -1≤r∧r≤1000000)∧w'=w:=by
 obtain⟨a,c,rfl,-⟩:=hv.form;have Hv:=zi hv;have H1:=zi (fun k=>zt9 S wl u k b w hb hu hwl);obtain⟨R,hR⟩:∃ R,l.any (zk3 wl)=R:=⟨_,rfl⟩;rw[hR];have HR:Hid ((l.drop 0).any (zk3 wl)=R):=zi (by rw[List.drop_zero];exact hR);have heg:∀ hB W,(callFunc 69 hB).run zl W = .ok (.enter 69 hB) W:=fun hB w=>by simp[go_sem]
 clear hv hR hb hu;go_enter Tryz.func128,Tryz.ntmps128
 go_wp2_with fail
 go_loopg [8] (l.length+1) (fun gf vi wr=>∃ i:Nat,vi = .int .i64 i∧i≤l.length∧i+gf=l.length+1∧Hid ((l.drop i).any (zk3 wl)=R)∧w=wr)
 case atStart=>exact⟨0,rfl,by omega,by omega,HR,rfl⟩
 case round =>
  clear HR;obtain⟨i,rfl,hi,hig,HG,rfl⟩:=hrel;by_cases hD:i<l.length
  ·have hC:decide ((i:Int)<l.length)=true:=decide_eq_true (by omega);have hil:(i:Int)<l.length:=by omega
   obtain⟨bl,o,rfl,-,-,hc⟩:=Hv.out.at (List.getElem?_eq_getElem hD);have hG:=HG.out;rw[List.drop_eq_getElem_cons hD,List.any_cons]at hG;obtain⟨k,hk⟩:∃ k,l[i]=k:=⟨_,rfl⟩;rw[hk]at hc hG;have h1:=H1.out k;obtain⟨q,hq⟩:∃ q,zk3 wl k=q:=⟨_,rfl⟩;rw[hq]at h1 hG;have Hk:=zi h1;have HG:=zi hG;clear hG hk hq h1
   go_wp2_with fail
   refine Hk.out.mono ?_;rintro e w1 ⟨rfl,rfl⟩;cases q with
   | true =>
     go_wp2_with fail
     go_ret;exact⟨⟨_,rfl,by have h:=HG.out;simp at h;rw[h];exact decide_eq_true (by omega),by omega,by omega⟩,rfl⟩
   | false =>
     go_wp2_with fail
     go_roundg (gk - 1)
     case measure=>omega
     case rel=>exact⟨i+1,by simp,by omega,by omega,zi (by have h:=HG.out;simpa using h),rfl⟩
  obtain rfl:i=l.length:=by omega
  have hC:decide ((l.length:Int)<l.length)=false:=by simp
  have hG:=HG.out;rw[List.drop_length]at hG;have hE:Hid (false=R):=zi hG;clear HG hG
  go_wp2_with fail
  go_ret;exact⟨⟨_,rfl,by rw[← hE.out];rfl,by omega,by omega⟩,rfl⟩
theorem zny (S S':Nat→Prop)(l wl:List Bs)(v u:Value)(b:Nat)(w:World)(hb:w.cell? ⟨b,0,none⟩=some u)(hu:SR S wl u w)(hwl:wl.length≤1000000)(hv:SS S' l v w)(hl:l.length≤1000000) :
 Calls zl 68 #[v,.func (.func 69) #[] #[.pointer (some ⟨b,0,none⟩)]] w fun e w'=>e = .returned (.bool (l.any (zk3 wl)))∧w'=w:=by
 have HI:=zi (zud S S' l wl v u b w hb hu hwl hv hl);obtain⟨a,c,rfl,-⟩:=hv.form;obtain⟨R,hR⟩:∃ R,l.any (zk3 wl)=R:=⟨_,rfl⟩;rw[hR]at HI ⊢;clear hv hR hb hu;go_enter Tryz.func68,Tryz.ntmps68
 go_wp2_with fail
 refine HI.out.mono ?_;rintro e w1 ⟨⟨r,rfl,hr,h1,h2⟩,rfl⟩
 go_wp2_with fail
 go_ret;exact⟨rfl,rfl⟩
theorem zwo (S S' Sw:Nat→Prop) (e:En) (pv sv:Value) (wl:List Bs) (wv:Value) (w:World) (hfine:Fine S S' e pv sv w) (hp5:e.payload.length≤500000) (hpn:∀ n c,pv = .slice none n c→c=0) (hw:SR Sw wl wv w) (hwl:wl.length≤1000000) :
 Calls zl 21 #[.agg (e.cells pv sv).toArray,wv] w fun r w'=>r = .returned (.bool (zau zjs e&&(zb1 e).any (zk3 wl)))∧Fr NoB w w':=by
 have hK:=hfine.ok;have hR:((w.alloc (.cells (e.cells pv sv).toArray 28)).alloc (.cells #[wv] 33)).rangeAt w.heap.size 0 (e.cells pv sv):=World.rangeAt_alloc (by simpa using j8 (zo w (.cells (e.cells pv sv).toArray 28))) _
 have hQ:((w.alloc (.cells (e.cells pv sv).toArray 28)).alloc (.cells #[wv] 33)).cell? ⟨w.heap.size+1,0,none⟩=some wv:=by
  have h:=zir (w.alloc (.cells (e.cells pv sv).toArray 28)) wv 33
  rwa [World.size_alloc]at h
 have hF:Fr NoB w ((w.alloc (.cells (e.cells pv sv).toArray 28)).alloc (.cells #[wv] 33)):=(Fr.refl.alloc _).alloc _;have hz:(Tryz.prog.info? 28).map (·.size)=some (e.cells pv sv).length:=by rw[j4,En.size hK]
 have hE:=fun h=>zjw (e:=e) h
 have hD:=fun V (h:Fr NoB w V) (hc:zau zjs e=false)=>znk S S' e pv sv V (hfine.fr h) hc
 have hB:=fun V (h:Fr NoB w V) (hc:zau zjs e=true)=>zly S S' e pv sv V (hfine.fr h) hp5 hpn hc
 obtain⟨C,hC⟩:∃ C,e.cells pv sv=C:=⟨_,rfl⟩;rw[hC]at hR hQ hF hz hD hB ⊢;obtain⟨d,hu,hd⟩:=zaq;have Hu:=zi hu;have Hd:=zi hd;have Hz:=zi hz;have Hw:=zi hw;obtain⟨aw,cw,rfl,-⟩:=hw.form;obtain⟨ck,hM⟩:∃ b,zau zjs e=b:=⟨_,rfl⟩;obtain⟨L,hL⟩:∃ l,zb1 e=l:=⟨_,rfl⟩;rw[hM]at hD hB hE ⊢;rw[hL]at hB hE ⊢;have Hb:=zi hD;have Hgd:=zi hB;clear hu hd hz hw hC hK hfine hD hB hM hL;go_enter Tryz.func21,Tryz.ntmps21
 go_upto_region 1 with(fail)
 change Code.wp _ _ _ _ ((w.alloc (.cells C.toArray 28)).alloc (.cells #[.slice aw wl.length cw] 33));obtain⟨W,hN⟩:∃ W,(w.alloc (.cells C.toArray 28)).alloc (.cells #[.slice aw wl.length cw] 33)=W:=⟨_,rfl⟩;rw[hN]at hR hQ hF ⊢;obtain⟨p,hp⟩:∃ p,w.heap.size=p:=⟨_,rfl⟩;obtain⟨q,hq⟩:∃ q,p+1=q:=⟨_,rfl⟩;rw[hp]at hR;rw[hp,hq]at hQ;rw[hp,hq];clear hN hp hq;have HR:=zi hR;have HF:=zi hF;have HQ:=zi hQ;clear hR hF hQ;cases ck with
 | false =>
   go_wp2_with((with_reducible refine zq ?_ 28 _ rfl p 0 ?_ C d HR.out Hu.out ?_ Hz.out ?_);rfl;rfl;exact Hd.out)
   refine(Hb.out _ HF.out (by first | rfl | trivial)).mono ?_;rintro r w1 ⟨rfl,hG⟩;have hI:=zi (HF.out.trans' hG);clear hG
   go_wp2_with fail
   go_ret;exact⟨rfl,hI.out⟩
 | true =>
   have hl25:=hE rfl
   go_wp2_with((with_reducible refine zq ?_ 28 _ rfl p 0 ?_ C d HR.out Hu.out ?_ Hz.out ?_);rfl;rfl;exact Hd.out)
   refine(Hgd.out _ HF.out (by first | rfl | trivial)).mono ?_;rintro r w1 ⟨⟨v,rfl,hH⟩,hG⟩;have hO:=Fr.cell hG HQ.out;have hJ:=Hw.out.fr (HF.out.trans' hG) (fun _ _ _ h=>h);have Hcf:=zi (zny Sw _ L wl v (.slice aw wl.length cw) q w1 hO hJ hwl hH (by omega));obtain⟨al,cl,rfl,-⟩:=hH.form;have hI:=zi (HF.out.trans' hG);clear hG hJ hH
   go_wp2_with fail
   refine Hcf.out.mono ?_;rintro r w2 ⟨rfl,rfl⟩
   go_wp2_with fail
   go_ret;exact⟨jj (by simp),hI.out⟩
end
section
open Go.ChangeShapes Go.WideShapes Go.ChangeAt Go.RowKit
def zyi:Value := .agg #[.int .i64 0,jf jg 0,jf jg 0,jf jg 0,jf jg 0,jf jg 0,jf jg 0,jf jg 0,jf jg 0,jf jg 0,jf jg 0,jf jg 0,jf jg 0,jf jg 0,jf jg 0,jf jg 0,jf jg 0,jf jg 0,jf jg 0,jf jg 0,jf jg 0,jf jg 0,jf jg 0,jf jg 0,jf jg 0,jf jg 0,jf jg 0,jf jg 0,jf jg 0,jf jg 0,jf jg 0,jf jg 0,jf jg 0,.string ⟨#[]⟩,.slice none 0 0,.int .i64 0,.string ⟨#[]⟩,jf jg 0,jf jg 0,jf jg 0,jf jg 0,jf jg 0,jf jg 0,jf jg 0,jf jg 0,jf jg 0,jf jg 0,jf jg 0,jf jg 0,jf jg 0,jf jg 0,jf jg 0,jf jg 0,jf jg 0,jf jg 0,jf jg 0,jf jg 0,jf jg 0,jf jg 0,jf jg 0,jf jg 0,jf jg 0,jf jg 0,jf jg 0,jf jg 0,jf jg 0,jf jg 0,jf jg 0,jf jg 0,.slice none 0 0]
variable [OldK]
section
variable {H:Type} {enc:TypeId × Value→H} {w:World}
def zyj (pv:Value):Prop:=∀ n c,pv = .slice none n c→c=0
theorem zrt {fuel:Nat}{cs:List Value}{x:DataW H × List MemPlace}(h:DataW.trod enc zl w 0 (fun _=>true) true fuel 24 cs=some x){pv:Value}(hp:cs=[pv]):zyj pv:=by
 rintro n c rfl;rcases open_ints Tryz.underlying24 Tryz.underlying5 zez h with⟨hcs,hx⟩ | ⟨a,len,cap,zs,hcs,_,hl,hm,hz,hx,hcell,hwz⟩
 ·rw[hp]at hcs;simp at hcs;exact hcs.2
 rw[hp]at hcs;simp at hcs
theorem zrs {fuel:Nat} {e:En} {pv sv:Value} {x:DataW H × List MemPlace} (he:e.ok) (h:DataW.trod enc zl w 0 (fun _=>true) true fuel 28 (e.cells pv sv)=some x):zyj pv:=by
 obtain⟨xs,n,rfl,hx,hl,hB,hf⟩:=DataW.trod_struct Tryz.underlying28 h;have f3:DataW.trod enc zl w 0 (fun _=>true) true n 24 (((e.cells pv sv).drop 34).take (Tryz.prog.cellsOf 24))=xs[3]?:=hf 3 _ rfl;rw[zhf,List.getElem?_eq_getElem (by rw[hB];decide)]at f3;refine zrt f3 ?_;have hd:(Lib.byteCells e.digest).length=32:=by simp[Lib.byteCells,he.1]
 have e1:∀ (a:Value) (D L:List Value),D.length=32→(([a]++(D++L)).drop 34).take 1=(L.drop 1).take 1:=by
  intro a D L h;simp[List.drop_append,h,List.drop_eq_nil_of_le]
 unfold En.cells;rw[e1 _ _ _ hd];rfl
theorem zm2 (hK:w.heap.size≤OldK.k){base:Nat}{v:Value}{d:DataW H}{p:List MemPlace}(hval:Value.okWide zl w .any base 28 v)(h:DataW.Trod enc zl w 0 (fun _=>true) true 28 v d p):∃ (e:En) (pv sv:Value),(EnIn w e pv sv∧zyj pv)∧v = .agg (e.cells pv sv).toArray:=by
 obtain⟨cs,rfl,hsz⟩:=okWide_struct Tryz.underlying28 hval;obtain⟨fuel,hf⟩:=h;obtain⟨e,pv,sv,he,hc⟩:=zkj hK hf;have hB:cs.toList=e.cells pv sv:=by rw[← hc];simp[Value.cells]
 refine⟨e,pv,sv,⟨he,zrs (enc:=enc) (w:=w) he.1 (by rw[← hc];exact hf)⟩,by rw[← hB]⟩
end
end
section
open Go.RowKit Go.Sort Go.Shelf
variable [OldK]
theorem EnIn.fine2 {w:World}{e:En}{pv sv:Value}(h:EnIn w e pv sv)(hgl:Gl w)(hl:zbt e=false):Fine Old Old e pv sv w:=by
 obtain⟨h1,h2,h3,h4,h5⟩:=zd5 hl;exact⟨h.1,h.2.1,h.2.2,hgl,by omega,by omega,by omega,by omega,fun s hs=>by have:=h5 s hs;omega⟩
theorem zpr (e:En):zps zxm e=zau zjs e:=by
 rw[ztu]
 congr 1
 funext p
 unfold zxm zjs;rw[zh7]
theorem zp1 (e:En) (pv sv:Value) (wl:List Bs) (wv:Value) (w:World) (hgl:Gl w) (he:EnIn w e pv sv) (hpn:zyj pv) (hw:SR Old wl wv w) :
 Calls zl 4 #[.agg (e.cells pv sv).toArray,wv] w fun r w'=>r = .returned (.bool true)∧Fr NoB w w':=by
 have hZ:=he.1;have hR:(w.alloc (.cells (e.cells pv sv).toArray 28)).rangeAt w.heap.size 0 (e.cells pv sv):=by simpa using j8 (zo w (.cells (e.cells pv sv).toArray 28))
 have hF:Fr NoB w (w.alloc (.cells (e.cells pv sv).toArray 28)):=Fr.refl.alloc _;have hW:w.heap.size<(w.alloc (.cells (e.cells pv sv).toArray 28)).heap.size:=by rw[World.size_alloc];omega
 have Hal:=zi (fun V (h:Fr NoB w V)=>zsu V (hgl.fr h (fun _ _ _ h=>h.elim)));have Hlg:=zi (fun V (h:Fr NoB w V)=>zr3 Old Old e pv sv V hZ (he.2.1.fr h (fun _ _ _ _ h=>h)) (he.2.2.fr h (fun _ _ _ h=>h)));have hz:(Tryz.prog.info? 28).map (·.size)=some (e.cells pv sv).length:=by rw[j4,En.size hZ]
 have hQ:=fun(hl:zbt e=false) V (h:Fr NoB w V)=>(he.fr h (fun _ _ _ h=>h)).fine2 (hgl.fr h (fun _ _ _ h=>h.elim)) hl
 have hP:=fun(hl:zbt e=false) V (h:Fr NoB w V)=>(by have:=ztr Old Old e pv sv V (hQ hl V h);rw[zpr]at this;exact this:Calls zl 19 #[.agg (e.cells pv sv).toArray] V fun r w'=>r = .returned (.bool (zau zjs e))∧Fr NoB V w')
 have hN:=fun(hl:zbt e=false) (hc:zau zjs e=true) V (h:Fr NoB w V)=>(by have:=zq5 Old Old e pv sv V (hQ hl V h) (by have:=(zd5 hl).1;omega) hpn hc;rw[zxn]at this;exact this:Calls zl 20 #[.agg (e.cells pv sv).toArray] V fun r w'=>(∃ v,r = .returned v∧SS (fun k=>V.heap.size≤k) (zb1 e) v w')∧Fr NoB V w')
 have hO:=fun(hl:zbt e=false) (hn:wl.length≤1000000) V (h:Fr NoB w V)=>zwo Old Old Old e pv sv wl wv V (hQ hl V h) (by have:=(zd5 hl).1;omega) hpn (hw.fr h (fun _ _ _ h=>h)) hn
 have hH:=fun h=>zjw (e:=e) h
 obtain⟨C,hC⟩:∃ C,e.cells pv sv=C:=⟨_,rfl⟩;rw[hC]at hR hF hW hz Hlg ⊢;simp only[hC]at hP hN hO;obtain⟨d,hu,hd⟩:=zaq;have Hu:=zi hu;have Hd:=zi hd;have Hz:=zi hz;have Hw:=zi hw;obtain⟨aw,cw,rfl,-⟩:=hw.form;obtain⟨LB,hJ⟩:∃ b,zbt e=b:=⟨_,rfl⟩;obtain⟨ck,hI⟩:∃ b,zau zjs e=b:=⟨_,rfl⟩;obtain⟨L,hL⟩:∃ l,zb1 e=l:=⟨_,rfl⟩;rw[hJ]at Hlg;simp only[hJ,hI]at hP;simp only[hJ,hI,hL]at hN;simp only[hJ,hI,hL]at hO;simp only[hI,hL]at hH;have Hgd:=zi hP;have Hof:=zi hN;have Hme:=zi hO;clear hu hd hz hw hC hZ hgl he hpn hQ hP hN hO hJ hI hL;go_enter Tryz.func4,Tryz.ntmps4
 go_upto_region 1 with(fail)
 change Code.wp _ _ _ _ (w.alloc (.cells C.toArray 28));obtain⟨W,hs⟩:∃ W,w.alloc (.cells C.toArray 28)=W:=⟨_,rfl⟩;rw[hs]at hR hF hW ⊢;obtain⟨p,hp⟩:∃ p,w.heap.size=p:=⟨_,rfl⟩;rw[hp]at hR hW;rw[hp];clear hs hp;have HR:=zi hR;have HF:=zi hF;clear hR hF
 go_wp2_with fail
 refine(Hal.out _ HF.out).mono ?_;rintro r w1 ⟨rfl,hT⟩;have HR:=zi (j0 HR.out hT hW (fun _ h=>h));have hf:=jb hW hT.size;have HF:=zi (HF.out.trans' hT);clear hT Hal
 go_wp2_with((with_reducible refine zq ?_ 28 _ rfl p 0 ?_ C d HR.out Hu.out ?_ Hz.out ?_);rfl;rfl;exact Hd.out)
 refine(Hlg.out _ HF.out).mono ?_;rintro r w2 ⟨rfl,hS⟩;have HR:=zi (j0 HR.out hS hf (fun _ h=>h));have hU:=jb hf hS.size;have HF:=zi (HF.out.trans' hS);clear hS Hlg;cases LB with
 | true =>
   go_wp2_with fail
   go_ret;exact⟨rfl,HF.out⟩
 | false =>
   by_cases h100:wl.length≤100
   ·have hK : decide ((100:Int)<(wl.length:Int))=false:=decide_eq_false (by omega);have hm:=zi (fun V (h:Fr NoB w V)=>Hme.out (by first | rfl | trivial) (by omega) V h);have hr:=zi (fun V (h:Fr NoB w V)=>Hgd.out (by first | rfl | trivial) V h);clear Hme Hgd;cases ck with
    | false =>
      go_wp2_with((with_reducible refine zq ?_ 28 _ rfl p 0 ?_ C d HR.out Hu.out ?_ Hz.out ?_);rfl;rfl;exact Hd.out)
      refine(hr.out _ HF.out).mono ?_;rintro r w3 ⟨rfl,hD⟩;have HR:=zi (j0 HR.out hD hU (fun _ h=>h));have HF:=zi (HF.out.trans' hD);clear hD
      go_wp2_with((with_reducible refine zq ?_ 28 _ rfl p 0 ?_ C d HR.out Hu.out ?_ Hz.out ?_);rfl;rfl;exact Hd.out)
      refine(hm.out _ HF.out).mono ?_;rintro r w4 ⟨rfl,hG⟩;have HF:=zi (HF.out.trans' hG);clear hG
      go_wp2_with fail
      go_ret;exact⟨jj (by simp),HF.out⟩
    | true =>
      have hl:=hH (by first | rfl | trivial);have ho:=zi (fun V (h:Fr NoB w V)=>Hof.out (by first | rfl | trivial) (by first | rfl | trivial) V h);clear Hof
      go_wp2_with((with_reducible refine zq ?_ 28 _ rfl p 0 ?_ C d HR.out Hu.out ?_ Hz.out ?_);rfl;rfl;exact Hd.out)
      refine(hr.out _ HF.out).mono ?_;rintro r w3 ⟨rfl,hD⟩;have HR:=zi (j0 HR.out hD hU (fun _ h=>h));have hv:=jb hU hD.size;have HF:=zi (HF.out.trans' hD);clear hD
      go_wp2_with((with_reducible refine zq ?_ 28 _ rfl p 0 ?_ C d HR.out Hu.out ?_ Hz.out ?_);rfl;rfl;exact Hd.out)
      refine(ho.out _ HF.out).mono ?_;rintro r w4 ⟨⟨v,rfl,hY⟩,hG⟩;have HR:=zi (j0 HR.out hG hv (fun _ h=>h));have HF:=zi (HF.out.trans' hG);obtain⟨al,cl,rfl,-⟩:=hY.form;have HL:=zi hY;have HW:=zi (Hw.out.fr HF.out (fun _ _ _ h=>h));clear hG hY
      go_wp2_with fail
      go_loopg [5,24] (L.length+1) (fun gf vd vi wr=>∃ i:Nat,vi = .int .i64 i∧vd = .bool ((L.take i).any (zk3 wl))∧i≤L.length∧i+gf=L.length+1∧w4=wr)
      case atStart=>exact⟨0,rfl,rfl,by omega,by omega,rfl⟩
      case round =>
       obtain⟨i,rfl,rfl,hi,hig,rfl⟩:=hrel;by_cases hg:i<L.length
       ·have hE:decide ((i:Int)<L.length)=true:=decide_eq_true (by omega);have hil:(i:Int)<L.length:=by omega
        obtain⟨b,o,rfl,-,-,hc⟩:=HL.out.at (List.getElem?_eq_getElem hg)
        have hX:(L.take (i+1)).any (zk3 wl)=((L.take i).any (zk3 wl)||zk3 wl L[i]):=by
         rw[List.take_add_one,List.getElem?_eq_getElem hg,List.any_append];simp
        obtain⟨k,hk⟩:∃ k,L[i]=k:=⟨_,rfl⟩;obtain⟨A,hA⟩:∃ A,(L.take i).any (zk3 wl)=A:=⟨_,rfl⟩;rw[hk,hA]at hX;rw[hk]at hc;rw[hA];have Htk:=zi hX;obtain⟨hy,hb⟩:∃ x,x=gk:=⟨_,rfl⟩;subst hb;clear hX hk hA
        go_wp2_with fail
        go_loopg [5,30] (wl.length+1) (fun gf vd vi wr=>∃ j:Nat,vi = .int .i64 j∧vd = .bool (A||(wl.take j).any (fun u=>k==u))∧j≤wl.length∧j+gf=wl.length+1∧w4=wr)
        case atStart=>exact⟨0,rfl,by simp,by omega,by omega,rfl⟩
        case round =>
         obtain⟨j,rfl,rfl,hj,hjg,rfl⟩:=hrel;by_cases hh:j<wl.length
         ·have hE:decide ((j:Int)<wl.length)=true:=decide_eq_true (by omega);have hjl:(j:Int)<wl.length:=by omega
          obtain⟨bw,ow,rfl,-,-,hx⟩:=HW.out.at (List.getElem?_eq_getElem hh)
          have hM:(A||(wl.take (j+1)).any (fun u=>k==u))=((A||(wl.take j).any (fun u=>k==u))||(k==wl[j])):=by
           rw[List.take_add_one,List.getElem?_eq_getElem hh,List.any_append];simp[Bool.or_assoc]
          obtain⟨u,hV⟩:∃ u,wl[j]=u:=⟨_,rfl⟩;obtain⟨B,hB⟩:∃ B,(A||(wl.take j).any (fun u=>k==u))=B:=⟨_,rfl⟩;rw[hV]at hx;rw[hV,hB]at hM;rw[hB];obtain⟨q,hq⟩:∃ q,(k==u)=q:=⟨_,rfl⟩;rw[hq]at hM;have Htj:=zi hM;clear hM hV hB;cases B with
          | true =>
            go_wp2_with fail
            go_roundg (gk - 1)
            case measure=>omega
            case rel=>exact⟨j+1,by simp,by rw[Htj.out];rfl,by omega,by omega,rfl⟩
          | false =>
            go_wp2_with fail
            go_roundg (gk - 1)
            case measure=>omega
            case rel=>exact⟨j+1,by simp,by rw[Htj.out];first | rfl | (rw[← hq];rfl) | simp,by omega,by omega,rfl⟩
         obtain rfl:j=wl.length:=by omega
         have hE:decide ((wl.length:Int)<wl.length)=false:=by simp
         go_wp2_with fail
         go_roundg (hy - 1)
         case measure=>omega
         case rel=>exact⟨i+1,by simp,by rw[Htk.out,List.take_of_length_le (ja _)];rfl,by omega,by omega,rfl⟩
       obtain rfl:i=L.length:=by omega
       have hE:decide ((L.length:Int)<L.length)=false:=by simp
       rw[List.take_of_length_le (ja _)];obtain⟨R,hR⟩:∃ R,L.any (zk3 wl)=R:=⟨_,rfl⟩;have ha:=hm.out _ HF.out;rw[hR]at ha;rw[hR];have h0:=zi ha;clear ha hR
       go_wp2_with((with_reducible refine zq ?_ 28 _ rfl p 0 ?_ C d HR.out Hu.out ?_ Hz.out ?_);rfl;rfl;exact Hd.out)
       refine h0.out.mono ?_;rintro r w5 ⟨rfl,ht⟩;have HF:=zi (HF.out.trans' ht);clear ht
       go_wp2_with fail
       go_ret;exact⟨jj (by cases R<;>rfl),HF.out⟩
   have hK:decide ((100:Int)<(wl.length:Int))=true:=decide_eq_true (by omega)
   go_wp2_with fail
   go_ret;exact⟨rfl,HF.out⟩
end
section
open Go.ChangeShapes Go.WideShapes Go.ChangeAt Go.RowKit
variable [OldK]
section
variable {H:Type} {enc:TypeId × Value→H} {w:World}
theorem zk1:Tryz.prog.cellsOf 9=1:=by kernel_rfl
theorem zq6 (hK:w.heap.size≤OldK.k) {base:Nat} {v:Value} {d:DataW H} {p:List MemPlace} (hval:Value.okWide zl w .any base 33 v) (h:DataW.Trod enc zl w 0 (fun _=>true) true 33 v d p):∃ l:List Bs,SR Old l v w:=by
 obtain⟨fuel,h⟩:=h;obtain⟨a0,hD,hF,rfl⟩:=okWide_slice Tryz.underlying33 hval;rcases DataW.trod_slice Tryz.underlying33 h with⟨e3,_⟩ | ⟨a,len,cap,elems,rest,m,hm,e3,_,_,hlc,_,hel,hE,_,_⟩
 ·obtain⟨rfl,rfl,rfl⟩:a0=none∧hD=0∧hF=0:=by simpa[Value.cells] using e3
  exact⟨[],⟨none,0,rfl,Nat.zero_le _,.inl rfl⟩⟩
 obtain⟨h1,h2,h3⟩:a0=some a∧hD=len∧hF=cap:=by simpa[Value.cells] using e3
 rw[h1,h2,h3];clear h1 h2 h3 hval e3 h;rcases Nat.eq_zero_or_pos len with rfl | hpos
 ·exact⟨[],⟨some a,cap,rfl,Nat.zero_le _,.inl rfl⟩⟩
 have hB:∀ i,i<len→∃ g,w.cells? 0 (a.add (i * 1)) 1=some g∧∃ s:Bs,g=[.string ⟨s.toArray⟩]:=by
  intro i hi;have h1:=hE i hi;rw[List.getElem?_eq_getElem (by omega),zk1]at h1;obtain⟨g,hg,h2⟩:=bind_some h1;obtain⟨s,e,-,-⟩:=DataW.trod_string Tryz.underlying9 h2;exact⟨g,hg,s.data.toList,by rw[e]⟩
 let G:Nat→List Value:=fun i=>if hi:i<len then (hB i hi).choose else []
 have hG:∀ i,i<len→w.cells? 0 (a.add (i * 1)) 1=some (G i):=fun i hi=>by
  simp only[G,dif_pos hi];exact(hB i hi).choose_spec.1
 obtain⟨b,o,C,T,f,rfl,hb,hC⟩:=zmc hpos (by decide) hG
 obtain ⟨l,hH,hx⟩:=zfu (fun i (s:Bs)=>(C.toList.drop (o+i * 1)).take 1=[.string ⟨s.toArray⟩]) len (fun i hi=>by
  obtain⟨s,e⟩:=(hB i hi).choose_spec.2;refine⟨s,?_⟩;rw[hC i hi];simp only[G,dif_pos hi]
  exact e)
 refine⟨l,⟨some ⟨b,o,none⟩,cap,by rw[hH],by rw[hH];exact hlc,.inr ⟨b,o,rfl,jb (ju hb) hK,ju hb,fun i s hi=>?_⟩⟩⟩;have he:=congrArg (·[0]?) (hx i s hi);simp only[List.getElem?_take,List.getElem?_drop]at he;simp[World.cell?,hb];simpa using he
end
end
end Go.Proofs.YtffggpplnjibgaaGreatDoor
