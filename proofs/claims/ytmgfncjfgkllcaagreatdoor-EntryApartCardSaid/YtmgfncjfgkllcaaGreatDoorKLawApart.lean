/-
 The walk of entry.Put: an entry's text.
-/
import Derived.Test.YtmgfncjfgkllcaaGreatDoorKValue
import Derived.Test.YtmgfncjfgkllcaaGreatDoorKParseE
import Derived.Test.YtmgfncjfgkllcaaGreatDoorKAuth
import Derived.Test.YtmgfncjfgkllcaaGreatDoorKBackW
import Derived.Test.YtmgfncjfgkllcaaGreatDoorKCheckE
import Derived.Great.BuildSlice
import Derived.Great.Walk
import Derived.OrdersHeld
import Derived.Deep.RegionHeld3
import Derived.Lib.SlBytesConst
import Derived.Test.YtmgfncjfgkllcaaGreatDoorKRefNum
namespace Go.Proofs.YtmgfncjfgkllcaaGreatDoor
set_option linter.unusedVariables false
set_option linter.unusedSimpArgs false
set_option linter.unusedSectionVars false
open Go.RowKit Go.Shelf
variable [OldK]
attribute [local go_sem] Oper.semAt_some
theorem zpw {b:Bs}(hb:zfx b=true):b.length≤2048:=by
 unfold zfx zb3 at hb;split at hb
 ·cases hb
 omega
theorem zsf {e:En}(h:za7 zfx e=true):zvu (zd4 e)=zim zfx e:=by
 unfold zvu zim;rw[if_pos (zge (zgu h)),if_pos h]
set_option maxRecDepth 100000 in
set_option maxHeartbeats 2000000 in
theorem zvt (S S':Nat→Prop) (e:En) (pv sv:Value) (w:World) (hfine:Fine S S' e pv sv w) :
 Calls Tryz.prog 17 #[.agg (e.cells pv sv).toArray] w fun r w'=>∃ x,r = .returned (.tuple #[x,zi2 (zim zfx e).2])∧SB (fun k=>w.heap.size≤k) (zim zfx e).1 x w'∧Fr NoB w w':=by
 cases hA:za7 zfx e with
 | false =>
   have hP:zim zfx e=([],11):=by unfold zim;rw[hA];rfl
   rw[hP];have hv:=fun V (h:Fr NoB w V)=>znn S S' e pv sv V (hfine.fr h) hA
   have hG:=hfine.ok;have hR:(w.alloc (.cells (e.cells pv sv).toArray 28)).rangeAt w.heap.size 0 (e.cells pv sv):=by simpa using jg (heap_alloc_new w (.cells (e.cells pv sv).toArray 28))
   have hF:Fr NoB w (w.alloc (.cells (e.cells pv sv).toArray 28)):=Fr.refl.alloc _;have hz:(Tryz.prog.info? 28).map (·.size)=some (e.cells pv sv).length:=by rw[z9,En.size hG]
   clear hA hP hfine hG;obtain⟨C,hC⟩:∃ C,e.cells pv sv=C:=⟨_,rfl⟩;rw[hC]at hR hF hz hv ⊢;have Hv:=Lib.hid hv;have Hz:=Lib.hid hz;obtain⟨d,hu,hd⟩:=j9;have Hu:=Lib.hid hu;have Hd:=Lib.hid hd;clear hz hu hd hC hv;go_enter Tryz.func17,Tryz.ntmps17
   go_upto_region 1 with(fail)
   change Code.wp _ _ _ _ (w.alloc (.cells C.toArray 28));obtain⟨W,hI⟩:∃ W,w.alloc (.cells C.toArray 28)=W:=⟨_,rfl⟩;rw[hI]at hR hF ⊢;obtain⟨p,hp⟩:∃ p,w.heap.size=p:=⟨_,rfl⟩;rw[hp]at hR ⊢;have Hp:=Lib.hid hp;have HR:=Lib.hid hR;have HF:=Lib.hid hF;clear hR hF hI hp
   go_wp2_with((with_reducible refine wpList_load_mid ?_ 28 _ rfl p 0 ?_ C d HR.out Hu.out ?_ Hz.out ?_);rfl;rfl;exact Hd.out)
   refine(Hv.out _ HF.out).mono ?_;rintro r w1 ⟨rfl,hB⟩;unfold z5;have hL:=Lib.hid (HF.out.trans' hB);clear hB
   go_wp2_with fail
   go_ret2;exact⟨_,rfl,SB.nil _ _ _,hL.out.alloc _⟩
 | true =>
   have ho:=zgu hA;have hH:=zl8 ho hfine.ok (fun _ h=>zpw h) (N:=67108864) (by decide);have hO:=zub ho hfine.ok (fun _ h=>zpw h);have hD:=fun S0 v V (h:RJ S0 V (zd4 e) v) (hg:Gl V)=>zws 19 zd0 S0 (zd4 e) v V h hH (zuc (by decide) e) hg (by omega)
   rw[zsf hA]at hD;have hv:=fun V (h:Fr NoB w V)=>zo7 S S' e pv sv V (hfine.fr h) hA
   have hG:=hfine.ok;have hR:(w.alloc (.cells (e.cells pv sv).toArray 28)).rangeAt w.heap.size 0 (e.cells pv sv):=by simpa using jg (heap_alloc_new w (.cells (e.cells pv sv).toArray 28))
   have hF:Fr NoB w (w.alloc (.cells (e.cells pv sv).toArray 28)):=Fr.refl.alloc _;have hz:(Tryz.prog.info? 28).map (·.size)=some (e.cells pv sv).length:=by rw[z9,En.size hG]
   have Hgl:=Lib.hid hfine.gl;obtain⟨J,hJ⟩:∃ J,zd4 e=J:=⟨_,rfl⟩;rw[hJ]at hv hD;obtain⟨P,hP⟩:∃ P,zim zfx e=P:=⟨_,rfl⟩;rw[hP]at hD ⊢;obtain⟨X,n⟩:=P;have Hpt:=Lib.hid hD;clear hA hP hfine hG hJ hD hO hH ho;obtain⟨E,hE⟩:∃ E,zi2 n=E:=⟨_,rfl⟩;simp only[hE]at Hpt ⊢;have HE:=Lib.hid hE;clear hE;obtain⟨C,hC⟩:∃ C,e.cells pv sv=C:=⟨_,rfl⟩;rw[hC]at hR hF hz hv ⊢;have Hv:=Lib.hid hv;have Hz:=Lib.hid hz;obtain⟨d,hu,hd⟩:=j9;have Hu:=Lib.hid hu;have Hd:=Lib.hid hd;clear hz hu hd hC hv;go_enter Tryz.func17,Tryz.ntmps17
   go_upto_region 1 with(fail)
   change Code.wp _ _ _ _ (w.alloc (.cells C.toArray 28));obtain⟨W,hI⟩:∃ W,w.alloc (.cells C.toArray 28)=W:=⟨_,rfl⟩;rw[hI]at hR hF ⊢;obtain⟨p,hp⟩:∃ p,w.heap.size=p:=⟨_,rfl⟩;rw[hp]at hR ⊢;have Hp:=Lib.hid hp;have HR:=Lib.hid hR;have HF:=Lib.hid hF;clear hR hF hI hp
   go_wp2_with((with_reducible refine wpList_load_mid ?_ 28 _ rfl p 0 ?_ C d HR.out Hu.out ?_ Hz.out ?_);rfl;rfl;exact Hd.out)
   refine(Hv.out _ HF.out).mono ?_;rintro r w1 ⟨x,rfl,hN,hB⟩;obtain⟨k0,k1,k2,xa,xn,xc,ya,yn,yc,hx⟩:=hN.form;subst hx;have Hrj:=Lib.hid hN;have hL:=Lib.hid (HF.out.trans' hB);have hW1:=hB.size;clear hB hN;have hK:Fr NoB w1 (w1.alloc (.cells #[.int .i64 k0,.int .i64 k1,.string k2,.slice xa xn xc,.slice ya yn yc] 56)):=Fr.refl.alloc _;have hQ:=Lib.hid (Hpt.out _ _ _ (RJ.kp (Kp.ofFr hK) _ _ Hrj.out) (Hgl.out.fr (hL.out.trans' hK) (fun _ _ _ h=>h.elim)));have hT:=Lib.hid (hL.out.trans' hK);clear hK Hpt
   go_wp2_with fail
   refine hQ.out.mono ?_;rintro r w5 ⟨x,rfl,hM,hS⟩;obtain⟨ya,yc,rfl⟩:=hM.form;have Hsb:=Lib.hid hM;have hU:=Lib.hid (hT.out.trans' hS);clear hM hS
   go_wp2_with fail
   go_ret2;exact⟨_,rfl,Hsb.out.kp (fun b o hb ho _=>⟨Nat.le_trans hT.out.size hb,ho⟩),hU.out⟩
end Go.Proofs.YtmgfncjfgkllcaaGreatDoor
namespace Go.Proofs.YtmgfncjfgkllcaaGreatDoor
set_option linter.unusedVariables false
set_option linter.unusedSimpArgs false
set_option linter.unusedSectionVars false
open Go.RowKit Go.Sort Go.Shelf
variable [OldK]
theorem zpv {sub:Bs→Bool} {e:En} (h:za7 sub e=true) (he:e.ok) (hl:(zc2 (zd4 e)).length≤4096):zin sub (zc2 (zd4 e))=(some e,0):=by
 have h1:za6 (zc2 (zd4 e))=(zd4 e,0):=by
  unfold za6;rw[if_neg (by omega),zh5,zld _ (zge (zgu h))]
 unfold zin;rw[h1,zvy h he];rfl
def zw5:Bs:=List.replicate 64 0
def sg15:Sg:=⟨[97,108,105,99,101],jb,zw5⟩
def en15:En:=⟨1,jb,[],[],0,[],jb,[sg15]⟩
theorem zc8:en15.ok:=⟨rfl,rfl,fun s hs=>by
 simp only[en15,List.mem_singleton]at hs;subst hs
 exact⟨rfl,rfl⟩⟩
theorem zrb:za7 zfx en15=true:=by
 have h1:zdr [sg15]=true:=by decide +kernel
 have h2:zou (zav en15) (qs 1 [sg15])=true:=by
  unfold zou zav en15 qs;simp[zfa]
 unfold za7;show(zp3 _ en15&&(zdr [sg15]&&zou (zav en15) (qs 1 [sg15])))=_;rw[h1,h2];rfl
theorem zk3:(zc2 (zd4 en15)).length≤4096:=by
 rw[zh5];decide +kernel
theorem zwt:zim zfx en15=(zc2 (zd4 en15),0):=by
 unfold zim;rw[zrb,if_pos rfl,if_neg (by have:=zk3;omega)]
theorem zvp:zou en15 en15=true:=by
 unfold zou en15;simp[zfa]
theorem zwi:zfd [97] [98,99]=[68,83,83,69,118,49,32,49,32,97,32,50,32,98,99]:=by decide +kernel
set_option maxRecDepth 100000 in
set_option maxHeartbeats 2000000 in
theorem zuu (w:World):Calls Tryz.prog 57 #[] w fun e w'=>(∃ g,e = .returned (.agg (en15.cells (.slice none 0 0) (.slice (some ⟨g,0,none⟩) 1 1)).toArray)∧GS (fun k=>w.heap.size≤k) [sg15] (.slice (some ⟨g,0,none⟩) 1 1) w')∧Fr NoB w w':=by
 obtain⟨d,hu,hd⟩:=j9;have Hu:=Lib.hid hu;have Hd:=Lib.hid hd;clear hu hd;have hA:(w.alloc (.cells Tryz.zeroCells28 28)).heap.size=w.heap.size+1:=by rw[World.size_alloc]
 have hH:=heap_alloc_new w (.cells Tryz.zeroCells28 28);have hD:=heap_alloc_new (w.alloc (.cells Tryz.zeroCells28 28)) (.cells sg15.cells 115);rw[hA]at hD
 have hG:((w.alloc (.cells Tryz.zeroCells28 28)).alloc (.cells sg15.cells 115)).heap[w.heap.size]? = some (.cells Tryz.zeroCells28 28):=by
  rw[Below.heap_alloc _ _ _ (by omega)];exact hH
 have hE:=Lib.hid (show((w.alloc (.cells Tryz.zeroCells28 28)).alloc (.cells sg15.cells 115)).there w.heap.size 0 (en15.cells (.slice none 0 0) (.slice (some ⟨w.heap.size+1,0,none⟩) 1 1)).toArray.size from jd hG (by rw[List.size_toArray,En.size zc8];exact Nat.le_refl _));have Hz:=Lib.hid (show(Tryz.prog.info? 28).map (·.size)=some (en15.cells (.slice none 0 0) (.slice (some ⟨w.heap.size+1,0,none⟩) 1 1)).length by rw[z9,En.size zc8]);have hK:=Lib.hid (show(Tryz.prog.info? 28).map (·.size)=some (en15.cells (.slice none 0 0) (.slice (some ⟨w.heap.size+1,0,none⟩) 1 1)).toArray.size by rw[z9,List.size_toArray,En.size zc8]);have HO:=Lib.hid (En.one (e:=en15) (pv := .slice none 0 0) (sv := .slice (some ⟨w.heap.size+1,0,none⟩) 1 1) rfl rfl);have HA:=Lib.hid hA;have hI:=Lib.hid hD;clear hA hH hD hG;go_enter Tryz.func57,Tryz.ntmps57
 go_wp2_with (first
  | ((with_reducible refine wpList_buildTo ?_ 115 _ rfl _ rfl sg15.cells ?_ ?_);rfl;kernel_rfl)
  | ((with_reducible refine Great.wpList_buildSliceTo ?_ 26 115 1 _ rfl (w.heap.size+1) HA.out _ rfl Tryz.underlying26 sg15.cells ?_ ?_);rfl;kernel_rfl)
  | ((with_reducible refine wpList_buildTo ?_ 28 _ rfl _ rfl (en15.cells (.slice none 0 0) (.slice (some ⟨w.heap.size+1,0,none⟩) 1 1)).toArray ?_ ?_);rfl;kernel_rfl)
  | ((with_reducible refine wpList_store_mid ?_ 28 _ _ rfl w.heap.size 0 (en15.cells (.slice none 0 0) (.slice (some ⟨w.heap.size+1,0,none⟩) 1 1)).toArray ?_ ?_ hE.out hK.out HO.out ?_);rfl;rfl;rfl))
 obtain⟨C,hC⟩:∃ C,en15.cells (.slice none 0 0) (.slice (some ⟨w.heap.size+1,0,none⟩) 1 1)=C:=⟨_,rfl⟩;have HC:=Lib.hid hC;rw[hC]at hE Hz ⊢;have hJ:=run_loadVar_mid (P:=Tryz.prog) _ w.heap.size 0 28 C d (World.rangeAt_setCells_same _ w.heap.size 0 C (by simpa using hE.out)) Hu.out Hd.out Hz.out;have hF:Fr NoB w ((((w.alloc (.cells Tryz.zeroCells28 28)).alloc (.cells sg15.cells 115)).setCells w.heap.size 0 C)):=((Fr.refl.alloc _).alloc _).trans (z8 _ _ _ _) (fun k _ hm => .inr (by omega));refine bodyPost_ret (v := .agg C.toArray) ?_ rfl ⟨⟨w.heap.size+1,by rw[HC.out],?_⟩,hF⟩
 ·rw[j4 rfl];simp[asAddr,Result.andThen,hJ,Act.put]
 have h0:GS (fun k=>w.heap.size+1≤k) [sg15] (.slice (some ⟨w.heap.size+1,0,none⟩) 1 1) ((w.alloc (.cells Tryz.zeroCells28 28)).alloc (.cells sg15.cells 115)):=by
  refine⟨_,_,rfl,Nat.le_refl _,.inr ⟨w.heap.size+1,0,rfl,Nat.le_refl _,ja hI.out,fun i hi=>?_⟩⟩;obtain rfl:i=0:=by simpa using hi
  exact jg hI.out
 obtain⟨a,c,e1,e2,h | ⟨b,o,e3,hb,hB⟩⟩:=h0.fr (z8 w.heap.size C 0 _) (fun k _ hk hm=>by omega)
 ·exact absurd h (by simp)
 exact⟨a,c,e1,e2,.inr ⟨b,o,e3,by omega,hB⟩⟩
theorem SB.cst (l:Bs)(w:World)(cap:Nat)(fr:Nat × Nat)(cs:Array Value)(hcs:cs.toList=l.map fun c=>Value.int .u8 (c.toNat:Int))(hcp:l.length≤cap:=by decide):SB (fun k=>k=w.heap.size) l (.slice (some ⟨w.heap.size,0,none⟩) l.length cap) (w.alloc (.cells cs 5 fr)):=by
 refine⟨_,cap,rfl,hcp,.inr ⟨w.heap.size,0,cs,_,fr,rfl,rfl,⟨heap_alloc_new w _,.inl rfl⟩,fun j hj=>?_⟩⟩;rw[Nat.zero_add,← Array.getElem?_toList,hcs];simp[hj]
set_option maxRecDepth 100000 in
set_option maxHeartbeats 4000000 in
theorem zri (w:World) (hgl:Gl w) (ho:OldK.k≤w.heap.size):Calls Tryz.prog 15 #[] w fun e w'=>e = .returned (.bool true)∧Fr NoB w w':=by
 have kc:=fun(w:World) (C:Array Value) (n c:Nat)=>Lib.run_convert_bytes_const (P:=Tryz.prog) w 24 5 C n c Tryz.underlying24 Tryz.underlying5
 have hS:=(Fr.refl (M:=NoB)).alloc (w:=w) (.cells #[.int .u8 98,.int .u8 99] 5 (2,3));have hN:=zrf _ [97] [98,99] _ _ (hgl.fr hS (fun _ _ _ h=>h.elim)) (SB.cst [98,99] w 2 (2,3) #[.int .u8 98,.int .u8 99] rfl) (by decide) (by decide);rw[zwi]at hN;have Hau:=Lib.hid hN;have hn:=Lib.hid hS;clear hN hS;have Hgl:=Lib.hid hgl;have Hso:=Lib.hid ho;clear ho hgl;go_enter Tryz.func15,Tryz.ntmps15
 go_wp2_with fail
 refine Hau.out.mono ?_;rintro e w1 ⟨v,rfl,hZ,hg⟩;have hp:=hZ.text;have hl:=Lib.hid (hn.out.trans' hg);clear hg hZ Hau hn;have Ho:=Lib.hid (fun W=>zuu W)
 go_wp2_with fail
 refine(Ho.out _).mono ?_;rintro e w2 ⟨⟨g,rfl,ha⟩,hf⟩;have hY:=Lib.hid (hl.out.trans' hf)
 have hJ:=zvt (fun _=>True) _ en15 (.slice none 0 0) (.slice (some ⟨g,0,none⟩) 1 1) w2 ⟨zc8,SB.nil _ w2 0,ha,Hgl.out.fr hY.out (fun _ _ _ h=>h.elim),Nat.zero_le _,Nat.zero_le _,Nat.zero_le _,(by show 1≤1000;omega),(fun s hs=>by
  simp only[en15,List.mem_singleton]at hs;subst hs
  show 5≤1000000;omega)⟩
 rw[zwt]at hJ;have Hpu:=Lib.hid hJ;clear hJ ha hf hl hp
 go_wp2_with fail
 refine Hpu.out.mono ?_;rintro e w3 ⟨y,rfl,hy,he⟩;rw[show zi2 (zc2 (zd4 en15),0).2 = .nilIface from rfl];have hG:=Lib.hid (hY.out.trans' he);have hL:=zsd _ (zc2 (zd4 en15)) y w3 hy (Hgl.out.fr hG.out (fun _ _ _ h=>h.elim)) (Nat.le_trans Hso.out hG.out.size) (by have:=zk3;omega);rw[zpv zrb zc8 zk3]at hL;have Hpa:=Lib.hid hL;clear hL hy he hY Hpu
 go_wp2_with fail
 refine Hpa.out.mono ?_;rintro r w4 ⟨⟨pv,sv,rfl,hI,hH,-⟩,hc⟩;have hk:=Lib.hid (hG.out.trans' hc);clear hc Hpa hG;obtain⟨d,hu,hd⟩:=j9;have hz:(Tryz.prog.info? 28).map (·.size)=some (en15.cells pv sv).length:=by rw[z9,En.size zc8]
 have hB:=En.one (e:=en15) (pv:=pv) (sv:=sv) (by obtain⟨_,_,rfl⟩:=hI.form;rfl) (by obtain⟨_,_,rfl,-⟩:=hH;rfl);have h0:(en15.cells pv sv)[0]? = some (.int .i64 1):=rfl;have hT:(w4.alloc (.cells Tryz.zeroCells28 28)).there w4.heap.size 0 (en15.cells pv sv).toArray.size:=jd (heap_alloc_new w4 _) (by rw[List.size_toArray,En.size zc8];exact Nat.le_refl _);have hE:=fun(S:Nat→Prop) (p2 s2:Value) (V:World) (h1:SB (fun k=>w3.heap.size≤k) en15.payload pv V) (h2:GS (fun k=>w3.heap.size≤k) en15.sigs sv V) (h3:SB S en15.payload p2 V) (h4:GS S en15.sigs s2 V)=>zt2 _ S _ S en15 en15 pv p2 sv s2 V zc8 zc8 h1 h3 h2 h4 (Nat.zero_le _) (by show 1≤1000000;omega)
 rw[zvp]at hE;obtain⟨C,hC⟩:∃ C,en15.cells pv sv=C:=⟨_,rfl⟩;rw[hC]at hz hB h0 hT hE ⊢;have Heq:=Lib.hid hE;have Hz:=Lib.hid hz;have hi:=Lib.hid (show(Tryz.prog.info? 28).map (·.size)=some C.toArray.size by rw[hz,List.size_toArray]);have HO:=Lib.hid hB;have HT:=Lib.hid hT;have Hu:=Lib.hid hu;have Hd:=Lib.hid hd;have Hpv:=Lib.hid hI;have Hsv:=Lib.hid hH;have H0:=Lib.hid h0;clear hz hB hT hu hd hI hH hE hC h0
 go_upto_region 7 with(with_reducible refine wpList_store_mid rfl 28 _ _ rfl w4.heap.size 0 C.toArray rfl rfl HT.out hi.out HO.out ?_)
 obtain⟨b,hb⟩:∃ b,w4.heap.size=b:=⟨_,rfl⟩;have hr:(w4.alloc (.cells Tryz.zeroCells28 28)).heap.size=b+1:=by rw[World.size_alloc,hb]
 change Code.wp _ _ _ _ (World.setCells (w4.alloc (.cells Tryz.zeroCells28 28)) w4.heap.size 0 C.toArray.toList)
 have hR:(World.setCells (w4.alloc (.cells Tryz.zeroCells28 28)) w4.heap.size 0 C.toArray.toList).rangeAt w4.heap.size 0 C:=by
  have:=World.rangeAt_setCells_same _ w4.heap.size 0 C.toArray.toList (by simpa using HT.out);simpa using this
 have hF:Fr NoB w4 (World.setCells (w4.alloc (.cells Tryz.zeroCells28 28)) w4.heap.size 0 C.toArray.toList):=(Fr.refl.alloc _).trans (z8 _ _ _ _) (fun k _ hm => .inr (by omega))
 have hM:b<(World.setCells (w4.alloc (.cells Tryz.zeroCells28 28)) w4.heap.size 0 C.toArray.toList).heap.size:=by
  have:=(z8 w4.heap.size C.toArray.toList 0 (w4.alloc (.cells Tryz.zeroCells28 28))).size;omega
 obtain⟨W,hW⟩:∃ W,World.setCells (w4.alloc (.cells Tryz.zeroCells28 28)) w4.heap.size 0 C.toArray.toList=W:=⟨_,rfl⟩;rw[hW]at hR hF hM ⊢;rw[hb]at hR ⊢;have c0:W.cell? ⟨b,0,none⟩=some (.int .i64 1):=by simpa using hR 0 _ H0.out
 have hV:=Lib.hid (Hpv.out.fr hF (fun _ _ _ _ h=>h));have hU:=Lib.hid (Hsv.out.fr hF (fun _ _ _ h=>h));have ht:=Lib.hid (hk.out.trans' hF);have HR:=Lib.hid hR;have Hlt:=Lib.hid hM;clear hR hF hM hW hb hr HT hi HO Hpv Hsv H0 hk;have HH:Hid (Fr NoB W W.drew)∧W.drew.cell? ⟨b,0,none⟩=some (.int .i64 1):=⟨Lib.hid Fr.refl.drew,by simpa using c0⟩;obtain⟨A1,hh⟩:∃ x,Value.agg (en15.cells (Value.slice none 0 0) (Value.slice (some ⟨g,0,none⟩) 1 1)).toArray=x:=⟨_,rfl⟩;rw[hh];clear hh c0;refine wp_region_held_drew (S:=fun V=>Hid (Fr NoB W V)∧V.cell? ⟨b,0,none⟩=some (.int .i64 1)) (by kernel_rfl) HH (fun hA=>?_);simp only[qV]
 iterate 3
  refine qt (v:=?_) rfl (Or.inl ⟨by rfl,?_⟩) hA ?_;rotate_left
  ·intro W hO;obtain⟨-,hq⟩:=hO
   try simp only[qQ]
   go_simp
   try rw[if_neg (by omega)]
   try with_reducible rfl
  try simp only[Act.put,qP]
 refine qi (i:=3) rfl (yieldsIf_load_mid (by rfl) 28 _ rfl b 0 rfl C d (fun V h=>jf HR.out h.1.out Hlt.out (fun _ h=>h)) Hu.out Hd.out Hz.out) hA ?_
 try simp only[Act.put,qP]
 refine qr (i:=4) (by kernel_rfl) rfl (fun K hK=>?_)
 try simp only[qQ]
 go_simp;refine(Ho.out _).mono ?_;rintro r w5 ⟨⟨g2,rfl,hD⟩,hQ⟩;refine hK.out _ _ ⟨Lib.hid (hA.1.out.trans' hQ),Fr.cell hQ hA.2⟩ (fun hA=>?_);clear hK K
 try simp only[Act.put,qP]
 have hX:=Lib.hid hD;have hj:=Lib.hid hA.1.out;clear hD hQ;refine qr (i:=5) (by kernel_rfl) rfl (fun K hK=>?_)
 try simp only[qQ]
 go_simp;refine(Heq.out _ _ _ _ (hV.out.fr hj.out (fun _ _ _ _ h=>h)) (hU.out.fr hj.out (fun _ _ _ h=>h)) (SB.nil _ _ 0) hX.out).mono ?_;rintro r w6 ⟨rfl,hP⟩;refine hK.out _ _ ⟨Lib.hid (hA.1.out.trans' hP),Fr.cell hP hA.2⟩ (fun hA=>?_);clear hK K
 try simp only[Act.put,qP]
 have hv:=Lib.hid (ht.out.trans' hA.1.out);clear hP
 iterate 7
  refine qt (v:=?_) rfl (Or.inl ⟨by rfl,?_⟩) hA ?_;rotate_left
  ·intro W hO;obtain⟨-,hq⟩:=hO
   try simp only[qQ]
   go_simp
   try rw[if_neg (by omega)]
   try with_reducible rfl
  try simp only[Act.put,qP]
 refine wpAnyH_done (by kernel_rfl) ?_ _;clear hA
 go_wp2_with fail
 go_ret;exact⟨rfl,hv.out⟩
end Go.Proofs.YtmgfncjfgkllcaaGreatDoor
namespace Go.Proofs.YtmgfncjfgkllcaaGreatDoor
set_option linter.unusedVariables false
set_option linter.unusedSimpArgs false
set_option linter.unusedSectionVars false
def zue (l:Bs):Nat:=l.foldl (fun a x=>a * 10+(x.toNat - 48)) 0
theorem zg7 (d:Nat)(h:d<10):(UInt8.ofNat (48+d)).toNat=48+d:=by
 have:(UInt8.ofNat (48+d)).toNat=(48+d) % 256:=by simp
 omega
theorem zjk (u:Nat):zue (Lib.decDigits u)=u:=by
 induction u using Nat.strongRecOn with
 | _ u ih =>
   by_cases hu:u<10
   ·rw[Lib.decDigits,dif_pos hu];simp only[zue,List.foldl_cons,List.foldl_nil];rw[zg7 u hu];omega
   rw[Lib.decDigits,dif_neg hu];have:=ih (u / 10) (by omega);unfold zue at this ⊢;rw[List.foldl_append,this];simp only[List.foldl_cons,List.foldl_nil];rw[zg7 (u % 10) (by omega)];omega
theorem zf9 (u:Nat):∀ x∈Lib.decDigits u,x≠32:=by
 have hd:∀ d,d<10→(UInt8.ofNat (48+d))≠32:=fun d h e=>by
  have:=zg7 d h;rw[e]at this;have h32:(32:UInt8).toNat=32:=rfl;omega
 induction u using Nat.strongRecOn with
 | _ u ih =>
   intro x hx;by_cases hu:u<10
   ·rw[Lib.decDigits,dif_pos hu]at hx;simp only[List.mem_singleton]at hx;rw[hx];exact hd u hu
   rw[Lib.decDigits,dif_neg hu]at hx;rcases List.mem_append.1 hx with h | h
   ·exact ih (u / 10) (by omega) x h
   simp only[List.mem_singleton]at h;rw[h];exact hd (u % 10) (by omega)
theorem zmq (n:Nat):Lib.itoa (n:Int)=Lib.decDigits n:=by unfold Lib.itoa;rw[if_neg (by omega)];simp
theorem zif:∀ (l l' r r':Bs),l++32 :: r=l'++32 :: r'→(∀ x∈l,x≠32)→(∀ x∈l',x≠32)→l=l'∧r=r'
 | [],[],r,r',h,_,_=>⟨rfl,by simpa using h⟩
 | [],x :: l',r,r',h,_,h2=>by
   simp only[List.nil_append,List.cons_append,List.cons.injEq]at h;exact absurd h.1.symm (h2 x (List.mem_cons_self ..))
 | x :: l,[],r,r',h,h1,_=>by
   simp only[List.nil_append,List.cons_append,List.cons.injEq]at h;exact absurd h.1 (h1 x (List.mem_cons_self ..))
 | x :: l,y :: l',r,r',h,h1,h2=>by
   simp only[List.cons_append,List.cons.injEq]at h;obtain⟨e1,e2⟩:=zif l l' r r' h.2 (fun z hz=>h1 z (List.mem_cons_of_mem _ hz)) (fun z hz=>h2 z (List.mem_cons_of_mem _ hz));exact⟨by rw[h.1,e1],e2⟩
theorem znb (a b c d:Bs):zfd a b=zfd c d↔a=c∧b=d:=by
 constructor
 ·intro h
  have e:∀ a b:Bs,zfd a b=sDsse++32 :: (Lib.decDigits a.length++32 :: (a++32 :: (Lib.decDigits b.length++32 :: b))):=fun a b=>by
   unfold zfd zco;rw[zmq,zmq];simp[List.append_assoc]
  rw[e,e]at h;have h1:=(List.cons.inj (List.append_cancel_left h)).2;obtain⟨h2,h3⟩:=zif _ _ _ _ h1 (zf9 _) (zf9 _);have hl:a.length=c.length:=by rw[← zjk a.length,h2,zjk]
  obtain⟨h4,h5⟩:=List.append_inj h3 hl;obtain⟨-,h6⟩:=zif _ _ _ _ (List.cons.inj h5).2 (zf9 _) (zf9 _);exact⟨h4,h6⟩
 rintro⟨rfl,rfl⟩;rfl
end Go.Proofs.YtmgfncjfgkllcaaGreatDoor
namespace Go.Proofs.YtmgfncjfgkllcaaGreatDoor
set_option linter.unusedVariables false
set_option linter.unusedSimpArgs false
set_option linter.unusedSectionVars false
open Go.RowKit Go.Sort Go.Shelf
variable [OldK]
set_option maxRecDepth 100000 in
set_option maxHeartbeats 4000000 in
theorem zvf (S S':Nat→Prop) (a b c d:Bs) (bv dv:Value) (w:World) (hgl:Gl w) (hb:SB S b bv w) (hd:SB S' d dv w) :
 Calls Tryz.prog 21 #[.string ⟨a.toArray⟩,bv,.string ⟨c.toArray⟩,dv] w fun e w'=>e = .returned (.bool true)∧Fr NoB w w':=by
 have Hal:=Lib.hid (zri w hgl hgl.old);obtain⟨ab,cb,rfl⟩:=hb.form;obtain⟨ad,cd,rfl⟩:=hd.form;obtain⟨b1,hR⟩:∃ b,decide ((1000:Int)<(List.length a:Int))=b:=⟨_,rfl⟩;obtain⟨b2,hQ⟩:∃ x,decide ((1000:Int)<(List.length b:Int))=x:=⟨_,rfl⟩;obtain⟨b3,hP⟩:∃ b,decide ((1000:Int)<(List.length c:Int))=b:=⟨_,rfl⟩;obtain⟨b4,hO⟩:∃ b,decide ((1000:Int)<(List.length d:Int))=b:=⟨_,rfl⟩
 have Hlen:=Lib.hid (show b1=false→b2=false→b3=false→b4=false→a.length≤1000∧b.length≤1000∧c.length≤1000∧d.length≤1000 from fun h1 h2 h3 h4=>by
  rw[h1,decide_eq_false_iff_not]at hR;rw[h2,decide_eq_false_iff_not]at hQ;rw[h3,decide_eq_false_iff_not]at hP;rw[h4,decide_eq_false_iff_not]at hO
  omega)
 have Hb:=Lib.hid hb;have Hd:=Lib.hid hd;have Hgl:=Lib.hid hgl;clear hb hd hgl;go_enter Tryz.func21,Tryz.ntmps21
 go_wp2_with fail
 refine Hal.out.mono ?_;rintro r w1 ⟨rfl,hK⟩;have hA:=Lib.hid hK;clear hK Hal;cases b1
 case true =>
  go_wp2_with fail
  go_ret;exact⟨rfl,hA.out⟩
 cases b2
 case true =>
  go_wp2_with fail
  go_ret;exact⟨rfl,hA.out⟩
 cases b3
 case true =>
  go_wp2_with fail
  go_ret;exact⟨rfl,hA.out⟩
 cases b4
 case true =>
  go_wp2_with fail
  go_ret;exact⟨rfl,hA.out⟩
 obtain⟨l1,l2,l3,l4⟩:=Hlen.out rfl rfl rfl rfl;have hC:=fun V (h:Fr NoB w V)=>zrf S a b _ V (Hgl.out.fr h (fun _ _ _ h=>h.elim)) (Hb.out.fr h (fun _ _ _ _ h=>h)) (by omega) (by omega)
 have hB:=fun V (h:Fr NoB w V)=>zrf S' c d _ V (Hgl.out.fr h (fun _ _ _ h=>h.elim)) (Hd.out.fr h (fun _ _ _ _ h=>h)) (by omega) (by omega)
 have hM:=Lib.hid hC;have hL:=Lib.hid hB;clear hC hB l1 l2 l3 l4 Hlen
 go_wp2_with fail
 refine(hM.out _ hA.out).mono ?_;rintro r w2 ⟨v1,rfl,hI,hJ⟩;have hN:=Lib.hid (hA.out.trans' hJ);have hG:=Lib.hid hI;clear hJ hI hM
 go_wp2_with fail
 refine(hL.out _ hN.out).mono ?_;rintro r w3 ⟨v2,rfl,hH,hF⟩;have hD:=Lib.hid (hN.out.trans' hF);have hG:=Lib.hid (hG.out.fr hF (fun _ _ _ _ h=>h));have hS:=Lib.hid hH;clear hF hH hL
 go_wp2_with fail
 refine(ztr _ _ _ _ _ _ w3 hG.out hS.out).mono ?_;rintro r w4 ⟨rfl,hw⟩;subst hw;by_cases hE:a=c
 ·subst hE
  have hq:(zfd a b==zfd a d)=(b==d):=by
   rw[Bool.eq_iff_iff,beq_iff_eq,beq_iff_eq,znb];exact⟨fun h=>h.2,fun h=>⟨rfl,h⟩⟩
  rw[hq];have Hs:=Lib.hid (ztr S S' b d _ _ w3 (Hb.out.fr hD.out (fun _ _ _ _ h=>h)) (Hd.out.fr hD.out (fun _ _ _ _ h=>h)));clear hq;obtain⟨q,hq⟩:∃ q,(b==d)=q:=⟨_,rfl⟩;rw[hq]at Hs ⊢;clear hq
  go_wp2_with fail
  refine Hs.out.mono ?_;rintro r w5 ⟨rfl,hw⟩;subst hw
  go_wp2_with fail
  go_ret;exact⟨by simp,hD.out⟩
 have hq:(zfd a b==zfd c d)=false:=by
  rw[Bool.eq_false_iff];intro h;rw[beq_iff_eq,znb]at h;exact hE h.1
 rw[hq];have hne:(a=c)=False:=by simp[hE]
 clear hq
 go_wp2_with fail
 go_ret;exact⟨rfl,hD.out⟩
set_option maxRecDepth 100000 in
set_option maxHeartbeats 2000000 in
theorem zj7 {S:Nat→Prop}(a b:Bs)(bv:Value)(c d:Bs)(dv:Value)(w:World)(hgl:Gl w)(h:SB S b bv w∧SB S d dv w) :
 Calls Tryz.prog 4 #[.agg #[.string ⟨a.toArray⟩,bv,.string ⟨c.toArray⟩,dv]] w fun e w'=>e = .returned (.bool true)∧Fr NoB w w':=by
 have hF:Fr NoB w (w.alloc (.cells #[.string ⟨a.toArray⟩,bv,.string ⟨c.toArray⟩,dv] 40)):=Fr.refl.alloc _;obtain⟨ab,cb,rfl⟩:=h.1.form;obtain⟨ad,cd,rfl⟩:=h.2.form;have Hap:=Lib.hid (zvf S S a b c d _ _ _ (hgl.fr hF (fun _ _ _ h=>h.elim)) (h.1.fr hF (fun _ _ _ _ h=>h)) (h.2.fr hF (fun _ _ _ _ h=>h)));have HF:=Lib.hid hF;clear h hgl hF;go_enter Tryz.func4,Tryz.ntmps4
 go_wp2_with fail
 refine Hap.out.mono ?_;rintro r w1 ⟨rfl,hA⟩;have hB:=Lib.hid (HF.out.trans' hA);clear hA
 go_wp2_with fail
 go_ret;exact⟨rfl,hB.out⟩
end Go.Proofs.YtmgfncjfgkllcaaGreatDoor
