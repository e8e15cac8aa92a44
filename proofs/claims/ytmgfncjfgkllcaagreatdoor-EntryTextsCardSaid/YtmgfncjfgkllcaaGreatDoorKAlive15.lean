/-
 The walk of entry.Parse: the entry of a text.
-/
import Derived.Test.YtmgfncjfgkllcaaGreatDoorKOf
import Derived.Test.YtmgfncjfgkllcaaGreatDoorKValue
import Derived.Test.YtmgfncjfgkllcaaGreatDoorKAuth
import Derived.Test.YtmgfncjfgkllcaaGreatDoorKBackW
import Derived.Test.YtmgfncjfgkllcaaGreatDoorKCheckE
import Derived.Great.BuildSlice
import Derived.Great.Walk
import Derived.OrdersHeld
import Derived.Deep.RegionHeld3
import Derived.Lib.SlBytesConst
open Go.Lib renaming hid→za
open Go.Proofs.Tryz renaming prog→ze
open Go.World renaming rangeAt_setCells_same→zg
open Go renaming heap_alloc_new→zh
open List renaming size_toArray→zn
open Nat renaming le_refl→zt
namespace Go.Proofs.YtmgfncjfgkllcaaGreatDoor
set_option linter.unusedVariables false
set_option linter.unusedSimpArgs false
set_option linter.unusedSectionVars false
set_option maxRecDepth 100000
set_option maxHeartbeats 4000000
section
open Go.RowKit Go.Shelf
variable [OldK]
attribute [local go_sem] Oper.semAt_some
def zlv (B:Nat) (w:World) (R:Option En × Nat) (r:Ending) (w':World):Prop :=
 (match R.1 with
   | some e=>∃ pv sv,r = .returned (.tuple #[.agg (e.cells pv sv).toArray,.nilIface])∧SB (fun k=>B≤k) e.payload pv w'∧GS (fun k=>B≤k) e.sigs sv w'∧e.ok
   | none=>r = .returned (.tuple #[.agg zEn,zf8 R.2]))∧Fr NoB w w'
theorem zjc (S:Nat→Prop) (s:Bs) (bv:Value) (w:World) (hb:SB S s bv w) (hg:Gl w) (ho:OldK.k≤w.heap.size) (hlen:s.length≤140737488351232) :
 Calls ze 18 #[bv] w (zlv w.heap.size w (zb5 zcl s)):=by
 have hT:=zh w (.cells Tryz.zeroCells28 28);have hM:Fr NoB w (w.alloc (.cells Tryz.zeroCells28 28)):=Fr.refl.alloc _;obtain⟨W,hW⟩:∃ x,w.alloc (.cells Tryz.zeroCells28 28)=x:=⟨_,rfl⟩;obtain⟨p2,hp⟩:∃ x,w.heap.size=x:=⟨_,rfl⟩;rw[hW,hp]at hT;rw[hW]at hM;rw[hp]at ho;have hZ:=zq5 S s bv W (hb.fr hM (fun _ _ _ _ h=>h)) (hg.fr hM (fun _ _ _ h=>h.elim)) (by unfold maxLen;omega)
 have hH:(za8 s).2=0→Fits (za8 s).1:=fun h=>by
  refine zin ?_;unfold za8 at h;split at h
  ·cases h
  omega
 unfold zb5;obtain⟨j,hj⟩:∃ x,(za8 s).1=x:=⟨_,rfl⟩;obtain⟨n,hn⟩:∃ x,(za8 s).2=x:=⟨_,rfl⟩;rw[hj,hn]at hZ hH;rw[hj,hn];obtain⟨ba,bc,h1⟩:=hb.form;subst h1;obtain⟨dE,hq,ht⟩:=j7;have hh:=za hq;have hl:=za ht;have hu:=za (show(Tryz.prog.info? 28).map (·.size)=some zEn.size by rw[ja];rfl);have hO:=za (show(Tryz.prog.info? 28).map (·.size)=some zEn.toList.length by rw[ja];rfl);have hN:=za (show zEn.all (·.oneCell')=true by unfold zEn;exact En.one rfl rfl);have Hp:=za hp;have hv:=za hT;have hy:=za hM;have Hpc:=za hZ;have Hfit:=za hH;have Hg:=za hg;have hpW:p2<W.heap.size:=jb hT;rw[hp];clear hT hM hZ hH hg hb hq ht hj hn;by_cases h0:n=0
 ·subst h0;rw[if_neg (by simp)];have hF:=fun(x:Value) (V:World) (h:RJ (fun k=>W.heap.size≤k) V j x) (hgV:Gl V) (hoV:OldK.k≤V.heap.size)=>zyb _ j x V h (Hfit.out rfl) hgV hoV
  obtain⟨R,hR⟩:∃ R,pOf zcl j=R:=⟨_,rfl⟩;rw[hR]at hF ⊢;have Hofc:=za hF;clear hF hR;go_enter Tryz.func18,Tryz.ntmps18
  go_wp2_with fail
  clear hW hp;refine Hpc.out.mono ?_;rintro r w1 ⟨x,rfl,hJ,hI⟩;obtain⟨k0,k1,k2,xa,xn,xc,ya,yn,yc,hx⟩:=hJ.form;subst hx;have hU:Fr NoB w1 (w1.alloc (.cells #[.int .i64 k0,.int .i64 k1,.string k2,.slice xa xn xc,.slice ya yn yc] 56)):=Fr.refl.alloc _;have hV:=(hy.out.trans' hI).trans' hU;have hi:=za (Hofc.out _ _ (RJ.kp (Kp.ofFr hU) _ _ hJ) (Hg.out.fr hV (fun _ _ _ h=>h.elim)) (by have:=hV.size;have:=Hp.out;omega));have hX:=za hV;have hQ:=za ((hI.trans' hU).block _ _ hv.out (fun h=>h));have hK:zf8 0 = .nilIface:=rfl;rw[hK];clear hU hV hJ hI Hofc Hpc hK
  go_wp2_with fail
  refine hi.out.mono ?_;rintro r w3 ⟨hC,he⟩;have hw:=za (hX.out.trans' he);have hw23:=hX.out.size;have hP:=za (he.block _ _ hQ.out (fun h=>h));clear he;cases R with
  | none =>
    obtain rfl:r=_:=hC;have hE:=za (show w3.there p2 0 zEn.size from je hP.out (by rw[zcd];exact zt _))
    go_wp2_with (first
     | ((with_reducible refine wpList_buildTo ?_ 28 _ rfl _ rfl zEn ?_ ?_);rfl;kernel_rfl)
     | (with_reducible refine wpList_store_mid rfl 28 _ _ rfl p2 0 zEn rfl rfl hE.out hu.out hN.out ?_))
    have hG:=run_loadVar_mid (P:=ze) (World.setCells w3 p2 0 zEn.toList) p2 0 28 zEn.toList dE (zg w3 p2 0 zEn.toList (by simpa using hE.out)) hh.out hl.out hO.out;refine bodyPost_ret (v := .tuple #[.agg zEn,(.iface 49 (.int .i64 11))]) ?_ rfl ⟨rfl,Fr.trans hw.out (z8 _ _ _ _) (fun k _ hm => .inr (by have:=Hp.out;have h2:k=p2:=hm;omega))⟩;rw[results_cell_tmp rfl];simp only[Array.toArray_toList]at hG;simp[asAddr,Result.andThen,hG]
  | some e =>
    obtain⟨pv,sv,rfl,hY,hc,ha⟩:=hC;have hA:=En.size ha pv sv;obtain⟨qa,qc,hs⟩:=hY.form;obtain⟨q1,q2,hr,-⟩:=id hc;have Hszc:=za (show(Tryz.prog.info? 28).map (·.size)=some (e.cells pv sv).length by rw[ja,hA]);have hD:=za (show(Tryz.prog.info? 28).map (·.size)=some (e.cells pv sv).toArray.size by rw[ja,zn,hA]);have hS:=za (show(e.cells pv sv).toArray.all (·.oneCell')=true from En.one (by rw[hs];rfl) (by rw[hr];rfl));obtain⟨CE,hf⟩:∃ z,e.cells pv sv=z:=⟨_,rfl⟩;rw[hf]at hA Hszc hD hS ⊢;have hE:=za (show w3.there p2 0 CE.toArray.size from je hP.out (by rw[zn,hA];exact zt 70));have Hsb:=za hY;have Hgs:=za hc;have Hok:=za ha;have h3:=za hf;clear hY hc ha hf hs hr
    go_wp2_with(with_reducible refine wpList_store_mid rfl 28 _ _ rfl p2 0 CE.toArray rfl rfl hE.out hD.out hS.out ?_)
    have hG:=run_loadVar_mid (P:=ze) (w3.setCells p2 0 CE) p2 0 28 CE dE (zg w3 p2 0 CE (by simpa using hE.out)) hh.out hl.out Hszc.out;have hd:=z8 p2 CE 0 w3
    have hB:∀ k,(w1.alloc (.cells #[.int .i64 k0,.int .i64 k1,.string k2,.slice xa xn xc,.slice ya yn yc] 56)).heap.size≤k→p2<k:=fun k hk=>by
     have:=jb hQ.out;omega
    refine bodyPost_ret (v := .tuple #[.agg CE.toArray,.nilIface]) ?_ rfl ⟨⟨pv,sv,by rw[h3.out],?_,?_,Hok.out⟩,hw.out.trans hd (fun k _ hm => .inr (by have:=Hp.out;have h2:k=p2:=hm;omega))⟩
    ·rw[results_cell_tmp rfl];simp[asAddr,Result.andThen,hG]
    ·exact Hsb.out.kp (fun k o hk ho _=>⟨by have:=hB k hk;omega,hd.block k o ho (fun h=>by have h2:k=p2:=h;have:=hB k hk;omega)⟩)
    have hz:=Hgs.out.fr hd (fun k o hk h=>by have h2:k=p2:=h;have:=hB k hk;omega);obtain⟨qa,qc,q1,q2,q3 | ⟨qb,qo,q4,q5,q6,q7⟩⟩:=hz
    ·exact⟨qa,qc,q1,q2,.inl q3⟩
    exact⟨qa,qc,q1,q2,.inr ⟨qb,qo,q4,by have:=hB qb q5;omega,q6,q7⟩⟩
 rw[if_pos h0];have hK:zf8 n = .iface 49 (.int .i64 n):=by unfold zf8;rw[if_neg h0]
 show Calls _ _ _ _ fun r w'=>r = .returned (.tuple #[.agg zEn,zf8 n])∧Fr NoB w w'
 rw[hK];simp only[hK]at Hpc;have hnc:True:=trivial;clear hK h0;go_enter Tryz.func18,Tryz.ntmps18
 go_wp2_with fail
 clear hW hp;refine Hpc.out.mono ?_;rintro r w1 ⟨x,rfl,hJ,hI⟩;obtain⟨k0,k1,k2,xa,xn,xc,ya,yn,yc,hx⟩:=hJ.form;subst hx;have hX:=za ((hy.out.trans' hI).alloc (.cells #[.int .i64 k0,.int .i64 k1,.string k2,.slice xa xn xc,.slice ya yn yc] 56));have hL:=(hI.alloc (.cells #[.int .i64 k0,.int .i64 k1,.string k2,.slice xa xn xc,.slice ya yn yc] 56)).block _ _ hv.out (fun h=>h);have hE:=za (show(w1.alloc (.cells #[.int .i64 k0,.int .i64 k1,.string k2,.slice xa xn xc,.slice ya yn yc] 56)).there p2 0 zEn.size from je hL (by rw[zcd];exact zt _));clear hL hJ hI Hpc
 go_wp2_with (first
  | ((with_reducible refine wpList_buildTo ?_ 28 _ rfl _ rfl zEn ?_ ?_);rfl;kernel_rfl)
  | (with_reducible refine wpList_store_mid rfl 28 _ _ rfl p2 0 zEn rfl rfl hE.out hu.out hN.out ?_))
 have hG:=run_loadVar_mid (P:=ze) (World.setCells (w1.alloc (.cells #[.int .i64 k0,.int .i64 k1,.string k2,.slice xa xn xc,.slice ya yn yc] 56)) p2 0 zEn.toList) p2 0 28 zEn.toList dE (zg (w1.alloc (.cells #[.int .i64 k0,.int .i64 k1,.string k2,.slice xa xn xc,.slice ya yn yc] 56)) p2 0 zEn.toList (by simpa using hE.out)) hh.out hl.out hO.out;refine bodyPost_ret (v := .tuple #[.agg zEn,(.iface 49 (.int .i64 n))]) ?_ rfl ⟨rfl,Fr.trans hX.out (z8 _ _ _ _) (fun k _ hm => .inr (by have:=Hp.out;have h2:k=p2:=hm;omega))⟩;rw[results_cell_tmp rfl];simp only[Array.toArray_toList]at hG;simp[asAddr,Result.andThen,hG]
end
section
open Go.RowKit Go.Shelf
variable [OldK]
attribute [local go_sem] Oper.semAt_some
theorem zmh {b:Bs}(hb:zcl b=true):b.length≤2048:=by
 unfold zcl zb4 at hb;split at hb
 ·cases hb
 omega
theorem ztn {e:En}(h:zad zcl e=true):zwy (zee e)=zdr zcl e:=by
 unfold zwy zdr;rw[if_pos (zg2 (zeo h)),if_pos h]
theorem zq3 (S S':Nat→Prop) (e:En) (pv sv:Value) (w:World) (hfine:Fine S S' e pv sv w) :
 Calls ze 17 #[.agg (e.cells pv sv).toArray] w fun r w'=>∃ x,r = .returned (.tuple #[x,zf8 (zdr zcl e).2])∧SB (fun k=>w.heap.size≤k) (zdr zcl e).1 x w'∧Fr NoB w w':=by
 cases hA:zad zcl e with
 | false =>
   have hP:zdr zcl e=([],11):=by unfold zdr;rw[hA];rfl
   rw[hP];have hv:=fun V (h:Fr NoB w V)=>zoy S S' e pv sv V (hfine.fr h) hA
   have hG:=hfine.ok;have hR:(w.alloc (.cells (e.cells pv sv).toArray 28)).rangeAt w.heap.size 0 (e.cells pv sv):=by simpa using jh (zh w (.cells (e.cells pv sv).toArray 28))
   have hF:Fr NoB w (w.alloc (.cells (e.cells pv sv).toArray 28)):=Fr.refl.alloc _;have hz:(Tryz.prog.info? 28).map (·.size)=some (e.cells pv sv).length:=by rw[ja,En.size hG]
   clear hA hP hfine hG;obtain⟨C,hC⟩:∃ C,e.cells pv sv=C:=⟨_,rfl⟩;rw[hC]at hR hF hz hv ⊢;have Hv:=za hv;have Hz:=za hz;obtain⟨d,hu,hd⟩:=j7;have Hu:=za hu;have Hd:=za hd;clear hz hu hd hC hv;go_enter Tryz.func17,Tryz.ntmps17
   go_upto_region 1 with(fail)
   change Code.wp _ _ _ _ (w.alloc (.cells C.toArray 28));obtain⟨W,hI⟩:∃ W,w.alloc (.cells C.toArray 28)=W:=⟨_,rfl⟩;rw[hI]at hR hF ⊢;obtain⟨p,hp⟩:∃ p,w.heap.size=p:=⟨_,rfl⟩;rw[hp]at hR ⊢;have Hp:=za hp;have HR:=za hR;have HF:=za hF;clear hR hF hI hp
   go_wp2_with((with_reducible refine wpList_load_mid ?_ 28 _ rfl p 0 ?_ C d HR.out Hu.out ?_ Hz.out ?_);rfl;rfl;exact Hd.out)
   refine(Hv.out _ HF.out).mono ?_;rintro r w1 ⟨rfl,hB⟩;unfold z5;have hL:=za (HF.out.trans' hB);clear hB
   go_wp2_with fail
   go_ret2;exact⟨_,rfl,SB.nil _ _ _,hL.out.alloc _⟩
 | true =>
   have ho:=zeo hA;have hH:=znh ho hfine.ok (fun _ h=>zmh h) (N:=67108864) (by decide);have hO:=zvh ho hfine.ok (fun _ h=>zmh h);have hD:=fun S0 v V (h:RJ S0 V (zee e) v) (hg:Gl V)=>zxx 19 zec S0 (zee e) v V h hH (zvi (by decide) e) hg (by omega)
   rw[ztn hA]at hD;have hv:=fun V (h:Fr NoB w V)=>zqf S S' e pv sv V (hfine.fr h) hA
   have hG:=hfine.ok;have hR:(w.alloc (.cells (e.cells pv sv).toArray 28)).rangeAt w.heap.size 0 (e.cells pv sv):=by simpa using jh (zh w (.cells (e.cells pv sv).toArray 28))
   have hF:Fr NoB w (w.alloc (.cells (e.cells pv sv).toArray 28)):=Fr.refl.alloc _;have hz:(Tryz.prog.info? 28).map (·.size)=some (e.cells pv sv).length:=by rw[ja,En.size hG]
   have Hgl:=za hfine.gl;obtain⟨J,hJ⟩:∃ J,zee e=J:=⟨_,rfl⟩;rw[hJ]at hv hD;obtain⟨P,hP⟩:∃ P,zdr zcl e=P:=⟨_,rfl⟩;rw[hP]at hD ⊢;obtain⟨X,n⟩:=P;have Hpt:=za hD;clear hA hP hfine hG hJ hD hO hH ho;obtain⟨E,hE⟩:∃ E,zf8 n=E:=⟨_,rfl⟩;simp only[hE]at Hpt ⊢;have HE:=za hE;clear hE;obtain⟨C,hC⟩:∃ C,e.cells pv sv=C:=⟨_,rfl⟩;rw[hC]at hR hF hz hv ⊢;have Hv:=za hv;have Hz:=za hz;obtain⟨d,hu,hd⟩:=j7;have Hu:=za hu;have Hd:=za hd;clear hz hu hd hC hv;go_enter Tryz.func17,Tryz.ntmps17
   go_upto_region 1 with(fail)
   change Code.wp _ _ _ _ (w.alloc (.cells C.toArray 28));obtain⟨W,hI⟩:∃ W,w.alloc (.cells C.toArray 28)=W:=⟨_,rfl⟩;rw[hI]at hR hF ⊢;obtain⟨p,hp⟩:∃ p,w.heap.size=p:=⟨_,rfl⟩;rw[hp]at hR ⊢;have Hp:=za hp;have HR:=za hR;have HF:=za hF;clear hR hF hI hp
   go_wp2_with((with_reducible refine wpList_load_mid ?_ 28 _ rfl p 0 ?_ C d HR.out Hu.out ?_ Hz.out ?_);rfl;rfl;exact Hd.out)
   refine(Hv.out _ HF.out).mono ?_;rintro r w1 ⟨x,rfl,hN,hB⟩;obtain⟨k0,k1,k2,xa,xn,xc,ya,yn,yc,hx⟩:=hN.form;subst hx;have Hrj:=za hN;have hL:=za (HF.out.trans' hB);have hW1:=hB.size;clear hB hN;have hK:Fr NoB w1 (w1.alloc (.cells #[.int .i64 k0,.int .i64 k1,.string k2,.slice xa xn xc,.slice ya yn yc] 56)):=Fr.refl.alloc _;have hQ:=za (Hpt.out _ _ _ (RJ.kp (Kp.ofFr hK) _ _ Hrj.out) (Hgl.out.fr (hL.out.trans' hK) (fun _ _ _ h=>h.elim)));have hT:=za (hL.out.trans' hK);clear hK Hpt
   go_wp2_with fail
   refine hQ.out.mono ?_;rintro r w5 ⟨x,rfl,hM,hS⟩;obtain⟨ya,yc,rfl⟩:=hM.form;have Hsb:=za hM;have hU:=za (hT.out.trans' hS);clear hM hS
   go_wp2_with fail
   go_ret2;exact⟨_,rfl,Hsb.out.kp (fun b o hb ho _=>⟨Nat.le_trans hT.out.size hb,ho⟩),hU.out⟩
end
section
open Go.RowKit Go.Sort Go.Shelf
variable [OldK]
theorem zkk {sub:Bs→Bool} {e:En} (h:zad sub e=true) (he:e.ok) (hl:(zcx (zee e)).length≤4096):zb5 sub (zcx (zee e))=(some e,0):=by
 have h1:za8 (zcx (zee e))=(zee e,0):=by
  unfold za8;rw[if_neg (by omega),ziv,zmk _ (zg2 (zeo h))]
 unfold zb5;rw[h1,zw2 h he];rfl
def zya:Bs:=List.replicate 64 0
def sg15:Sg:=⟨[97,108,105,99,101],jc,zya⟩
def en15:En:=⟨1,jc,[],[],0,[],jc,[sg15]⟩
theorem zda:en15.ok:=⟨rfl,rfl,fun s hs=>by
 simp only[en15,List.mem_singleton]at hs;subst hs
 exact⟨rfl,rfl⟩⟩
theorem zsm:zad zcl en15=true:=by
 have h1:zd2 [sg15]=true:=by decide +kernel
 have h2:zit (zab en15) (qu 1 [sg15])=true:=by
  unfold zit zab en15 qu;simp[zed]
 unfold zad;show(zra _ en15&&(zd2 [sg15]&&zit (zab en15) (qu 1 [sg15])))=_;rw[h1,h2];rfl
theorem zl9:(zcx (zee en15)).length≤4096:=by
 rw[ziv];decide +kernel
theorem zxy:zdr zcl en15=(zcx (zee en15),0):=by
 unfold zdr;rw[zsm,if_pos rfl,if_neg (by have:=zl9;omega)]
theorem zwu:zit en15 en15=true:=by
 unfold zit en15;simp[zed]
theorem zxn:zrc [97] [98,99]=[68,83,83,69,118,49,32,49,32,97,32,50,32,98,99]:=by decide +kernel
theorem zvz (w:World):Calls ze 57 #[] w fun e w'=>(∃ g,e = .returned (.agg (en15.cells (.slice none 0 0) (.slice (some ⟨g,0,none⟩) 1 1)).toArray)∧GS (fun k=>w.heap.size≤k) [sg15] (.slice (some ⟨g,0,none⟩) 1 1) w')∧Fr NoB w w':=by
 obtain⟨d,hu,hd⟩:=j7;have Hu:=za hu;have Hd:=za hd;clear hu hd;have hA:(w.alloc (.cells Tryz.zeroCells28 28)).heap.size=w.heap.size+1:=by rw[World.size_alloc]
 have hH:=zh w (.cells Tryz.zeroCells28 28);have hD:=zh (w.alloc (.cells Tryz.zeroCells28 28)) (.cells sg15.cells 115);rw[hA]at hD
 have hG:((w.alloc (.cells Tryz.zeroCells28 28)).alloc (.cells sg15.cells 115)).heap[w.heap.size]? = some (.cells Tryz.zeroCells28 28):=by
  rw[Below.heap_alloc _ _ _ (by omega)];exact hH
 have hE:=za (show((w.alloc (.cells Tryz.zeroCells28 28)).alloc (.cells sg15.cells 115)).there w.heap.size 0 (en15.cells (.slice none 0 0) (.slice (some ⟨w.heap.size+1,0,none⟩) 1 1)).toArray.size from je hG (by rw[zn,En.size zda];exact zt _));have Hz:=za (show(Tryz.prog.info? 28).map (·.size)=some (en15.cells (.slice none 0 0) (.slice (some ⟨w.heap.size+1,0,none⟩) 1 1)).length by rw[ja,En.size zda]);have hK:=za (show(Tryz.prog.info? 28).map (·.size)=some (en15.cells (.slice none 0 0) (.slice (some ⟨w.heap.size+1,0,none⟩) 1 1)).toArray.size by rw[ja,zn,En.size zda]);have HO:=za (En.one (e:=en15) (pv := .slice none 0 0) (sv := .slice (some ⟨w.heap.size+1,0,none⟩) 1 1) rfl rfl);have HA:=za hA;have hI:=za hD;clear hA hH hD hG;go_enter Tryz.func57,Tryz.ntmps57
 go_wp2_with (first
  | ((with_reducible refine wpList_buildTo ?_ 115 _ rfl _ rfl sg15.cells ?_ ?_);rfl;kernel_rfl)
  | ((with_reducible refine Great.wpList_buildSliceTo ?_ 26 115 1 _ rfl (w.heap.size+1) HA.out _ rfl Tryz.underlying26 sg15.cells ?_ ?_);rfl;kernel_rfl)
  | ((with_reducible refine wpList_buildTo ?_ 28 _ rfl _ rfl (en15.cells (.slice none 0 0) (.slice (some ⟨w.heap.size+1,0,none⟩) 1 1)).toArray ?_ ?_);rfl;kernel_rfl)
  | ((with_reducible refine wpList_store_mid ?_ 28 _ _ rfl w.heap.size 0 (en15.cells (.slice none 0 0) (.slice (some ⟨w.heap.size+1,0,none⟩) 1 1)).toArray ?_ ?_ hE.out hK.out HO.out ?_);rfl;rfl;rfl))
 obtain⟨C,hC⟩:∃ C,en15.cells (.slice none 0 0) (.slice (some ⟨w.heap.size+1,0,none⟩) 1 1)=C:=⟨_,rfl⟩;have HC:=za hC;rw[hC]at hE Hz ⊢;have hJ:=run_loadVar_mid (P:=ze) _ w.heap.size 0 28 C d (zg _ w.heap.size 0 C (by simpa using hE.out)) Hu.out Hd.out Hz.out;have hF:Fr NoB w ((((w.alloc (.cells Tryz.zeroCells28 28)).alloc (.cells sg15.cells 115)).setCells w.heap.size 0 C)):=((Fr.refl.alloc _).alloc _).trans (z8 _ _ _ _) (fun k _ hm => .inr (by omega));refine bodyPost_ret (v := .agg C.toArray) ?_ rfl ⟨⟨w.heap.size+1,by rw[HC.out],?_⟩,hF⟩
 ·rw[j5 rfl];simp[asAddr,Result.andThen,hJ,Act.put]
 have h0:GS (fun k=>w.heap.size+1≤k) [sg15] (.slice (some ⟨w.heap.size+1,0,none⟩) 1 1) ((w.alloc (.cells Tryz.zeroCells28 28)).alloc (.cells sg15.cells 115)):=by
  refine⟨_,_,rfl,zt _,.inr ⟨w.heap.size+1,0,rfl,zt _,jb hI.out,fun i hi=>?_⟩⟩;obtain rfl:i=0:=by simpa using hi
  exact jh hI.out
 obtain⟨a,c,e1,e2,h | ⟨b,o,e3,hb,hB⟩⟩:=h0.fr (z8 w.heap.size C 0 _) (fun k _ hk hm=>by omega)
 ·exact absurd h (by simp)
 exact⟨a,c,e1,e2,.inr ⟨b,o,e3,by omega,hB⟩⟩
theorem SB.cst (l:Bs)(w:World)(cap:Nat)(fr:Nat × Nat)(cs:Array Value)(hcs:cs.toList=l.map fun c=>Value.int .u8 (c.toNat:Int))(hcp:l.length≤cap:=by decide):SB (fun k=>k=w.heap.size) l (.slice (some ⟨w.heap.size,0,none⟩) l.length cap) (w.alloc (.cells cs 5 fr)):=by
 refine⟨_,cap,rfl,hcp,.inr ⟨w.heap.size,0,cs,_,fr,rfl,rfl,⟨zh w _,.inl rfl⟩,fun j hj=>?_⟩⟩;rw[Nat.zero_add,← Array.getElem?_toList,hcs];simp[hj]
theorem zss (w:World) (hgl:Gl w) (ho:OldK.k≤w.heap.size):Calls ze 15 #[] w fun e w'=>e = .returned (.bool true)∧Fr NoB w w':=by
 have kc:=fun(w:World) (C:Array Value) (n c:Nat)=>Lib.run_convert_bytes_const (P:=ze) w 24 5 C n c Tryz.underlying24 Tryz.underlying5
 have hS:=(Fr.refl (M:=NoB)).alloc (w:=w) (.cells #[.int .u8 98,.int .u8 99] 5 (2,3));have hN:=zxm _ [97] [98,99] _ _ (hgl.fr hS (fun _ _ _ h=>h.elim)) (SB.cst [98,99] w 2 (2,3) #[.int .u8 98,.int .u8 99] rfl) (by decide) (by decide);rw[zxn]at hN;have Hau:=za hN;have hn:=za hS;clear hN hS;have Hgl:=za hgl;have Hso:=za ho;clear ho hgl;go_enter Tryz.func15,Tryz.ntmps15
 go_wp2_with fail
 refine Hau.out.mono ?_;rintro e w1 ⟨v,rfl,hZ,hg⟩;have hp:=hZ.text;have hl:=za (hn.out.trans' hg);clear hg hZ Hau hn;have Ho:=za (fun W=>zvz W)
 go_wp2_with fail
 refine(Ho.out _).mono ?_;rintro e w2 ⟨⟨g,rfl,ha⟩,hf⟩;have hY:=za (hl.out.trans' hf)
 have hJ:=zq3 (fun _=>True) _ en15 (.slice none 0 0) (.slice (some ⟨g,0,none⟩) 1 1) w2 ⟨zda,SB.nil _ w2 0,ha,Hgl.out.fr hY.out (fun _ _ _ h=>h.elim),Nat.zero_le _,Nat.zero_le _,Nat.zero_le _,(by show 1≤1000;omega),(fun s hs=>by
  simp only[en15,List.mem_singleton]at hs;subst hs
  show 5≤1000000;omega)⟩
 rw[zxy]at hJ;have Hpu:=za hJ;clear hJ ha hf hl hp
 go_wp2_with fail
 refine Hpu.out.mono ?_;rintro e w3 ⟨y,rfl,hy,he⟩;rw[show zf8 (zcx (zee en15),0).2 = .nilIface from rfl];have hG:=za (hY.out.trans' he);have hL:=zjc _ (zcx (zee en15)) y w3 hy (Hgl.out.fr hG.out (fun _ _ _ h=>h.elim)) (Nat.le_trans Hso.out hG.out.size) (by have:=zl9;omega);rw[zkk zsm zda zl9]at hL;have Hpa:=za hL;clear hL hy he hY Hpu
 go_wp2_with fail
 refine Hpa.out.mono ?_;rintro r w4 ⟨⟨pv,sv,rfl,hI,hH,-⟩,hc⟩;have hk:=za (hG.out.trans' hc);clear hc Hpa hG;obtain⟨d,hu,hd⟩:=j7;have hz:(Tryz.prog.info? 28).map (·.size)=some (en15.cells pv sv).length:=by rw[ja,En.size zda]
 have hB:=En.one (e:=en15) (pv:=pv) (sv:=sv) (by obtain⟨_,_,rfl⟩:=hI.form;rfl) (by obtain⟨_,_,rfl,-⟩:=hH;rfl);have h0:(en15.cells pv sv)[0]? = some (.int .i64 1):=rfl;have hT:(w4.alloc (.cells Tryz.zeroCells28 28)).there w4.heap.size 0 (en15.cells pv sv).toArray.size:=je (zh w4 _) (by rw[zn,En.size zda];exact zt _);have hE:=fun(S:Nat→Prop) (p2 s2:Value) (V:World) (h1:SB (fun k=>w3.heap.size≤k) en15.payload pv V) (h2:GS (fun k=>w3.heap.size≤k) en15.sigs sv V) (h3:SB S en15.payload p2 V) (h4:GS S en15.sigs s2 V)=>zsd _ S _ S en15 en15 pv p2 sv s2 V zda zda h1 h3 h2 h4 (Nat.zero_le _) (by show 1≤1000000;omega)
 rw[zwu]at hE;obtain⟨C,hC⟩:∃ C,en15.cells pv sv=C:=⟨_,rfl⟩;rw[hC]at hz hB h0 hT hE ⊢;have Heq:=za hE;have Hz:=za hz;have hi:=za (show(Tryz.prog.info? 28).map (·.size)=some C.toArray.size by rw[hz,zn]);have HO:=za hB;have HT:=za hT;have Hu:=za hu;have Hd:=za hd;have Hpv:=za hI;have Hsv:=za hH;have H0:=za h0;clear hz hB hT hu hd hI hH hE hC h0
 go_upto_region 7 with(with_reducible refine wpList_store_mid rfl 28 _ _ rfl w4.heap.size 0 C.toArray rfl rfl HT.out hi.out HO.out ?_)
 obtain⟨b,hb⟩:∃ b,w4.heap.size=b:=⟨_,rfl⟩;have hr:(w4.alloc (.cells Tryz.zeroCells28 28)).heap.size=b+1:=by rw[World.size_alloc,hb]
 change Code.wp _ _ _ _ (World.setCells (w4.alloc (.cells Tryz.zeroCells28 28)) w4.heap.size 0 C.toArray.toList)
 have hR:(World.setCells (w4.alloc (.cells Tryz.zeroCells28 28)) w4.heap.size 0 C.toArray.toList).rangeAt w4.heap.size 0 C:=by
  have:=zg _ w4.heap.size 0 C.toArray.toList (by simpa using HT.out);simpa using this
 have hF:Fr NoB w4 (World.setCells (w4.alloc (.cells Tryz.zeroCells28 28)) w4.heap.size 0 C.toArray.toList):=(Fr.refl.alloc _).trans (z8 _ _ _ _) (fun k _ hm => .inr (by omega))
 have hM:b<(World.setCells (w4.alloc (.cells Tryz.zeroCells28 28)) w4.heap.size 0 C.toArray.toList).heap.size:=by
  have:=(z8 w4.heap.size C.toArray.toList 0 (w4.alloc (.cells Tryz.zeroCells28 28))).size;omega
 obtain⟨W,hW⟩:∃ W,World.setCells (w4.alloc (.cells Tryz.zeroCells28 28)) w4.heap.size 0 C.toArray.toList=W:=⟨_,rfl⟩;rw[hW]at hR hF hM ⊢;rw[hb]at hR ⊢;have c0:W.cell? ⟨b,0,none⟩=some (.int .i64 1):=by simpa using hR 0 _ H0.out
 have hV:=za (Hpv.out.fr hF (fun _ _ _ _ h=>h));have hU:=za (Hsv.out.fr hF (fun _ _ _ h=>h));have ht:=za (hk.out.trans' hF);have HR:=za hR;have Hlt:=za hM;clear hR hF hM hW hb hr HT hi HO Hpv Hsv H0 hk;have HH:Hid (Fr NoB W W.drew)∧W.drew.cell? ⟨b,0,none⟩=some (.int .i64 1):=⟨za Fr.refl.drew,by simpa using c0⟩;obtain⟨A1,hh⟩:∃ x,Value.agg (en15.cells (Value.slice none 0 0) (Value.slice (some ⟨g,0,none⟩) 1 1)).toArray=x:=⟨_,rfl⟩;rw[hh];clear hh c0;refine wp_region_held_drew (S:=fun V=>Hid (Fr NoB W V)∧V.cell? ⟨b,0,none⟩=some (.int .i64 1)) (by kernel_rfl) HH (fun hA=>?_);simp only[qV]
 iterate 3
  refine qt (v:=?_) rfl (Or.inl ⟨by rfl,?_⟩) hA ?_;rotate_left
  ·intro W hO;obtain⟨-,hq⟩:=hO
   try simp only[qQ]
   go_simp
   try rw[if_neg (by omega)]
   try with_reducible rfl
  try simp only[Act.put,qP]
 refine qi (i:=3) rfl (yieldsIf_load_mid (by rfl) 28 _ rfl b 0 rfl C d (fun V h=>jf HR.out h.1.out Hlt.out (fun _ h=>h)) Hu.out Hd.out Hz.out) hA ?_
 try simp only[Act.put,qP]
 refine qr (i:=4) (by kernel_rfl) rfl (fun K hK=>?_)
 try simp only[qQ]
 go_simp;refine(Ho.out _).mono ?_;rintro r w5 ⟨⟨g2,rfl,hD⟩,hQ⟩;refine hK.out _ _ ⟨za (hA.1.out.trans' hQ),Fr.cell hQ hA.2⟩ (fun hA=>?_);clear hK K
 try simp only[Act.put,qP]
 have hX:=za hD;have hj:=za hA.1.out;clear hD hQ;refine qr (i:=5) (by kernel_rfl) rfl (fun K hK=>?_)
 try simp only[qQ]
 go_simp;refine(Heq.out _ _ _ _ (hV.out.fr hj.out (fun _ _ _ _ h=>h)) (hU.out.fr hj.out (fun _ _ _ h=>h)) (SB.nil _ _ 0) hX.out).mono ?_;rintro r w6 ⟨rfl,hP⟩;refine hK.out _ _ ⟨za (hA.1.out.trans' hP),Fr.cell hP hA.2⟩ (fun hA=>?_);clear hK K
 try simp only[Act.put,qP]
 have hv:=za (ht.out.trans' hA.1.out);clear hP
 iterate 7
  refine qt (v:=?_) rfl (Or.inl ⟨by rfl,?_⟩) hA ?_;rotate_left
  ·intro W hO;obtain⟨-,hq⟩:=hO
   try simp only[qQ]
   go_simp
   try rw[if_neg (by omega)]
   try with_reducible rfl
  try simp only[Act.put,qP]
 refine wpAnyH_done (by kernel_rfl) ?_ _;clear hA
 go_wp2_with fail
 go_ret;exact⟨rfl,hv.out⟩
end
end Go.Proofs.YtmgfncjfgkllcaaGreatDoor
