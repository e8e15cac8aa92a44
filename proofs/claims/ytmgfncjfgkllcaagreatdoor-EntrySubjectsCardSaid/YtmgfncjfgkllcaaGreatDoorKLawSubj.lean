/-
 From an array of bytes that can be read as data to bytes;a world in which the tables lie;what a walk keeps.
-/
import Derived.Test.YtmgfncjfgkllcaaGreatDoorKEnAt
import Derived.Test.YtmgfncjfgkllcaaGreatDoorRows
import Derived.Lib.LaidU8
import Derived.ProofKit
import Derived.OpenShut
import Derived.Deep.DeepHandedRow
import Derived.Test.YtmgfncjfgkllcaaGreatDoorKOf
import Derived.Test.YtmgfncjfgkllcaaGreatDoorKValue
import Derived.Test.YtmgfncjfgkllcaaGreatDoorKAuth
import Derived.Test.YtmgfncjfgkllcaaGreatDoorKBackW
import Derived.Test.YtmgfncjfgkllcaaGreatDoorKCheckE
import Derived.Great.BuildSlice
import Derived.Great.Walk
import Derived.OrdersHeld
import Derived.Deep.RegionHeld3
import Derived.Lib.SlBytesConst
import Derived.Test.YtmgfncjfgkllcaaGreatDoorKSigEq
import Derived.Test.YtmgfncjfgkllcaaGreatDoorKSubjects
import Derived.Test.YtmgfncjfgkllcaaGreatDoorKSubjEq
import Derived.Test.YtmgfncjfgkllcaaGreatDoorKReadB
import Derived.Test.YtmgfncjfgkllcaaGreatDoorKNum
open Go.Lib renaming hid→za,byteCells→zb
open Go.Proofs.Tryz renaming prog→ze
open Go.World renaming rangeAt_setCells_same→zg
open Go renaming heap_alloc_new→zh,yieldsIf_load_mid→zj
open List renaming size_toArray→zn
open Nat renaming le_refl→zt
namespace Go.Proofs.YtmgfncjfgkllcaaGreatDoor
set_option linter.unusedVariables false
set_option linter.unusedSimpArgs false
set_option linter.unusedSectionVars false
set_option maxRecDepth 100000
set_option maxHeartbeats 8000000
section
open Go.ChangeShapes Go.WideShapes Go.ChangeAt Go.RowKit
section
variable {H:Type} {enc:TypeId × Value→H}
end
end
section
open Go.RowKit Go.Shelf
variable [OldK]
attribute [local go_sem] Oper.semAt_some
def zv2 (B:Nat) (w:World) (R:Option En × Nat) (r:Ending) (w':World):Prop :=
 (match R.1 with
   | some e=>∃ pv sv,r = .returned (.tuple #[.agg (e.cells pv sv).toArray,.nilIface])∧SB (fun k=>B≤k) e.payload pv w'∧GS (fun k=>B≤k) e.sigs sv w'∧e.ok
   | none=>r = .returned (.tuple #[.agg zEn,zir R.2]))∧Fr NoB w w'
theorem zwz (S:Nat→Prop) (s:Bs) (bv:Value) (w:World) (hb:SB S s bv w) (hg:Gl w) (ho:OldK.k≤w.heap.size) (hlen:s.length≤140737488351232) :
 Calls ze 18 #[bv] w (zv2 w.heap.size w (zlj zh2 s)):=by
 have hT:=zh w (.cells Tryz.zeroCells28 28);have hM:Fr NoB w (w.alloc (.cells Tryz.zeroCells28 28)):=Fr.refl.alloc _;obtain⟨W,hW⟩:∃ x,w.alloc (.cells Tryz.zeroCells28 28)=x:=⟨_,rfl⟩;obtain⟨p2,hp⟩:∃ x,w.heap.size=x:=⟨_,rfl⟩;rw[hW,hp]at hT;rw[hW]at hM;rw[hp]at ho;have hZ:=zub S s bv W (hb.fr hM (fun _ _ _ _ h=>h)) (hg.fr hM (fun _ _ _ h=>h.elim)) (by unfold maxLen;omega)
 have hH:(zaf s).2=0→Fits (zaf s).1:=fun h=>by
  refine zhm ?_;unfold zaf at h;split at h
  ·cases h
  omega
 unfold zlj;obtain⟨j,hj⟩:∃ x,(zaf s).1=x:=⟨_,rfl⟩;obtain⟨n,hn⟩:∃ x,(zaf s).2=x:=⟨_,rfl⟩;rw[hj,hn]at hZ hH;rw[hj,hn];obtain⟨ba,bc,h1⟩:=hb.form;subst h1;obtain⟨dE,hq,ht⟩:=zab;have hh:=za hq;have hl:=za ht;have hu:=za (show(Tryz.prog.info? 28).map (·.size)=some zEn.size by rw[jc];rfl);have hO:=za (show(Tryz.prog.info? 28).map (·.size)=some zEn.toList.length by rw[jc];rfl);have hN:=za (show zEn.all (·.oneCell')=true by unfold zEn;exact En.one rfl rfl);have Hp:=za hp;have hv:=za hT;have hy:=za hM;have Hpc:=za hZ;have Hfit:=za hH;have Hg:=za hg;have hpW:p2<W.heap.size:=jb hT;rw[hp];clear hT hM hZ hH hg hb hq ht hj hn;by_cases h0:n=0
 ·subst h0;rw[if_neg (by simp)];have hF:=fun(x:Value) (V:World) (h:RJ (fun k=>W.heap.size≤k) V j x) (hgV:Gl V) (hoV:OldK.k≤V.heap.size)=>z2j _ j x V h (Hfit.out rfl) hgV hoV
  obtain⟨R,hR⟩:∃ R,pOf zh2 j=R:=⟨_,rfl⟩;rw[hR]at hF ⊢;have Hofc:=za hF;clear hF hR;go_enter Tryz.func18,Tryz.ntmps18
  go_wp2_with fail
  clear hW hp;refine Hpc.out.mono ?_;rintro r w1 ⟨x,rfl,hJ,hI⟩;obtain⟨k0,k1,k2,xa,xn,xc,ya,yn,yc,hx⟩:=hJ.form;subst hx;have hU:Fr NoB w1 (w1.alloc (.cells #[.int .i64 k0,.int .i64 k1,.string k2,.slice xa xn xc,.slice ya yn yc] 56)):=Fr.refl.alloc _;have hV:=(hy.out.trans' hI).trans' hU;have hi:=za (Hofc.out _ _ (RJ.kp (Kp.ofFr hU) _ _ hJ) (Hg.out.fr hV (fun _ _ _ h=>h.elim)) (by have:=hV.size;have:=Hp.out;omega));have hX:=za hV;have hQ:=za ((hI.trans' hU).block _ _ hv.out (fun h=>h));have hK:zir 0 = .nilIface:=rfl;rw[hK];clear hU hV hJ hI Hofc Hpc hK
  go_wp2_with fail
  refine hi.out.mono ?_;rintro r w3 ⟨hC,he⟩;have hw:=za (hX.out.trans' he);have hw23:=hX.out.size;have hP:=za (he.block _ _ hQ.out (fun h=>h));clear he;cases R with
  | none =>
    obtain rfl:r=_:=hC;have hE:=za (show w3.there p2 0 zEn.size from jf hP.out (by rw[zdr];exact zt _))
    go_wp2_with (first
     | ((with_reducible refine wpList_buildTo ?_ 28 _ rfl _ rfl zEn ?_ ?_);rfl;kernel_rfl)
     | (with_reducible refine wpList_store_mid rfl 28 _ _ rfl p2 0 zEn rfl rfl hE.out hu.out hN.out ?_))
    have hG:=run_loadVar_mid (P:=ze) (World.setCells w3 p2 0 zEn.toList) p2 0 28 zEn.toList dE (zg w3 p2 0 zEn.toList (by simpa using hE.out)) hh.out hl.out hO.out;refine bodyPost_ret (v := .tuple #[.agg zEn,(.iface 49 (.int .i64 11))]) ?_ rfl ⟨rfl,Fr.trans hw.out (z8 _ _ _ _) (fun k _ hm => .inr (by have:=Hp.out;have h2:k=p2:=hm;omega))⟩;rw[results_cell_tmp rfl];simp only[Array.toArray_toList]at hG;simp[asAddr,Result.andThen,hG]
  | some e =>
    obtain⟨pv,sv,rfl,hY,hc,ha⟩:=hC;have hA:=En.size ha pv sv;obtain⟨qa,qc,hs⟩:=hY.form;obtain⟨q1,q2,hr,-⟩:=id hc;have Hszc:=za (show(Tryz.prog.info? 28).map (·.size)=some (e.cells pv sv).length by rw[jc,hA]);have hD:=za (show(Tryz.prog.info? 28).map (·.size)=some (e.cells pv sv).toArray.size by rw[jc,zn,hA]);have hS:=za (show(e.cells pv sv).toArray.all (·.oneCell')=true from En.one (by rw[hs];rfl) (by rw[hr];rfl));obtain⟨CE,hf⟩:∃ z,e.cells pv sv=z:=⟨_,rfl⟩;rw[hf]at hA Hszc hD hS ⊢;have hE:=za (show w3.there p2 0 CE.toArray.size from jf hP.out (by rw[zn,hA];exact zt 70));have Hsb:=za hY;have Hgs:=za hc;have Hok:=za ha;have h3:=za hf;clear hY hc ha hf hs hr
    go_wp2_with(with_reducible refine wpList_store_mid rfl 28 _ _ rfl p2 0 CE.toArray rfl rfl hE.out hD.out hS.out ?_)
    have hG:=run_loadVar_mid (P:=ze) (w3.setCells p2 0 CE) p2 0 28 CE dE (zg w3 p2 0 CE (by simpa using hE.out)) hh.out hl.out Hszc.out;have hd:=z8 p2 CE 0 w3
    have hB:∀ k,(w1.alloc (.cells #[.int .i64 k0,.int .i64 k1,.string k2,.slice xa xn xc,.slice ya yn yc] 56)).heap.size≤k→p2<k:=fun k hk=>by
     have:=jb hQ.out;omega
    refine bodyPost_ret (v := .tuple #[.agg CE.toArray,.nilIface]) ?_ rfl ⟨⟨pv,sv,by rw[h3.out],?_,?_,Hok.out⟩,hw.out.trans hd (fun k _ hm => .inr (by have:=Hp.out;have h2:k=p2:=hm;omega))⟩
    ·rw[results_cell_tmp rfl];simp[asAddr,Result.andThen,hG]
    ·exact Hsb.out.kp (fun k o hk ho _=>⟨by have:=hB k hk;omega,hd.block k o ho (fun h=>by have h2:k=p2:=h;have:=hB k hk;omega)⟩)
    have hz:=Hgs.out.fr hd (fun k o hk h=>by have h2:k=p2:=h;have:=hB k hk;omega);obtain⟨qa,qc,q1,q2,q3 | ⟨qb,qo,q4,q5,q6,q7⟩⟩:=hz
    ·exact⟨qa,qc,q1,q2,.inl q3⟩
    exact⟨qa,qc,q1,q2,.inr ⟨qb,qo,q4,by have:=hB qb q5;omega,q6,q7⟩⟩
 rw[if_pos h0];have hK:zir n = .iface 49 (.int .i64 n):=by unfold zir;rw[if_neg h0]
 show Calls _ _ _ _ fun r w'=>r = .returned (.tuple #[.agg zEn,zir n])∧Fr NoB w w'
 rw[hK];simp only[hK]at Hpc;have hnc:True:=trivial;clear hK h0;go_enter Tryz.func18,Tryz.ntmps18
 go_wp2_with fail
 clear hW hp;refine Hpc.out.mono ?_;rintro r w1 ⟨x,rfl,hJ,hI⟩;obtain⟨k0,k1,k2,xa,xn,xc,ya,yn,yc,hx⟩:=hJ.form;subst hx;have hX:=za ((hy.out.trans' hI).alloc (.cells #[.int .i64 k0,.int .i64 k1,.string k2,.slice xa xn xc,.slice ya yn yc] 56));have hL:=(hI.alloc (.cells #[.int .i64 k0,.int .i64 k1,.string k2,.slice xa xn xc,.slice ya yn yc] 56)).block _ _ hv.out (fun h=>h);have hE:=za (show(w1.alloc (.cells #[.int .i64 k0,.int .i64 k1,.string k2,.slice xa xn xc,.slice ya yn yc] 56)).there p2 0 zEn.size from jf hL (by rw[zdr];exact zt _));clear hL hJ hI Hpc
 go_wp2_with (first
  | ((with_reducible refine wpList_buildTo ?_ 28 _ rfl _ rfl zEn ?_ ?_);rfl;kernel_rfl)
  | (with_reducible refine wpList_store_mid rfl 28 _ _ rfl p2 0 zEn rfl rfl hE.out hu.out hN.out ?_))
 have hG:=run_loadVar_mid (P:=ze) (World.setCells (w1.alloc (.cells #[.int .i64 k0,.int .i64 k1,.string k2,.slice xa xn xc,.slice ya yn yc] 56)) p2 0 zEn.toList) p2 0 28 zEn.toList dE (zg (w1.alloc (.cells #[.int .i64 k0,.int .i64 k1,.string k2,.slice xa xn xc,.slice ya yn yc] 56)) p2 0 zEn.toList (by simpa using hE.out)) hh.out hl.out hO.out;refine bodyPost_ret (v := .tuple #[.agg zEn,(.iface 49 (.int .i64 n))]) ?_ rfl ⟨rfl,Fr.trans hX.out (z8 _ _ _ _) (fun k _ hm => .inr (by have:=Hp.out;have h2:k=p2:=hm;omega))⟩;rw[results_cell_tmp rfl];simp only[Array.toArray_toList]at hG;simp[asAddr,Result.andThen,hG]
end
section
open Go.RowKit Go.Shelf
variable [OldK]
attribute [local go_sem] Oper.semAt_some
theorem zt8 {b:Bs}(hb:zh2 b=true):b.length≤2048:=by
 unfold zh2 za7 at hb;split at hb
 ·cases hb
 omega
theorem zw1 {e:En}(h:zce zh2 e=true):z01 (zfx e)=zli zh2 e:=by
 unfold z01 zli;rw[if_pos (ziy (zje h)),if_pos h]
theorem z00 (S S':Nat→Prop) (e:En) (pv sv:Value) (w:World) (hfine:Fine S S' e pv sv w) :
 Calls ze 17 #[.agg (e.cells pv sv).toArray] w fun r w'=>∃ x,r = .returned (.tuple #[x,zir (zli zh2 e).2])∧SB (fun k=>w.heap.size≤k) (zli zh2 e).1 x w'∧Fr NoB w w':=by
 cases hA:zce zh2 e with
 | false =>
   have hP:zli zh2 e=([],11):=by unfold zli;rw[hA];rfl
   rw[hP];have hv:=fun V (h:Fr NoB w V)=>zrd S S' e pv sv V (hfine.fr h) hA
   have hG:=hfine.ok;have hR:(w.alloc (.cells (e.cells pv sv).toArray 28)).rangeAt w.heap.size 0 (e.cells pv sv):=by simpa using jm (zh w (.cells (e.cells pv sv).toArray 28))
   have hF:Fr NoB w (w.alloc (.cells (e.cells pv sv).toArray 28)):=Fr.refl.alloc _;have hz:(Tryz.prog.info? 28).map (·.size)=some (e.cells pv sv).length:=by rw[jc,En.size hG]
   clear hA hP hfine hG;obtain⟨C,hC⟩:∃ C,e.cells pv sv=C:=⟨_,rfl⟩;rw[hC]at hR hF hz hv ⊢;have Hv:=za hv;have Hz:=za hz;obtain⟨d,hu,hd⟩:=zab;have Hu:=za hu;have Hd:=za hd;clear hz hu hd hC hv;go_enter Tryz.func17,Tryz.ntmps17
   go_upto_region 1 with(fail)
   change Code.wp _ _ _ _ (w.alloc (.cells C.toArray 28));obtain⟨W,hI⟩:∃ W,w.alloc (.cells C.toArray 28)=W:=⟨_,rfl⟩;rw[hI]at hR hF ⊢;obtain⟨p,hp⟩:∃ p,w.heap.size=p:=⟨_,rfl⟩;rw[hp]at hR ⊢;have Hp:=za hp;have HR:=za hR;have HF:=za hF;clear hR hF hI hp
   go_wp2_with((with_reducible refine wpList_load_mid ?_ 28 _ rfl p 0 ?_ C d HR.out Hu.out ?_ Hz.out ?_);rfl;rfl;exact Hd.out)
   refine(Hv.out _ HF.out).mono ?_;rintro r w1 ⟨rfl,hB⟩;unfold z5;have hL:=za (HF.out.trans' hB);clear hB
   go_wp2_with fail
   go_ret2;exact⟨_,rfl,SB.nil _ _ _,hL.out.alloc _⟩
 | true =>
   have ho:=zje hA;have hH:=zpv ho hfine.ok (fun _ h=>zt8 h) (N:=67108864) (by decide);have hO:=zy4 ho hfine.ok (fun _ h=>zt8 h);have hD:=fun S0 v V (h:RJ S0 V (zfx e) v) (hg:Gl V)=>z15 19 zfo S0 (zfx e) v V h hH (zy5 (by decide) e) hg (by omega)
   rw[zw1 hA]at hD;have hv:=fun V (h:Fr NoB w V)=>zs6 S S' e pv sv V (hfine.fr h) hA
   have hG:=hfine.ok;have hR:(w.alloc (.cells (e.cells pv sv).toArray 28)).rangeAt w.heap.size 0 (e.cells pv sv):=by simpa using jm (zh w (.cells (e.cells pv sv).toArray 28))
   have hF:Fr NoB w (w.alloc (.cells (e.cells pv sv).toArray 28)):=Fr.refl.alloc _;have hz:(Tryz.prog.info? 28).map (·.size)=some (e.cells pv sv).length:=by rw[jc,En.size hG]
   have Hgl:=za hfine.gl;obtain⟨J,hJ⟩:∃ J,zfx e=J:=⟨_,rfl⟩;rw[hJ]at hv hD;obtain⟨P,hP⟩:∃ P,zli zh2 e=P:=⟨_,rfl⟩;rw[hP]at hD ⊢;obtain⟨X,n⟩:=P;have Hpt:=za hD;clear hA hP hfine hG hJ hD hO hH ho;obtain⟨E,hE⟩:∃ E,zir n=E:=⟨_,rfl⟩;simp only[hE]at Hpt ⊢;have HE:=za hE;clear hE;obtain⟨C,hC⟩:∃ C,e.cells pv sv=C:=⟨_,rfl⟩;rw[hC]at hR hF hz hv ⊢;have Hv:=za hv;have Hz:=za hz;obtain⟨d,hu,hd⟩:=zab;have Hu:=za hu;have Hd:=za hd;clear hz hu hd hC hv;go_enter Tryz.func17,Tryz.ntmps17
   go_upto_region 1 with(fail)
   change Code.wp _ _ _ _ (w.alloc (.cells C.toArray 28));obtain⟨W,hI⟩:∃ W,w.alloc (.cells C.toArray 28)=W:=⟨_,rfl⟩;rw[hI]at hR hF ⊢;obtain⟨p,hp⟩:∃ p,w.heap.size=p:=⟨_,rfl⟩;rw[hp]at hR ⊢;have Hp:=za hp;have HR:=za hR;have HF:=za hF;clear hR hF hI hp
   go_wp2_with((with_reducible refine wpList_load_mid ?_ 28 _ rfl p 0 ?_ C d HR.out Hu.out ?_ Hz.out ?_);rfl;rfl;exact Hd.out)
   refine(Hv.out _ HF.out).mono ?_;rintro r w1 ⟨x,rfl,hN,hB⟩;obtain⟨k0,k1,k2,xa,xn,xc,ya,yn,yc,hx⟩:=hN.form;subst hx;have Hrj:=za hN;have hL:=za (HF.out.trans' hB);have hW1:=hB.size;clear hB hN;have hK:Fr NoB w1 (w1.alloc (.cells #[.int .i64 k0,.int .i64 k1,.string k2,.slice xa xn xc,.slice ya yn yc] 56)):=Fr.refl.alloc _;have hQ:=za (Hpt.out _ _ _ (RJ.kp (Kp.ofFr hK) _ _ Hrj.out) (Hgl.out.fr (hL.out.trans' hK) (fun _ _ _ h=>h.elim)));have hT:=za (hL.out.trans' hK);clear hK Hpt
   go_wp2_with fail
   refine hQ.out.mono ?_;rintro r w5 ⟨x,rfl,hM,hS⟩;obtain⟨ya,yc,rfl⟩:=hM.form;have Hsb:=za hM;have hU:=za (hT.out.trans' hS);clear hM hS
   go_wp2_with fail
   go_ret2;exact⟨_,rfl,Hsb.out.kp (fun b o hb ho _=>⟨Nat.le_trans hT.out.size hb,ho⟩),hU.out⟩
end
section
open Go.RowKit Go.Sort Go.Shelf
variable [OldK]
theorem zt6 {sub:Bs→Bool} {e:En} (h:zce sub e=true) (he:e.ok) (hl:(zeh (zfx e)).length≤4096):zlj sub (zeh (zfx e))=(some e,0):=by
 have h1:zaf (zeh (zfx e))=(zfx e,0):=by
  unfold zaf;rw[if_neg (by omega),zkz,zos _ (ziy (zje h))]
 unfold zlj;rw[h1,z05 h he];rfl
def z2i:Bs:=List.replicate 64 0
def sg15:Sg:=⟨[97,108,105,99,101],jd,z2i⟩
def en15:En:=⟨1,jd,[],[],0,[],jd,[sg15]⟩
theorem zen:en15.ok:=⟨rfl,rfl,fun s hs=>by
 simp only[en15,List.mem_singleton]at hs;subst hs
 exact⟨rfl,rfl⟩⟩
theorem zvt:zce zh2 en15=true:=by
 have h1:zfe [sg15]=true:=by decide +kernel
 have h2:zsr (zbz en15) (zat 1 [sg15])=true:=by
  unfold zsr zbz en15 zat;simp[zhi]
 unfold zce;show(zuf _ en15&&(zfe [sg15]&&zsr (zbz en15) (zat 1 [sg15])))=_;rw[h1,h2];rfl
theorem zok:(zeh (zfx en15)).length≤4096:=by
 rw[zkz];decide +kernel
theorem z16:zli zh2 en15=(zeh (zfx en15),0):=by
 unfold zli;rw[zvt,if_pos rfl,if_neg (by have:=zok;omega)]
theorem z0w:zsr en15 en15=true:=by
 unfold zsr en15;simp[zhi]
theorem z1s:zug [97] [98,99]=[68,83,83,69,118,49,32,49,32,97,32,50,32,98,99]:=by decide +kernel
theorem zzy (w:World):Calls ze 57 #[] w fun e w'=>(∃ g,e = .returned (.agg (en15.cells (.slice none 0 0) (.slice (some ⟨g,0,none⟩) 1 1)).toArray)∧GS (fun k=>w.heap.size≤k) [sg15] (.slice (some ⟨g,0,none⟩) 1 1) w')∧Fr NoB w w':=by
 obtain⟨d,hu,hd⟩:=zab;have Hu:=za hu;have Hd:=za hd;clear hu hd;have hA:(w.alloc (.cells Tryz.zeroCells28 28)).heap.size=w.heap.size+1:=by rw[World.size_alloc]
 have hH:=zh w (.cells Tryz.zeroCells28 28);have hD:=zh (w.alloc (.cells Tryz.zeroCells28 28)) (.cells sg15.cells 115);rw[hA]at hD
 have hG:((w.alloc (.cells Tryz.zeroCells28 28)).alloc (.cells sg15.cells 115)).heap[w.heap.size]? = some (.cells Tryz.zeroCells28 28):=by
  rw[Below.heap_alloc _ _ _ (by omega)];exact hH
 have hE:=za (show((w.alloc (.cells Tryz.zeroCells28 28)).alloc (.cells sg15.cells 115)).there w.heap.size 0 (en15.cells (.slice none 0 0) (.slice (some ⟨w.heap.size+1,0,none⟩) 1 1)).toArray.size from jf hG (by rw[zn,En.size zen];exact zt _));have Hz:=za (show(Tryz.prog.info? 28).map (·.size)=some (en15.cells (.slice none 0 0) (.slice (some ⟨w.heap.size+1,0,none⟩) 1 1)).length by rw[jc,En.size zen]);have hK:=za (show(Tryz.prog.info? 28).map (·.size)=some (en15.cells (.slice none 0 0) (.slice (some ⟨w.heap.size+1,0,none⟩) 1 1)).toArray.size by rw[jc,zn,En.size zen]);have HO:=za (En.one (e:=en15) (pv := .slice none 0 0) (sv := .slice (some ⟨w.heap.size+1,0,none⟩) 1 1) rfl rfl);have HA:=za hA;have hI:=za hD;clear hA hH hD hG;go_enter Tryz.func57,Tryz.ntmps57
 go_wp2_with (first
  | ((with_reducible refine wpList_buildTo ?_ 115 _ rfl _ rfl sg15.cells ?_ ?_);rfl;kernel_rfl)
  | ((with_reducible refine Great.wpList_buildSliceTo ?_ 26 115 1 _ rfl (w.heap.size+1) HA.out _ rfl Tryz.underlying26 sg15.cells ?_ ?_);rfl;kernel_rfl)
  | ((with_reducible refine wpList_buildTo ?_ 28 _ rfl _ rfl (en15.cells (.slice none 0 0) (.slice (some ⟨w.heap.size+1,0,none⟩) 1 1)).toArray ?_ ?_);rfl;kernel_rfl)
  | ((with_reducible refine wpList_store_mid ?_ 28 _ _ rfl w.heap.size 0 (en15.cells (.slice none 0 0) (.slice (some ⟨w.heap.size+1,0,none⟩) 1 1)).toArray ?_ ?_ hE.out hK.out HO.out ?_);rfl;rfl;rfl))
 obtain⟨C,hC⟩:∃ C,en15.cells (.slice none 0 0) (.slice (some ⟨w.heap.size+1,0,none⟩) 1 1)=C:=⟨_,rfl⟩;have HC:=za hC;rw[hC]at hE Hz ⊢;have hJ:=run_loadVar_mid (P:=ze) _ w.heap.size 0 28 C d (zg _ w.heap.size 0 C (by simpa using hE.out)) Hu.out Hd.out Hz.out;have hF:Fr NoB w ((((w.alloc (.cells Tryz.zeroCells28 28)).alloc (.cells sg15.cells 115)).setCells w.heap.size 0 C)):=((Fr.refl.alloc _).alloc _).trans (z8 _ _ _ _) (fun k _ hm => .inr (by omega));refine bodyPost_ret (v := .agg C.toArray) ?_ rfl ⟨⟨w.heap.size+1,by rw[HC.out],?_⟩,hF⟩
 ·rw[qs rfl];simp[asAddr,Result.andThen,hJ,Act.put]
 have h0:GS (fun k=>w.heap.size+1≤k) [sg15] (.slice (some ⟨w.heap.size+1,0,none⟩) 1 1) ((w.alloc (.cells Tryz.zeroCells28 28)).alloc (.cells sg15.cells 115)):=by
  refine⟨_,_,rfl,zt _,.inr ⟨w.heap.size+1,0,rfl,zt _,jb hI.out,fun i hi=>?_⟩⟩;obtain rfl:i=0:=by simpa using hi
  exact jm hI.out
 obtain⟨a,c,e1,e2,h | ⟨b,o,e3,hb,hB⟩⟩:=h0.fr (z8 w.heap.size C 0 _) (fun k _ hk hm=>by omega)
 ·exact absurd h (by simp)
 exact⟨a,c,e1,e2,.inr ⟨b,o,e3,by omega,hB⟩⟩
theorem SB.cst (l:Bs)(w:World)(cap:Nat)(fr:Nat × Nat)(cs:Array Value)(hcs:cs.toList=l.map fun c=>Value.int .u8 (c.toNat:Int))(hcp:l.length≤cap:=by decide):SB (fun k=>k=w.heap.size) l (.slice (some ⟨w.heap.size,0,none⟩) l.length cap) (w.alloc (.cells cs 5 fr)):=by
 refine⟨_,cap,rfl,hcp,.inr ⟨w.heap.size,0,cs,_,fr,rfl,rfl,⟨zh w _,.inl rfl⟩,fun j hj=>?_⟩⟩;rw[Nat.zero_add,← Array.getElem?_toList,hcs];simp[hj]
theorem zvy (w:World) (hgl:Gl w) (ho:OldK.k≤w.heap.size):Calls ze 15 #[] w fun e w'=>e = .returned (.bool true)∧Fr NoB w w':=by
 have kc:=fun(w:World) (C:Array Value) (n c:Nat)=>Lib.run_convert_bytes_const (P:=ze) w 24 5 C n c Tryz.underlying24 Tryz.underlying5
 have hS:=(Fr.refl (M:=NoB)).alloc (w:=w) (.cells #[.int .u8 98,.int .u8 99] 5 (2,3));have hN:=z1r _ [97] [98,99] _ _ (hgl.fr hS (fun _ _ _ h=>h.elim)) (SB.cst [98,99] w 2 (2,3) #[.int .u8 98,.int .u8 99] rfl) (by decide) (by decide);rw[z1s]at hN;have Hau:=za hN;have hn:=za hS;clear hN hS;have Hgl:=za hgl;have Hso:=za ho;clear ho hgl;go_enter Tryz.func15,Tryz.ntmps15
 go_wp2_with fail
 refine Hau.out.mono ?_;rintro e w1 ⟨v,rfl,hZ,hg⟩;have hp:=hZ.text;have hl:=za (hn.out.trans' hg);clear hg hZ Hau hn;have Ho:=za (fun W=>zzy W)
 go_wp2_with fail
 refine(Ho.out _).mono ?_;rintro e w2 ⟨⟨g,rfl,ha⟩,hf⟩;have hY:=za (hl.out.trans' hf)
 have hJ:=z00 (fun _=>True) _ en15 (.slice none 0 0) (.slice (some ⟨g,0,none⟩) 1 1) w2 ⟨zen,SB.nil _ w2 0,ha,Hgl.out.fr hY.out (fun _ _ _ h=>h.elim),Nat.zero_le _,Nat.zero_le _,Nat.zero_le _,(by show 1≤1000;omega),(fun s hs=>by
  simp only[en15,List.mem_singleton]at hs;subst hs
  show 5≤1000000;omega)⟩
 rw[z16]at hJ;have Hpu:=za hJ;clear hJ ha hf hl hp
 go_wp2_with fail
 refine Hpu.out.mono ?_;rintro e w3 ⟨y,rfl,hy,he⟩;rw[show zir (zeh (zfx en15),0).2 = .nilIface from rfl];have hG:=za (hY.out.trans' he);have hL:=zwz _ (zeh (zfx en15)) y w3 hy (Hgl.out.fr hG.out (fun _ _ _ h=>h.elim)) (Nat.le_trans Hso.out hG.out.size) (by have:=zok;omega);rw[zt6 zvt zen zok]at hL;have Hpa:=za hL;clear hL hy he hY Hpu
 go_wp2_with fail
 refine Hpa.out.mono ?_;rintro r w4 ⟨⟨pv,sv,rfl,hI,hH,-⟩,hc⟩;have hk:=za (hG.out.trans' hc);clear hc Hpa hG;obtain⟨d,hu,hd⟩:=zab;have hz:(Tryz.prog.info? 28).map (·.size)=some (en15.cells pv sv).length:=by rw[jc,En.size zen]
 have hB:=En.one (e:=en15) (pv:=pv) (sv:=sv) (by obtain⟨_,_,rfl⟩:=hI.form;rfl) (by obtain⟨_,_,rfl,-⟩:=hH;rfl);have h0:(en15.cells pv sv)[0]? = some (.int .i64 1):=rfl;have hT:(w4.alloc (.cells Tryz.zeroCells28 28)).there w4.heap.size 0 (en15.cells pv sv).toArray.size:=jf (zh w4 _) (by rw[zn,En.size zen];exact zt _);have hE:=fun(S:Nat→Prop) (p2 s2:Value) (V:World) (h1:SB (fun k=>w3.heap.size≤k) en15.payload pv V) (h2:GS (fun k=>w3.heap.size≤k) en15.sigs sv V) (h3:SB S en15.payload p2 V) (h4:GS S en15.sigs s2 V)=>zyu _ S _ S en15 en15 pv p2 sv s2 V zen zen h1 h3 h2 h4 (Nat.zero_le _) (by show 1≤1000000;omega)
 rw[z0w]at hE;obtain⟨C,hC⟩:∃ C,en15.cells pv sv=C:=⟨_,rfl⟩;rw[hC]at hz hB h0 hT hE ⊢;have Heq:=za hE;have Hz:=za hz;have hi:=za (show(Tryz.prog.info? 28).map (·.size)=some C.toArray.size by rw[hz,zn]);have HO:=za hB;have HT:=za hT;have Hu:=za hu;have Hd:=za hd;have Hpv:=za hI;have Hsv:=za hH;have H0:=za h0;clear hz hB hT hu hd hI hH hE hC h0
 go_upto_region 7 with(with_reducible refine wpList_store_mid rfl 28 _ _ rfl w4.heap.size 0 C.toArray rfl rfl HT.out hi.out HO.out ?_)
 obtain⟨b,hb⟩:∃ b,w4.heap.size=b:=⟨_,rfl⟩;have hr:(w4.alloc (.cells Tryz.zeroCells28 28)).heap.size=b+1:=by rw[World.size_alloc,hb]
 change Code.wp _ _ _ _ (World.setCells (w4.alloc (.cells Tryz.zeroCells28 28)) w4.heap.size 0 C.toArray.toList)
 have hR:(World.setCells (w4.alloc (.cells Tryz.zeroCells28 28)) w4.heap.size 0 C.toArray.toList).rangeAt w4.heap.size 0 C:=by
  have:=zg _ w4.heap.size 0 C.toArray.toList (by simpa using HT.out);simpa using this
 have hF:Fr NoB w4 (World.setCells (w4.alloc (.cells Tryz.zeroCells28 28)) w4.heap.size 0 C.toArray.toList):=(Fr.refl.alloc _).trans (z8 _ _ _ _) (fun k _ hm => .inr (by omega))
 have hM:b<(World.setCells (w4.alloc (.cells Tryz.zeroCells28 28)) w4.heap.size 0 C.toArray.toList).heap.size:=by
  have:=(z8 w4.heap.size C.toArray.toList 0 (w4.alloc (.cells Tryz.zeroCells28 28))).size;omega
 obtain⟨W,hW⟩:∃ W,World.setCells (w4.alloc (.cells Tryz.zeroCells28 28)) w4.heap.size 0 C.toArray.toList=W:=⟨_,rfl⟩;rw[hW]at hR hF hM ⊢;rw[hb]at hR ⊢;have c0:W.cell? ⟨b,0,none⟩=some (.int .i64 1):=by simpa using hR 0 _ H0.out
 have hV:=za (Hpv.out.fr hF (fun _ _ _ _ h=>h));have hU:=za (Hsv.out.fr hF (fun _ _ _ h=>h));have ht:=za (hk.out.trans' hF);have HR:=za hR;have Hlt:=za hM;clear hR hF hM hW hb hr HT hi HO Hpv Hsv H0 hk;have HH:Hid (Fr NoB W W.drew)∧W.drew.cell? ⟨b,0,none⟩=some (.int .i64 1):=⟨za Fr.refl.drew,by simpa using c0⟩;obtain⟨A1,hh⟩:∃ x,Value.agg (en15.cells (Value.slice none 0 0) (Value.slice (some ⟨g,0,none⟩) 1 1)).toArray=x:=⟨_,rfl⟩;rw[hh];clear hh c0;refine wp_region_held_drew (S:=fun V=>Hid (Fr NoB W V)∧V.cell? ⟨b,0,none⟩=some (.int .i64 1)) (by kernel_rfl) HH (fun hA=>?_);simp only[qV]
 iterate 3
  refine qt (v:=?_) rfl (Or.inl ⟨by rfl,?_⟩) hA ?_;rotate_left
  ·intro W hO;obtain⟨-,hq⟩:=hO
   try simp only[qQ]
   go_simp
   try rw[if_neg (by omega)]
   try with_reducible rfl
  try simp only[Act.put,qP]
 refine qi (i:=3) rfl (zj (by rfl) 28 _ rfl b 0 rfl C d (fun V h=>ji HR.out h.1.out Hlt.out (fun _ h=>h)) Hu.out Hd.out Hz.out) hA ?_
 try simp only[Act.put,qP]
 refine qr (i:=4) (by kernel_rfl) rfl (fun K hK=>?_)
 try simp only[qQ]
 go_simp;refine(Ho.out _).mono ?_;rintro r w5 ⟨⟨g2,rfl,hD⟩,hQ⟩;refine hK.out _ _ ⟨za (hA.1.out.trans' hQ),Fr.cell hQ hA.2⟩ (fun hA=>?_);clear hK K
 try simp only[Act.put,qP]
 have hX:=za hD;have hj:=za hA.1.out;clear hD hQ;refine qr (i:=5) (by kernel_rfl) rfl (fun K hK=>?_)
 try simp only[qQ]
 go_simp;refine(Heq.out _ _ _ _ (hV.out.fr hj.out (fun _ _ _ _ h=>h)) (hU.out.fr hj.out (fun _ _ _ h=>h)) (SB.nil _ _ 0) hX.out).mono ?_;rintro r w6 ⟨rfl,hP⟩;refine hK.out _ _ ⟨za (hA.1.out.trans' hP),Fr.cell hP hA.2⟩ (fun hA=>?_);clear hK K
 try simp only[Act.put,qP]
 have hv:=za (ht.out.trans' hA.1.out);clear hP
 iterate 7
  refine qt (v:=?_) rfl (Or.inl ⟨by rfl,?_⟩) hA ?_;rotate_left
  ·intro W hO;obtain⟨-,hq⟩:=hO
   try simp only[qQ]
   go_simp
   try rw[if_neg (by omega)]
   try with_reducible rfl
  try simp only[Act.put,qP]
 refine wpAnyH_done (by kernel_rfl) ?_ _;clear hA
 go_wp2_with fail
 go_ret;exact⟨rfl,hv.out⟩
end
section
open Go.RowKit
variable [OldK]
theorem zj7:Tryz.prog.underlying 51=some (.struct (Tryz.prog.fieldsOf 51)):=by kernel_rfl
theorem zn5:Tryz.prog.stoodInHeld 51=false:=by kernel_rfl
theorem zj9:(Tryz.prog.fieldsOf 51).toList.map (fun f=>(f.name == "_", f.type,f.offset))=[(false,9,0),(false,23,1)]:=by kernel_rfl
theorem zti {nm D:Bs}(h:D.length=32):(jo nm D).toArray.extract 1 33=(zb D).toArray:=by
 apply Array.toList_inj.1;have h1:(zb D).length=32:=by simp[zb,h]
 rw[Array.toList_extract];simp only[jo,List.extract_eq_take_drop,List.drop_succ_cons,List.drop_zero,Nat.reduceSub];rw[List.take_of_length_le (by omega)]
theorem zxx {n1 D1 n2 D2:Bs} (h1:D1.length=32) (h2:D2.length=32) (w:World) :
 (Op.equalIn 10000 51 (.agg (jo n1 D1).toArray) (.agg (jo n2 D2).toArray)).run ze w = .ok (n1==n2&&D1==D2) w:=by
 rw[run_equalIn_struct w 9999 _ _ _ zj7 zn5];have hf:=zj9;generalize (Tryz.prog.fieldsOf 51).toList=fs at hf
 obtain ⟨f1,f2,rfl⟩:∃ f1 f2,fs=[f1,f2]:=by
  rcases fs with _ | ⟨f1,_ | ⟨f2,_ | ⟨f3,r⟩⟩⟩<;>simp at hf
  exact⟨f1,f2,rfl⟩
 simp only[List.map_cons,List.map_nil,List.cons.injEq,Prod.mk.injEq,beq_eq_false_iff_ne,and_true]at hf;obtain⟨⟨m1,t1,o1⟩,m2,t2,o2⟩:=hf;have p1:=zdu (P:=ze) w Tryz.underlying9 (jo n1 D1).toArray 0 (.string ⟨n1.toArray⟩) rfl;have q1:=zdu (P:=ze) w Tryz.underlying9 (jo n2 D2).toArray 0 (.string ⟨n2.toArray⟩) rfl;have p2:=zb6 (P:=ze) w jh jr (jo n1 D1).toArray 1;have q2:=zb6 (P:=ze) w jh jr (jo n2 D2).toArray 1;simp only[Nat.reduceAdd]at p2 q2;rw[zti h1]at p2;rw[zti h2]at q2
 have e1:(Op.equalIn 9999 9 (.string ⟨n1.toArray⟩) (.string ⟨n2.toArray⟩)).run ze w = .ok (n1==n2) w:=by
  have:=run_equalIn_string (P:=ze) w 9998 9 ⟨n1.toArray⟩ ⟨n2.toArray⟩ Tryz.underlying9
  rwa [show(ByteArray.mk n1.toArray).toList=n1 by simp[ByteArray.toList_eq],show(ByteArray.mk n2.toArray).toList=n2 by simp[ByteArray.toList_eq]]at this
 have e2:(Op.equalIn 9999 23 (.agg (zb D1).toArray) (.agg (zb D2).toArray)).run ze w = .ok (D1==D2) w :=
  run_equalIn_bytes (P:=ze) w 9997 23 5 32 jh Tryz.underlying5 zdk D1 D2 h1 h2
 generalize (n1==n2)=x at e1;generalize (D1==D2)=y at e2
 rw [zci w 9999 _ _ f1 _ _ _ x m1 (by rw[t1,o1];exact p1) (by rw[t1,o1];exact q1) (by rw[t1];exact e1),
  zci w 9999 _ _ f2 _ _ _ y m2 (by rw[t2,o2];exact p2) (by rw[t2,o2];exact q2) (by rw[t2];exact e2)]
 cases x<;>cases y<;>rfl
end
section
open Go.RowKit Go.Sort Go.Shelf
variable [OldK]
theorem zt7 {s:Bs} {l:List (Bs × Bs)} (h:za7 s=some l):l.length≤16∧∀ x∈l,x.2.length=32:=by
 unfold za7 at h;split at h
 ·cases h
 simp only at h;split at h
 ·rename_i hc
  cases h;simp only[Bool.and_eq_true,decide_eq_true_eq,List.length_map]at hc;refine⟨by rw[List.length_map,List.length_map];exact hc.2.2,fun x hx=>?_⟩;rw[List.map_map]at hx;obtain⟨j,-,rfl⟩:=List.mem_map.1 hx;exact zdv j
 cases h
theorem zjq {S:Nat→Prop} (s:Bs) (bv:Value) (w:World) (hgl:Gl w) (hs:SB S s bv w) :
 Calls ze 6 #[bv] w fun r w'=>r = .returned (.bool true)∧Fr NoB w w':=by
 have Hal:=za (fun V (h:Fr NoB w V)=>zvy V (hgl.fr h (fun _ _ _ h=>h.elim)) (Nat.le_trans hgl.old h.size));obtain⟨LB,hN⟩:∃ b,decide ((10000:Int)<(s.length:Int))=b:=⟨_,rfl⟩;have hS:=fun(hl:LB=false) V (h:Fr NoB w V)=>zkk S s bv V (hs.fr h (fun _ _ _ _ h=>h)) (hgl.fr h (fun _ _ _ h=>h.elim)) (Nat.le_trans hgl.old h.size) (by rw[hl]at hN;have:=of_decide_eq_false hN;omega)
 have hM:=fun(hl:LB=false) V (h:Fr NoB w V)=>zlf S s bv V (hs.fr h (fun _ _ _ _ h=>h)) (hgl.fr h (fun _ _ _ h=>h.elim)) (by rw[hl]at hN;have:=of_decide_eq_false hN;omega)
 simp only[zof]at hM;have hU:=fun l=>zt7 (s:=s) (l:=l)
 obtain⟨P,hP⟩:∃ P,za7 s=P:=⟨_,rfl⟩;rw[hP]at hU;simp only[hP]at hS hM;have HgK:=za hgl.old;have Hsu:=za hS;have Hre:=za hM;have Hln:=za hU;obtain⟨a0,c0,rfl⟩:=hs.form;clear hgl hs hS hM hP hU;go_enter Tryz.func6,Tryz.ntmps6
 go_wp2_with fail
 refine(Hal.out _ Fr.refl).mono ?_;rintro r w1 ⟨rfl,he⟩;have HF:=za he;clear he Hal;cases LB with
 | true =>
   go_wp2_with fail
   go_ret;exact⟨rfl,HF.out⟩
 | false =>
   have hQ:=Hsu.out;have hR:=Hre.out;clear Hsu Hre;simp only[forall_const]at hQ hR;have Hsu:=za hQ;have Hre:=za hR;clear hQ hR
   go_wp2_with fail
   refine(Hsu.out _ HF.out).mono ?_;intro r w2 hA;obtain⟨h1,hV⟩:=hA;have HF:=za (HF.out.trans' hV);have HF2:=za hV;clear Hsu hV;cases P with
   | none =>
     obtain rfl:r=_:=h1
     go_wp2_with fail
     refine(Hre.out _ HF.out).mono ?_;intro r w3 hA;obtain⟨h2,hI⟩:=hA;obtain rfl:r=_:=h2;have HF:=za (HF.out.trans' hI);clear hI Hre;have hi:=fun W=>zz0 11 11 (by decide) W
     rw[show zir 11 = .iface 49 (.int .i64 11) from rfl]at hi;have Hi:=za hi;clear hi
     go_wp2_with fail
     refine(Hi.out _).mono ?_;rintro r w4 ⟨rfl,rfl⟩
     go_wp2_with fail
     go_loopg [45] 0 (fun g vi wr=>vi = .int .i64 0∧w3=wr)
     case atStart=>exact⟨rfl,rfl⟩
     case round =>
      obtain⟨rfl,rfl⟩:=hrel
      go_wp2_with fail
      go_ret;exact⟨rfl,HF.out⟩
   | some l =>
     obtain⟨lv,h0,hG⟩:∃ v,r = .returned (.tuple #[v,.nilIface])∧w2.ownsRow w1.heap.size 51 33 v l.length (l.flatMap fun x:Bs × Bs=>jo x.1 x.2):=h1;subst h0;obtain⟨hF,hJ⟩:=Hln.out l rfl;obtain⟨la,lc,rfl⟩:=qj hG;have Hown:=za hG;have hL:=za hF;have hH:=za hJ;clear hG hF hJ Hln
     go_wp2_with fail
     refine(Hre.out _ HF.out).mono ?_;intro r w3 hA;obtain⟨h2,hI⟩:=hA;obtain⟨mv,h0,hE⟩:∃ v,r = .returned (.tuple #[v,.bool true])∧w3.ownsRow w2.heap.size 51 33 v l.length (l.flatMap fun x:Bs × Bs=>jo x.1 x.2):=h2;subst h0;obtain⟨ma,mc,rfl⟩:=qj hE;have hf:=za hI;have HF:=za (HF.out.trans' hI);have hK:=za hE;have hT:((l.length:Int) != (l.length:Int))=false:=by simp
     clear hE hI Hre
     go_wp2_with fail
     clear hT
     go_loopg [45] (l.length+1) (fun g vi wr=>∃ i:Nat,vi = .int .i64 i∧i≤l.length∧i+g=l.length+1∧Fr NoB w3 wr)
     case atStart=>exact⟨0,rfl,by omega,by omega,Fr.refl⟩
     case round =>
      obtain⟨i,rfl,hi,hgk,hb⟩:=hrel;have hO:=za hb;clear hb;have hF:=hL.out;rcases Nat.lt_or_ge i l.length with hlt | hge
      ·obtain ⟨g1,rfl,-,hZ,hX⟩:=zf8 (f:=fun x:Bs × Bs=>jo x.1 x.2) (n:=33) Hown.out (fun c hc=>za2 (hH.out c hc)) (List.getElem?_eq_getElem hlt);obtain⟨g2,rfl,-,hY,hW⟩:=zf8 (f:=fun x:Bs × Bs=>jo x.1 x.2) (n:=33) hK.out (fun c hc=>za2 (hH.out c hc)) (List.getElem?_eq_getElem hlt);have hD:=hH.out _ (List.getElem_mem hlt);have k1:=ji hX (hf.out.trans' hO.out) hZ (fun _ h=>h);have k2:=ji hW hO.out hY (fun _ h=>h);obtain⟨x,hx⟩:∃ x,l[i]=x:=⟨_,rfl⟩;rw[hx]at hD k1 k2
       have hq:∀ W,(Op.equalIn 10000 51 (.agg (jo x.1 x.2).toArray) (.agg (jo x.1 x.2).toArray)).run ze W = .ok true W:=fun W=>by
        rw[zxx hD hD W];simp
       obtain⟨d,hu,hd⟩:=zdl;have hz:(Tryz.prog.info? 51).map (·.size)=some (jo x.1 x.2).length:=by rw[zav,za2 hD]
       obtain⟨C,hC⟩:∃ C,jo x.1 x.2=C:=⟨_,rfl⟩;rw[hC]at k1 k2 hz;simp only[hC]at hq;have Hz:=za hz;have Hu:=za hu;have Hd:=za hd;have G1:=za k1;have G2:=za k2;clear k1 k2 hz hu hd hC hx hD hX hW hZ hY hF
       go_upto_region 12 with(fail)
       refine wp_region_held_drew (S:=fun W=>W.rangeAt g1 (i * 33) C∧W.rangeAt g2 (i * 33) C) (by kernel_rfl) ⟨G1.out,G2.out⟩ (fun hB=>?_);simp only[qV]
       iterate 3
        refine qt (v:=?_) rfl (Or.inl ⟨by rfl,?_⟩) hB ?_;rotate_left
        ·intro W ha
         try simp only[qQ]
         go_simp
         try rw[if_neg (by omega)]
         try with_reducible rfl
        try simp only[Act.put,qP]
       refine qi (i:=3) rfl (zj (by rfl) 51 _ rfl g1 (i * 33) rfl C d (fun _ h=>h.1) Hu.out Hd.out Hz.out) hB ?_
       try simp only[Act.put,qP]
       iterate 3
        refine qt (v:=?_) rfl (Or.inl ⟨by rfl,?_⟩) hB ?_;rotate_left
        ·intro W ha
         try simp only[qQ]
         go_simp
         try rw[if_neg (by omega)]
         try with_reducible rfl
        try simp only[Act.put,qP]
       refine qi (i:=7) rfl (zj (by rfl) 51 _ rfl g2 (i * 33) rfl C d (fun _ h=>h.2) Hu.out Hd.out Hz.out) hB ?_
       try simp only[Act.put,qP]
       refine qt (v:=?_) rfl (Or.inl ⟨by rfl,?_⟩) hB ?_;rotate_left
       ·intro W ha
        try simp only[qQ]
        go_simp
        try rw[if_neg (by omega)]
        try with_reducible rfl
       try simp only[Act.put,qP]
       refine wpAnyH_done (by kernel_rfl) ?_ _
       go_wp2_with fail
       go_roundg (gk - 1)
       case measure=>omega
       case rel=>exact⟨i+1,by simp;have:=hL.out;unfold wrap64;omega,by omega,by omega,hO.out.drew⟩
      obtain rfl:i=l.length:=by omega
      clear hF
      go_wp2_with fail
      go_ret;exact⟨rfl,HF.out.trans' hO.out⟩
end
end Go.Proofs.YtmgfncjfgkllcaaGreatDoor
