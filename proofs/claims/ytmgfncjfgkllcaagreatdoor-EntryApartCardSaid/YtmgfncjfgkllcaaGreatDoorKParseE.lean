/-
 The walk of entry.Parse: the entry of a text.
-/
import Derived.Test.YtmgfncjfgkllcaaGreatDoorKOf
namespace Go.Proofs.YtmgfncjfgkllcaaGreatDoor
set_option linter.unusedVariables false
set_option linter.unusedSimpArgs false
set_option linter.unusedSectionVars false
open Go.RowKit Go.Shelf
variable [OldK]
attribute [local go_sem] Oper.semAt_some
def zrl (B:Nat) (w:World) (R:Option En × Nat) (r:Ending) (w':World):Prop :=
 (match R.1 with
   | some e=>∃ pv sv,r = .returned (.tuple #[.agg (e.cells pv sv).toArray,.nilIface])∧SB (fun k=>B≤k) e.payload pv w'∧GS (fun k=>B≤k) e.sigs sv w'∧e.ok
   | none=>r = .returned (.tuple #[.agg zEn,zi2 R.2]))∧Fr NoB w w'
set_option maxRecDepth 100000 in
set_option maxHeartbeats 2000000 in
theorem zsd (S:Nat→Prop) (s:Bs) (bv:Value) (w:World) (hb:SB S s bv w) (hg:Gl w) (ho:OldK.k≤w.heap.size) (hlen:s.length≤140737488351232) :
 Calls Tryz.prog 18 #[bv] w (zrl w.heap.size w (zin zfx s)):=by
 have hT:=heap_alloc_new w (.cells Tryz.zeroCells28 28);have hM:Fr NoB w (w.alloc (.cells Tryz.zeroCells28 28)):=Fr.refl.alloc _;obtain⟨W,hW⟩:∃ x,w.alloc (.cells Tryz.zeroCells28 28)=x:=⟨_,rfl⟩;obtain⟨p2,hp⟩:∃ x,w.heap.size=x:=⟨_,rfl⟩;rw[hW,hp]at hT;rw[hW]at hM;rw[hp]at ho;have hZ:=zpy S s bv W (hb.fr hM (fun _ _ _ _ h=>h)) (hg.fr hM (fun _ _ _ h=>h.elim)) (by unfold maxLen;omega)
 have hH:(za6 s).2=0→Fits (za6 s).1:=fun h=>by
  refine zhz ?_;unfold za6 at h;split at h
  ·cases h
  omega
 unfold zin;obtain⟨j,hj⟩:∃ x,(za6 s).1=x:=⟨_,rfl⟩;obtain⟨n,hn⟩:∃ x,(za6 s).2=x:=⟨_,rfl⟩;rw[hj,hn]at hZ hH;rw[hj,hn];obtain⟨ba,bc,h1⟩:=hb.form;subst h1;obtain⟨dE,hq,ht⟩:=j9;have hh:=Lib.hid hq;have hl:=Lib.hid ht;have hu:=Lib.hid (show(Tryz.prog.info? 28).map (·.size)=some zEn.size by rw[z9];rfl);have hO:=Lib.hid (show(Tryz.prog.info? 28).map (·.size)=some zEn.toList.length by rw[z9];rfl);have hN:=Lib.hid (show zEn.all (·.oneCell')=true by unfold zEn;exact En.one rfl rfl);have Hp:=Lib.hid hp;have hv:=Lib.hid hT;have hy:=Lib.hid hM;have Hpc:=Lib.hid hZ;have Hfit:=Lib.hid hH;have Hg:=Lib.hid hg;have hpW:p2<W.heap.size:=ja hT;rw[hp];clear hT hM hZ hH hg hb hq ht hj hn;by_cases h0:n=0
 ·subst h0;rw[if_neg (by simp)];have hF:=fun(x:Value) (V:World) (h:RJ (fun k=>W.heap.size≤k) V j x) (hgV:Gl V) (hoV:OldK.k≤V.heap.size)=>zw6 _ j x V h (Hfit.out rfl) hgV hoV
  obtain⟨R,hR⟩:∃ R,pOf zfx j=R:=⟨_,rfl⟩;rw[hR]at hF ⊢;have Hofc:=Lib.hid hF;clear hF hR;go_enter Tryz.func18,Tryz.ntmps18
  go_wp2_with fail
  clear hW hp;refine Hpc.out.mono ?_;rintro r w1 ⟨x,rfl,hJ,hI⟩;obtain⟨k0,k1,k2,xa,xn,xc,ya,yn,yc,hx⟩:=hJ.form;subst hx;have hU:Fr NoB w1 (w1.alloc (.cells #[.int .i64 k0,.int .i64 k1,.string k2,.slice xa xn xc,.slice ya yn yc] 56)):=Fr.refl.alloc _;have hV:=(hy.out.trans' hI).trans' hU;have hi:=Lib.hid (Hofc.out _ _ (RJ.kp (Kp.ofFr hU) _ _ hJ) (Hg.out.fr hV (fun _ _ _ h=>h.elim)) (by have:=hV.size;have:=Hp.out;omega));have hX:=Lib.hid hV;have hQ:=Lib.hid ((hI.trans' hU).block _ _ hv.out (fun h=>h));have hK:zi2 0 = .nilIface:=rfl;rw[hK];clear hU hV hJ hI Hofc Hpc hK
  go_wp2_with fail
  refine hi.out.mono ?_;rintro r w3 ⟨hC,he⟩;have hw:=Lib.hid (hX.out.trans' he);have hw23:=hX.out.size;have hP:=Lib.hid (he.block _ _ hQ.out (fun h=>h));clear he;cases R with
  | none =>
    obtain rfl:r=_:=hC;have hE:=Lib.hid (show w3.there p2 0 zEn.size from jd hP.out (by rw[zcb];exact Nat.le_refl _))
    go_wp2_with (first
     | ((with_reducible refine wpList_buildTo ?_ 28 _ rfl _ rfl zEn ?_ ?_);rfl;kernel_rfl)
     | (with_reducible refine wpList_store_mid rfl 28 _ _ rfl p2 0 zEn rfl rfl hE.out hu.out hN.out ?_))
    have hG:=run_loadVar_mid (P:=Tryz.prog) (World.setCells w3 p2 0 zEn.toList) p2 0 28 zEn.toList dE (World.rangeAt_setCells_same w3 p2 0 zEn.toList (by simpa using hE.out)) hh.out hl.out hO.out;refine bodyPost_ret (v := .tuple #[.agg zEn,(.iface 49 (.int .i64 11))]) ?_ rfl ⟨rfl,Fr.trans hw.out (z8 _ _ _ _) (fun k _ hm => .inr (by have:=Hp.out;have h2:k=p2:=hm;omega))⟩;rw[results_cell_tmp rfl];simp only[Array.toArray_toList]at hG;simp[asAddr,Result.andThen,hG]
  | some e =>
    obtain⟨pv,sv,rfl,hY,hc,ha⟩:=hC;have hA:=En.size ha pv sv;obtain⟨qa,qc,hs⟩:=hY.form;obtain⟨q1,q2,hr,-⟩:=id hc;have Hszc:=Lib.hid (show(Tryz.prog.info? 28).map (·.size)=some (e.cells pv sv).length by rw[z9,hA]);have hD:=Lib.hid (show(Tryz.prog.info? 28).map (·.size)=some (e.cells pv sv).toArray.size by rw[z9,List.size_toArray,hA]);have hS:=Lib.hid (show(e.cells pv sv).toArray.all (·.oneCell')=true from En.one (by rw[hs];rfl) (by rw[hr];rfl));obtain⟨CE,hf⟩:∃ z,e.cells pv sv=z:=⟨_,rfl⟩;rw[hf]at hA Hszc hD hS ⊢;have hE:=Lib.hid (show w3.there p2 0 CE.toArray.size from jd hP.out (by rw[List.size_toArray,hA];exact Nat.le_refl 70));have Hsb:=Lib.hid hY;have Hgs:=Lib.hid hc;have Hok:=Lib.hid ha;have h3:=Lib.hid hf;clear hY hc ha hf hs hr
    go_wp2_with(with_reducible refine wpList_store_mid rfl 28 _ _ rfl p2 0 CE.toArray rfl rfl hE.out hD.out hS.out ?_)
    have hG:=run_loadVar_mid (P:=Tryz.prog) (w3.setCells p2 0 CE) p2 0 28 CE dE (World.rangeAt_setCells_same w3 p2 0 CE (by simpa using hE.out)) hh.out hl.out Hszc.out;have hd:=z8 p2 CE 0 w3
    have hB:∀ k,(w1.alloc (.cells #[.int .i64 k0,.int .i64 k1,.string k2,.slice xa xn xc,.slice ya yn yc] 56)).heap.size≤k→p2<k:=fun k hk=>by
     have:=ja hQ.out;omega
    refine bodyPost_ret (v := .tuple #[.agg CE.toArray,.nilIface]) ?_ rfl ⟨⟨pv,sv,by rw[h3.out],?_,?_,Hok.out⟩,hw.out.trans hd (fun k _ hm => .inr (by have:=Hp.out;have h2:k=p2:=hm;omega))⟩
    ·rw[results_cell_tmp rfl];simp[asAddr,Result.andThen,hG]
    ·exact Hsb.out.kp (fun k o hk ho _=>⟨by have:=hB k hk;omega,hd.block k o ho (fun h=>by have h2:k=p2:=h;have:=hB k hk;omega)⟩)
    have hz:=Hgs.out.fr hd (fun k o hk h=>by have h2:k=p2:=h;have:=hB k hk;omega);obtain⟨qa,qc,q1,q2,q3 | ⟨qb,qo,q4,q5,q6,q7⟩⟩:=hz
    ·exact⟨qa,qc,q1,q2,.inl q3⟩
    exact⟨qa,qc,q1,q2,.inr ⟨qb,qo,q4,by have:=hB qb q5;omega,q6,q7⟩⟩
 rw[if_pos h0];have hK:zi2 n = .iface 49 (.int .i64 n):=by unfold zi2;rw[if_neg h0]
 show Calls _ _ _ _ fun r w'=>r = .returned (.tuple #[.agg zEn,zi2 n])∧Fr NoB w w'
 rw[hK];simp only[hK]at Hpc;have hnc:True:=trivial;clear hK h0;go_enter Tryz.func18,Tryz.ntmps18
 go_wp2_with fail
 clear hW hp;refine Hpc.out.mono ?_;rintro r w1 ⟨x,rfl,hJ,hI⟩;obtain⟨k0,k1,k2,xa,xn,xc,ya,yn,yc,hx⟩:=hJ.form;subst hx;have hX:=Lib.hid ((hy.out.trans' hI).alloc (.cells #[.int .i64 k0,.int .i64 k1,.string k2,.slice xa xn xc,.slice ya yn yc] 56));have hL:=(hI.alloc (.cells #[.int .i64 k0,.int .i64 k1,.string k2,.slice xa xn xc,.slice ya yn yc] 56)).block _ _ hv.out (fun h=>h);have hE:=Lib.hid (show(w1.alloc (.cells #[.int .i64 k0,.int .i64 k1,.string k2,.slice xa xn xc,.slice ya yn yc] 56)).there p2 0 zEn.size from jd hL (by rw[zcb];exact Nat.le_refl _));clear hL hJ hI Hpc
 go_wp2_with (first
  | ((with_reducible refine wpList_buildTo ?_ 28 _ rfl _ rfl zEn ?_ ?_);rfl;kernel_rfl)
  | (with_reducible refine wpList_store_mid rfl 28 _ _ rfl p2 0 zEn rfl rfl hE.out hu.out hN.out ?_))
 have hG:=run_loadVar_mid (P:=Tryz.prog) (World.setCells (w1.alloc (.cells #[.int .i64 k0,.int .i64 k1,.string k2,.slice xa xn xc,.slice ya yn yc] 56)) p2 0 zEn.toList) p2 0 28 zEn.toList dE (World.rangeAt_setCells_same (w1.alloc (.cells #[.int .i64 k0,.int .i64 k1,.string k2,.slice xa xn xc,.slice ya yn yc] 56)) p2 0 zEn.toList (by simpa using hE.out)) hh.out hl.out hO.out;refine bodyPost_ret (v := .tuple #[.agg zEn,(.iface 49 (.int .i64 n))]) ?_ rfl ⟨rfl,Fr.trans hX.out (z8 _ _ _ _) (fun k _ hm => .inr (by have:=Hp.out;have h2:k=p2:=hm;omega))⟩;rw[results_cell_tmp rfl];simp only[Array.toArray_toList]at hG;simp[asAddr,Result.andThen,hG]
end Go.Proofs.YtmgfncjfgkllcaaGreatDoor
