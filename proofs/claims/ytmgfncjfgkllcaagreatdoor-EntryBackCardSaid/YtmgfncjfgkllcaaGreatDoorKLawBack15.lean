/-
 The walk of the law EntryBack.
-/
import Derived.Test.YtmgfncjfgkllcaaGreatDoorKAlive15
import Derived.Test.YtmgfncjfgkllcaaGreatDoorKLarge15
import Derived.Test.YtmgfncjfgkllcaaGreatDoorKRefNum
import Derived.Test.YtmgfncjfgkllcaaGreatDoorKReadEn
open Go.Lib renaming hid→za
open Nat renaming lt_of_lt_of_le→zu
namespace Go.Proofs.YtmgfncjfgkllcaaGreatDoor
set_option linter.unusedVariables false
set_option linter.unusedSimpArgs false
set_option linter.unusedSectionVars false
set_option maxRecDepth 100000
set_option maxHeartbeats 4000000
open Go.RowKit Go.Sort Go.Shelf
variable [OldK]
theorem EnIn.fine15 {w:World}{e:En}{pv sv:Value}(h:EnIn w e pv sv)(hgl:Gl w)(hl:zbo e=false):Fine Old Old e pv sv w:=by
 obtain⟨h1,h2,h3,h4,h5⟩:=zb3 hl;exact⟨h.1,h.2.1,h.2.2,hgl,by omega,by omega,by omega,by omega,fun s hs=>by have:=h5 s hs;omega⟩
theorem zsl (e:En):zm3 e e=true:=by
 unfold zm3;simp[zed]
theorem zpp (e:En) (he:e.ok):(∃ n,n≠0∧zge ze1 e=([],n))∨(∃ t,t.length≤4096∧zge ze1 e=(t,0)∧zhk ze1 t=(some e,0)):=by
 unfold zge;cases h:za2 ze1 e with
 | false=>exact .inl ⟨11,by decide,rfl⟩
 | true =>
   rw[if_pos rfl];by_cases hl:4096<(zcz (zee e)).length
   ·rw[if_pos hl];exact .inl ⟨10,by decide,rfl⟩
   rw[if_neg hl];exact .inr ⟨_,by omega,rfl,zkr h he (by omega)⟩
theorem zm2 (e:En) (pv sv:Value) (w:World) (hgl:Gl w) (hin:EnIn w e pv sv) :
 Calls Tryz.prog 3 #[.agg (e.cells pv sv).toArray] w fun r w'=>r = .returned (.bool true)∧Fr NoB w w':=by
 obtain⟨d,hu,hd⟩:=j9;have hD:=hin.1;have hz:(Tryz.prog.info? 28).map (·.size)=some (e.cells pv sv).length:=by rw[ja,En.size hD]
 have hR:(w.alloc (.cells (e.cells pv sv).toArray 28)).rangeAt w.heap.size 0 (e.cells pv sv):=by simpa using jh (heap_alloc_new w (.cells (e.cells pv sv).toArray 28))
 have hF:Fr NoB w (w.alloc (.cells (e.cells pv sv).toArray 28)):=Fr.refl.alloc _;have hL:w.heap.size<(w.alloc (.cells (e.cells pv sv).toArray 28)).heap.size:=by rw[World.size_alloc];omega
 have Hal:=za (fun V (h:Fr NoB w V)=>zs2 V (hgl.fr h (fun _ _ _ h=>h.elim)) (Nat.le_trans hgl.old h.size));have Hlg:=za (fun V (h:Fr NoB w V)=>zrx Old Old e pv sv V hD (hin.2.1.fr h (fun _ _ _ _ h=>h)) (hin.2.2.fr h (fun _ _ _ h=>h)));have hV:=fun V (h:Fr NoB w V) (hl:zbo e=false)=>zrb Old Old e pv sv V ((hin.fine15 hgl hl).fr h)
 have hG:=fun(S S':Nat→Prop) (p2 s2:Value) V (h:Fr NoB w V) (h1:SB S e.payload p2 V) (h2:GS S' e.sigs s2 V) (hl:zbo e=false)=>zrb S S' e p2 s2 V (by
  obtain⟨q1,q2,q3,q4,q5⟩:=zb3 hl
  exact⟨hD,h1,h2,hgl.fr h (fun _ _ _ h=>h.elim),by omega,by omega,by omega,by omega,fun s hs=>by have:=q5 s hs;omega⟩)
 have hM:=fun(S:Nat→Prop) (p2 s2:Value) V (h:Fr NoB w V) (h1:SB S e.payload p2 V) (h2:GS S e.sigs s2 V) (hl:zbo e=false)=>zsm S Old S Old e e p2 pv s2 sv V hD hD h1 (hin.2.1.fr h (fun _ _ _ _ h=>h)) h2 (hin.2.2.fr h (fun _ _ _ h=>h)) (by have:=(zb3 hl).1;omega) (by have:=(zb3 hl).2.1;omega)
 have hk:=zpp e hD;rw[zsl]at hM;obtain⟨LB,hr⟩:∃ b,zbo e=b:=⟨_,rfl⟩;rw[hr]at Hlg hV hG hM;obtain⟨C,hC⟩:∃ C,e.cells pv sv=C:=⟨_,rfl⟩;rw[hC]at hz hR hF hL Hlg hV hM ⊢;have Hu:=za hu;have Hd:=za hd;have Hz:=za hz;have Hpu:=za hV;have hA:=za hG;have Heq:=za hM;have Hca:=za hk;have Hok:=za hD;have Hgl:=za hgl;clear hu hd hz hV hG hM hk hr hC hD hin hgl;go_enter Tryz.func3,Tryz.ntmps3
 go_upto_region 1 with(fail)
 change Code.wp _ _ _ _ (w.alloc (.cells C.toArray 28));obtain⟨W,ho⟩:∃ W,w.alloc (.cells C.toArray 28)=W:=⟨_,rfl⟩;rw[ho]at hR hF hL ⊢;obtain⟨p,hp⟩:∃ p,w.heap.size=p:=⟨_,rfl⟩;rw[hp]at hR hL ⊢;clear ho hp;have HR:=za hR;have HF:=za hF;have Hlt:=za hL;clear hR hF hL
 go_wp2_with fail
 refine(Hal.out _ HF.out).mono ?_;rintro r w1 ⟨rfl,he⟩;have HR:=za (jf HR.out he Hlt.out (fun _ h=>h));have Hlt:=za (zu Hlt.out he.size);have HF:=za (HF.out.trans' he);clear he Hal
 go_wp2_with (first
  | ((with_reducible refine wpList_load_mid ?_ 28 _ rfl p 0 ?_ C d HR.out Hu.out ?_ Hz.out ?_);rfl;rfl;exact Hd.out))
 refine(Hlg.out _ HF.out).mono ?_;rintro r w2 ⟨rfl,hc⟩;have HR:=za (jf HR.out hc Hlt.out (fun _ h=>h));have Hlt:=za (zu Hlt.out hc.size);have HF:=za (HF.out.trans' hc);clear hc Hlg;cases LB with
 | true =>
   go_wp2_with fail
   go_ret;exact⟨rfl,HF.out⟩
 | false =>
   have hf:=Hpu.out;have hE:=hA.out;have hg:=Heq.out;clear Hpu hA Heq;simp only[forall_const]at hf hE hg;have Hpu:=za hf;have hA:=za hE;have Heq:=za hg;clear hf hE hg
   go_wp2_with (first
    | ((with_reducible refine wpList_load_mid ?_ 28 _ rfl p 0 ?_ C d HR.out Hu.out ?_ Hz.out ?_);rfl;rfl;exact Hd.out))
   refine(Hpu.out _ HF.out).mono ?_;rintro r w3 ⟨bv,rfl,hK,ha⟩;have HR:=za (jf HR.out ha Hlt.out (fun _ h=>h));have Hlt:=za (zu Hlt.out ha.size);have HF:=za (HF.out.trans' ha);clear ha Hpu;rcases Hca.out with⟨n,hn,hq⟩ | ⟨t,ht,hq,hpa⟩
   ·rw[hq]at hK ⊢;obtain⟨a,c,rfl⟩:=hK.form;rw[show zh8 (([],n):Bs × Nat).2 = .iface 49 (.int .i64 n) from if_neg hn];clear hK hq hn Hca
    go_wp2_with fail
    go_ret;exact⟨rfl,HF.out⟩
   rw[hq]at hK ⊢;rw[show zh8 ((t,0):Bs × Nat).2 = .nilIface from rfl];have hh:=znx _ t bv w3 hK (Hgl.out.fr HF.out (fun _ _ _ h=>h.elim)) (Nat.le_trans Hgl.out.old HF.out.size) (by omega);rw[hpa]at hh;have Hpe:=za hh;have Hbv:=za hK;have Hq:=za hq;clear hh hK hq hpa Hca
   go_wp2_with fail
   refine Hpe.out.mono ?_;rintro r w4 ⟨⟨p2,s2,rfl,hW,hU,-⟩,hO⟩;have HR:=za (jf HR.out hO Hlt.out (fun _ h=>h));have Hlt:=za (zu Hlt.out hO.size);have HF:=za (HF.out.trans' hO);have Hbv:=za (Hbv.out.fr hO (fun _ _ _ _ h=>h));clear hO Hpe;have hS:(Tryz.prog.info? 28).map (·.size)=some (e.cells p2 s2).length:=by rw[ja,En.size Hok.out]
   have hH:=En.one (e:=e) (pv:=p2) (sv:=s2) (by obtain⟨_,_,rfl⟩:=hW.form;rfl) (by obtain⟨_,_,rfl,-⟩:=hU;rfl);have hT:(w4.alloc (.cells Tryz.zeroCells28 28)).there w4.heap.size 0 (e.cells p2 s2).toArray.size:=je (heap_alloc_new w4 _) (by rw[List.size_toArray,En.size Hok.out];exact Nat.le_refl _);have hB:=fun V (h:Fr NoB w V) (h1:Fr NoB w4 V)=>hA.out _ _ p2 s2 V h (hW.fr h1 (fun _ _ _ _ h=>h)) (hU.fr h1 (fun _ _ _ h=>h))
   have hJ:=fun V (h:Fr NoB w V) (h1:Fr NoB w4 V)=>Heq.out _ p2 s2 V h (hW.fr h1 (fun _ _ _ _ h=>h)) (hU.fr h1 (fun _ _ _ h=>h))
   rw[Hq.out]at hB;obtain⟨X,hX⟩:∃ X,e.cells p2 s2=X:=⟨_,rfl⟩;rw[hX]at hS hH hT hB hJ ⊢;have Hput:=za hB;have Hequ:=za hJ;have hx:=za hS;have hv:=za (show(Tryz.prog.info? 28).map (·.size)=some X.toArray.size by rw[hS,List.size_toArray]);have HO:=za hH;have HT:=za hT;clear hS hH hT hB hJ hX hW hU hA Heq Hq Hok
   go_upto_region 9 with(with_reducible refine wpList_store_mid rfl 28 _ _ rfl w4.heap.size 0 X.toArray rfl rfl HT.out hv.out HO.out ?_)
   obtain⟨b,hb⟩:∃ b,w4.heap.size=b:=⟨_,rfl⟩;change Code.wp _ _ _ _ (World.setCells (w4.alloc (.cells Tryz.zeroCells28 28)) w4.heap.size 0 X.toArray.toList)
   have hY:(World.setCells (w4.alloc (.cells Tryz.zeroCells28 28)) w4.heap.size 0 X.toArray.toList).rangeAt w4.heap.size 0 X:=by
    have:=World.rangeAt_setCells_same _ w4.heap.size 0 X.toArray.toList (by simpa using HT.out);simpa using this
   have hN:Fr NoB w4 (World.setCells (w4.alloc (.cells Tryz.zeroCells28 28)) w4.heap.size 0 X.toArray.toList):=(Fr.refl.alloc _).trans (z8 _ _ _ _) (fun k _ hm => .inr (by omega))
   have hI:b<(World.setCells (w4.alloc (.cells Tryz.zeroCells28 28)) w4.heap.size 0 X.toArray.toList).heap.size:=by
    have:=(z8 w4.heap.size X.toArray.toList 0 (w4.alloc (.cells Tryz.zeroCells28 28))).size;rw[World.size_alloc]at this;omega
   obtain⟨w5,hj⟩:∃ W,World.setCells (w4.alloc (.cells Tryz.zeroCells28 28)) w4.heap.size 0 X.toArray.toList=W:=⟨_,rfl⟩;rw[hj]at hY hN hI ⊢;rw[hb]at hY ⊢;have HR:=za (jf HR.out hN Hlt.out (fun _ h=>h));have HF:=za (HF.out.trans' hN);have H4:=za hN;have hQ:=za hY;have hP:=za hI;clear hY hN hI hj hb HT HO hv
   go_wp2_with (first
    | (with_reducible refine jw 28 _ rfl p 0 rfl C d HR.out Hu.out Hd.out Hz.out rfl ?_)
    | (with_reducible refine jw 28 _ rfl b 0 rfl X d hQ.out Hu.out Hd.out hx.out rfl ?_))
   refine(Hequ.out _ HF.out H4.out).mono ?_;rintro r w6 ⟨rfl,hZ⟩;have hQ:=za (jf hQ.out hZ hP.out (fun _ h=>h));have HF:=za (HF.out.trans' hZ);have H4:=za (H4.out.trans' hZ);clear hZ Hequ HR Hlt
   go_wp2_with (first
    | ((with_reducible refine wpList_load_mid ?_ 28 _ rfl b 0 ?_ X d hQ.out Hu.out ?_ hx.out ?_);rfl;rfl;exact Hd.out))
   refine(Hput.out _ HF.out H4.out).mono ?_;rintro r w7 ⟨y,rfl,hy,hi⟩;rw[show zh8 ((t,0):Bs × Nat).2 = .nilIface from rfl];have hs:=zw3 _ _ t t bv y w7 (Hbv.out.fr (H4.out.trans' hi) (fun _ _ _ _ h=>h)) hy;rw[show(t==t)=true by simp]at hs;have HS:=za hs;have HF:=za (HF.out.trans' hi);clear hs hy hi Hput H4 hQ hP
   go_wp2_with fail
   refine HS.out.mono ?_;rintro r w8 ⟨rfl,hw⟩;subst hw
   go_wp2_with fail
   go_ret;exact⟨rfl,HF.out⟩
end Go.Proofs.YtmgfncjfgkllcaaGreatDoor
