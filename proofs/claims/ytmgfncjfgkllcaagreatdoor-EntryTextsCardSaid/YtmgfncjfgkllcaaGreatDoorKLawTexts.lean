/-
 Entries that are ones are short;the same entries have the same text,and unlike ones unlike texts (plain).
-/
import Derived.Test.YtmgfncjfgkllcaaGreatDoorKAlive15
import Derived.Test.YtmgfncjfgkllcaaGreatDoorKReadCame
import Derived.Test.YtmgfncjfgkllcaaGreatDoorKLarge15
import Derived.Test.YtmgfncjfgkllcaaGreatDoorKRefNum
open Go.Lib renaming hid→za
open Go renaming wpList_load_mid→zi
open List renaming size_toArray→zn
open Nat renaming lt_of_lt_of_le→zu
namespace Go.Proofs.YtmgfncjfgkllcaaGreatDoor
set_option linter.unusedVariables false
set_option linter.unusedSimpArgs false
set_option linter.unusedSectionVars false
set_option maxRecDepth 100000
set_option maxHeartbeats 8000000
section
open Go.RowKit Go.Shelf
theorem zvm {a b:Sg}(h:zth a b=true):a=b:=by
 unfold zth at h;simp only[Bool.and_eq_true,beq_iff_eq]at h;obtain⟨h1,h2,h3⟩:=h;cases a;cases b;simp only at h1 h2 h3;subst h1;subst h2;subst h3;rfl
theorem znm:∀ l m:List Sg,zdq l m=true→l=m
 | [],[],_=>rfl
 | [],_ :: _,h=>by cases h
 | _ :: _,[],h=>by cases h
 | a :: l,b :: m,h=>by
   rw[zdq,Bool.and_eq_true]at h;rw[zvm h.1,znm l m h.2]
theorem zwa {a b:En} (h:zit a b=true):a=b:=by
 have h8:zdq a.sigs b.sigs=true:=by
  unfold zit at h;simp only[Bool.and_eq_true]at h;exact h.2.2.2.2.2.2.2
 obtain⟨h1,h2,h3,h4,h5,h6,h7⟩:=zft h;have h9:=znm _ _ h8;cases a;cases b;simp only at h1 h2 h3 h4 h5 h6 h7 h9;subst h1;subst h2;subst h3;subst h4;subst h5;subst h6;subst h7;subst h9;rfl
theorem zsc (e:En):zit e e=true:=by
 unfold zit;simp[zed]
structure Short (e:En):Prop where
 typ:e.typ.length≤64
 idn:e.ident.length≤64
 pay:e.payload.length≤2048
 many:e.sigs.length≤8
 ids:∀ s∈e.sigs,s.id.length≤64
theorem zjg {n:Nat}{s:Bs}(h:s=[]):s.length≤n:=by rw[h];exact Nat.zero_le _
section
variable [OldK]
theorem zi6 {e:En} (h:zad zcl e=true):Short e:=by
 have ho:=zeo h;obtain⟨-,-,p2,p3,-,p5,-⟩:=zft (zis h);refine⟨?_,?_,?_,ho.sgs.2,fun s hs=>?_⟩
 ·by_cases hk:e.kind=2
  ·exact znk (ho.typ hk).1
  have:(zab e).typ=e.typ:=by
   unfold zab
   repeat' split
   all_goals first | rfl | contradiction
  rw[this]at p2;exact zjg p2
 ·by_cases hk:e.kind=4
  ·exact ze1 (ho.op hk).2.2
  have:(zab e).ident=e.ident:=by
   unfold zab
   repeat' split
   all_goals first | rfl | contradiction
  rw[this]at p5;exact zjg p5
 ·by_cases hk:e.kind=2
  ·exact(ho.typ hk).2
  by_cases hA:e.kind=3
  ·exact zmh (ho.pay hA)
  have:(zab e).payload=e.payload:=by
   unfold zab
   repeat' split
   all_goals first | rfl | contradiction
  rw[this]at p3;exact zjg p3
 rcases ho.sg s hs with h | h
 ·exact zjg h
 exact ze1 h.1
theorem zml {b:Bs} {e:En} {n:Nat} (h:zb5 zcl b=(some e,n)):zad zcl e=true∧n=0:=by
 unfold zb5 at h;split at h
 ·cases h
 split at h
 ·rename_i x hx
  simp only[Prod.mk.injEq,Option.some.injEq]at h;obtain⟨rfl,rfl⟩:=h;refine⟨?_,rfl⟩;unfold pOf at hx;split at hx
  ·cases hx
  split at hx
  ·rename_i hh
   cases hx;simp only[Bool.and_eq_true]at hh;exact hh.2
  cases hx
 cases h
theorem zmm {b:Bs} {n:Nat} (h:zb5 zcl b=(none,n)):n≠0:=by
 unfold zb5 at h;split at h
 ·rename_i hn
  cases h;exact hn
 split at h
 ·cases h
 cases h;decide
theorem zs3 {a b:En} {s t:Bs} (ha:a.ok) (hb:b.ok) (h1:zdr zcl a=(s,0)) (h2:zdr zcl b=(t,0)):(s==t)=zit a b:=by
 have hA:∀ (x:En) (u:Bs),x.ok→zdr zcl x=(u,0)→zb5 zcl u=(some x,0):=by
  intro x u hx h;unfold zdr at h;split at h
  ·rename_i hp
   split at h
   ·cases h
   cases h;exact zkk hp hx (by omega)
  cases h
 have k1:=hA _ _ ha h1;have k2:=hA _ _ hb h2;cases hE:zit a b with
 | true =>
   obtain rfl:=zwa hE;rw[h1]at h2;cases h2;simp
 | false =>
   rw[beq_eq_false_iff_ne];intro hB;subst hB;rw[k1]at k2;cases k2;rw[zsc]at hE;cases hE
theorem zns (e:En):(∃ n,n≠0∧zdr zcl e=([],n))∨(∃ t,t.length≤4096∧zdr zcl e=(t,0)):=by
 unfold zdr;cases h:zad zcl e with
 | false=>exact .inl ⟨11,by decide,rfl⟩
 | true =>
   rw[if_pos rfl];by_cases hl:4096<(zcx (zee e)).length
   ·rw[if_pos hl];exact .inl ⟨10,by decide,rfl⟩
   rw[if_neg hl];exact .inr ⟨_,by omega,rfl⟩
end
end
section
open Go.ChangeShapes Go.WideShapes Go.ChangeAt Go.RowKit
variable [OldK]
section
variable {H:Type} {enc:TypeId × Value→H} {w:World}
end
end
section
open Go.RowKit Go.Sort Go.Shelf
variable [OldK]
def zyf (B:Nat) (C:List Value) (er:Value) (k:Int) (W:World) (R:Option En):Prop :=
 match R with
 | none=>k=0∧∃ n:Nat,er = .iface 49 (.int .i64 n)
 | some e=>k=e.kind∧er = .nilIface∧∃ pv sv,C=e.cells pv sv∧SB (fun k=>B≤k) e.payload pv W∧GS (fun k=>B≤k) e.sigs sv W∧e.ok∧zad zcl e=true
theorem zkl {s:Bs} {w w':World} {r:Ending} (h:zlv w.heap.size w (zb5 zcl s) r w') :
 ∃ C er k R,r = .returned (.tuple #[.agg C.toArray,er])∧C.length=70∧C.toArray.all (·.oneCell')=true∧C[0]? = some (.int .i64 k)∧zyf w.heap.size C er k w' R∧Fr NoB w w':=by
 obtain⟨h1,hF⟩:=h;obtain⟨⟨R,n⟩,hR⟩:∃ x,zb5 zcl s=x:=⟨_,rfl⟩;rw[hR]at h1;cases R with
 | none =>
   have h1:r = .returned (.tuple #[.agg zEn,zf8 n]):=h1;refine⟨zEn.toList,zf8 n,0,none,by rw[h1],rfl,?_,rfl,⟨rfl,n,?_⟩,hF⟩
   ·unfold zEn;exact En.one rfl rfl
   unfold zf8;rw[if_neg (zmm hR)]
 | some e =>
   obtain⟨pv,sv,h1,hp,hs,hA⟩:=h1;refine⟨e.cells pv sv,.nilIface,e.kind,some e,h1,En.size hA pv sv,En.one (by obtain⟨_,_,rfl⟩:=hp.form;rfl) (by obtain⟨_,_,rfl,-⟩:=hs;rfl),rfl,⟨rfl,rfl,pv,sv,rfl,hp,hs,hA,(zml hR).1⟩,hF⟩
theorem zii {S S':Nat→Prop}{e:En}{pv sv:Value}{w:World}(hok:e.ok)(hp:SB S e.payload pv w)(hs:GS S' e.sigs sv w)(hgl:Gl w)(he:zad zcl e=true):Fine S S' e pv sv w:=by
 obtain⟨h1,h2,h3,h4,h5⟩:=zi6 he;exact⟨hok,hp,hs,hgl,by omega,by omega,by omega,by omega,fun s hs=>by have:=h5 s hs;omega⟩
theorem zky {S S2:Nat→Prop} (a:Bs) (av:Value) (b:Bs) (bv:Value) (w:World) (hgl:Gl w) (ha:SB S a av w) (hb:SB S2 b bv w) (hla:a.length≤140737488351232) (hlb:b.length≤140737488351232) :
 Calls Tryz.prog 5 #[av,bv] w fun r w'=>r = .returned (.bool true)∧Fr NoB w w':=by
 obtain⟨d,hu,hd⟩:=j7;have Hal:=za (fun V (h:Fr NoB w V)=>zss V (hgl.fr h (fun _ _ _ h=>h.elim)) (Nat.le_trans hgl.old h.size));have Hpa:=za (fun V (h:Fr NoB w V)=>zjc S a av V (ha.fr h (fun _ _ _ _ h=>h)) (hgl.fr h (fun _ _ _ h=>h.elim)) (Nat.le_trans hgl.old h.size) hla);have Hpb:=za (fun V (h:Fr NoB w V)=>zjc S2 b bv V (hb.fr h (fun _ _ _ _ h=>h)) (hgl.fr h (fun _ _ _ h=>h.elim)) (Nat.le_trans hgl.old h.size) hlb);obtain⟨a1,c1,rfl⟩:=ha.form;obtain⟨a2,c2,rfl⟩:=hb.form;have Hu:=za hu;have Hd:=za hd;have Hgl:=za hgl;clear hu hd ha hb hla hlb hgl;go_enter Tryz.func5,Tryz.ntmps5
 go_wp2_with fail
 refine(Hal.out _ Fr.refl).mono ?_;rintro r w1 ⟨rfl,AC⟩;have HF:=za AC;clear AC Hal
 go_wp2_with fail
 refine(Hpa.out _ HF.out).mono ?_;intro r w2 hF;obtain⟨C1,e1,k1,R1,rfl,hV,hL,hZ,hJ,AB⟩:=zkl hF;have HF:=za (HF.out.trans' AB);have hW:=za hV;have H1:=za hL;have AG:=za hZ;have hI:=za hJ;have h6:=za (show(Tryz.prog.info? 28).map (·.size)=some C1.length by rw[ja,hV]);clear hF hV hL hZ hJ AB Hpa;have hg:(Tryz.prog.info? 28).map (·.size)=some C1.toArray.size:=by rw[ja,zn,hW.out]
 have hT:(w2.alloc (.cells Tryz.zeroCells28 28)).there w2.heap.size 0 C1.toArray.size:=je (heap_alloc_new w2 _) (by rw[zn,hW.out];exact Nat.le_refl 70);have hq:=za hg;have HT:=za hT;clear hg hT
 go_upto_region 4 with(with_reducible refine wpList_store_mid rfl 28 _ _ rfl w2.heap.size 0 C1.toArray rfl rfl HT.out hq.out H1.out ?_)
 change Code.wp _ _ _ _ (World.setCells (w2.alloc (.cells Tryz.zeroCells28 28)) w2.heap.size 0 C1.toArray.toList)
 have hP:(World.setCells (w2.alloc (.cells Tryz.zeroCells28 28)) w2.heap.size 0 C1.toArray.toList).rangeAt w2.heap.size 0 C1:=by
  have:=World.rangeAt_setCells_same _ w2.heap.size 0 C1.toArray.toList (by simpa using HT.out);simpa using this
 have hU:Fr NoB w2 (World.setCells (w2.alloc (.cells Tryz.zeroCells28 28)) w2.heap.size 0 C1.toArray.toList):=(Fr.refl.alloc _).trans (z8 _ _ _ _) (fun k _ hm => .inr (by omega))
 have hD:w2.heap.size<(World.setCells (w2.alloc (.cells Tryz.zeroCells28 28)) w2.heap.size 0 C1.toArray.toList).heap.size:=by
  have:=(z8 w2.heap.size C1.toArray.toList 0 (w2.alloc (.cells Tryz.zeroCells28 28))).size;rw[World.size_alloc]at this;omega
 obtain⟨W3,hp⟩:∃ W,World.setCells (w2.alloc (.cells Tryz.zeroCells28 28)) w2.heap.size 0 C1.toArray.toList=W:=⟨_,rfl⟩;rw[hp]at hP hU hD ⊢;obtain⟨b1,ho⟩:∃ b,w2.heap.size=b:=⟨_,rfl⟩;rw[ho]at hP hD ⊢;have hM:=za hP;have H3:=za hU;have hC:=za hD;clear hP hU hD hp ho HT hq;have HF:=za (HF.out.trans' H3.out);clear hW H1
 go_wp2_with fail
 refine(Hpb.out _ HF.out).mono ?_;intro r w4 hF;obtain⟨C2,e2,k2,R2,rfl,hV,hL,hZ,hJ,h3⟩:=zkl hF;have HF:=za (HF.out.trans' h3);have hW:=za hV;have H1:=za hL;have AF:=za hZ;have hG:=za hJ;have h5:=za (show(Tryz.prog.info? 28).map (·.size)=some C2.length by rw[ja,hV]);have hw:=za h3;clear hF hV hL hZ hJ h3 Hpb;have hg:(Tryz.prog.info? 28).map (·.size)=some C2.toArray.size:=by rw[ja,zn,hW.out]
 have hT:(w4.alloc (.cells Tryz.zeroCells28 28)).there w4.heap.size 0 C2.toArray.size:=je (heap_alloc_new w4 _) (by rw[zn,hW.out];exact Nat.le_refl 70);have hq:=za hg;have HT:=za hT;clear hg hT
 go_upto_region 5 with(with_reducible refine wpList_store_mid rfl 28 _ _ rfl w4.heap.size 0 C2.toArray rfl rfl HT.out hq.out H1.out ?_)
 change Code.wp _ _ _ _ (World.setCells (w4.alloc (.cells Tryz.zeroCells28 28)) w4.heap.size 0 C2.toArray.toList)
 have hP:(World.setCells (w4.alloc (.cells Tryz.zeroCells28 28)) w4.heap.size 0 C2.toArray.toList).rangeAt w4.heap.size 0 C2:=by
  have:=World.rangeAt_setCells_same _ w4.heap.size 0 C2.toArray.toList (by simpa using HT.out);simpa using this
 have hU:Fr NoB w4 (World.setCells (w4.alloc (.cells Tryz.zeroCells28 28)) w4.heap.size 0 C2.toArray.toList):=(Fr.refl.alloc _).trans (z8 _ _ _ _) (fun k _ hm => .inr (by omega))
 have hD:w4.heap.size<(World.setCells (w4.alloc (.cells Tryz.zeroCells28 28)) w4.heap.size 0 C2.toArray.toList).heap.size:=by
  have:=(z8 w4.heap.size C2.toArray.toList 0 (w4.alloc (.cells Tryz.zeroCells28 28))).size;rw[World.size_alloc]at this;omega
 obtain⟨W5,hp⟩:∃ W,World.setCells (w4.alloc (.cells Tryz.zeroCells28 28)) w4.heap.size 0 C2.toArray.toList=W:=⟨_,rfl⟩;rw[hp]at hP hU hD ⊢;obtain⟨b2,ho⟩:∃ b,w4.heap.size=b:=⟨_,rfl⟩;rw[ho]at hP hD ⊢;have hR:=za hP;have H5:=za hU;have hH:=za hD;clear hP hU hD hp ho HT hq;have HF:=za (HF.out.trans' H5.out);have hM:=za (jf hM.out (hw.out.trans' H5.out) hC.out (fun _ h=>h));have hC:=za (zu hC.out (hw.out.trans' H5.out).size);have c1:W5.cell? ⟨b1,0,none⟩=some (.int .i64 k1):=by simpa using hM.out 0 _ AG.out
 have c2:W5.cell? ⟨b2,0,none⟩=some (.int .i64 k2):=by simpa using hR.out 0 _ AF.out
 clear hW H1 AG AF;cases R1 with
 | none =>
   obtain⟨hk,n,rfl⟩:k1=0∧∃ n:Nat,e1 = .iface 49 (.int .i64 n):=hI.out;subst hk;clear hI hG
   go_wp2_with fail
   go_ret;exact⟨rfl,HF.out⟩
 | some x =>
   obtain⟨hk,he,p1,s1,h4,hY,hX,hf,hc⟩:k1=x.kind∧e1 = .nilIface∧∃ pv sv,C1=x.cells pv sv∧SB (fun k=>w1.heap.size≤k) x.payload pv w2∧GS (fun k=>w1.heap.size≤k) x.sigs sv w2∧x.ok∧zad zcl x=true:=hI.out;subst he;clear hI;cases R2 with
   | none =>
     obtain⟨h1,n,rfl⟩:k2=0∧∃ n:Nat,e2 = .iface 49 (.int .i64 n):=hG.out;subst h1
     have hZ:(k1==0)=false:=by
      rw[beq_eq_false_iff_ne,hk];have:=(zeo hc).kind;omega
     clear hG h4 hY hX hf hc hk
     go_wp2_with fail
     go_ret;exact⟨rfl,HF.out⟩
   | some y =>
     obtain⟨h1,AH,p2,s2,AD,hj,hi,hv,AE⟩:k2=y.kind∧e2 = .nilIface∧∃ pv sv,C2=y.cells pv sv∧SB (fun k=>W3.heap.size≤k) y.payload pv w4∧GS (fun k=>W3.heap.size≤k) y.sigs sv w4∧y.ok∧zad zcl y=true:=hG.out;subst AH;have hA:=H3.out.trans' (hw.out.trans' H5.out);have hY:=hY.fr hA (fun _ _ _ _ h=>h);have hX:=hX.fr hA (fun _ _ _ h=>h);have hj:=hj.fr H5.out (fun _ _ _ _ h=>h);have hi:=hi.fr H5.out (fun _ _ _ h=>h);have h2:Gl W5:=Hgl.out.fr HF.out (fun _ _ _ h=>h.elim);have hO:=fun V (h:Fr NoB W5 V)=>zq3 _ _ x p1 s1 V ((zii hf hY hX h2 hc).fr h)
     have hN:=fun V (h:Fr NoB W5 V)=>zq3 _ _ y p2 s2 V ((zii hv hj hi h2 AE).fr h)
     have hl:=fun V (h:Fr NoB W5 V)=>zsd _ _ _ _ x y p1 p2 s1 s2 V hf hv (hY.fr h (fun _ _ _ _ h=>h)) (hj.fr h (fun _ _ _ _ h=>h)) (hX.fr h (fun _ _ _ h=>h)) (hi.fr h (fun _ _ _ h=>h)) (by have:=(zi6 hc).pay;omega) (by have:=(zi6 hc).many;omega)
     rw[← h4]at hO hl;rw[← AD]at hN hl;have hh:=fun(s t:Bs)=>zs3 (s:=s) (t:=t) hf hv
     have h7:=zns x;have h0:=zns y;obtain⟨Q1,h9⟩:∃ z,zdr zcl x=z:=⟨_,rfl⟩;obtain⟨Q2,h8⟩:∃ z,zdr zcl y=z:=⟨_,rfl⟩;obtain⟨E,hE⟩:∃ z,zit x y=z:=⟨_,rfl⟩;rw[h9]at hO h7 hh;rw[h8]at hN h0 hh;rw[hE]at hl hh;have ht:=za hO;have hr:=za hN;have Heq:=za hl;have Hte:=za hh;have H5:=za (Fr.refl (M:=NoB) (w:=W5));clear hO hN hl hh h9 h8 hE hA hY hX hj hi h2 hf hv hc AE h4 AD hk h1 hG H3 hw c1 c2 Hgl
     go_wp2_with (first
      | (with_reducible refine zi rfl 28 _ rfl b1 0 rfl C1 d hM.out Hu.out Hd.out h6.out ?_)
      | (with_reducible refine zi rfl 28 _ rfl b2 0 rfl C2 d hR.out Hu.out Hd.out h5.out ?_))
     refine(ht.out _ H5.out).mono ?_;rintro r w6 ⟨sv,rfl,hy,hS⟩;have hM:=za (jf hM.out hS hC.out (fun _ h=>h));have hR:=za (jf hR.out hS hH.out (fun _ h=>h));have hC:=za (zu hC.out hS.size);have hH:=za (zu hH.out hS.size);have HF:=za (HF.out.trans' hS);have H5:=za (H5.out.trans' hS);have Hsv:=za hy;obtain⟨sa,sc,rfl⟩:=hy.form;clear hS ht hy
     go_wp2_with (first
      | (with_reducible refine zi rfl 28 _ rfl b1 0 rfl C1 d hM.out Hu.out Hd.out h6.out ?_)
      | (with_reducible refine zi rfl 28 _ rfl b2 0 rfl C2 d hR.out Hu.out Hd.out h5.out ?_))
     refine(hr.out _ H5.out).mono ?_;rintro r w7 ⟨tv,rfl,hx,hQ⟩;have hM:=za (jf hM.out hQ hC.out (fun _ h=>h));have hR:=za (jf hR.out hQ hH.out (fun _ h=>h));have hC:=za (zu hC.out hQ.size);have hH:=za (zu hH.out hQ.size);have HF:=za (HF.out.trans' hQ);have H5:=za (H5.out.trans' hQ);have Hsv:=za (Hsv.out.fr hQ (fun _ _ _ _ h=>h));have Htv:=za hx;obtain⟨ta,tc,rfl⟩:=hx.form;clear hQ hr hx;rcases h7 with⟨n1,hn1,rfl⟩ | ⟨t1,ht1,rfl⟩
     ·have hn:zf8 (([],n1):Bs × Nat).2 = .iface 49 (.int .i64 n1):=if_neg hn1;rw[hn];clear Hte hn h0 Heq
      go_wp2_with fail
      go_ret;exact⟨rfl,HF.out⟩
     rw[show zf8 ((t1,0):Bs × Nat).2 = .nilIface from rfl];rcases h0 with⟨n2,hn2,rfl⟩ | ⟨t2,ht2,rfl⟩
     ·have hn:zf8 (([],n2):Bs × Nat).2 = .iface 49 (.int .i64 n2):=if_neg hn2;rw[hn];clear Hte hn Heq;obtain⟨z,hz⟩:∃ z,(((t1.length:Nat):Int)==0)=z:=⟨_,rfl⟩;cases z
      all_goals
       go_wp2_with fail
       go_ret;exact⟨rfl,HF.out⟩
     rw[show zf8 ((t2,0):Bs × Nat).2 = .nilIface from rfl];have hE:=Hte.out t1 t2 rfl rfl;have hs:=fun V (h:Fr NoB w7 V)=>zwt _ _ t1 t2 _ _ V (Hsv.out.fr h (fun _ _ _ _ h=>h)) (Htv.out.fr h (fun _ _ _ _ h=>h))
     rw[hE]at hs;have Hs:=za hs;clear hs hE Hte Hsv Htv ht1 ht2
     go_upto_region 11 with(fail)
     refine wp_region_held_drew (S:=fun V=>Hid (Fr NoB w7 V)) (by kernel_rfl) (za Fr.refl.drew) (fun hB=>?_);simp only[qV]
     iterate 2
      refine qt (v:=?_) rfl (Or.inl ⟨by rfl,?_⟩) hB ?_;rotate_left
      ·intro W AI
       try simp only[qQ]
       go_simp
       try rw[if_neg (by omega)]
       try with_reducible rfl
      try simp only[Act.put,qP]
     refine qi (i:=3) rfl (yieldsIf_load_mid (by rfl) 28 _ rfl b1 0 rfl C1 d (fun V h=>jf hM.out h.out hC.out (fun _ h=>h)) Hu.out Hd.out h6.out) hB ?_
     try simp only[Act.put,qP]
     refine qi (i:=4) rfl (yieldsIf_load_mid (by rfl) 28 _ rfl b2 0 rfl C2 d (fun V h=>jf hR.out h.out hH.out (fun _ h=>h)) Hu.out Hd.out h5.out) hB ?_
     try simp only[Act.put,qP]
     refine qr (i:=2) (by kernel_rfl) rfl (fun K hK=>?_)
     try simp only[qQ]
     go_simp;refine(Hs.out _ hB.out).mono ?_;rintro r w8 ⟨rfl,rfl⟩;refine hK.out _ _ hB (fun hB=>?_);clear hK K
     try simp only[Act.put,qP]
     refine qr (i:=5) (by kernel_rfl) rfl (fun K hK=>?_)
     try simp only[qQ]
     go_simp;refine(Heq.out _ (H5.out.trans' hB.out)).mono ?_;rintro r w9 ⟨rfl,AA⟩;refine hK.out _ _ (za (hB.out.trans' AA)) (fun hB=>?_);clear hK K
     try simp only[Act.put,qP]
     have AJ:=za (HF.out.trans' hB.out);clear AA
     iterate 2
      refine qt (v:=?_) rfl (Or.inl ⟨by rfl,?_⟩) hB ?_;rotate_left
      ·intro W AI
       try simp only[qQ]
       go_simp
       try rw[if_neg (by omega)]
       try with_reducible rfl
      try simp only[Act.put,qP]
     refine wpAnyH_done (by kernel_rfl) ?_ _;clear hB
     go_wp2_with fail
     go_ret;exact⟨by simp,AJ.out⟩
end
end Go.Proofs.YtmgfncjfgkllcaaGreatDoor
