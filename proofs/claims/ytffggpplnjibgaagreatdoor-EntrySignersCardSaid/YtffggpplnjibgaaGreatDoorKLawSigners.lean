/-
 The walks of the reference's Typed and Signer.
-/
import Derived.Test.YtffggpplnjibgaaGreatDoorKRefNamed
import Derived.Test.YtffggpplnjibgaaGreatDoorKB64
import Derived.Test.YtffggpplnjibgaaGreatDoorKConcat
import Derived.Test.YtffggpplnjibgaaGreatDoorKAlive15
open Go.Lib renaming hid→za
namespace Go.Proofs.YtffggpplnjibgaaGreatDoor
set_option linter.unusedVariables false
set_option linter.unusedSimpArgs false
set_option linter.unusedSectionVars false
set_option maxRecDepth 100000
set_option maxHeartbeats 2000000
section
open Go.RowKit
section
variable [OldK]
theorem zmb (s:Sg) (w:World) (hok:s.ok) (hlen:s.id.length≤1000000) :
 Calls Tryz.prog 44 #[.agg s.cells] w fun e w'=>e = .returned (.string ⟨(qh s).toArray⟩)∧Fr NoB w w':=by
 have hI:=Sg.size hok;have h0:=Sg.cell0 s;have hk:∀ j x,s.key[j]? = some x→s.cells[1+j]? = some (.int .u8 x.toNat):=Sg.cellK;have hB:=hok.1;obtain⟨cs,hD⟩:∃ cs,s.cells=cs:=⟨_,rfl⟩;rw[hD]at hI h0 hk ⊢
 have hG:∀ h,cs[0]'h = .string ⟨s.id.toArray⟩:=fun h=>by
  rw[Array.getElem?_eq_getElem h]at h0;exact Option.some.inj h0
 clear h0 hD hok;obtain⟨id,hC⟩:∃ id,s.id=id:=⟨_,rfl⟩;unfold qh;rw[hC]at hG hlen ⊢;obtain⟨key,hA⟩:∃ key,s.key=key:=⟨_,rfl⟩;rw[hA]at hk hB ⊢;clear hC hA;have hF:=(Fr.refl (M:=NoB)).alloc (w:=w) (.cells cs 40);have HF:=za hF;clear hF;cases id with
 | cons c r =>
   have hJ:(c :: r:Bs).isEmpty=false:=rfl;rw[if_neg (by simp)];obtain⟨l,hl⟩:∃ l,(c :: r:Bs)=l:=⟨_,rfl⟩;rw[hl]at hG hJ hlen ⊢;clear hl;go_enter Tryz.func44,Tryz.ntmps44
   go_wp2_with fail
   go_ret;exact⟨rfl,HF.out⟩
 | nil =>
   rw[if_pos rfl];go_enter Tryz.func44,Tryz.ntmps44
   go_wp2_with fail
   have hx:=@zte ⟨w.heap.size+1⟩ (fun _=>True) key (.slice (some ⟨w.heap.size,1,none⟩) 32 32) (w.alloc (.cells cs 40)) ⟨some ⟨w.heap.size,1,none⟩,32,by rw[hB],by omega,.inr ⟨w.heap.size,1,cs,_,_,rfl,trivial,⟨heap_alloc_new w _,.inr (Nat.lt_succ_self _)⟩,fun j hj=>hk j _ (List.getElem?_eq_getElem hj)⟩⟩ (by omega);refine hx.mono ?_;rintro e w2 ⟨rfl,hE⟩;have hK:=za (HF.out.trans' hE);have hH:(zcz key).length≤100:=by rw[zec];omega
   obtain⟨X,hX⟩:∃ X,zcz key=X:=⟨_,rfl⟩;rw[hX]at hH ⊢;have HX:=za hX;clear hE hx hX hk hB
   go_wp2_with fail
   go_ret;refine⟨?_,hK.out⟩
   have hs:(ByteArray.mk #[107,101,121,58])++(ByteArray.mk X.toArray)=⟨(zls++X).toArray⟩:=by
    apply ByteArray.ext;simp[zls]
   simp[hs,HX.out]
end
end
section
open Go.RowKit Go.Sort Go.Shelf
variable [OldK]
theorem zh2 (s:Sg) (w:World) (hgl:Gl w) (hok:s.ok):Calls Tryz.prog 12 #[.agg s.cells] w fun e w'=>e = .returned (.bool true)∧Fr NoB w w':=by
 obtain⟨d,hu,hd⟩:=zbj;have hz:(Tryz.prog.info? 40).map (·.size)=some s.cells.toList.length:=by rw[j5,Array.length_toList,Sg.size hok]
 have hR:(w.alloc (.cells s.cells 40)).rangeAt w.heap.size 0 s.cells.toList:=jh (heap_alloc_new w (.cells s.cells 40));have hF:Fr NoB w (w.alloc (.cells s.cells 40)):=Fr.refl.alloc _;have hE:w.heap.size<(w.alloc (.cells s.cells 40)).heap.size:=by rw[World.size_alloc];omega
 have Hal:=za (fun V (h:Fr NoB w V)=>zsl V (hgl.fr h (fun _ _ _ h=>h.elim)) (Nat.le_trans hgl.old h.size));have h0:s.cells.toList[0]? = some (.string ⟨s.id.toArray⟩):=by rw[Array.getElem?_toList];exact Sg.cell0 s
 obtain⟨t,ht⟩:∃ x,qh s=x:=⟨_,rfl⟩;have hD:=za (fun V (hl:s.id.length≤5000)=>zi1 s V hok (by omega));have hB:=za (fun V (hl:s.id.length≤5000)=>zmb s V hok (by omega));rw[ht]at hD hB;obtain⟨i,hi⟩:∃ x,s.id=x:=⟨_,rfl⟩;rw[hi]at h0 hD hB;obtain⟨C,hC⟩:∃ x,s.cells=x:=⟨_,rfl⟩;rw[hC]at hz hR hF hE h0 hD hB ⊢;obtain⟨bq,hT⟩:∃ b,decide ((5000:Int)<(List.length i:Int))=b:=⟨_,rfl⟩;have hP:bq=false→i.length≤5000:=fun h=>by rw[← hT,decide_eq_false_iff_not]at h;omega
 have Hu:=za hu;have Hd:=za hd;have Hz:=za hz;have Hle:=za hP;have H0:=za h0;clear hu hd hz hP h0 ht hi hC hok hgl;go_enter Tryz.func12,Tryz.ntmps12
 go_upto_region 1 with(fail)
 change Code.wp _ _ _ _ (w.alloc (.cells C 40));obtain⟨W,hQ⟩:∃ W,w.alloc (.cells C 40)=W:=⟨_,rfl⟩;rw[hQ]at hR hF hE ⊢;obtain⟨p,hp⟩:∃ p,w.heap.size=p:=⟨_,rfl⟩;rw[hp]at hR hE ⊢;clear hQ hp;have HR:=za hR;have HF:=za hF;have Hlt:=za hE;clear hR hF hE
 go_wp2_with fail
 refine(Hal.out _ HF.out).mono ?_;rintro r w1 ⟨rfl,hI⟩;have hN:=za (jg HR.out hI Hlt.out (fun _ h=>h));have hH:=za (Nat.lt_of_lt_of_le Hlt.out hI.size);have hS:=za (HF.out.trans' hI);clear hI Hal HR Hlt HF
 go_upto_region 3 with(fail)
 have c0:w1.cell? ⟨p,0,none⟩=some (.string ⟨i.toArray⟩):=by simpa using hN.out 0 _ H0.out
 have HH:Hid (Fr NoB w1 w1.drew)∧w1.drew.cell? ⟨p,0,none⟩=some (.string ⟨i.toArray⟩):=⟨za Fr.refl.drew,by simpa using c0⟩;clear c0;cases bq with
 | true =>
   refine wp_region_held_drew (S:=fun V=>Hid (Fr NoB w1 V)∧V.cell? ⟨p,0,none⟩=some (.string ⟨i.toArray⟩)) (by kernel_rfl) HH (fun hA=>?_);simp only[qV]
   iterate 12
    first
    | refine qt (v:=undef) rfl (Or.inr ⟨by rfl,rfl⟩) hA ?_
      try simp only[Act.put,qP]
    | refine qt (v:=?_) rfl (Or.inl ⟨by rfl,?_⟩) hA ?_
      rotate_left
      ·intro W hG;obtain⟨-,hO⟩:=hG
       try simp only[qQ]
       go_simp
       try rw[if_neg (by omega)]
       try with_reducible rfl
      try simp only[Act.put,qP]
   refine wpAnyH_done (by kernel_rfl) ?_ _;clear hA
   go_wp2_with fail
   go_ret;exact⟨rfl,hS.out.trans' Fr.refl.drew⟩
 | false =>
   have hJ:=Hle.out rfl;have hD:=za (fun V=>hD.out V hJ);have hB:=za (fun V=>hB.out V hJ);clear hJ Hle;refine wp_region_held_drew (S:=fun V=>Hid (Fr NoB w1 V)∧V.cell? ⟨p,0,none⟩=some (.string ⟨i.toArray⟩)) (by kernel_rfl) HH (fun hA=>?_);simp only[qV]
   iterate 5
    refine qt (v:=?_) rfl (Or.inl ⟨by rfl,?_⟩) hA ?_;rotate_left
    ·intro W hG;obtain⟨-,hO⟩:=hG
     try simp only[qQ]
     go_simp
     try rw[if_neg (by omega)]
     try with_reducible rfl
    try simp only[Act.put,qP]
   refine qi (i:=5) rfl (yieldsIf_load_mid (by rfl) 40 _ rfl p 0 rfl C.toList d (fun V h=>jg hN.out h.1.out hH.out (fun _ h=>h)) Hu.out Hd.out Hz.out) hA ?_
   try simp only[Act.put,qP]
   refine qi (i:=7) rfl (yieldsIf_load_mid (by rfl) 40 _ rfl p 0 rfl C.toList d (fun V h=>jg hN.out h.1.out hH.out (fun _ h=>h)) Hu.out Hd.out Hz.out) hA ?_
   try simp only[Act.put,qP]
   refine qr (i:=6) (by kernel_rfl) rfl (fun K hK=>?_)
   try simp only[qQ]
   go_simp;refine(hD.out _).mono ?_;rintro r w2 ⟨rfl,hM⟩;refine hK.out _ _ ⟨za (hA.1.out.trans' hM),Fr.cell hM hA.2⟩ (fun hA=>?_);clear hK K
   try simp only[Act.put,qP]
   clear hM;refine qr (i:=8) (by kernel_rfl) rfl (fun K hK=>?_)
   try simp only[qQ]
   go_simp;refine(hB.out _).mono ?_;rintro r w3 ⟨rfl,hL⟩;refine hK.out _ _ ⟨za (hA.1.out.trans' hL),Fr.cell hL hA.2⟩ (fun hA=>?_);clear hK K
   try simp only[Act.put,qP]
   have hU:=za (hS.out.trans' hA.1.out);clear hL
   iterate 3
    refine qt (v:=?_) rfl (Or.inl ⟨by rfl,?_⟩) hA ?_;rotate_left
    ·intro W hG;obtain⟨-,hO⟩:=hG
     try simp only[qQ]
     go_simp
     try rw[if_neg (by omega)]
     try with_reducible rfl
    try simp only[Act.put,qP]
   refine wpAnyH_done (by kernel_rfl) ?_ _;clear hA
   go_wp2_with fail
   go_ret;exact⟨rfl,hU.out⟩
end
end Go.Proofs.YtffggpplnjibgaaGreatDoor
