/-
 The walks of bind.by's two functions: do two signers have one text,which text is less.
-/
import Derived.Test.YtcddlemkimbkcaaGreatDoorKTable2
import Derived.OrdersHeld
import Derived.Deep.RegionHeld3
import Derived.LoopN
import Derived.Shelf.Lay
open Go.Lib renaming hid→za
open Go.Proofs.Tryz renaming prog→ze
open Go.World renaming size_alloc→zf
open Go renaming heap_alloc_new→zh,yieldsIf_load_mid→zj
open Or renaming inl→zv
namespace Go.Proofs.YtcddlemkimbkcaaGreatDoor
set_option linter.unusedVariables false
set_option linter.unusedSimpArgs false
set_option linter.unusedSectionVars false
set_option maxRecDepth 100000
set_option maxHeartbeats 4000000
section
open Go.RowKit
variable [OldK]
theorem jy:(Tryz.prog.info? 54).map (·.size)=some 97:=by kernel_rfl
theorem zai:∃ d,Tryz.prog.underlying 54=some d∧d.isRow=true:=⟨_,Tryz.underlying54,rfl⟩
def Sg.ok2 (s:Sg):Prop:=s.ok∧s.id.length≤1000000
theorem zvx (a b:Sg) (w:World) (ha:a.ok2) (hb:b.ok2) :
 Calls ze 117 #[.agg a.cells,.agg b.cells] w fun e w'=>e = .returned (.bool (jm a==jm b))∧Fr NoB w w':=by
 have hG:=fun V=>zfe a V ha.1 ha.2
 have hE:=fun V=>zfe b V hb.1 hb.2
 obtain⟨X,hX⟩:∃ X,jm a=X:=⟨_,rfl⟩;obtain⟨Y,hY⟩:∃ Y,jm b=Y:=⟨_,rfl⟩;simp only[hX]at hG;simp only[hY]at hE;rw[hX,hY];have hD:((w.alloc (.cells a.cells 54)).alloc (.cells b.cells 54)).rangeAt w.heap.size 0 a.cells.toList:=World.rangeAt_alloc (jg (zh w (.cells a.cells 54))) _
 have hB:((w.alloc (.cells a.cells 54)).alloc (.cells b.cells 54)).rangeAt (w.heap.size+1) 0 b.cells.toList:=by
  have:=jg (zh (w.alloc (.cells a.cells 54)) (.cells b.cells 54));rw[zf]at this;exact this
 have hF:Fr NoB w ((w.alloc (.cells a.cells 54)).alloc (.cells b.cells 54)):=(Fr.refl.alloc _).alloc _;have hC:w.heap.size+1<((w.alloc (.cells a.cells 54)).alloc (.cells b.cells 54)).heap.size:=by rw[zf,zf];omega
 have hL:(Tryz.prog.info? 54).map (·.size)=some a.cells.toList.length:=by rw[jy,Array.length_toList,Sg.size ha.1]
 have hJ:(Tryz.prog.info? 54).map (·.size)=some b.cells.toList.length:=by rw[jy,Array.length_toList,Sg.size hb.1]
 obtain⟨d,hu,hd⟩:=zai;obtain⟨CA,hI⟩:∃ C,a.cells=C:=⟨_,rfl⟩;obtain⟨CB,hH⟩:∃ C,b.cells=C:=⟨_,rfl⟩;rw[hI]at hL;rw[hH]at hJ;rw[hI,hH]at hD hB hF hC ⊢;simp only[hI]at hG;simp only[hH]at hE;have hS:=za hG;have hR:=za hE;have hQ:=za hL;have hP:=za hJ;have Hu:=za hu;have Hd:=za hd;clear hG hE hX hY hI hH hL hJ hu hd ha hb;go_enter Tryz.func117,Tryz.ntmps117
 go_upto_region 1 with(fail)
 change Code.wp _ _ _ _ ((w.alloc (.cells CA 54)).alloc (.cells CB 54));obtain⟨W,hW⟩:∃ W,(w.alloc (.cells CA 54)).alloc (.cells CB 54)=W:=⟨_,rfl⟩;rw[hW]at hD hB hF hC ⊢;obtain⟨p,hp⟩:∃ p,w.heap.size=p:=⟨_,rfl⟩;obtain⟨q,hq⟩:∃ q,p+1=q:=⟨_,rfl⟩;rw[hp]at hD hB hC;rw[hq]at hB hC;rw[hp,hq];have hO:p<W.heap.size:=by omega
 clear hW hp hq;have hU:=za hD;have hT:=za hB;have HF:=za hF;clear hD hB hF;refine wp_region_held_drew (S:=fun V=>Hid (Fr NoB W V)) (by kernel_rfl) (za Fr.refl.drew) (fun hA=>?_);simp only[qV];refine qi (i:=0) rfl (zj (by rfl) 54 _ rfl p 0 rfl CA.toList d (fun V h=>je hU.out h.out hO (fun _ h=>h)) Hu.out Hd.out hQ.out) hA ?_
 try simp only[Act.put,qP]
 refine qi (i:=2) rfl (zj (by rfl) 54 _ rfl q 0 rfl CB.toList d (fun V h=>je hT.out h.out hC (fun _ h=>h)) Hu.out Hd.out hP.out) hA ?_
 try simp only[Act.put,qP]
 refine qr (i:=1) (by kernel_rfl) rfl (fun K hK=>?_)
 try simp only[qQ]
 go_simp;refine(hS.out _).mono ?_;rintro r w1 ⟨rfl,hN⟩;refine hK.out _ _ (za (hA.out.trans' hN)) (fun hA=>?_);clear hK K
 try simp only[Act.put,qP]
 clear hN;refine qr (i:=3) (by kernel_rfl) rfl (fun K hK=>?_)
 try simp only[qQ]
 go_simp;refine(hR.out _).mono ?_;rintro r w2 ⟨rfl,hM⟩;refine hK.out _ _ (za (hA.out.trans' hM)) (fun hA=>?_);clear hK K
 try simp only[Act.put,qP]
 clear hM;obtain⟨r,hr⟩:∃ r,(X==Y)=r:=⟨_,rfl⟩
 iterate 2
  refine qt (v:=?_) rfl (zv ⟨by rfl,?_⟩) hA ?_;rotate_left
  ·intro W hSw
   try simp only[qQ]
   go_simp
   try rw[if_neg (by omega)]
   try with_reducible rfl
  try simp only[Act.put,qP]
 refine wpAnyH_done (by kernel_rfl) ?_ _;have HG:=za hA.out;clear hA
 go_wp2_with fail
 go_ret;exact⟨jf hr.symm,HF.out.trans' HG.out⟩
theorem zwe (a b:Sg) (w:World) (ha:a.ok2) (hb:b.ok2) :
 Calls ze 119 #[.agg a.cells,.agg b.cells] w fun e w'=>e = .returned (.int .i64 (if Op.bytesLess (jm a) (jm b) then -1 else 1))∧Fr NoB w w':=by
 have hG:=fun V=>zfe a V ha.1 ha.2
 have hE:=fun V=>zfe b V hb.1 hb.2
 obtain⟨X,hX⟩:∃ X,jm a=X:=⟨_,rfl⟩;obtain⟨Y,hY⟩:∃ Y,jm b=Y:=⟨_,rfl⟩;simp only[hX]at hG;simp only[hY]at hE;rw[hX,hY];have hD:((w.alloc (.cells a.cells 54)).alloc (.cells b.cells 54)).rangeAt w.heap.size 0 a.cells.toList:=World.rangeAt_alloc (jg (zh w (.cells a.cells 54))) _
 have hB:((w.alloc (.cells a.cells 54)).alloc (.cells b.cells 54)).rangeAt (w.heap.size+1) 0 b.cells.toList:=by
  have:=jg (zh (w.alloc (.cells a.cells 54)) (.cells b.cells 54));rw[zf]at this;exact this
 have hF:Fr NoB w ((w.alloc (.cells a.cells 54)).alloc (.cells b.cells 54)):=(Fr.refl.alloc _).alloc _;have hC:w.heap.size+1<((w.alloc (.cells a.cells 54)).alloc (.cells b.cells 54)).heap.size:=by rw[zf,zf];omega
 have hL:(Tryz.prog.info? 54).map (·.size)=some a.cells.toList.length:=by rw[jy,Array.length_toList,Sg.size ha.1]
 have hJ:(Tryz.prog.info? 54).map (·.size)=some b.cells.toList.length:=by rw[jy,Array.length_toList,Sg.size hb.1]
 obtain⟨d,hu,hd⟩:=zai;obtain⟨CA,hI⟩:∃ C,a.cells=C:=⟨_,rfl⟩;obtain⟨CB,hH⟩:∃ C,b.cells=C:=⟨_,rfl⟩;rw[hI]at hL;rw[hH]at hJ;rw[hI,hH]at hD hB hF hC ⊢;simp only[hI]at hG;simp only[hH]at hE;have hS:=za hG;have hR:=za hE;have hQ:=za hL;have hP:=za hJ;have Hu:=za hu;have Hd:=za hd;clear hG hE hX hY hI hH hL hJ hu hd ha hb;go_enter Tryz.func119,Tryz.ntmps119
 go_upto_region 1 with(fail)
 change Code.wp _ _ _ _ ((w.alloc (.cells CA 54)).alloc (.cells CB 54));obtain⟨W,hW⟩:∃ W,(w.alloc (.cells CA 54)).alloc (.cells CB 54)=W:=⟨_,rfl⟩;rw[hW]at hD hB hF hC ⊢;obtain⟨p,hp⟩:∃ p,w.heap.size=p:=⟨_,rfl⟩;obtain⟨q,hq⟩:∃ q,p+1=q:=⟨_,rfl⟩;rw[hp]at hD hB hC;rw[hq]at hB hC;rw[hp,hq];have hO:p<W.heap.size:=by omega
 clear hW hp hq;have hU:=za hD;have hT:=za hB;have HF:=za hF;clear hD hB hF;refine wp_region_held_drew (S:=fun V=>Hid (Fr NoB W V)) (by kernel_rfl) (za Fr.refl.drew) (fun hA=>?_);simp only[qV];refine qi (i:=0) rfl (zj (by rfl) 54 _ rfl p 0 rfl CA.toList d (fun V h=>je hU.out h.out hO (fun _ h=>h)) Hu.out Hd.out hQ.out) hA ?_
 try simp only[Act.put,qP]
 refine qi (i:=2) rfl (zj (by rfl) 54 _ rfl q 0 rfl CB.toList d (fun V h=>je hT.out h.out hC (fun _ h=>h)) Hu.out Hd.out hP.out) hA ?_
 try simp only[Act.put,qP]
 refine qr (i:=1) (by kernel_rfl) rfl (fun K hK=>?_)
 try simp only[qQ]
 go_simp;refine(hS.out _).mono ?_;rintro r w1 ⟨rfl,hN⟩;refine hK.out _ _ (za (hA.out.trans' hN)) (fun hA=>?_);clear hK K
 try simp only[Act.put,qP]
 clear hN;refine qr (i:=3) (by kernel_rfl) rfl (fun K hK=>?_)
 try simp only[qQ]
 go_simp;refine(hR.out _).mono ?_;rintro r w2 ⟨rfl,hM⟩;refine hK.out _ _ (za (hA.out.trans' hM)) (fun hA=>?_);clear hK K
 try simp only[Act.put,qP]
 clear hM;obtain⟨r,hr⟩:∃ r,Op.bytesLess X Y=r:=⟨_,rfl⟩;cases r
 all_goals
  refine qt (v:=?_) rfl (zv ⟨by rfl,?_⟩) hA ?_;rotate_left
  ·intro W hSw
   try simp only[qQ]
   go_simp
   try rw[if_neg (by omega)]
   try with_reducible rfl
  try simp only[Act.put,qP]
  refine wpAnyH_done (by kernel_rfl) ?_ _;have HG:=za hA.out;clear hA
  go_wp2_with fail
  all_goals first
   | (exfalso;simp_all;done)
   | (go_ret;exact⟨by simp only[hr];rfl,HF.out.trans' HG.out⟩)
end
section
open Go.RowKit
variable [OldK]
structure SR2 (gb:Nat) (a b:Sg) (w:World):Prop where
 one:w.rangeAt gb 0 a.cells.toList
 two:w.rangeAt gb 97 b.cells.toList
 there:w.there gb 0 194
theorem SR2.fr {M:Nat→Obj→Prop}{gb:Nat}{a b:Sg}{w w':World}(h:SR2 gb a b w)(hb:gb<w.heap.size)(hF:Fr M w w')(hM:∀ o,¬ M gb o):SR2 gb a b w' :=
 ⟨je h.one hF hb hM,je h.two hF hb hM,za3 h.there hF hb hM⟩
theorem zei {w:World}{b n:Nat}(h:w.there b 0 n)(o m:Nat)(hm:o+m≤n):w.there b o m:=fun j hj=>by
 have:=h (o+j) (by omega)
 rwa [Nat.zero_add]at this
theorem SR2.swap {gb:Nat}{a b:Sg}{w:World}(h:SR2 gb a b w)(ha:a.ok)(hb:b.ok):SR2 gb b a ((w.setCells gb 97 a.cells.toList).setCells gb 0 b.cells.toList):=by
 have la:a.cells.toList.length=97:=by rw[Array.length_toList,Sg.size ha]
 have lb:b.cells.toList.length=97:=by rw[Array.length_toList,Sg.size hb]
 refine⟨World.rangeAt_setCells_same _ gb 0 _ (by rw[lb];exact zei (World.there_setCells h.there _ _ _) 0 97 (by omega)),?_,World.there_setCells (World.there_setCells h.there _ _ _) _ _ _⟩;exact World.rangeAt_setCells_apart (World.rangeAt_setCells_same w gb 97 _ (by rw[la];exact zei h.there 97 97 (by omega))) _ _ _ (.inr (.inr (by omega)))
def SRs (gb:Nat) (a b:Sg) (w:World):Prop:=if Op.bytesLess (jm b) (jm a) then SR2 gb b a w else SR2 gb a b w
theorem SRs.sort {gb:Nat}{a b:Sg}{w:World}(h:SRs gb a b w):∃ x y,zhi [a,b]=[x,y]∧SR2 gb x y w:=by
 unfold SRs at h;by_cases hl:Op.bytesLess (jm b) (jm a)=true
 ·rw[if_pos hl]at h;exact⟨b,a,by unfold zhi;simp[hl],h⟩
 rw[if_neg hl]at h;exact⟨a,b,by unfold zhi;simp[hl],h⟩
theorem zkz (a b:Sg) (gb c:Nat) (w:World) (ha:a.ok2) (hb:b.ok2) (h:SR2 gb a b w) (hg:gb<w.heap.size) (hc:2≤c) :
 Calls ze 244 #[.slice (some ⟨gb,0,none⟩) 2 c,.int .i64 0,.int .i64 2,.func (.func 119) #[] #[]] w fun e w'=>e = .returned (.tuple #[]) ∧
  SRs gb a b w'∧Fr (fun k _=>k=gb) w w':=by
 have hl:=fun V=>zwe b a V hb ha
 have heg:∀ hC W,(callFunc 119 hC).run ze W = .ok (.enter 119 hC) W:=fun hC w=>by simp[go_sem]
 have hM:(Tryz.prog.info? 54).map (·.size)=some a.cells.toList.length:=by rw[jy,Array.length_toList,Sg.size ha.1]
 have hL:(Tryz.prog.info? 54).map (·.size)=some b.cells.toList.length:=by rw[jy,Array.length_toList,Sg.size hb.1]
 obtain⟨d,hu,hd⟩:=zai;obtain⟨r,hr⟩:∃ r,Op.bytesLess (jm b) (jm a)=r:=⟨_,rfl⟩;simp only[hr]at hl;have Hr:=za hr;have hw0:IntKind.i64.wrap 0=0:=by rw[IntKind.wrap_i64];rfl
 have Hl:=za hl;have hG:=za hM;have hF:=za hL;have Hu:=za hu;have Hd:=za hd;have HS:=za h;clear hl hM hL hu hd h hr;cases r with
 | false =>
   go_enter Tryz.func244,Tryz.ntmps244
   go_wp2_with fail
   refine wp_loop_rounds 2 ?_;rw[rounds_succ]
   go_wp2_with fail
   refine wp_loop_rounds 1 ?_;rw[rounds_succ]
   go_upto_region 4 with(fail)
   refine wp_region_held_drew (S:=fun V=>Hid (Fr NoB w V)) (by kernel_rfl) (za Fr.refl.drew) (fun hA=>?_);simp only[qV]
   iterate 8
    refine qt (v:=?_) rfl (zv ⟨by rfl,?_⟩) hA ?_;rotate_left
    ·intro W hB
     try simp only[qQ]
     go_simp
     try rw[if_neg (by omega)]
     try with_reducible rfl
    try simp only[Act.put,qP]
   refine qi (i:=8) rfl (zj (by rfl) 54 _ rfl gb 97 rfl b.cells.toList d (fun V h=>je HS.out.two h.out hg (fun _ h=>h)) Hu.out Hd.out hF.out) hA ?_
   try simp only[Act.put,qP]
   iterate 4
    refine qt (v:=?_) rfl (zv ⟨by rfl,?_⟩) hA ?_;rotate_left
    ·intro W hB
     try simp only[qQ]
     go_simp
     try rw[if_neg (by omega)]
     try with_reducible rfl
    try simp only[Act.put,qP]
   refine qi (i:=13) rfl (zj (by rfl) 54 _ rfl gb 0 rfl a.cells.toList d (fun V h=>je HS.out.one h.out hg (fun _ h=>h)) Hu.out Hd.out hG.out) hA ?_
   try simp only[Act.put,qP]
   refine qr (i:=14) (by kernel_rfl) rfl (fun K hK=>?_)
   try simp only[qQ]
   go_simp;refine(Hl.out _).mono ?_;rintro e w1 ⟨rfl,hE⟩;refine hK.out _ _ (za (hA.out.trans' hE)) (fun hA=>?_);clear hK K
   try simp only[Act.put,qP]
   clear hE
   iterate 2
    refine qt (v:=?_) rfl (zv ⟨by rfl,?_⟩) hA ?_;rotate_left
    ·intro W hB
     try simp only[qQ]
     go_simp
     try rw[if_neg (by omega)]
     try with_reducible rfl
    try simp only[Act.put,qP]
   refine wpAnyH_done (by kernel_rfl) ?_ _;have HG:=za hA.out;clear hA
   go_wp2_with fail
   rw[rounds_succ]
   go_wp2_with fail
   go_end0
   exact⟨rfl,by unfold SRs;rw[Hr.out];exact HS.out.fr hg HG.out (fun _ h=>h),HG.out.mono (fun _ _ h=>h.elim)⟩
 | true =>
   have hP:Hid ((Tryz.prog.info? 54).map (·.size)=some a.cells.size):=za (by rw[jy,Sg.size ha.1]);have hO:Hid ((Tryz.prog.info? 54).map (·.size)=some b.cells.size):=za (by rw[jy,Sg.size hb.1]);have hR:=za (Sg.one a);have hQ:=za (Sg.one b);go_enter Tryz.func244,Tryz.ntmps244
   go_wp2_with fail
   refine wp_loop_rounds 2 ?_;rw[rounds_succ]
   go_wp2_with fail
   refine wp_loop_rounds 2 ?_;rw[rounds_succ]
   go_upto_region 4 with(fail)
   refine wp_region_held_drew (S:=fun V=>Hid (Fr NoB w V)) (by kernel_rfl) (za Fr.refl.drew) (fun hA=>?_);simp only[qV]
   iterate 8
    refine qt (v:=?_) rfl (zv ⟨by rfl,?_⟩) hA ?_;rotate_left
    ·intro W hB
     try simp only[qQ]
     go_simp
     try rw[if_neg (by omega)]
     try with_reducible rfl
    try simp only[Act.put,qP]
   refine qi (i:=8) rfl (zj (by rfl) 54 _ rfl gb 97 rfl b.cells.toList d (fun V h=>je HS.out.two h.out hg (fun _ h=>h)) Hu.out Hd.out hF.out) hA ?_
   try simp only[Act.put,qP]
   iterate 4
    refine qt (v:=?_) rfl (zv ⟨by rfl,?_⟩) hA ?_;rotate_left
    ·intro W hB
     try simp only[qQ]
     go_simp
     try rw[if_neg (by omega)]
     try with_reducible rfl
    try simp only[Act.put,qP]
   refine qi (i:=13) rfl (zj (by rfl) 54 _ rfl gb 0 rfl a.cells.toList d (fun V h=>je HS.out.one h.out hg (fun _ h=>h)) Hu.out Hd.out hG.out) hA ?_
   try simp only[Act.put,qP]
   refine qr (i:=14) (by kernel_rfl) rfl (fun K hK=>?_)
   try simp only[qQ]
   go_simp;refine(Hl.out _).mono ?_;rintro e w1 ⟨rfl,hE⟩;refine hK.out _ _ (za (hA.out.trans' hE)) (fun hA=>?_);clear hK K
   try simp only[Act.put,qP]
   clear hE
   iterate 2
    refine qt (v:=?_) rfl (zv ⟨by rfl,?_⟩) hA ?_;rotate_left
    ·intro W hB
     try simp only[qQ]
     go_simp
     try rw[if_neg (by omega)]
     try with_reducible rfl
    try simp only[Act.put,qP]
   refine wpAnyH_done (by kernel_rfl) ?_ _;have HG:=za hA.out;clear hA
   go_upto_region 6 with(fail)
   have hD:=HS.out.fr hg HG.out.drew (fun _ h=>h);have hJ:Fr (fun k _=>k=gb) w ((w1.drew.setCells gb 97 a.cells.toList).setCells gb 0 b.cells.toList):=((HG.out.drew.mono (fun _ _ h=>h.elim)).trans' (jd gb _ _ _)).trans' (jd gb _ _ _);have hU:=za (hD.swap ha.1 hb.1);have hS:=za (zei hD.there 97 a.cells.size (by rw[Sg.size ha.1];omega));have hT:=za (zei hD.there 0 b.cells.size (by rw[Sg.size hb.1];omega));have hH:=za hD;have hN:=Nat.lt_of_lt_of_le hg hJ.size;have hI:=za hJ;clear hD hJ;refine wp_region_held_drew (S:=fun _=>True) (by kernel_rfl) trivial (fun hA=>?_);simp only[qV]
   iterate 9
    refine qt (v:=?_) rfl (zv ⟨by rfl,?_⟩) hA ?_;rotate_left
    ·intro W hB
     try simp only[qQ]
     go_simp
     try rw[if_neg (by omega)]
     try with_reducible rfl
    try simp only[Act.put,qP]
   refine qi (i:=10) (v:=?_) rfl (zv ⟨by rfl,?_⟩) hA ?_;rotate_left
   ·intro W hB
    try simp only[qQ]
    go_simp
    try rw[if_neg (by omega)]
    try with_reducible rfl
   try simp only[Act.put,qP]
   refine qi (i:=11) (v:=?_) rfl (zv ⟨by rfl,?_⟩) hA ?_;rotate_left
   ·intro W hB
    try simp only[qQ]
    go_simp
    try rw[if_neg (by omega)]
    try with_reducible rfl
   try simp only[Act.put,qP]
   refine qi (i:=12) (v:=?_) rfl (zv ⟨by rfl,?_⟩) hA ?_;rotate_left
   ·intro W hB
    try simp only[qQ]
    go_simp
    try rw[if_neg (by omega)]
    try with_reducible rfl
   try simp only[Act.put,qP]
   refine wpAnyH_ready (rs:=[9,13]) (by kernel_rfl) (by simp) (AllReadyH.cons rfl (fun K hK=>?_) (AllReadyH.cons rfl (fun K hK=>?_) AllReadyH.nil))
   ·try simp only[qQ]
    rw[if_pos (by rfl)];refine wp_load_mid 54 (.tmp 45) (by rfl) gb 0 (by rfl) a.cells.toList d hH.out.one Hu.out Hd.out hG.out ?_;refine hK.out _ _ trivial (fun hA=>?_);clear hK K
    try simp only[Act.put,qP]
    refine qr (i:=13) (by kernel_rfl) rfl (fun K hK=>?_)
    try simp only[qQ]
    rw[if_pos (by rfl)];refine wp_load_mid 54 (.tmp 49) (by rfl) gb 97 (by rfl) b.cells.toList d hH.out.two Hu.out Hd.out hF.out ?_;refine hK.out _ _ trivial (fun hA=>?_);clear hK K
    try simp only[Act.put,qP]
    refine qi (i:=14) (v:=?_) rfl (zv ⟨by rfl,?_⟩) hA ?_;rotate_left
    ·intro W hB
     try simp only[qQ]
     go_simp
     try rw[if_neg (by omega)]
     try with_reducible rfl
    try simp only[Act.put,qP]
    refine qr (i:=15) (by kernel_rfl) rfl (fun K hK=>?_)
    try simp only[qQ]
    rw[if_pos (by rfl)];refine wp_store_mid 54 (.tmp 51) (.tmp 46) (by rfl) gb 97 a.cells (by rfl) (by rfl) hS.out hP.out hR.out ?_;refine hK.out _ _ trivial (fun hA=>?_);clear hK K
    try simp only[Act.put,qP]
    refine qi (i:=16) (v:=?_) rfl (zv ⟨by rfl,?_⟩) hA ?_;rotate_left
    ·intro W hB
     try simp only[qQ]
     go_simp
     try rw[if_neg (by omega)]
     try with_reducible rfl
    try simp only[Act.put,qP]
    refine qr (i:=17) (by kernel_rfl) rfl (fun K hK=>?_)
    try simp only[qQ]
    rw[if_pos (by rfl)];refine wp_store_mid 54 (.tmp 52) (.tmp 50) (by rfl) gb 0 b.cells (by rfl) (by rfl) (World.there_setCells hT.out _ _ _) hO.out hQ.out ?_;refine hK.out _ _ trivial (fun hA=>?_);clear hK K
    try simp only[Act.put,qP]
    refine wpAnyH_done (by kernel_rfl) ?_ _;clear hA
    go_wp2_with fail
    rw[rounds_succ]
    go_upto_region 4 with(fail)
    refine wp_region_held_drew (S:=fun V=>Hid (Fr (fun k _=>k=gb) w V)) (by kernel_rfl) (za hI.out.drew) (fun hA=>?_);simp only[qV]
    iterate 17
     first
     | refine qt (v:=undef) rfl (Or.inr ⟨by rfl,rfl⟩) hA ?_
       try simp only[Act.put,qP]
     | refine qt (v:=?_) rfl (zv ⟨by rfl,?_⟩) hA ?_
       rotate_left
       ·intro W hB
        try simp only[qQ]
        go_simp
        try rw[if_neg (by omega)]
        try with_reducible rfl
       try simp only[Act.put,qP]
    refine wpAnyH_done (by kernel_rfl) ?_ _;clear hA
    go_wp2_with fail
    rw[rounds_succ]
    go_wp2_with fail
    go_end0
    exact⟨rfl,by unfold SRs;rw[Hr.out];exact hU.out.fr hN (Fr.refl (M:=NoB)).drew (fun _ h=>h),hI.out.drew⟩
   try simp only[qQ]
   rw[if_pos (by rfl)];refine wp_load_mid 54 (.tmp 49) (by rfl) gb 97 (by rfl) b.cells.toList d hH.out.two Hu.out Hd.out hF.out ?_;refine hK.out _ _ trivial (fun hA=>?_);clear hK K
   try simp only[Act.put,qP]
   refine qr (i:=9) (by kernel_rfl) rfl (fun K hK=>?_)
   try simp only[qQ]
   rw[if_pos (by rfl)];refine wp_load_mid 54 (.tmp 45) (by rfl) gb 0 (by rfl) a.cells.toList d hH.out.one Hu.out Hd.out hG.out ?_;refine hK.out _ _ trivial (fun hA=>?_);clear hK K
   try simp only[Act.put,qP]
   refine qi (i:=14) (v:=?_) rfl (zv ⟨by rfl,?_⟩) hA ?_;rotate_left
   ·intro W hB
    try simp only[qQ]
    go_simp
    try rw[if_neg (by omega)]
    try with_reducible rfl
   try simp only[Act.put,qP]
   refine qr (i:=15) (by kernel_rfl) rfl (fun K hK=>?_)
   try simp only[qQ]
   rw[if_pos (by rfl)];refine wp_store_mid 54 (.tmp 51) (.tmp 46) (by rfl) gb 97 a.cells (by rfl) (by rfl) hS.out hP.out hR.out ?_;refine hK.out _ _ trivial (fun hA=>?_);clear hK K
   try simp only[Act.put,qP]
   refine qi (i:=16) (v:=?_) rfl (zv ⟨by rfl,?_⟩) hA ?_;rotate_left
   ·intro W hB
    try simp only[qQ]
    go_simp
    try rw[if_neg (by omega)]
    try with_reducible rfl
   try simp only[Act.put,qP]
   refine qr (i:=17) (by kernel_rfl) rfl (fun K hK=>?_)
   try simp only[qQ]
   rw[if_pos (by rfl)];refine wp_store_mid 54 (.tmp 52) (.tmp 50) (by rfl) gb 0 b.cells (by rfl) (by rfl) (World.there_setCells hT.out _ _ _) hO.out hQ.out ?_;refine hK.out _ _ trivial (fun hA=>?_);clear hK K
   try simp only[Act.put,qP]
   refine wpAnyH_done (by kernel_rfl) ?_ _;clear hA
   go_wp2_with fail
   rw[rounds_succ]
   go_upto_region 4 with(fail)
   refine wp_region_held_drew (S:=fun V=>Hid (Fr (fun k _=>k=gb) w V)) (by kernel_rfl) (za hI.out.drew) (fun hA=>?_);simp only[qV]
   iterate 17
    first
    | refine qt (v:=undef) rfl (Or.inr ⟨by rfl,rfl⟩) hA ?_
      try simp only[Act.put,qP]
    | refine qt (v:=?_) rfl (zv ⟨by rfl,?_⟩) hA ?_
      rotate_left
      ·intro W hB
       try simp only[qQ]
       go_simp
       try rw[if_neg (by omega)]
       try with_reducible rfl
      try simp only[Act.put,qP]
   refine wpAnyH_done (by kernel_rfl) ?_ _;clear hA
   go_wp2_with fail
   rw[rounds_succ]
   go_wp2_with fail
   go_end0
   exact⟨rfl,by unfold SRs;rw[Hr.out];exact hU.out.fr hN (Fr.refl (M:=NoB)).drew (fun _ h=>h),hI.out.drew⟩
theorem zk0 (ad:Option Addr)(c:Nat)(w:World) :
 Calls ze 244 #[.slice ad 1 c,.int .i64 0,.int .i64 1,.func (.func 119) #[] #[]] w fun e w'=>e = .returned (.tuple #[])∧Fr NoB w w':=by
 go_enter Tryz.func244,Tryz.ntmps244
 go_wp2_with fail
 refine wp_loop_rounds 1 ?_;rw[rounds_succ]
 go_wp2_with fail
 go_end0
 exact⟨rfl,Fr.refl⟩
theorem zv4 (ad:Option Addr)(c:Nat)(lim:Int)(w:World) :
 Calls ze 209 #[.slice ad 1 c,.int .i64 0,.int .i64 1,.int .i64 lim,.func (.func 119) #[] #[]] w fun e w'=>e = .returned (.tuple #[])∧Fr NoB w w':=by
 have hi:=za (fun V=>zk0 ad c V);have hw1:IntKind.i64.wrap 1=1:=by rw[IntKind.wrap_i64];rfl
 go_enter Tryz.func209,Tryz.ntmps209
 go_wp2_with fail
 refine wp_loop_rounds 1 ?_;rw[rounds_succ]
 go_wp2_with fail
 refine(hi.out _).mono ?_;rintro e w1 ⟨rfl,hA⟩;have hB:=za hA;clear hA
 go_wp2_with fail
 ((try simp only[Exit.inBlock,Exit.then]);refine bodyPost_ret (results_none rfl _ _ _) rfl ?_)
 exact⟨rfl,hB.out⟩
theorem zv3 (a b:Sg) (gb c:Nat) (lim:Int) (w:World) (ha:a.ok2) (hb:b.ok2) (h:SR2 gb a b w) (hg:gb<w.heap.size) (hc:2≤c) :
 Calls ze 209 #[.slice (some ⟨gb,0,none⟩) 2 c,.int .i64 0,.int .i64 2,.int .i64 lim,.func (.func 119) #[] #[]] w fun e w'=>e = .returned (.tuple #[]) ∧
  SRs gb a b w'∧Fr (fun k _=>k=gb) w w':=by
 have hi:=za (zkz a b gb c w ha hb h hg hc);have hw2:IntKind.i64.wrap 2=2:=by rw[IntKind.wrap_i64];rfl
 clear h;go_enter Tryz.func209,Tryz.ntmps209
 go_wp2_with fail
 refine wp_loop_rounds 1 ?_;rw[rounds_succ]
 go_wp2_with fail
 refine hi.out.mono ?_;rintro e w1 ⟨rfl,hA,hB⟩;have hD:=za hB;have hC:=za hA;clear hB hA
 go_wp2_with fail
 ((try simp only[Exit.inBlock,Exit.then]);refine bodyPost_ret (results_none rfl _ _ _) rfl ?_)
 exact⟨rfl,hC.out,hD.out⟩
end
end Go.Proofs.YtcddlemkimbkcaaGreatDoor
