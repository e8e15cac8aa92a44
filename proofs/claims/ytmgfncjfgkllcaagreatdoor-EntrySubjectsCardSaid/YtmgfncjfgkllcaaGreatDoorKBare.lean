/-
 The walk of entry.bare: an entry's value without its signatures.
-/
import Derived.Test.YtmgfncjfgkllcaaGreatDoorKSignerOf
import Derived.Test.YtmgfncjfgkllcaaGreatDoorKSubjEq
import Derived.Test.YtmgfncjfgkllcaaGreatDoorKFieldsW
import Derived.Deep.CutRange
open Go.Lib renaming hid→za
open Go.Proofs.Tryz renaming prog→ze
open Go.World renaming size_alloc→zf
open Go renaming heap_alloc_new→zh
open Nat renaming le_refl→zt
open Or renaming inl→zv
namespace Go.Proofs.YtmgfncjfgkllcaaGreatDoor
set_option linter.unusedVariables false
set_option linter.unusedSimpArgs false
set_option linter.unusedSectionVars false
set_option maxRecDepth 100000
set_option maxHeartbeats 4000000
open Go.RowKit Go.Shelf
variable [OldK]
attribute [local go_sem] Oper.semAt_some
def zhc (B:Nat) (e:En) (w:World) (r:Ending) (w':World):Prop :=
 ∃ av cv lv,r = .returned (.agg #[.int .i64 5,.int .i64 0,.string ⟨#[]⟩,.slice av 0 cv,lv])∧QRow (fun _=>False) B ((zbi e).map txP) lv w'∧Fr NoB w w'
theorem z0k (S S':Nat→Prop) (e:En) (pv sv:Value) (w:World) (hfine:Fine S S' e pv sv w) (hk:e.kind=1) :
 Calls ze 94 #[.agg (e.cells pv sv).toArray] w (zhc w.heap.size e w):=by
 obtain⟨hQ,hb,-,-,-,-,hi,-,-⟩:=hfine;have hR:(w.alloc (.cells (e.cells pv sv).toArray 28)).rangeAt w.heap.size 0 (e.cells pv sv):=by simpa using jm (zh w (.cells (e.cells pv sv).toArray 28))
 have hH:=zh w (.cells (e.cells pv sv).toArray 28);obtain⟨c0,cD,cT,cP,cO,cI,cK,-⟩:=En.parts hQ hR;rw[hk]at c0;have hL:(zbi e)=zbi e:=rfl
 have h2:((w.alloc (.cells (e.cells pv sv).toArray 28)).alloc (.cells #[.int .i64 0,.int .i64 0,.string ⟨#[]⟩,.slice none 0 0,.slice none 0 0] 56)).heap[w.heap.size+1]? = some (.cells #[.int .i64 0,.int .i64 0,.string ⟨#[]⟩,.slice none 0 0,.slice none 0 0] 56 (0,0)):=by
  have:=zh (w.alloc (.cells (e.cells pv sv).toArray 28)) (.cells #[.int .i64 0,.int .i64 0,.string ⟨#[]⟩,.slice none 0 0,.slice none 0 0] 56);rw[zf]at this;exact this
 have hB:Fr NoB (w.alloc (.cells (e.cells pv sv).toArray 28)) ((w.alloc (.cells (e.cells pv sv).toArray 28)).alloc (.cells #[.int .i64 0,.int .i64 0,.string ⟨#[]⟩,.slice none 0 0,.slice none 0 0] 56)):=Fr.refl.alloc _;have hJ:Fr NoB w ((w.alloc (.cells (e.cells pv sv).toArray 28)).alloc (.cells #[.int .i64 0,.int .i64 0,.string ⟨#[]⟩,.slice none 0 0,.slice none 0 0] 56)):=(Fr.refl.alloc _).alloc _;have hH:=hB.block _ _ hH (fun h=>h);have hO:w.heap.size<(w.alloc (.cells (e.cells pv sv).toArray 28)).heap.size:=by rw[zf];omega
 have c0:=Fr.cell hB c0;have cT:=Fr.cell hB cT;have cP:=Fr.cell hB cP;have cO:=Fr.cell hB cO;have cI:=Fr.cell hB cI;have cD:=ji cD hB hO (fun _ h=>h);have cK:=ji cK hB hO (fun _ h=>h);have hD:=za (fun V (h:Fr NoB w V)=>zg9 S e.payload pv V (hb.fr h (fun _ _ _ _ h=>h)) (by omega));obtain⟨C,hC⟩:∃ C,(e.cells pv sv).toArray=C:=⟨_,rfl⟩;rw[hC]at h2 hJ hH c0 cD cT cP cO cI cK ⊢;obtain⟨p64,hE⟩:∃ X,zhp e.payload=X:=⟨_,rfl⟩;rw[hE]at hD;obtain⟨a,c,he⟩:=hb.form;rw[he]at cP hD;clear hC hb hR hB hO hL he;go_enter Tryz.func94,Tryz.ntmps94
 go_upto_region 1 with(fail)
 change Code.wp _ _ _ _ ((w.alloc (.cells C 28)).alloc (.cells #[.int .i64 0,.int .i64 0,.string ⟨#[]⟩,.slice none 0 0,.slice none 0 0] 56));obtain⟨W,hY⟩:∃ W,(w.alloc (.cells C 28)).alloc (.cells #[.int .i64 0,.int .i64 0,.string ⟨#[]⟩,.slice none 0 0,.slice none 0 0] 56)=W:=⟨_,rfl⟩;rw[hY]at h2 hJ hH c0 cD cT cP cO cI cK ⊢;obtain⟨p,hp⟩:∃ p,w.heap.size=p:=⟨_,rfl⟩;rw[hp]at h2 hH c0 cD cT cP cO cI cK ⊢;obtain⟨q,hq⟩:∃ q,p+1=q:=⟨_,rfl⟩;rw[hq]at h2 ⊢;have Hpq:=za (And.intro hp hq);have hW:=za hJ;have H2:=za h2;have HH:=za hH;have HD:=za cD;have HKy:=za cK;have HT:=za cT;have HP:=za cP;have HO:=za cO;have HI:=za cI;have H0:=za c0;have Hok:=za hQ;have Hp64:=za hE;clear hJ h2 hH cD cK cT cP cO cI hY hp hq hQ hi hE;have hS:∀ w,(Instr.index 135 (.agg zbr) (.int .i64 1)).run ze w = .ok (.string ⟨(zmf 1).toArray⟩) w:=fun w=>by kernel_rfl
 obtain⟨wk,hN⟩:∃ x,zmf 1=x:=⟨_,rfl⟩;rw[hN]at hS;obtain⟨KC,hZ⟩:∃ x,zbr=x:=⟨_,rfl⟩;have Hkc:=za zjg;rw[hZ]at hS Hkc;have Hwk:=za hN;clear hZ hN;refine wp_region_held_drew (S:=fun V=>Hid (V.cell? ⟨p,0,none⟩=some (.int .i64 1)∧Fr NoB W V)) (by kernel_rfl) (za ⟨by have:=c0;exact this,Fr.refl.drew⟩) (fun hA=>?_);simp only[qV];refine qi (i:=1) (v:=?_) rfl (zv ⟨by rfl,?_⟩) hA ?_;rotate_left
 ·intro W hG;have h0:=hG.out.1
  try simp only[qQ]
  go_simp
  try rw[if_neg (by omega)]
  try with_reducible rfl
 try simp only[Act.put,qP]
 refine qi (i:=2) (v:=?_) rfl (zv ⟨by rfl,?_⟩) hA ?_;rotate_left
 ·intro W hG;have h0:=hG.out.1
  try simp only[qQ]
  go_simp
  try rw[if_neg (by omega)]
  try with_reducible rfl
 try simp only[Act.put,qP]
 refine qr (i:=0) (by kernel_rfl) rfl (fun K hK=>?_)
 try simp only[qQ]
 go_simp;refine(Hkc.out _).mono ?_;rintro r w1 ⟨rfl,hF⟩;refine hK.out _ _ (za ⟨Fr.cell hF hA.out.1 (fun _ h=>h),hA.out.2.trans' hF⟩) (fun hA=>?_);clear hK K
 try simp only[Act.put,qP]
 iterate 2
  refine qt (v:=?_) rfl (zv ⟨by rfl,?_⟩) hA ?_;rotate_left
  ·intro W hG;have h0:=hG.out.1
   try simp only[qQ]
   go_simp
   try rw[if_neg (by omega)]
   try with_reducible rfl
  try simp only[Act.put,qP]
 refine wpAnyH_done (by kernel_rfl) ?_ _;have hM:=za hA.out.2;clear hA c0 hS Hkc;have hm:=Fr.cell hM.out HP.out
 go_wp2_with fail
 refine(hD.out _ (hW.out.trans' hM.out)).mono ?_;rintro r w2 ⟨rfl,hd⟩;have hV:=za (hM.out.trans' hd);clear hd hm hM hD HP;have c0:=Fr.cell hV.out H0.out
 have hU:Hid (∀ V,Fr NoB W V→Calls ze 160 #[.slice (some ⟨p,1,none⟩) 32 32] V fun r w'=>r = .returned (.string ⟨(zdf e.digest).toArray⟩)∧Fr NoB V w'):=za (fun V h=>by
  have h1:=@zho ⟨p+1⟩ (fun _=>True) e.digest _ V (SB.inRange (cap:=32) (h.block _ _ HH.out (fun h=>h)) (ji HD.out h (jb HH.out) (fun _ h=>h)) (by rw[Hok.out.1];omega)) (by rw[Hok.out.1];omega);rw[Hok.out.1]at h1
  exact h1)
 obtain⟨X,hX⟩:∃ X,zdf e.digest=X:=⟨_,rfl⟩;rw[hX]at hU;have Hx:=hU;have HX:=za hX;clear hX hU
 go_wp2_with fail
 refine(Hx.out _ hV.out).mono ?_;rintro r w3 ⟨rfl,hc⟩;have hg:=za (hV.out.trans' hc);clear hc c0 Hx
 go_wp2_with fail
 have hl:Hid (zbi e=[(zmb,X),(j8,wk)]):=za (by unfold zbi;rw[if_pos hk,HX.out,← Hwk.out];rfl);refine(zcy [(zmb,X),(j8,wk)] 4 w3.heap.size 4 _ _ _ _ (zh _ _) rfl rfl (by simp) (zt _) (by decide)).mono ?_;rintro r w4 ⟨lv,rfl,hq,ha⟩;have hI:=hg.out.trans' ((Fr.refl.alloc _).trans' ha);have hT:=hI.block _ _ H2.out (fun h=>h);obtain⟨a0,a1,a2,a3,a4,az,alt⟩:=VB.at hT
 obtain ⟨xa,xc,hj⟩:∃ x c,lv = .slice x ([(zmb,X),(j8,wk)].map txP).length c:=by
  obtain⟨xs,hP,-⟩:=hq;obtain⟨x,y,h⟩:=qj hP;exact⟨x,y,h⟩
 subst hj;have hf:=za (hW.out.trans' hI);have hn:=za hq;have ho:=za hT;have Hsz:=za hI.size;clear ha hI hq hT
 go_wp2_with fail
 refine bodyPost_ret (v := .agg #[.int .i64 5,.int .i64 0,.string ⟨#[]⟩,.slice none 0 0,.slice xa ([(zmb,X),(j8,wk)].map txP).length xc]) (by simp[results,Tryz.results94,go_sem,a0,a1,a2,a3,a4]) rfl ?_;have hh:w.heap.size≤q:=by have:=Hpq.out;omega
 refine⟨none,0,_,rfl,?_,hf.out.setV hh _ _ _ _ _⟩;rw[show zbi e=[(zmb,X),(j8,wk)] from hl.out];exact QRow.setV (QRow.low hn.out (by rw[zf];have:=hf.out.size;have:=hg.out.size;have:=hW.out.size;omega)) ho.out _ _ _ _ _
theorem z0j (S S':Nat→Prop) (e:En) (pv sv:Value) (w:World) (hfine:Fine S S' e pv sv w) (hk:e.kind=2) :
 Calls ze 94 #[.agg (e.cells pv sv).toArray] w (zhc w.heap.size e w):=by
 obtain⟨hT,hb,-,-,-,-,hh,-,-⟩:=hfine;have hR:(w.alloc (.cells (e.cells pv sv).toArray 28)).rangeAt w.heap.size 0 (e.cells pv sv):=by simpa using jm (zh w (.cells (e.cells pv sv).toArray 28))
 have hH:=zh w (.cells (e.cells pv sv).toArray 28);obtain⟨c0,cD,cT,cP,cO,cI,cK,-⟩:=En.parts hT hR;rw[hk]at c0;have hL:(zbi e)=zbi e:=rfl
 have h2:((w.alloc (.cells (e.cells pv sv).toArray 28)).alloc (.cells #[.int .i64 0,.int .i64 0,.string ⟨#[]⟩,.slice none 0 0,.slice none 0 0] 56)).heap[w.heap.size+1]? = some (.cells #[.int .i64 0,.int .i64 0,.string ⟨#[]⟩,.slice none 0 0,.slice none 0 0] 56 (0,0)):=by
  have:=zh (w.alloc (.cells (e.cells pv sv).toArray 28)) (.cells #[.int .i64 0,.int .i64 0,.string ⟨#[]⟩,.slice none 0 0,.slice none 0 0] 56);rw[zf]at this;exact this
 have hB:Fr NoB (w.alloc (.cells (e.cells pv sv).toArray 28)) ((w.alloc (.cells (e.cells pv sv).toArray 28)).alloc (.cells #[.int .i64 0,.int .i64 0,.string ⟨#[]⟩,.slice none 0 0,.slice none 0 0] 56)):=Fr.refl.alloc _;have hM:Fr NoB w ((w.alloc (.cells (e.cells pv sv).toArray 28)).alloc (.cells #[.int .i64 0,.int .i64 0,.string ⟨#[]⟩,.slice none 0 0,.slice none 0 0] 56)):=(Fr.refl.alloc _).alloc _;have hH:=hB.block _ _ hH (fun h=>h);have hQ:w.heap.size<(w.alloc (.cells (e.cells pv sv).toArray 28)).heap.size:=by rw[zf];omega
 have c0:=Fr.cell hB c0;have cT:=Fr.cell hB cT;have cP:=Fr.cell hB cP;have cO:=Fr.cell hB cO;have cI:=Fr.cell hB cI;have cD:=ji cD hB hQ (fun _ h=>h);have cK:=ji cK hB hQ (fun _ h=>h);have hD:=za (fun V (h:Fr NoB w V)=>zg9 S e.payload pv V (hb.fr h (fun _ _ _ _ h=>h)) (by omega));obtain⟨C,hC⟩:∃ C,(e.cells pv sv).toArray=C:=⟨_,rfl⟩;rw[hC]at h2 hM hH c0 cD cT cP cO cI cK ⊢;obtain⟨hG,hE⟩:∃ X,zhp e.payload=X:=⟨_,rfl⟩;rw[hE]at hD;obtain⟨a,c,he⟩:=hb.form;rw[he]at cP hD;clear hC hb hR hB hQ hL he;go_enter Tryz.func94,Tryz.ntmps94
 go_upto_region 1 with(fail)
 change Code.wp _ _ _ _ ((w.alloc (.cells C 28)).alloc (.cells #[.int .i64 0,.int .i64 0,.string ⟨#[]⟩,.slice none 0 0,.slice none 0 0] 56));obtain⟨W,hZ⟩:∃ W,(w.alloc (.cells C 28)).alloc (.cells #[.int .i64 0,.int .i64 0,.string ⟨#[]⟩,.slice none 0 0,.slice none 0 0] 56)=W:=⟨_,rfl⟩;rw[hZ]at h2 hM hH c0 cD cT cP cO cI cK ⊢;obtain⟨p,hp⟩:∃ p,w.heap.size=p:=⟨_,rfl⟩;rw[hp]at h2 hH c0 cD cT cP cO cI cK ⊢;obtain⟨q,hq⟩:∃ q,p+1=q:=⟨_,rfl⟩;rw[hq]at h2 ⊢;have Hpq:=za (And.intro hp hq);have hY:=za hM;have H2:=za h2;have HH:=za hH;have HD:=za cD;have HKy:=za cK;have HT:=za cT;have HP:=za cP;have HO:=za cO;have HI:=za cI;have H0:=za c0;have Hok:=za hT;have hW:=za hE;clear hM h2 hH cD cK cT cP cO cI hZ hp hq hT hh hE;have hU:∀ w,(Instr.index 135 (.agg zbr) (.int .i64 2)).run ze w = .ok (.string ⟨(zmf 2).toArray⟩) w:=fun w=>by kernel_rfl
 obtain⟨wk,hP⟩:∃ x,zmf 2=x:=⟨_,rfl⟩;rw[hP]at hU;obtain⟨KC,ha⟩:∃ x,zbr=x:=⟨_,rfl⟩;have Hkc:=za zjg;rw[ha]at hU Hkc;have Hwk:=za hP;clear ha hP;refine wp_region_held_drew (S:=fun V=>Hid (V.cell? ⟨p,0,none⟩=some (.int .i64 2)∧Fr NoB W V)) (by kernel_rfl) (za ⟨by have:=c0;exact this,Fr.refl.drew⟩) (fun hA=>?_);simp only[qV];refine qi (i:=1) (v:=?_) rfl (zv ⟨by rfl,?_⟩) hA ?_;rotate_left
 ·intro W hI;have h0:=hI.out.1
  try simp only[qQ]
  go_simp
  try rw[if_neg (by omega)]
  try with_reducible rfl
 try simp only[Act.put,qP]
 refine qi (i:=2) (v:=?_) rfl (zv ⟨by rfl,?_⟩) hA ?_;rotate_left
 ·intro W hI;have h0:=hI.out.1
  try simp only[qQ]
  go_simp
  try rw[if_neg (by omega)]
  try with_reducible rfl
 try simp only[Act.put,qP]
 refine qr (i:=0) (by kernel_rfl) rfl (fun K hK=>?_)
 try simp only[qQ]
 go_simp;refine(Hkc.out _).mono ?_;rintro r w1 ⟨rfl,hF⟩;refine hK.out _ _ (za ⟨Fr.cell hF hA.out.1 (fun _ h=>h),hA.out.2.trans' hF⟩) (fun hA=>?_);clear hK K
 try simp only[Act.put,qP]
 iterate 2
  refine qt (v:=?_) rfl (zv ⟨by rfl,?_⟩) hA ?_;rotate_left
  ·intro W hI;have h0:=hI.out.1
   try simp only[qQ]
   go_simp
   try rw[if_neg (by omega)]
   try with_reducible rfl
  try simp only[Act.put,qP]
 refine wpAnyH_done (by kernel_rfl) ?_ _;have hO:=za hA.out.2;clear hA c0 hU Hkc;have hl:=Fr.cell hO.out HP.out
 go_wp2_with fail
 refine(hD.out _ (hY.out.trans' hO.out)).mono ?_;rintro r w2 ⟨rfl,hd⟩;have hN:=za (hO.out.trans' hd);clear hd hl hO hD HP;have c0:=Fr.cell hN.out H0.out;have cT:=Fr.cell hN.out HT.out;obtain⟨X,hX⟩:∃ X,e.typ=X:=⟨_,rfl⟩;rw[hX]at cT;have HX:=za hX;clear hX HT
 go_wp2_with fail
 have hj:Hid (zbi e=[(j8,wk),(zft,hG),(zee,X)]):=za (by unfold zbi;rw[if_neg (by omega),if_pos hk,HX.out,← Hwk.out,hW.out];rfl);refine(zcy [(j8,wk),(zft,hG),(zee,X)] 6 w2.heap.size 6 _ _ _ _ (zh _ _) rfl rfl (by simp) (zt _) (by decide)).mono ?_;rintro r w4 ⟨lv,rfl,hq,hc⟩;have hJ:=hN.out.trans' ((Fr.refl.alloc _).trans' hc);have hV:=hJ.block _ _ H2.out (fun h=>h);obtain⟨a0,a1,a2,a3,a4,az,alt⟩:=VB.at hV
 obtain ⟨xa,xc,hi⟩:∃ x c,lv = .slice x ([(j8,wk),(zft,hG),(zee,X)].map txP).length c:=by
  obtain⟨xs,hS,-⟩:=hq;obtain⟨x,y,h⟩:=qj hS;exact⟨x,y,h⟩
 subst hi;have hf:=za (hY.out.trans' hJ);have hm:=za hq;have hn:=za hV;have Hsz:=za hJ.size;clear hc hJ hq hV
 go_wp2_with fail
 refine bodyPost_ret (v := .agg #[.int .i64 5,.int .i64 0,.string ⟨#[]⟩,.slice none 0 0,.slice xa ([(j8,wk),(zft,hG),(zee,X)].map txP).length xc]) (by simp[results,Tryz.results94,go_sem,a0,a1,a2,a3,a4]) rfl ?_;have hg:w.heap.size≤q:=by have:=Hpq.out;omega
 refine⟨none,0,_,rfl,?_,hf.out.setV hg _ _ _ _ _⟩;rw[show zbi e=[(j8,wk),(zft,hG),(zee,X)] from hj.out];exact QRow.setV (QRow.low hm.out (by rw[zf];have:=hf.out.size;have:=hN.out.size;have:=hY.out.size;omega)) hn.out _ _ _ _ _
theorem z0i (S S':Nat→Prop) (e:En) (pv sv:Value) (w:World) (hfine:Fine S S' e pv sv w) (hk:e.kind=3) :
 Calls ze 94 #[.agg (e.cells pv sv).toArray] w (zhc w.heap.size e w):=by
 obtain⟨hS,hb,-,-,-,-,hg,-,-⟩:=hfine;have hR:(w.alloc (.cells (e.cells pv sv).toArray 28)).rangeAt w.heap.size 0 (e.cells pv sv):=by simpa using jm (zh w (.cells (e.cells pv sv).toArray 28))
 have hH:=zh w (.cells (e.cells pv sv).toArray 28);obtain⟨c0,cD,cT,cP,cO,cI,cK,-⟩:=En.parts hS hR;rw[hk]at c0;have hL:(zbi e)=zbi e:=rfl
 have h2:((w.alloc (.cells (e.cells pv sv).toArray 28)).alloc (.cells #[.int .i64 0,.int .i64 0,.string ⟨#[]⟩,.slice none 0 0,.slice none 0 0] 56)).heap[w.heap.size+1]? = some (.cells #[.int .i64 0,.int .i64 0,.string ⟨#[]⟩,.slice none 0 0,.slice none 0 0] 56 (0,0)):=by
  have:=zh (w.alloc (.cells (e.cells pv sv).toArray 28)) (.cells #[.int .i64 0,.int .i64 0,.string ⟨#[]⟩,.slice none 0 0,.slice none 0 0] 56);rw[zf]at this;exact this
 have hB:Fr NoB (w.alloc (.cells (e.cells pv sv).toArray 28)) ((w.alloc (.cells (e.cells pv sv).toArray 28)).alloc (.cells #[.int .i64 0,.int .i64 0,.string ⟨#[]⟩,.slice none 0 0,.slice none 0 0] 56)):=Fr.refl.alloc _;have hM:Fr NoB w ((w.alloc (.cells (e.cells pv sv).toArray 28)).alloc (.cells #[.int .i64 0,.int .i64 0,.string ⟨#[]⟩,.slice none 0 0,.slice none 0 0] 56)):=(Fr.refl.alloc _).alloc _;have hH:=hB.block _ _ hH (fun h=>h);have hP:w.heap.size<(w.alloc (.cells (e.cells pv sv).toArray 28)).heap.size:=by rw[zf];omega
 have c0:=Fr.cell hB c0;have cT:=Fr.cell hB cT;have cP:=Fr.cell hB cP;have cO:=Fr.cell hB cO;have cI:=Fr.cell hB cI;have cD:=ji cD hB hP (fun _ h=>h);have cK:=ji cK hB hP (fun _ h=>h);have hD:=za (fun V (h:Fr NoB w V)=>zg9 S e.payload pv V (hb.fr h (fun _ _ _ _ h=>h)) (by omega));obtain⟨C,hC⟩:∃ C,(e.cells pv sv).toArray=C:=⟨_,rfl⟩;rw[hC]at h2 hM hH c0 cD cT cP cO cI cK ⊢;obtain⟨hG,hE⟩:∃ X,zhp e.payload=X:=⟨_,rfl⟩;rw[hE]at hD;obtain⟨a,c,hd⟩:=hb.form;rw[hd]at cP hD;clear hC hb hR hB hP hL hd;go_enter Tryz.func94,Tryz.ntmps94
 go_upto_region 1 with(fail)
 change Code.wp _ _ _ _ ((w.alloc (.cells C 28)).alloc (.cells #[.int .i64 0,.int .i64 0,.string ⟨#[]⟩,.slice none 0 0,.slice none 0 0] 56));obtain⟨W,hY⟩:∃ W,(w.alloc (.cells C 28)).alloc (.cells #[.int .i64 0,.int .i64 0,.string ⟨#[]⟩,.slice none 0 0,.slice none 0 0] 56)=W:=⟨_,rfl⟩;rw[hY]at h2 hM hH c0 cD cT cP cO cI cK ⊢;obtain⟨p,hp⟩:∃ p,w.heap.size=p:=⟨_,rfl⟩;rw[hp]at h2 hH c0 cD cT cP cO cI cK ⊢;obtain⟨q,hq⟩:∃ q,p+1=q:=⟨_,rfl⟩;rw[hq]at h2 ⊢;have Hpq:=za (And.intro hp hq);have hX:=za hM;have H2:=za h2;have HH:=za hH;have HD:=za cD;have HKy:=za cK;have HT:=za cT;have HP:=za cP;have HO:=za cO;have HI:=za cI;have H0:=za c0;have Hok:=za hS;have hV:=za hE;clear hM h2 hH cD cK cT cP cO cI hY hp hq hS hg hE;have hT:∀ w,(Instr.index 135 (.agg zbr) (.int .i64 3)).run ze w = .ok (.string ⟨(zmf 3).toArray⟩) w:=fun w=>by kernel_rfl
 obtain⟨wk,hO⟩:∃ x,zmf 3=x:=⟨_,rfl⟩;rw[hO]at hT;obtain⟨KC,hZ⟩:∃ x,zbr=x:=⟨_,rfl⟩;have Hkc:=za zjg;rw[hZ]at hT Hkc;have Hwk:=za hO;clear hZ hO;refine wp_region_held_drew (S:=fun V=>Hid (V.cell? ⟨p,0,none⟩=some (.int .i64 3)∧Fr NoB W V)) (by kernel_rfl) (za ⟨by have:=c0;exact this,Fr.refl.drew⟩) (fun hA=>?_);simp only[qV];refine qi (i:=1) (v:=?_) rfl (zv ⟨by rfl,?_⟩) hA ?_;rotate_left
 ·intro W hI;have h0:=hI.out.1
  try simp only[qQ]
  go_simp
  try rw[if_neg (by omega)]
  try with_reducible rfl
 try simp only[Act.put,qP]
 refine qi (i:=2) (v:=?_) rfl (zv ⟨by rfl,?_⟩) hA ?_;rotate_left
 ·intro W hI;have h0:=hI.out.1
  try simp only[qQ]
  go_simp
  try rw[if_neg (by omega)]
  try with_reducible rfl
 try simp only[Act.put,qP]
 refine qr (i:=0) (by kernel_rfl) rfl (fun K hK=>?_)
 try simp only[qQ]
 go_simp;refine(Hkc.out _).mono ?_;rintro r w1 ⟨rfl,hF⟩;refine hK.out _ _ (za ⟨Fr.cell hF hA.out.1 (fun _ h=>h),hA.out.2.trans' hF⟩) (fun hA=>?_);clear hK K
 try simp only[Act.put,qP]
 iterate 2
  refine qt (v:=?_) rfl (zv ⟨by rfl,?_⟩) hA ?_;rotate_left
  ·intro W hI;have h0:=hI.out.1
   try simp only[qQ]
   go_simp
   try rw[if_neg (by omega)]
   try with_reducible rfl
  try simp only[Act.put,qP]
 refine wpAnyH_done (by kernel_rfl) ?_ _;have hN:=za hA.out.2;clear hA c0 hT Hkc;have hj:=Fr.cell hN.out HP.out
 go_wp2_with fail
 refine(hD.out _ (hX.out.trans' hN.out)).mono ?_;rintro r w2 ⟨rfl,hc⟩;have hW:=za (hN.out.trans' hc);clear hc hj hN hD HP;have c0:=Fr.cell hW.out H0.out
 go_wp2_with fail
 have hi:Hid (zbi e=[(j8,wk),(zft,hG)]):=za (by unfold zbi;rw[if_neg (by omega),if_neg (by omega),if_pos hk,← Hwk.out,hV.out];rfl);refine(zcy [(j8,wk),(zft,hG)] 4 w2.heap.size 4 _ _ _ _ (zh _ _) rfl rfl (by simp) (zt _) (by decide)).mono ?_;rintro r w4 ⟨lv,rfl,hq,ha⟩;have hJ:=hW.out.trans' ((Fr.refl.alloc _).trans' ha);have hU:=hJ.block _ _ H2.out (fun h=>h);obtain⟨a0,a1,a2,a3,a4,az,alt⟩:=VB.at hU
 obtain ⟨xa,xc,hh⟩:∃ x c,lv = .slice x ([(j8,wk),(zft,hG)].map txP).length c:=by
  obtain⟨xs,hQ,-⟩:=hq;obtain⟨x,y,h⟩:=qj hQ;exact⟨x,y,h⟩
 subst hh;have he:=za (hX.out.trans' hJ);have hl:=za hq;have hm:=za hU;have Hsz:=za hJ.size;clear ha hJ hq hU
 go_wp2_with fail
 refine bodyPost_ret (v := .agg #[.int .i64 5,.int .i64 0,.string ⟨#[]⟩,.slice none 0 0,.slice xa ([(j8,wk),(zft,hG)].map txP).length xc]) (by simp[results,Tryz.results94,go_sem,a0,a1,a2,a3,a4]) rfl ?_;have hf:w.heap.size≤q:=by have:=Hpq.out;omega
 refine⟨none,0,_,rfl,?_,he.out.setV hf _ _ _ _ _⟩;rw[show zbi e=[(j8,wk),(zft,hG)] from hi.out];exact QRow.setV (QRow.low hl.out (by rw[zf];have:=he.out.size;have:=hW.out.size;have:=hX.out.size;omega)) hm.out _ _ _ _ _
theorem z0h (S S':Nat→Prop) (e:En) (pv sv:Value) (w:World) (hfine:Fine S S' e pv sv w) (hk:e.kind=4) (hop:1≤e.op∧e.op≤3) (hid:e.ident.length≤5000) :
 Calls ze 94 #[.agg (e.cells pv sv).toArray] w (zhc w.heap.size e w):=by
 obtain⟨AQ,hb,-,-,-,-,Aw,-,-⟩:=hfine;have hR:(w.alloc (.cells (e.cells pv sv).toArray 28)).rangeAt w.heap.size 0 (e.cells pv sv):=by simpa using jm (zh w (.cells (e.cells pv sv).toArray 28))
 have hH:=zh w (.cells (e.cells pv sv).toArray 28);obtain⟨c0,cD,cT,cP,cO,cI,cK,-⟩:=En.parts AQ hR;rw[hk]at c0;have hL:(zbi e)=zbi e:=rfl
 have h2:((w.alloc (.cells (e.cells pv sv).toArray 28)).alloc (.cells #[.int .i64 0,.int .i64 0,.string ⟨#[]⟩,.slice none 0 0,.slice none 0 0] 56)).heap[w.heap.size+1]? = some (.cells #[.int .i64 0,.int .i64 0,.string ⟨#[]⟩,.slice none 0 0,.slice none 0 0] 56 (0,0)):=by
  have:=zh (w.alloc (.cells (e.cells pv sv).toArray 28)) (.cells #[.int .i64 0,.int .i64 0,.string ⟨#[]⟩,.slice none 0 0,.slice none 0 0] 56);rw[zf]at this;exact this
 have ha:Fr NoB (w.alloc (.cells (e.cells pv sv).toArray 28)) ((w.alloc (.cells (e.cells pv sv).toArray 28)).alloc (.cells #[.int .i64 0,.int .i64 0,.string ⟨#[]⟩,.slice none 0 0,.slice none 0 0] 56)):=Fr.refl.alloc _;have AE:Fr NoB w ((w.alloc (.cells (e.cells pv sv).toArray 28)).alloc (.cells #[.int .i64 0,.int .i64 0,.string ⟨#[]⟩,.slice none 0 0,.slice none 0 0] 56)):=(Fr.refl.alloc _).alloc _;have hH:=ha.block _ _ hH (fun h=>h);have AO:w.heap.size<(w.alloc (.cells (e.cells pv sv).toArray 28)).heap.size:=by rw[zf];omega
 have c0:=Fr.cell ha c0;have cT:=Fr.cell ha cT;have cP:=Fr.cell ha cP;have cO:=Fr.cell ha cO;have cI:=Fr.cell ha cI;have cD:=ji cD ha AO (fun _ h=>h);have cK:=ji cK ha AO (fun _ h=>h);have hc:=za (fun V (h:Fr NoB w V)=>zg9 S e.payload pv V (hb.fr h (fun _ _ _ _ h=>h)) (by omega));obtain⟨C,hC⟩:∃ C,(e.cells pv sv).toArray=C:=⟨_,rfl⟩;rw[hC]at h2 AE hH c0 cD cT cP cO cI cK ⊢;obtain⟨p64,hr⟩:∃ X,zhp e.payload=X:=⟨_,rfl⟩;rw[hr]at hc;obtain⟨a,c,Am⟩:=hb.form;rw[Am]at cP hc;clear hC hb hR ha AO hL Am;go_enter Tryz.func94,Tryz.ntmps94
 go_upto_region 1 with(fail)
 change Code.wp _ _ _ _ ((w.alloc (.cells C 28)).alloc (.cells #[.int .i64 0,.int .i64 0,.string ⟨#[]⟩,.slice none 0 0,.slice none 0 0] 56));obtain⟨W,Ah⟩:∃ W,(w.alloc (.cells C 28)).alloc (.cells #[.int .i64 0,.int .i64 0,.string ⟨#[]⟩,.slice none 0 0,.slice none 0 0] 56)=W:=⟨_,rfl⟩;rw[Ah]at h2 AE hH c0 cD cT cP cO cI cK ⊢;obtain⟨p,hp⟩:∃ p,w.heap.size=p:=⟨_,rfl⟩;rw[hp]at h2 hH c0 cD cT cP cO cI cK ⊢;obtain⟨q,hq⟩:∃ q,p+1=q:=⟨_,rfl⟩;rw[hq]at h2 ⊢;have Hpq:=za (And.intro hp hq);have AA:=za AE;have H2:=za h2;have HH:=za hH;have HD:=za cD;have A2:=za cK;have HT:=za cT;have HP:=za cP;have HO:=za cO;have HI:=za cI;have H0:=za c0;have Hok:=za AQ;have AX:=za hr;clear AE h2 hH cD cK cT cP cO cI Ah hp hq AQ Aw hr;have hy:∀ w,(Instr.index 135 (.agg zbr) (.int .i64 4)).run ze w = .ok (.string ⟨(zmf 4).toArray⟩) w:=fun w=>by kernel_rfl
 obtain⟨wk,AJ⟩:∃ x,zmf 4=x:=⟨_,rfl⟩;rw[AJ]at hy;obtain⟨KC,Ak⟩:∃ x,zbr=x:=⟨_,rfl⟩;have Hkc:=za zjg;rw[Ak]at hy Hkc;have Hwk:=za AJ;clear Ak AJ;refine wp_region_held_drew (S:=fun V=>Hid (V.cell? ⟨p,0,none⟩=some (.int .i64 4)∧Fr NoB W V)) (by kernel_rfl) (za ⟨by have:=c0;exact this,Fr.refl.drew⟩) (fun hA=>?_);simp only[qV];refine qi (i:=1) (v:=?_) rfl (zv ⟨by rfl,?_⟩) hA ?_;rotate_left
 ·intro W hM;have h0:=hM.out.1
  try simp only[qQ]
  go_simp
  try rw[if_neg (by omega)]
  try with_reducible rfl
 try simp only[Act.put,qP]
 refine qi (i:=2) (v:=?_) rfl (zv ⟨by rfl,?_⟩) hA ?_;rotate_left
 ·intro W hM;have h0:=hM.out.1
  try simp only[qQ]
  go_simp
  try rw[if_neg (by omega)]
  try with_reducible rfl
 try simp only[Act.put,qP]
 refine qr (i:=0) (by kernel_rfl) rfl (fun K hK=>?_)
 try simp only[qQ]
 go_simp;refine(Hkc.out _).mono ?_;rintro r w1 ⟨rfl,hF⟩;refine hK.out _ _ (za ⟨Fr.cell hF hA.out.1 (fun _ h=>h),hA.out.2.trans' hF⟩) (fun hA=>?_);clear hK K
 try simp only[Act.put,qP]
 iterate 2
  refine qt (v:=?_) rfl (zv ⟨by rfl,?_⟩) hA ?_;rotate_left
  ·intro W hM;have h0:=hM.out.1
   try simp only[qQ]
   go_simp
   try rw[if_neg (by omega)]
   try with_reducible rfl
  try simp only[Act.put,qP]
 refine wpAnyH_done (by kernel_rfl) ?_ _;have AG:=za hA.out.2;clear hA c0 hy Hkc;have A0:=Fr.cell AG.out HP.out
 go_wp2_with fail
 refine(hc.out _ (AA.out.trans' AG.out)).mono ?_;rintro r w2 ⟨rfl,Al⟩;have hj:=za (AG.out.trans' Al);clear Al A0 AG hc HP;have c0:=Fr.cell hj.out H0.out;have cI:=Fr.cell hj.out HI.out;have cO:=Fr.cell hj.out HO.out;obtain⟨I,hI⟩:∃ X,e.ident=X:=⟨_,rfl⟩;rw[hI]at cI;have Aq:=za hI;obtain⟨oo,AP⟩:∃ X,e.op=X:=⟨_,rfl⟩;rw[AP]at cO hop
 have hy:∀ w,(Instr.index 137 (.agg zoa) (.int .i64 oo)).run ze w = .ok (.string ⟨(wOp oo).toArray⟩) w:=by
  have:oo=1∨oo=2∨oo=3:=by omega
  rcases this with rfl | rfl | rfl<;>exact fun w=>by kernel_rfl
 obtain⟨wo,AC⟩:∃ x,wOp oo=x:=⟨_,rfl⟩;rw[AC]at hy;obtain⟨OC,Aj⟩:∃ x,zoa=x:=⟨_,rfl⟩;have Hops:=za z03;rw[Aj]at hy Hops;have Hwo:=za AC;have Hlen:Hid (I.length≤5000∧wk.length≤5000∧wo.length≤5000∧(zdf e.key).length≤5000):=za ⟨by rw[← hI];exact hid,by rw[← Hwk.out];decide,by rw[← AC];have:=zyc oo;omega,by rw[zgy,Hok.out.2.1];omega⟩;have Hop:=za hop;have Hoo:=za AP;have AZ:=za cI;have AY:=za cO;clear hI HI hid Aj AC hop AP HT AX
 go_upto_region 10 with(fail)
 go_cut [5] from 37 to 45 (fun v5 wx=>∃ bo lv,v5 = .pointer (some ⟨bo,0,none⟩)∧Hid (w2.heap.size≤bo∧wx.heap[bo]? = some (.cells #[.int .i64 5,.int .i64 0,.string ⟨#[]⟩,.slice none 0 0,lv] 56 (0,0))∧QRow (fun _=>False) w2.heap.size ([(qg,I),(j8,wk),(nOp,wo)].map txP) lv wx∧Fr NoB w2 wx))
 case first =>
  refine wp_region_held_drew (S:=fun V=>Hid (Fr NoB w2 V)) (by kernel_rfl) (za Fr.refl.drew) (fun hA=>?_);simp only[qV];obtain⟨V0,h7⟩:∃ V,w2.drew=V:=⟨_,rfl⟩;rw[h7]at hA ⊢;clear h7
  iterate 3
   refine qt (v:=?_) rfl (zv ⟨by rfl,?_⟩) hA ?_;rotate_left
   ·intro W hM;have z1:=Fr.cell hM.out AZ.out;have z2:=Fr.cell hM.out AY.out
    try simp only[qQ]
    go_simp
    try rw[if_neg (by omega)]
    try with_reducible rfl
   try simp only[Act.put,qP]
  refine qi (i:=4) (v:=?_) rfl (zv ⟨by rfl,?_⟩) hA ?_;rotate_left
  ·intro W hM;have z1:=Fr.cell hM.out AZ.out;have z2:=Fr.cell hM.out AY.out
   try simp only[qQ]
   go_simp
   try rw[if_neg (by omega)]
   try with_reducible rfl
  try simp only[Act.put,qP]
  refine qi (i:=5) (v:=?_) rfl (zv ⟨by rfl,?_⟩) hA ?_;rotate_left
  ·intro W hM;have z1:=Fr.cell hM.out AZ.out;have z2:=Fr.cell hM.out AY.out
   try simp only[qQ]
   go_simp
   try rw[if_neg (by omega)]
   try with_reducible rfl
  try simp only[Act.put,qP]
  refine q2H (i:=3) (j:=9) (by kernel_rfl) rfl rfl (fun K hK=>?_) (fun K hK=>?_)
  ·try simp only[qQ]
   go_simp;refine(Hops.out V0).mono ?_;rintro r V1 ⟨rfl,hF⟩;refine hK.out _ _ (za (hA.out.trans' hF)) (fun hA=>?_);clear hK K
   try simp only[Act.put,qP]
   try have hz:=hF.block _ _ hz (fun h=>h)
   clear hF;refine qi (i:=6) (v:=?_) rfl (zv ⟨by rfl,?_⟩) hA ?_;rotate_left
   ·intro W hM
    try simp only[qQ]
    go_simp
    try rw[if_neg (by omega)]
    try with_reducible rfl
   try simp only[Act.put,qP]
   refine q2H (i:=7) (j:=9) (by kernel_rfl) rfl rfl (fun K hK=>?_) (fun K hK=>?_)
   ·try simp only[qQ]
    go_simp;have hE:=hA.out.size;refine hK.out _ _ (za (hA.out.alloc _)) (fun hA=>?_);clear hK K
    try simp only[Act.put,qP]
    have hF:=(Fr.refl (M:=NoB) (w:=V1)).alloc (.cells #[.string ⟨#[105,100,101,110,116,105,116,121]⟩,.string ⟨I.toArray⟩,.string ⟨#[107,105,110,100]⟩,.string ⟨wk.toArray⟩,.string ⟨#[111,112]⟩,.string ⟨wo.toArray⟩] 9);have hg:=zh V1 (.cells #[.string ⟨#[105,100,101,110,116,105,116,121]⟩,.string ⟨I.toArray⟩,.string ⟨#[107,105,110,100]⟩,.string ⟨wk.toArray⟩,.string ⟨#[111,112]⟩,.string ⟨wo.toArray⟩] 9);obtain⟨gb,h6⟩:∃ x,V1.heap.size=x:=⟨_,rfl⟩;obtain⟨V2,hJ⟩:∃ x,V1.alloc (.cells #[.string ⟨#[105,100,101,110,116,105,116,121]⟩,.string ⟨I.toArray⟩,.string ⟨#[107,105,110,100]⟩,.string ⟨wk.toArray⟩,.string ⟨#[111,112]⟩,.string ⟨wo.toArray⟩] 9)=x:=⟨_,rfl⟩;rw[h6]at hg ⊢;rw[hJ]at hg hF hA ⊢
    try have hz:=hF.block _ _ hz (fun h=>h)
    clear hF hJ;refine q2H (i:=8) (j:=9) (by kernel_rfl) rfl rfl (fun K hK=>?_) (fun K hK=>?_)
    ·try simp only[qQ]
     go_simp;refine(zcy [(qg,I),(j8,wk),(nOp,wo)] 6 gb 6 _ _ _ V2 hg rfl rfl (by simp) (zt _) (by decide)).mono ?_;rintro r V3 ⟨lv,rfl,hq,hF⟩;have hQ:=hA.out.size;refine hK.out _ _ (za (hA.out.trans' hF)) (fun hA=>?_);clear hK K
     try simp only[Act.put,qP]
     have hq:=hq.low (N':=w2.heap.size) hQ
     try have hz:=hF.block _ _ hz (fun h=>h)
     clear hF hg;refine qr (i:=9) (by kernel_rfl) rfl (fun K hK=>?_)
     try simp only[qQ]
     go_simp;have hE:=hA.out.size;refine hK.out _ _ (za (hA.out.alloc _)) (fun hA=>?_);clear hK K
     try simp only[Act.put,qP]
     have hF:=(Fr.refl (M:=NoB) (w:=V3)).alloc (.cells #[.int .i64 0,.int .i64 0,.string ⟨#[]⟩,.slice none 0 0,.slice none 0 0] 56);have hz:=zh V3 (.cells #[.int .i64 0,.int .i64 0,.string ⟨#[]⟩,.slice none 0 0,.slice none 0 0] 56);obtain⟨bo,hP⟩:∃ x,V3.heap.size=x:=⟨_,rfl⟩;obtain⟨V4,hJ⟩:∃ x,V3.alloc (.cells #[.int .i64 0,.int .i64 0,.string ⟨#[]⟩,.slice none 0 0,.slice none 0 0] 56)=x:=⟨_,rfl⟩;have hN:w2.heap.size≤V3.heap.size:=hE;rw[hP]at hz hN ⊢;rw[hJ]at hz hF hA ⊢
     try have hg:=hF.block _ _ hg (fun h=>h)
     try have hq:=hq.frT hF
     clear hF hJ
     obtain ⟨xa,xc,hO⟩:∃ x c,lv = .slice x 3 c:=by
      obtain⟨xs,hB,-⟩:=hq;obtain⟨x,y,h⟩:=qj hB;exact⟨x,y,h⟩
     subst hO;obtain⟨s0,s1,s2,s3,s4,sz,AH⟩:=VB.at hz;refine qr (i:=10) (by kernel_rfl) rfl (fun K hK=>?_)
     try simp only[qQ]
     go_simp;refine hK.out _ _ (za (hA.out.setV hN _ _ _ _ _)) (fun hA=>?_);clear hK K
     try simp only[Act.put,qP]
     clear s0 s1 s2 s3 s4 sz;have hD:=VB.setV ⟨_,_,_,_,_,hz⟩ (.int .i64 5) (.int .i64 0) (.string ⟨#[]⟩) (.slice none 0 0) (.slice xa 3 xc);have hG:=QRow.setV hq hz (.int .i64 5) (.int .i64 0) (.string ⟨#[]⟩) (.slice none 0 0) (.slice xa 3 xc);refine wpAnyH_done (by kernel_rfl) ?_ _;change Exit.then _ _ _ _ (setV bo (.int .i64 5) (.int .i64 0) (.string ⟨#[]⟩) (.slice none 0 0) (.slice xa 3 xc) V4);change Hid (Fr NoB w2 (setV bo (.int .i64 5) (.int .i64 0) (.string ⟨#[]⟩) (.slice none 0 0) (.slice xa 3 xc) V4)) at hA;obtain⟨W9,hV⟩:∃ z,setV bo (.int .i64 5) (.int .i64 0) (.string ⟨#[]⟩) (.slice none 0 0) (.slice xa 3 xc) V4=z:=⟨_,rfl⟩;rw[hV]at hD hG hA ⊢;have HE:=za (And.intro hN (And.intro hD (And.intro hG hA.out)));clear hD hG hA hV hz hq hN
     go_wp2_with fail
     go_meet
     case rel=>exact⟨bo,_,rfl,HE⟩
    try simp only[qQ]
    go_simp;have hE:=hA.out.size;refine hK.out _ _ (za (hA.out.alloc _)) (fun hA=>?_);clear hK K
    try simp only[Act.put,qP]
    have hF:=(Fr.refl (M:=NoB) (w:=V2)).alloc (.cells #[.int .i64 0,.int .i64 0,.string ⟨#[]⟩,.slice none 0 0,.slice none 0 0] 56);have hz:=zh V2 (.cells #[.int .i64 0,.int .i64 0,.string ⟨#[]⟩,.slice none 0 0,.slice none 0 0] 56);obtain⟨bo,hP⟩:∃ x,V2.heap.size=x:=⟨_,rfl⟩;obtain⟨V3,hJ⟩:∃ x,V2.alloc (.cells #[.int .i64 0,.int .i64 0,.string ⟨#[]⟩,.slice none 0 0,.slice none 0 0] 56)=x:=⟨_,rfl⟩;have hN:w2.heap.size≤V2.heap.size:=hE;rw[hP]at hz hN ⊢;rw[hJ]at hz hF hA ⊢
    try have hg:=hF.block _ _ hg (fun h=>h)
    try have hq:=hq.frT hF
    clear hF hJ;refine qr (i:=8) (by kernel_rfl) rfl (fun K hK=>?_)
    try simp only[qQ]
    go_simp;refine(zcy [(qg,I),(j8,wk),(nOp,wo)] 6 gb 6 _ _ _ V3 hg rfl rfl (by simp) (zt _) (by decide)).mono ?_;rintro r V4 ⟨lv,rfl,hq,hF⟩;have hQ:=hA.out.size;refine hK.out _ _ (za (hA.out.trans' hF)) (fun hA=>?_);clear hK K
    try simp only[Act.put,qP]
    have hq:=hq.low (N':=w2.heap.size) hQ
    try have hz:=hF.block _ _ hz (fun h=>h)
    clear hF hg
    obtain ⟨xa,xc,hO⟩:∃ x c,lv = .slice x 3 c:=by
     obtain⟨xs,hB,-⟩:=hq;obtain⟨x,y,h⟩:=qj hB;exact⟨x,y,h⟩
    subst hO;obtain⟨s0,s1,s2,s3,s4,sz,AH⟩:=VB.at hz;refine qr (i:=10) (by kernel_rfl) rfl (fun K hK=>?_)
    try simp only[qQ]
    go_simp;refine hK.out _ _ (za (hA.out.setV hN _ _ _ _ _)) (fun hA=>?_);clear hK K
    try simp only[Act.put,qP]
    clear s0 s1 s2 s3 s4 sz;have hD:=VB.setV ⟨_,_,_,_,_,hz⟩ (.int .i64 5) (.int .i64 0) (.string ⟨#[]⟩) (.slice none 0 0) (.slice xa 3 xc);have hG:=QRow.setV hq hz (.int .i64 5) (.int .i64 0) (.string ⟨#[]⟩) (.slice none 0 0) (.slice xa 3 xc);refine wpAnyH_done (by kernel_rfl) ?_ _;change Exit.then _ _ _ _ (setV bo (.int .i64 5) (.int .i64 0) (.string ⟨#[]⟩) (.slice none 0 0) (.slice xa 3 xc) V4);change Hid (Fr NoB w2 (setV bo (.int .i64 5) (.int .i64 0) (.string ⟨#[]⟩) (.slice none 0 0) (.slice xa 3 xc) V4)) at hA;obtain⟨W9,hV⟩:∃ z,setV bo (.int .i64 5) (.int .i64 0) (.string ⟨#[]⟩) (.slice none 0 0) (.slice xa 3 xc) V4=z:=⟨_,rfl⟩;rw[hV]at hD hG hA ⊢;have HE:=za (And.intro hN (And.intro hD (And.intro hG hA.out)));clear hD hG hA hV hz hq hN
    go_wp2_with fail
    go_meet
    case rel=>exact⟨bo,_,rfl,HE⟩
   try simp only[qQ]
   go_simp;have hE:=hA.out.size;refine hK.out _ _ (za (hA.out.alloc _)) (fun hA=>?_);clear hK K
   try simp only[Act.put,qP]
   have hF:=(Fr.refl (M:=NoB) (w:=V1)).alloc (.cells #[.int .i64 0,.int .i64 0,.string ⟨#[]⟩,.slice none 0 0,.slice none 0 0] 56);have hz:=zh V1 (.cells #[.int .i64 0,.int .i64 0,.string ⟨#[]⟩,.slice none 0 0,.slice none 0 0] 56);obtain⟨bo,hP⟩:∃ x,V1.heap.size=x:=⟨_,rfl⟩;obtain⟨V2,hJ⟩:∃ x,V1.alloc (.cells #[.int .i64 0,.int .i64 0,.string ⟨#[]⟩,.slice none 0 0,.slice none 0 0] 56)=x:=⟨_,rfl⟩;have hN:w2.heap.size≤V1.heap.size:=hE;rw[hP]at hz hN ⊢;rw[hJ]at hz hF hA ⊢
   try have hg:=hF.block _ _ hg (fun h=>h)
   try have hq:=hq.frT hF
   clear hF hJ;refine qr (i:=7) (by kernel_rfl) rfl (fun K hK=>?_)
   try simp only[qQ]
   go_simp;have hE:=hA.out.size;refine hK.out _ _ (za (hA.out.alloc _)) (fun hA=>?_);clear hK K
   try simp only[Act.put,qP]
   have hF:=(Fr.refl (M:=NoB) (w:=V2)).alloc (.cells #[.string ⟨#[105,100,101,110,116,105,116,121]⟩,.string ⟨I.toArray⟩,.string ⟨#[107,105,110,100]⟩,.string ⟨wk.toArray⟩,.string ⟨#[111,112]⟩,.string ⟨wo.toArray⟩] 9);have hg:=zh V2 (.cells #[.string ⟨#[105,100,101,110,116,105,116,121]⟩,.string ⟨I.toArray⟩,.string ⟨#[107,105,110,100]⟩,.string ⟨wk.toArray⟩,.string ⟨#[111,112]⟩,.string ⟨wo.toArray⟩] 9);obtain⟨gb,h6⟩:∃ x,V2.heap.size=x:=⟨_,rfl⟩;obtain⟨V3,hJ⟩:∃ x,V2.alloc (.cells #[.string ⟨#[105,100,101,110,116,105,116,121]⟩,.string ⟨I.toArray⟩,.string ⟨#[107,105,110,100]⟩,.string ⟨wk.toArray⟩,.string ⟨#[111,112]⟩,.string ⟨wo.toArray⟩] 9)=x:=⟨_,rfl⟩;rw[h6]at hg ⊢;rw[hJ]at hg hF hA ⊢
   try have hz:=hF.block _ _ hz (fun h=>h)
   clear hF hJ;refine qr (i:=8) (by kernel_rfl) rfl (fun K hK=>?_)
   try simp only[qQ]
   go_simp;refine(zcy [(qg,I),(j8,wk),(nOp,wo)] 6 gb 6 _ _ _ V3 hg rfl rfl (by simp) (zt _) (by decide)).mono ?_;rintro r V4 ⟨lv,rfl,hq,hF⟩;have hQ:=hA.out.size;refine hK.out _ _ (za (hA.out.trans' hF)) (fun hA=>?_);clear hK K
   try simp only[Act.put,qP]
   have hq:=hq.low (N':=w2.heap.size) hQ
   try have hz:=hF.block _ _ hz (fun h=>h)
   clear hF hg
   obtain ⟨xa,xc,hO⟩:∃ x c,lv = .slice x 3 c:=by
    obtain⟨xs,hB,-⟩:=hq;obtain⟨x,y,h⟩:=qj hB;exact⟨x,y,h⟩
   subst hO;obtain⟨s0,s1,s2,s3,s4,sz,AH⟩:=VB.at hz;refine qr (i:=10) (by kernel_rfl) rfl (fun K hK=>?_)
   try simp only[qQ]
   go_simp;refine hK.out _ _ (za (hA.out.setV hN _ _ _ _ _)) (fun hA=>?_);clear hK K
   try simp only[Act.put,qP]
   clear s0 s1 s2 s3 s4 sz;have hD:=VB.setV ⟨_,_,_,_,_,hz⟩ (.int .i64 5) (.int .i64 0) (.string ⟨#[]⟩) (.slice none 0 0) (.slice xa 3 xc);have hG:=QRow.setV hq hz (.int .i64 5) (.int .i64 0) (.string ⟨#[]⟩) (.slice none 0 0) (.slice xa 3 xc);refine wpAnyH_done (by kernel_rfl) ?_ _;change Exit.then _ _ _ _ (setV bo (.int .i64 5) (.int .i64 0) (.string ⟨#[]⟩) (.slice none 0 0) (.slice xa 3 xc) V4);change Hid (Fr NoB w2 (setV bo (.int .i64 5) (.int .i64 0) (.string ⟨#[]⟩) (.slice none 0 0) (.slice xa 3 xc) V4)) at hA;obtain⟨W9,hV⟩:∃ z,setV bo (.int .i64 5) (.int .i64 0) (.string ⟨#[]⟩) (.slice none 0 0) (.slice xa 3 xc) V4=z:=⟨_,rfl⟩;rw[hV]at hD hG hA ⊢;have HE:=za (And.intro hN (And.intro hD (And.intro hG hA.out)));clear hD hG hA hV hz hq hN
   go_wp2_with fail
   go_meet
   case rel=>exact⟨bo,_,rfl,HE⟩
  try simp only[qQ]
  go_simp;have hE:=hA.out.size;refine hK.out _ _ (za (hA.out.alloc _)) (fun hA=>?_);clear hK K
  try simp only[Act.put,qP]
  have hF:=(Fr.refl (M:=NoB) (w:=V0)).alloc (.cells #[.int .i64 0,.int .i64 0,.string ⟨#[]⟩,.slice none 0 0,.slice none 0 0] 56);have hz:=zh V0 (.cells #[.int .i64 0,.int .i64 0,.string ⟨#[]⟩,.slice none 0 0,.slice none 0 0] 56);obtain⟨bo,hP⟩:∃ x,V0.heap.size=x:=⟨_,rfl⟩;obtain⟨V1,hJ⟩:∃ x,V0.alloc (.cells #[.int .i64 0,.int .i64 0,.string ⟨#[]⟩,.slice none 0 0,.slice none 0 0] 56)=x:=⟨_,rfl⟩;have hN:w2.heap.size≤V0.heap.size:=hE;rw[hP]at hz hN ⊢;rw[hJ]at hz hF hA ⊢
  try have hg:=hF.block _ _ hg (fun h=>h)
  try have hq:=hq.frT hF
  clear hF hJ;refine qr (i:=3) (by kernel_rfl) rfl (fun K hK=>?_)
  try simp only[qQ]
  go_simp;refine(Hops.out V1).mono ?_;rintro r V2 ⟨rfl,hF⟩;refine hK.out _ _ (za (hA.out.trans' hF)) (fun hA=>?_);clear hK K
  try simp only[Act.put,qP]
  try have hz:=hF.block _ _ hz (fun h=>h)
  clear hF;refine qi (i:=6) (v:=?_) rfl (zv ⟨by rfl,?_⟩) hA ?_;rotate_left
  ·intro W hM
   try simp only[qQ]
   go_simp
   try rw[if_neg (by omega)]
   try with_reducible rfl
  try simp only[Act.put,qP]
  refine qr (i:=7) (by kernel_rfl) rfl (fun K hK=>?_)
  try simp only[qQ]
  go_simp;have hE:=hA.out.size;refine hK.out _ _ (za (hA.out.alloc _)) (fun hA=>?_);clear hK K
  try simp only[Act.put,qP]
  have hF:=(Fr.refl (M:=NoB) (w:=V2)).alloc (.cells #[.string ⟨#[105,100,101,110,116,105,116,121]⟩,.string ⟨I.toArray⟩,.string ⟨#[107,105,110,100]⟩,.string ⟨wk.toArray⟩,.string ⟨#[111,112]⟩,.string ⟨wo.toArray⟩] 9);have hg:=zh V2 (.cells #[.string ⟨#[105,100,101,110,116,105,116,121]⟩,.string ⟨I.toArray⟩,.string ⟨#[107,105,110,100]⟩,.string ⟨wk.toArray⟩,.string ⟨#[111,112]⟩,.string ⟨wo.toArray⟩] 9);obtain⟨gb,h6⟩:∃ x,V2.heap.size=x:=⟨_,rfl⟩;obtain⟨V3,hJ⟩:∃ x,V2.alloc (.cells #[.string ⟨#[105,100,101,110,116,105,116,121]⟩,.string ⟨I.toArray⟩,.string ⟨#[107,105,110,100]⟩,.string ⟨wk.toArray⟩,.string ⟨#[111,112]⟩,.string ⟨wo.toArray⟩] 9)=x:=⟨_,rfl⟩;rw[h6]at hg ⊢;rw[hJ]at hg hF hA ⊢
  try have hz:=hF.block _ _ hz (fun h=>h)
  clear hF hJ;refine qr (i:=8) (by kernel_rfl) rfl (fun K hK=>?_)
  try simp only[qQ]
  go_simp;refine(zcy [(qg,I),(j8,wk),(nOp,wo)] 6 gb 6 _ _ _ V3 hg rfl rfl (by simp) (zt _) (by decide)).mono ?_;rintro r V4 ⟨lv,rfl,hq,hF⟩;have hQ:=hA.out.size;refine hK.out _ _ (za (hA.out.trans' hF)) (fun hA=>?_);clear hK K
  try simp only[Act.put,qP]
  have hq:=hq.low (N':=w2.heap.size) hQ
  try have hz:=hF.block _ _ hz (fun h=>h)
  clear hF hg
  obtain ⟨xa,xc,hO⟩:∃ x c,lv = .slice x 3 c:=by
   obtain⟨xs,hB,-⟩:=hq;obtain⟨x,y,h⟩:=qj hB;exact⟨x,y,h⟩
  subst hO;obtain⟨s0,s1,s2,s3,s4,sz,AH⟩:=VB.at hz;refine qr (i:=10) (by kernel_rfl) rfl (fun K hK=>?_)
  try simp only[qQ]
  go_simp;refine hK.out _ _ (za (hA.out.setV hN _ _ _ _ _)) (fun hA=>?_);clear hK K
  try simp only[Act.put,qP]
  clear s0 s1 s2 s3 s4 sz;have hD:=VB.setV ⟨_,_,_,_,_,hz⟩ (.int .i64 5) (.int .i64 0) (.string ⟨#[]⟩) (.slice none 0 0) (.slice xa 3 xc);have hG:=QRow.setV hq hz (.int .i64 5) (.int .i64 0) (.string ⟨#[]⟩) (.slice none 0 0) (.slice xa 3 xc);refine wpAnyH_done (by kernel_rfl) ?_ _;change Exit.then _ _ _ _ (setV bo (.int .i64 5) (.int .i64 0) (.string ⟨#[]⟩) (.slice none 0 0) (.slice xa 3 xc) V4);change Hid (Fr NoB w2 (setV bo (.int .i64 5) (.int .i64 0) (.string ⟨#[]⟩) (.slice none 0 0) (.slice xa 3 xc) V4)) at hA;obtain⟨W9,hV⟩:∃ z,setV bo (.int .i64 5) (.int .i64 0) (.string ⟨#[]⟩) (.slice none 0 0) (.slice xa 3 xc) V4=z:=⟨_,rfl⟩;rw[hV]at hD hG hA ⊢;have HE:=za (And.intro hN (And.intro hD (And.intro hG hA.out)));clear hD hG hA hV hz hq hN
  go_wp2_with fail
  go_meet
  case rel=>exact⟨bo,_,rfl,HE⟩
 case rest =>
  obtain⟨bo,lv,rfl,HE⟩:=hcut;have Ay:=Fr.cell HE.out.2.2.2 cO;by_cases h3:oo=3
  ·subst h3;have hs:jw 8 (zcz (List.map txP [(qg,I),(j8,wk),(nOp,wo)]))=zcz (List.map txP [(qg,I),(j8,wk),(nOp,wo)]):=by rw[← Hwk.out];exact zpi I wo
   have AU:Hid (zbi e=[(qg,I),(j8,wk),(nOp,wo)]):=za (by
    unfold zbi;rw[if_neg (by omega),if_neg (by omega),if_neg (by omega),if_pos Hoo.out,Aq.out,Hoo.out,Hwo.out,← Hwk.out]
    rfl)
   obtain⟨hP,hS,hY,hf⟩:=HE.out;obtain⟨ao,co,hO⟩:=hY.formT;subst hO;obtain⟨b0,b1,b2,b3,b4,bz,hh⟩:=VB.at hS
   have hn:=zit 19 zfo _ _ _ wc hY.valT (z1h (by simp) (fun q hq=>by
    obtain⟨l1,l2,l3,l4⟩:=Hlen.out;simp only[List.mem_cons,List.not_mem_nil,or_false]at hq
    try have l5:=An.out
    first
     | (rcases hq with rfl | rfl | rfl | rfl<;>exact z1z (by decide) (by omega))
     | (rcases hq with rfl | rfl | rfl<;>exact z1z (by decide) (by omega)))) (z2g (by simp))
   rw[hs]at hn;have Hsr:=za hn;have Hhs:=za (And.intro hP hf);clear hn hS hY HE hP hf
   go_wp2_with fail
   refine Hsr.out.mono ?_;rintro r w5 ⟨x,rfl,h4,h8,hT⟩;obtain⟨av,cv,Ar,AI,ho⟩:=QRow.ofTop h4 hT (by simp);subst AI;obtain⟨xa,xc,hO⟩:=ho.formT;subst hO;have hu:=(hj.out.trans' Hhs.out.2).trans' h8;have hv:=hu.block _ _ H2.out (fun h=>h);obtain⟨a0,a1,a2,a3,a4,az,A1⟩:=VB.at hv;have Aa:=za (AA.out.trans' hu);have AW:=za ho;have Ac:=za hv;have Hsv:=za Hhs.out.2.size;clear h8 hu ho hv h4 hT b0 b1 b2 b3 b4 bz hh Hhs Hsr
   go_wp2_with fail
   refine bodyPost_ret (v := .agg #[.int .i64 5,.int .i64 0,.string ⟨#[]⟩,.slice av 0 cv,.slice xa ([(qg,I),(j8,wk),(nOp,wo)]).length xc]) (by simp[results,Tryz.results94,go_sem,a0,a1,a2,a3,a4]) rfl ?_;have AN:w.heap.size≤q:=by have:=Hpq.out;omega
   refine⟨av,cv,_,rfl,?_,Aa.out.setV AN _ _ _ _ _⟩;rw[show zbi e=[(qg,I),(j8,wk),(nOp,wo)] from AU.out];exact QRow.setV (QRow.low AW.out (by have:=Hsv.out;have:=hj.out.size;have:=AA.out.size;omega)) Ac.out _ _ _ _ _
  have h3c:(oo != 3)=true:=by simpa using h3
  have AV:Hid (∀ V,Fr NoB W V→Calls ze 160 #[.slice (some ⟨p,37,none⟩) 32 32] V fun r w'=>r = .returned (.string ⟨(zdf e.key).toArray⟩)∧Fr NoB V w'):=za (fun V h=>by
   have h1:=@zho ⟨p+1⟩ (fun _=>True) e.key _ V (SB.inRange (cap:=32) (h.block _ _ HH.out (fun h=>h)) (ji A2.out h (jb HH.out) (fun _ h=>h)) (by rw[Hok.out.2.1];omega)) (by rw[Hok.out.2.1];omega);rw[Hok.out.2.1]at h1
   exact h1)
  obtain⟨X,hX⟩:∃ X,zdf e.key=X:=⟨_,rfl⟩;rw[hX]at AV;have Hx:=AV;have HX:=za hX;clear hX AV;have An:Hid (X.length≤5000):=za (by rw[← HX.out];exact Hlen.out.2.2.2);obtain⟨hP,hS,hY,hf⟩:=HE.out;obtain⟨ao,co,hO⟩:=hY.formT;subst hO;obtain⟨b0,b1,b2,b3,b4,bz,hh⟩:=VB.at hS;obtain⟨xs,hB,Af⟩:=hY;obtain⟨i1,Ax,Av,Au,At⟩:=info_parts zdb;have Ap:=za b4;have Hzb:=za hS;have Hown:=za hB;have Hrp:=za Af;have AF:=za hf;have hblt:=hh
  have Ab:∀ (V3 w3:World),V3.grownBy w3 (Value.slice ao 3 co).ownBlock→Fr NoB wc V3→w3.heap[bo]? = some (.cells #[.int .i64 5,.int .i64 0,.string ⟨#[]⟩,.slice none 0 0,.slice ao 3 co] 56 (0,0)):=fun V3 w3 hg hF =>
   zaq hg (hF.block _ _ hS (fun h=>h)) (fun he=>by
    obtain⟨-,o',hx,c',f',rfl⟩:=zam hB _ he;rw[hS]at hx
    injection hx with hx
    injection hx with _ hx _
    revert hx
    decide)
  clear hS hB Af hf b0 b1 b2 b3 b4 bz hh HE
  go_upto_region 12 with(fail)
  refine zc1 (S:=fun V=>Hid (V.cell? ⟨bo,4,none⟩=some (.slice ao 3 co))) 10 (by kernel_rfl) (za (by have:=Ap.out;exact this)) (fun hA=>?_);simp only[qV];have AD:Fr NoB wc wc.drew:=Fr.refl.drew;obtain⟨V0,h7⟩:∃ V,wc.drew=V:=⟨_,rfl⟩;rw[h7]at hA AD ⊢;clear h7
  iterate 4
   refine qtD (v:=?_) rfl (zv ⟨by rfl,?_⟩) hA ?_;rotate_left
   ·intro W hM;have z1:=hM.out
    try simp only[qQ]
    go_simp
    try rw[if_neg (by omega)]
    try with_reducible rfl
   try simp only[Act.put,qP]
  refine qrD (i:=4) (by kernel_rfl) rfl (fun K hK=>?_)
  try simp only[qQ]
  go_simp;refine(Hx.out V0 ((hj.out.trans' AF.out).trans' AD)).mono ?_;rintro r V1 ⟨rfl,AT⟩;refine hK.out _ _ (za (Fr.cell AT hA.out (fun _ h=>h))) (fun hA=>?_);clear hK K
  try simp only[Act.put,qP]
  refine qrD (i:=5) (by kernel_rfl) rfl (fun K hK=>?_)
  try simp only[qQ]
  go_simp;refine(zvp X V1).mono ?_;rintro r V2 ⟨rfl,AS⟩;refine hK.out _ _ (za (Fr.cell AS hA.out (fun _ h=>h))) (fun hA=>?_);clear hK K
  try simp only[Act.put,qP]
  refine qtD (v:=?_) rfl (zv ⟨by rfl,?_⟩) hA ?_;rotate_left
  ·intro W hM
   try simp only[qQ]
   go_simp
   try rw[if_neg (by omega)]
   try with_reducible rfl
  try simp only[Act.put,qP]
  refine qrD (i:=7) (by kernel_rfl) rfl (fun K hK=>?_)
  try simp only[qQ]
  go_simp;refine hK.out _ _ (za (Fr.cell ((Fr.refl (M:=NoB)).alloc _) hA.out (fun _ h=>h))) (fun hA=>?_);clear hK K
  try simp only[Act.put,qP]
  have AB:=zh V2 (.cells #[.string ⟨#[107,101,121]⟩,.int .i64 3,.int .i64 0,.string ⟨X.toArray⟩,.slice none 0 0,.slice none 0 0] 133);have ht:=((AD.trans' AT).trans' AS).alloc (.cells #[.string ⟨#[107,101,121]⟩,.int .i64 3,.int .i64 0,.string ⟨X.toArray⟩,.slice none 0 0,.slice none 0 0] 133);obtain⟨sb,Ae⟩:∃ x,V2.heap.size=x:=⟨_,rfl⟩;obtain⟨V3,Ai⟩:∃ x,V2.alloc (.cells #[.string ⟨#[107,101,121]⟩,.int .i64 3,.int .i64 0,.string ⟨X.toArray⟩,.slice none 0 0,.slice none 0 0] 133)=x:=⟨_,rfl⟩;rw[Ae]at AB ⊢;rw[Ai]at AB hA ht ⊢;have AM:=ht.size;have AL:=AF.out.size;clear Ae Ai AD AT AS;have hW:=za (za9 Hown.out ht (fun _ _ _ _ _ h=>h));refine qrD (i:=8) (by kernel_rfl) rfl (fun K hK=>?_)
  try simp only[qQ]
  rw[if_pos (by rfl)];refine zbu (.tmp 50) (.tmp 56) 54 (by rfl) w2.heap.size 133 i1 (.agg #[.string ⟨#[]⟩,.int .i64 0,.int .i64 0,.string ⟨#[]⟩,.slice none 0 0,.slice none 0 0]) 6 96 Tryz.underlying54 Ax Av Au At rfl (by decide) (.slice ao 3 co) 3 xs (by rfl) hW.out ⟨sb,0,none⟩ 1 1 [.string ⟨#[107,101,121]⟩,.int .i64 3,.int .i64 0,.string ⟨X.toArray⟩,.slice none 0 0,.slice none 0 0] (by rfl) rfl (zg6 AB) (by simp[Value.oneCell']) (by unfold maxLen;omega) (by omega) (by omega) ?_;intro v' w3 hd hZ;refine hK.out _ _ (za (VB.at (Ab _ _ hZ ht)).2.2.2.2.1) (fun hA=>?_);clear hK K
  try simp only[Act.put,qP]
  have hl:=Ab _ _ hZ ht;have hU:=hd;obtain⟨-,Az⟩:=hd;rcases Az with⟨_,h0⟩ | ⟨g,cap',cur,rfl,hgB,hg3,hn3,hcm3,hcs3,htk3⟩
  ·omega
  obtain⟨b0,b1,b2,b3,b4,bz,hh⟩:=VB.at hl;have hw:=za hl;have hi:=za hU;have h9:=za hZ;have Ao:=za ht;clear hl hU hZ ht hg3 htk3 hcs3 AB;refine qtD (v:=?_) rfl (zv ⟨by rfl,?_⟩) hA ?_;rotate_left
  ·intro W hM
   try simp only[qQ]
   go_simp
   try rw[if_neg (by omega)]
   try with_reducible rfl
  try simp only[Act.put,qP]
  refine qzD (by kernel_rfl) rfl (fun K hK=>?_)
  try simp only[qQ]
  go_simp;refine hK.out _ _ ?_;clear hK K
  try simp only[Act.put,qP]
  refine ziw (by kernel_rfl) ?_ _;simp only[zbb];have hD:=z7 (o:=4) (.slice (some ⟨g,0,none⟩) 4 cap') hw.out
  have Ag:QRow (fun _=>False) w2.heap.size (([(qg,I),(j8,wk),(nOp,wo)]++[(zim,X)]).map fun x=>txP (id x)) (.slice (some ⟨g,0,none⟩) (3+1) cap') w3 :=
   QRow.more (f:=id) (w:=wc) (lv := .slice ao 3 co) rfl rfl Hrp.out hi.out
  have hG:QRow (fun _=>False) w2.heap.size ([(qg,I),(j8,wk),(nOp,wo),(zim,X)].map txP) (.slice (some ⟨g,0,none⟩) 4 cap') (w3.setCell ⟨bo,4,none⟩ (.slice (some ⟨g,0,none⟩) 4 cap')) :=
   QRow.txt (f:=id) Ag (fun k cs hk=>by
    rw [Below.heap_setCell _ _ _ _ (by
     show k≠bo;intro he;subst he;have As:=hw.out;rw[As]at hk
     injection hk with hk
     injection hk with _ hk _
     revert hk
     decide)]
    exact hk)
  have AR:Fr NoB w2 (w3.setCell ⟨bo,4,none⟩ (.slice (some ⟨g,0,none⟩) 4 cap')) :=
   ((AF.out.trans' Ao.out).trans (Fr.ofGrown h9.out) (fun k o hm => .inr (zam hW.out k hm.symm).1)).trans (Fr.refl.setCell (M:=fun k _=>k=bo) _ _ (fun _ _=>rfl)) (fun k o hm => .inr (by omega))
  obtain⟨w9,AK⟩:∃ z,w3.setCell ⟨bo,4,none⟩ (.slice (some ⟨g,0,none⟩) 4 cap')=z:=⟨_,rfl⟩;rw[AK]at hG AR ⊢;rw[AK]at hD;have hD:w9.heap[bo]? = some (.cells #[.int .i64 5,.int .i64 0,.string ⟨#[]⟩,.slice none 0 0,.slice (some ⟨g,0,none⟩) 4 cap'] 56 (0,0)):=hD;obtain⟨Ad,h5⟩:∃ z,(.slice (some ⟨g,0,none⟩) 4 cap':Value)=z:=⟨_,rfl⟩;rw[h5]at hD hG;have HE:Hid (w2.heap.size≤bo∧w9.heap[bo]? = some (.cells #[.int .i64 5,.int .i64 0,.string ⟨#[]⟩,.slice none 0 0,Ad] 56 (0,0))∧QRow (fun _=>False) w2.heap.size ([(qg,I),(j8,wk),(nOp,wo),(zim,X)].map txP) Ad w9∧Fr NoB w2 w9):=za ⟨hP,hD,hG,AR⟩;have hs:jw 8 (zcz (List.map txP [(qg,I),(j8,wk),(nOp,wo),(zim,X)]))=zcz (List.map txP [(qg,I),(zim,X),(j8,wk),(nOp,wo)]):=by rw[← Hwk.out];exact zph I wo X
  have AU:Hid (zbi e=[(qg,I),(zim,X),(j8,wk),(nOp,wo)]):=za (by
   unfold zbi;rw[if_neg (by omega),if_neg (by omega),if_neg (by omega),if_neg (by rw[Hoo.out];exact h3),Aq.out,Hoo.out,Hwo.out,← Hwk.out,HX.out]
   rfl)
  clear h5 AK hD Ag hG AR hi h9 Ao hW hw hA b0 b1 b2 b3 b4 bz hh Hx Hrp Hown Hzb Ap Ab Ay AF hn3 hcm3 AM AL hP hgB;obtain⟨hP,hS,hY,hf⟩:=HE.out;obtain⟨ao,co,hO⟩:=hY.formT;subst hO;obtain⟨b0,b1,b2,b3,b4,bz,hh⟩:=VB.at hS
  have hn:=zit 19 zfo _ _ _ w9 hY.valT (z1h (by simp) (fun q hq=>by
   obtain⟨l1,l2,l3,l4⟩:=Hlen.out;simp only[List.mem_cons,List.not_mem_nil,or_false]at hq
   try have l5:=An.out
   first
    | (rcases hq with rfl | rfl | rfl | rfl<;>exact z1z (by decide) (by omega))
    | (rcases hq with rfl | rfl | rfl<;>exact z1z (by decide) (by omega)))) (z2g (by simp))
  rw[hs]at hn;have Hsr:=za hn;have Hhs:=za (And.intro hP hf);clear hn hS hY HE hP hf
  go_wp2_with fail
  refine Hsr.out.mono ?_;rintro r w5 ⟨x,rfl,h4,h8,hT⟩;obtain⟨av,cv,Ar,AI,ho⟩:=QRow.ofTop h4 hT (by simp);subst AI;obtain⟨xa,xc,hO⟩:=ho.formT;subst hO;have hu:=(hj.out.trans' Hhs.out.2).trans' h8;have hv:=hu.block _ _ H2.out (fun h=>h);obtain⟨a0,a1,a2,a3,a4,az,A1⟩:=VB.at hv;have Aa:=za (AA.out.trans' hu);have AW:=za ho;have Ac:=za hv;have Hsv:=za Hhs.out.2.size;clear h8 hu ho hv h4 hT b0 b1 b2 b3 b4 bz hh Hhs Hsr
  go_wp2_with fail
  refine bodyPost_ret (v := .agg #[.int .i64 5,.int .i64 0,.string ⟨#[]⟩,.slice av 0 cv,.slice xa ([(qg,I),(zim,X),(j8,wk),(nOp,wo)]).length xc]) (by simp[results,Tryz.results94,go_sem,a0,a1,a2,a3,a4]) rfl ?_;have AN:w.heap.size≤q:=by have:=Hpq.out;omega
  refine⟨av,cv,_,rfl,?_,Aa.out.setV AN _ _ _ _ _⟩;rw[show zbi e=[(qg,I),(zim,X),(j8,wk),(nOp,wo)] from AU.out];exact QRow.setV (QRow.low AW.out (by have:=Hsv.out;have:=hj.out.size;have:=AA.out.size;omega)) Ac.out _ _ _ _ _
theorem z1p {sub:Bs→Bool}(S S':Nat→Prop)(e:En)(pv sv:Value)(w:World)(hfine:Fine S S' e pv sv w)(ho:Okay sub e) :
 Calls ze 94 #[.agg (e.cells pv sv).toArray] w (zhc w.heap.size e w):=by
 rcases ho.kind with h | h | h | h
 ·exact z0k S S' e pv sv w hfine h
 ·exact z0j S S' e pv sv w hfine h
 ·exact z0i S S' e pv sv w hfine h
 obtain⟨h1,h2,h3⟩:=ho.op h;exact z0h S S' e pv sv w hfine h ⟨h1,h2⟩ (by have:=zlm h3;omega)
end Go.Proofs.YtmgfncjfgkllcaaGreatDoor
