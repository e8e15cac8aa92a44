/-
 The walks of bind's Bound,Spent,Key and New.
-/
import Derived.Test.YtcddlemkimbkcaaGreatDoorKTake
import Derived.Test.YtcddlemkimbkcaaGreatDoorKOwn
open Go.Lib renaming hid→za,byteCells→zb
open Go.Proofs.Tryz renaming prog→ze
open Go.World renaming size_alloc→zf,rangeAt_setCells_same→zg
open Go renaming heap_alloc_new→zh,wpList_load_mid→zi
open List renaming size_toArray→zn
open Nat renaming le_refl→zt
open Go.Value renaming int→zy
open Go.IntKind renaming u8→z6
namespace Go.Proofs.YtcddlemkimbkcaaGreatDoor
set_option linter.unusedVariables false
set_option linter.unusedSimpArgs false
set_option linter.unusedSectionVars false
set_option maxRecDepth 100000
set_option maxHeartbeats 4000000
section
open Go.RowKit Go.Shelf
variable [OldK]
theorem zh4 (c:Chg):c.cells=[.int .i64 c.pos]++([.bool c.has]++zb c.key):=rfl
theorem zm4 {tv:Value} {t:Tb} (x:Bs) (w:World) (h:TL tv t w) (hx:x.length≤maxLen) :
 Calls ze 27 #[tv,.string ⟨x.toArray⟩] w fun e w'=>e = .returned (.tuple #[.agg (zb (t.last x).key).toArray,.bool (t.last x).has])∧Fr NoB w w':=by
 have hB:=fun V (hV:Fr NoB w V)=>h.lastC x V hV hx
 have hC:=h.lastok x;have hJ:(w.alloc (.cells #[zy z6 0,zy z6 0,zy z6 0,zy z6 0,zy z6 0,zy z6 0,zy z6 0,zy z6 0,zy z6 0,zy z6 0,zy z6 0,zy z6 0,zy z6 0,zy z6 0,zy z6 0,zy z6 0,zy z6 0,zy z6 0,zy z6 0,zy z6 0,zy z6 0,zy z6 0,zy z6 0,zy z6 0,zy z6 0,zy z6 0,zy z6 0,zy z6 0,zy z6 0,zy z6 0,zy z6 0,zy z6 0] 24)).there w.heap.size 0 32:=jr (zh w _) (zt _);have hF:Fr NoB w (w.alloc (.cells #[zy z6 0,zy z6 0,zy z6 0,zy z6 0,zy z6 0,zy z6 0,zy z6 0,zy z6 0,zy z6 0,zy z6 0,zy z6 0,zy z6 0,zy z6 0,zy z6 0,zy z6 0,zy z6 0,zy z6 0,zy z6 0,zy z6 0,zy z6 0,zy z6 0,zy z6 0,zy z6 0,zy z6 0,zy z6 0,zy z6 0,zy z6 0,zy z6 0,zy z6 0,zy z6 0,zy z6 0,zy z6 0] 24)):=Fr.refl.alloc _;obtain⟨lc,hQ⟩:∃ c,t.last x=c:=⟨_,rfl⟩;simp only[hQ]at hB;rw[hQ]at hC ⊢;clear h hx hQ;have hL:=zh4 lc;have hI:=Chg.size hC;have hS:=Chg.one lc;have hD:(zb lc.key).length=32:=by rw[ja];exact hC
 have hR:=all_oneCell_toArray (j0 lc.key);obtain⟨LC,hU⟩:∃ C,lc.cells=C:=⟨_,rfl⟩;obtain⟨KC,hX⟩:∃ C,zb lc.key=C:=⟨_,rfl⟩;obtain⟨x0,hb⟩:∃ C,lc.has=C:=⟨_,rfl⟩;simp only[hU]at hB;rw[hU]at hL hI hS;rw[hX,hb]at hL ⊢;rw[hX]at hD hR;clear hU hX hb hC;have ha:Hid ((Tryz.prog.info? 117).map (·.size)=some LC.toArray.size):=za (by rw[j9,zn,hI]);have hZ:Hid ((#[Value.int .i64 0,.bool false,zy z6 0,zy z6 0,zy z6 0,zy z6 0,zy z6 0,zy z6 0,zy z6 0,zy z6 0,zy z6 0,zy z6 0,zy z6 0,zy z6 0,zy z6 0,zy z6 0,zy z6 0,zy z6 0,zy z6 0,zy z6 0,zy z6 0,zy z6 0,zy z6 0,zy z6 0,zy z6 0,zy z6 0,zy z6 0,zy z6 0,zy z6 0,zy z6 0,zy z6 0,zy z6 0,zy z6 0,zy z6 0]:Array Value).size=LC.toArray.size):=za (by rw[show LC.toArray.size=34 by rw[zn,hI]];rfl);have Hkz:Hid ((Tryz.prog.info? 24).map (·.size)=some KC.length):=za (by rw[jb,hD]);have hY:Hid ((Tryz.prog.info? 24).map (·.size)=some KC.toArray.size):=za (by rw[jb,zn,hD]);have hk:=za hS;have hj:=za hR;have ho:=za hL;have Hlast:=za hB;clear hB hI hS hL hR;go_enter Tryz.func27,Tryz.ntmps27
 go_upto_region 1 with(fail)
 change Code.wp _ _ _ _ (w.alloc (.cells #[zy z6 0,zy z6 0,zy z6 0,zy z6 0,zy z6 0,zy z6 0,zy z6 0,zy z6 0,zy z6 0,zy z6 0,zy z6 0,zy z6 0,zy z6 0,zy z6 0,zy z6 0,zy z6 0,zy z6 0,zy z6 0,zy z6 0,zy z6 0,zy z6 0,zy z6 0,zy z6 0,zy z6 0,zy z6 0,zy z6 0,zy z6 0,zy z6 0,zy z6 0,zy z6 0,zy z6 0,zy z6 0] 24));obtain⟨W,hW⟩:∃ W,w.alloc (.cells #[zy z6 0,zy z6 0,zy z6 0,zy z6 0,zy z6 0,zy z6 0,zy z6 0,zy z6 0,zy z6 0,zy z6 0,zy z6 0,zy z6 0,zy z6 0,zy z6 0,zy z6 0,zy z6 0,zy z6 0,zy z6 0,zy z6 0,zy z6 0,zy z6 0,zy z6 0,zy z6 0,zy z6 0,zy z6 0,zy z6 0,zy z6 0,zy z6 0,zy z6 0,zy z6 0,zy z6 0,zy z6 0] 24)=W:=⟨_,rfl⟩;have hP:w.heap.size<W.heap.size:=by rw[← hW,zf];omega
 rw[hW]at hF hJ ⊢;obtain⟨p,hO⟩:∃ p,w.heap.size=p:=⟨_,rfl⟩;rw[hO]at hJ hP ⊢;have Hpp:=za hO;clear hW hO;have HF:=za hF;have hl:=za hJ;have hf:=za hP;clear hF hJ hP
 go_wp2_with fail
 refine(Hlast.out _ HF.out).mono ?_;rintro r w3 ⟨rfl,he⟩;have hg:=za he;clear he
 go_upto_region 2 with((with_reducible refine jh (w:=w3) rfl 117 _ _ rfl _ LC.toArray w3.heap.size rfl ?_ ?_ ha.out hZ.out hk.out ?_);rfl;rfl)
 change Code.wp _ _ _ _ (w3.alloc (.cells LC.toArray 117));have hq:=jg (zh w3 (.cells LC.toArray 117));have hM:=hg.out.alloc (.cells LC.toArray 117);obtain⟨W4,hT⟩:∃ W,w3.alloc (.cells LC.toArray 117)=W:=⟨_,rfl⟩;have hN:w3.heap.size<W4.heap.size:=by rw[← hT,zf];omega
 have hE:=hg.out.size;rw[hT]at hq hM ⊢;obtain⟨q,hc⟩:∃ q,w3.heap.size=q:=⟨_,rfl⟩;rw[hc]at hq hN hE ⊢;clear hT hc;rw[List.toList_toArray,ho.out,range_append,range_append,zaf,zaf]at hq;obtain⟨-,q1,q2⟩:=hq;simp only[List.length_cons,List.length_nil,Nat.zero_add,Nat.reduceAdd]at q1 q2;have hd:q≠p:=by have:=hf.out;omega
 have hn:=za (za3 hl.out hM hf.out (fun _ h=>h));have hH:Hid (W4.there p 0 KC.toArray.size):=za (by rw[zn,hD];exact hn.out);have HQ:=za q2;have Hqp:=za hd;have hi:=za hN;have hp:=za hM;clear q2 hd hN hM hE hD;refine wp_region_held_drew (S:=fun V=>Hid (Fr (fun k _=>k=p) W4 V)) (by kernel_rfl) (za Fr.refl.drew) (fun hA=>?_);simp only[qV];refine qt (v:=?_) rfl (Or.inl ⟨by rfl,?_⟩) hA ?_;rotate_left
 ·intro W hG;have h1:=Fr.cell hG.out q1 (fun _ h=>Hqp.out h)
  try simp only[qQ]
  go_simp
  try rw[if_neg (by omega)]
  try with_reducible rfl
 try simp only[Act.put,qP]
 refine qi (i:=1) rfl (yieldsIf_load_mid (by rfl) 24 _ rfl q 2 rfl KC (.array 32 5) (fun V h=>je HQ.out h.out hi.out (fun _ h=>Hqp.out h)) z7 rfl Hkz.out) hA ?_
 try simp only[Act.put,qP]
 iterate 2
  refine qt (v:=?_) rfl (Or.inl ⟨by rfl,?_⟩) hA ?_;rotate_left
  ·intro W hG;have h1:=Fr.cell hG.out q1 (fun _ h=>Hqp.out h)
   try simp only[qQ]
   go_simp
   try rw[if_neg (by omega)]
   try with_reducible rfl
  try simp only[Act.put,qP]
 refine qr (i:=4) (by kernel_rfl) rfl (fun K hK=>?_)
 try simp only[qQ]
 rw[if_pos (by rfl)];refine wp_store_mid 24 (.tmp 4) (.tmp 11) (by rfl) p 0 KC.toArray (by rfl) (by rfl) hH.out hY.out hj.out ?_;refine hK.out _ _ (za (hA.out.trans' ((jd p _ _ _).mono (fun _ _ h=>h)))) (fun hA=>?_);clear hK K
 try simp only[Act.put,qP]
 refine qt (v:=?_) rfl (Or.inl ⟨by rfl,?_⟩) hA ?_;rotate_left
 ·intro W hG;have h1:=Fr.cell hG.out q1 (fun _ h=>Hqp.out h)
  try simp only[qQ]
  go_simp
  try rw[if_neg (by omega)]
  try with_reducible rfl
 try simp only[Act.put,qP]
 refine wpAnyH_done (by kernel_rfl) ?_ _;have HE:=za hA.out;clear hA;have hh:=run_loadVar_mid (P:=ze) _ p 0 24 KC (.array 32 5) (zg W4.drew p 0 KC (by simpa using hH.out)) z7 rfl Hkz.out
 go_wp2_with fail
 refine bodyPost_ret (v := .tuple #[.agg KC.toArray,.bool x0]) ?_ rfl ⟨rfl,(HF.out.trans' hp.out).trans HE.out (fun k _ hm => .inr (by have h2:k=p:=hm;have:=Hpp.out;omega))⟩;rw[results_cell_tmp rfl];simp[asAddr,Result.andThen,hh]
theorem zvl {base tb n bc bl:Nat}{t:Tb}{g lv:Bs→Option Value}(x:Bs)(w:World)(h:TBL base tb n bc bl t g lv w)(hx:x.length≤maxLen) :
 Calls ze 27 #[.pointer (some ⟨tb,0,none⟩),.string ⟨x.toArray⟩] w fun e w'=>e = .returned (.tuple #[.agg (zb (t.last x).key).toArray,.bool (t.last x).has])∧Fr NoB w w' :=
 zm4 x w h.tl hx
theorem zl6 {tv:Value}{t:Tb}(k:Bs)(w:World)(h:TL tv t w)(hk:k.length=32) :
 Calls ze 29 #[tv,.agg (zb k).toArray] w fun e w'=>e = .returned (.bool (t.life k==2))∧Fr NoB w w':=by
 have hA:=fun V (hV:Fr NoB w V)=>h.lifeC k V hV hk
 have hF:Fr NoB w (w.alloc (.cells (zb k).toArray 24)):=Fr.refl.alloc _;have hR:(w.alloc (.cells (zb k).toArray 24)).rangeAt w.heap.size 0 (zb k):=by simpa using jg (zh w (.cells (zb k).toArray 24))
 have hC:(Tryz.prog.info? 24).map (·.size)=some (zb k).length:=by rw[jb,ja,hk]
 obtain⟨L,hL⟩:∃ L,t.life k=L:=⟨_,rfl⟩;simp only[hL]at hA;rw[hL];obtain⟨KC,hD⟩:∃ C,zb k=C:=⟨_,rfl⟩;simp only[hD]at hA;rw[hD]at hF hR hC ⊢;have Hlife:=za hA;have Hkz:=za hC;have HF:=za hF;have HR:=za hR;obtain⟨B,hB⟩:∃ B,(L==2)=B:=⟨_,rfl⟩;rw[hB];clear hA hC hF hR hD hL h hk;go_enter Tryz.func29,Tryz.ntmps29
 go_wp2_with(with_reducible refine zi rfl 24 _ rfl w.heap.size 0 rfl KC (.array 32 5) HR.out z7 rfl Hkz.out ?_)
 refine(Hlife.out _ HF.out).mono ?_;rintro r w2 ⟨rfl,hE⟩;have hG:=za hE;clear hE
 go_wp2_with fail
 go_ret;exact⟨rfl,HF.out.trans' hG.out⟩
theorem zpi {base tb n bc bl:Nat}{t:Tb}{g lv:Bs→Option Value}(k:Bs)(w:World)(h:TBL base tb n bc bl t g lv w)(hk:k.length=32) :
 Calls ze 29 #[.pointer (some ⟨tb,0,none⟩),.agg (zb k).toArray] w fun e w'=>e = .returned (.bool (t.life k==2))∧Fr NoB w w' :=
 zl6 k w h.tl hk
def zgk (t:Tb) (s:Sg):Bs × Nat:=if s.id≠[] then (if (t.last s.id).has=true then ((t.last s.id).key,0) else (jo,8)) else if t.life s.key=2 then (jo,8) else (s.key,0)
theorem Sg.in_block {s:Sg}(h:s.ok){w:World}{b:Nat}(hR:w.rangeAt b 0 s.cells.toList):w.cell? ⟨b,0,none⟩=some (.string ⟨s.id.toArray⟩)∧w.rangeAt b 1 (zb s.key):=by
 rw[Sg.list,range_append,range_append,zaf]at hR;obtain⟨h1,h2,-⟩:=hR;simp only[List.length_cons,List.length_nil,Nat.zero_add]at h2;exact⟨h1,h2⟩
theorem zxd {tv:Value} {t:Tb} (s:Sg) (w:World) (h:TL tv t w) (hs:s.ok) (hi:s.id.length≤maxLen) :
 Calls ze 30 #[tv,.agg s.cells] w fun e w'=>e = .returned (.tuple #[.agg (zb (zgk t s).1).toArray,zgf (zgk t s).2])∧Fr NoB w w':=by
 have hB:=fun V (hV:Fr NoB w V)=>zm4 s.id V (h.keep hV) hi
 have hA:=fun V (hV:Fr NoB w V)=>zl6 s.key V (h.keep hV) hs.1
 have hY:=h.lastok s.id;have hF:Fr NoB w ((w.alloc (.cells s.cells 54)).alloc (.cells #[zy z6 0,zy z6 0,zy z6 0,zy z6 0,zy z6 0,zy z6 0,zy z6 0,zy z6 0,zy z6 0,zy z6 0,zy z6 0,zy z6 0,zy z6 0,zy z6 0,zy z6 0,zy z6 0,zy z6 0,zy z6 0,zy z6 0,zy z6 0,zy z6 0,zy z6 0,zy z6 0,zy z6 0,zy z6 0,zy z6 0,zy z6 0,zy z6 0,zy z6 0,zy z6 0,zy z6 0,zy z6 0] 24)):=(Fr.refl.alloc _).alloc _;have hw:Fr NoB (w.alloc (.cells s.cells 54)) ((w.alloc (.cells s.cells 54)).alloc (.cells #[zy z6 0,zy z6 0,zy z6 0,zy z6 0,zy z6 0,zy z6 0,zy z6 0,zy z6 0,zy z6 0,zy z6 0,zy z6 0,zy z6 0,zy z6 0,zy z6 0,zy z6 0,zy z6 0,zy z6 0,zy z6 0,zy z6 0,zy z6 0,zy z6 0,zy z6 0,zy z6 0,zy z6 0,zy z6 0,zy z6 0,zy z6 0,zy z6 0,zy z6 0,zy z6 0,zy z6 0,zy z6 0] 24)):=Fr.refl.alloc _;have hR:((w.alloc (.cells s.cells 54)).alloc (.cells #[zy z6 0,zy z6 0,zy z6 0,zy z6 0,zy z6 0,zy z6 0,zy z6 0,zy z6 0,zy z6 0,zy z6 0,zy z6 0,zy z6 0,zy z6 0,zy z6 0,zy z6 0,zy z6 0,zy z6 0,zy z6 0,zy z6 0,zy z6 0,zy z6 0,zy z6 0,zy z6 0,zy z6 0,zy z6 0,zy z6 0,zy z6 0,zy z6 0,zy z6 0,zy z6 0,zy z6 0,zy z6 0] 24)).rangeAt w.heap.size 0 s.cells.toList:=je (jg (zh w (.cells s.cells 54))) hw (by rw[zf];omega) (fun _ h=>h)
 have hZ:((w.alloc (.cells s.cells 54)).alloc (.cells #[zy z6 0,zy z6 0,zy z6 0,zy z6 0,zy z6 0,zy z6 0,zy z6 0,zy z6 0,zy z6 0,zy z6 0,zy z6 0,zy z6 0,zy z6 0,zy z6 0,zy z6 0,zy z6 0,zy z6 0,zy z6 0,zy z6 0,zy z6 0,zy z6 0,zy z6 0,zy z6 0,zy z6 0,zy z6 0,zy z6 0,zy z6 0,zy z6 0,zy z6 0,zy z6 0,zy z6 0,zy z6 0] 24)).there (w.heap.size+1) 0 32:=by
  have h1:=jr (zh (w.alloc (.cells s.cells 54)) (.cells #[zy z6 0,zy z6 0,zy z6 0,zy z6 0,zy z6 0,zy z6 0,zy z6 0,zy z6 0,zy z6 0,zy z6 0,zy z6 0,zy z6 0,zy z6 0,zy z6 0,zy z6 0,zy z6 0,zy z6 0,zy z6 0,zy z6 0,zy z6 0,zy z6 0,zy z6 0,zy z6 0,zy z6 0,zy z6 0,zy z6 0,zy z6 0,zy z6 0,zy z6 0,zy z6 0,zy z6 0,zy z6 0] 24)) (zt 32);rw[zf]at h1;exact h1
 obtain⟨c0,hK⟩:=Sg.in_block hs hR;obtain⟨R1,hu⟩:∃ x,(zgk t s).1=x:=⟨_,rfl⟩;obtain⟨R2,ht⟩:∃ x,(zgk t s).2=x:=⟨_,rfl⟩;have hp:zgk t s=(R1,R2):=by rw[← hu,← ht]
 rw[hu,ht];unfold zgk at hp;have hE:(t.last s.id).key.length=32:=hY;have hD:=hs.1;obtain⟨k1,hf⟩:∃ x,(t.last s.id).key=x:=⟨_,rfl⟩;obtain⟨b1,hr⟩:∃ x,(t.last s.id).has=x:=⟨_,rfl⟩;obtain⟨L,hL⟩:∃ x,t.life s.key=x:=⟨_,rfl⟩;simp only[hf,hr]at hB;simp only[hL]at hA;rw[hf,hr,hL]at hp;rw[hf]at hE;obtain⟨C,hC⟩:∃ C,s.cells=C:=⟨_,rfl⟩;rw[hC]at hF hw hR hZ c0 hK ⊢;obtain⟨h7,hM⟩:∃ x,s.id=x:=⟨_,rfl⟩;obtain⟨k2,he⟩:∃ x,s.key=x:=⟨_,rfl⟩;rw[hM,he]at hp;simp only[hM]at hB;simp only[he]at hA;rw[hM]at c0;rw[he]at hK hD;clear hC hM he hf hr hL hu ht hY hs hi h hw hR;have hU:Hid ((Tryz.prog.info? 24).map (·.size)=some (zb k1).length):=za (by rw[jb,ja,hE]);have hG:Hid ((Tryz.prog.info? 24).map (·.size)=some (zb k1).toArray.size):=za (by rw[jb,zn,ja,hE]);have hX:=za (all_oneCell_toArray (j0 k1));have hP:Hid ((Tryz.prog.info? 24).map (·.size)=some (zb k2).length):=za (by rw[jb,ja,hD]);have hS:Hid ((Tryz.prog.info? 24).map (·.size)=some (zb k2).toArray.size):=za (by rw[jb,zn,ja,hD]);have hb:=za (all_oneCell_toArray (j0 k2));have hx:Hid ((zb k1).toArray.size=32):=za (by rw[zn,ja,hE]);have ha:Hid ((#[zy z6 0,zy z6 0,zy z6 0,zy z6 0,zy z6 0,zy z6 0,zy z6 0,zy z6 0,zy z6 0,zy z6 0,zy z6 0,zy z6 0,zy z6 0,zy z6 0,zy z6 0,zy z6 0,zy z6 0,zy z6 0,zy z6 0,zy z6 0,zy z6 0,zy z6 0,zy z6 0,zy z6 0,zy z6 0,zy z6 0,zy z6 0,zy z6 0,zy z6 0,zy z6 0,zy z6 0,zy z6 0]:Array Value).size=(zb k1).toArray.size):=za (by rw[hx.out];rfl);have h6:Hid ((zb k2).toArray.size=32):=za (by rw[zn,ja,hD]);obtain⟨K1,hh⟩:∃ x,zb k1=x:=⟨_,rfl⟩;obtain⟨K2,hg⟩:∃ x,zb k2=x:=⟨_,rfl⟩;rw[hh]at hU hG hX hx ha;rw[hg]at hP hS hb h6 hK;simp only[hh]at hB;simp only[hg]at hA;have AD:=za hh;have AC:=za hg;have hl:Hid ((#[zy z6 0,zy z6 0,zy z6 0,zy z6 0,zy z6 0,zy z6 0,zy z6 0,zy z6 0,zy z6 0,zy z6 0,zy z6 0,zy z6 0,zy z6 0,zy z6 0,zy z6 0,zy z6 0,zy z6 0,zy z6 0,zy z6 0,zy z6 0,zy z6 0,zy z6 0,zy z6 0,zy z6 0,zy z6 0,zy z6 0,zy z6 0,zy z6 0,zy z6 0,zy z6 0,zy z6 0,zy z6 0]:Array Value).all (·.oneCell')=true):=za (by kernel_rfl);have Hp:=za hp;have Hbound:=za hB;have Hspent:=za hA;have hH:=World.block_lt_of_cell? _ _ c0;have hI:w.heap.size+1<((w.alloc (.cells C 54)).alloc (.cells #[zy z6 0,zy z6 0,zy z6 0,zy z6 0,zy z6 0,zy z6 0,zy z6 0,zy z6 0,zy z6 0,zy z6 0,zy z6 0,zy z6 0,zy z6 0,zy z6 0,zy z6 0,zy z6 0,zy z6 0,zy z6 0,zy z6 0,zy z6 0,zy z6 0,zy z6 0,zy z6 0,zy z6 0,zy z6 0,zy z6 0,zy z6 0,zy z6 0,zy z6 0,zy z6 0,zy z6 0,zy z6 0] 24)).heap.size:=by rw[zf,zf];omega
 clear hp hB hA hh hg hE hD;go_enter Tryz.func30,Tryz.ntmps30
 go_upto_region 1 with(fail)
 change Code.wp _ _ _ _ ((w.alloc (.cells C 54)).alloc (.cells #[zy z6 0,zy z6 0,zy z6 0,zy z6 0,zy z6 0,zy z6 0,zy z6 0,zy z6 0,zy z6 0,zy z6 0,zy z6 0,zy z6 0,zy z6 0,zy z6 0,zy z6 0,zy z6 0,zy z6 0,zy z6 0,zy z6 0,zy z6 0,zy z6 0,zy z6 0,zy z6 0,zy z6 0,zy z6 0,zy z6 0,zy z6 0,zy z6 0,zy z6 0,zy z6 0,zy z6 0,zy z6 0] 24));obtain⟨W,hW⟩:∃ W,(w.alloc (.cells C 54)).alloc (.cells #[zy z6 0,zy z6 0,zy z6 0,zy z6 0,zy z6 0,zy z6 0,zy z6 0,zy z6 0,zy z6 0,zy z6 0,zy z6 0,zy z6 0,zy z6 0,zy z6 0,zy z6 0,zy z6 0,zy z6 0,zy z6 0,zy z6 0,zy z6 0,zy z6 0,zy z6 0,zy z6 0,zy z6 0,zy z6 0,zy z6 0,zy z6 0,zy z6 0,zy z6 0,zy z6 0,zy z6 0,zy z6 0] 24)=W:=⟨_,rfl⟩;rw[hW]at hF hZ c0 hK hH hI ⊢;obtain⟨p,hn⟩:∃ p,w.heap.size=p:=⟨_,rfl⟩;rw[hn]at hZ c0 hK hH hI ⊢;have Hpp:=za hn;clear hW hn;have HF:=za hF;have hy:=za hZ;have HK:=za hK;have AB:=za hH;have hT:=za hI;clear hF hZ hK hH hI;obtain⟨p2,ho⟩:∃ x,p+1=x:=⟨_,rfl⟩;rw[ho]at hy hT ⊢;have hN:=za ho;clear ho;cases h7 with
 | nil =>
   have hO:Hid ((if L=2 then (jo,8) else (k2,0))=(R1,R2)):=za (by have:=Hp.out;simpa using this);clear Hp Hbound
   go_wp2_with(with_reducible refine zi rfl 24 _ rfl p 1 rfl K2 (.array 32 5) HK.out z7 rfl hP.out ?_)
   refine(Hspent.out _ HF.out).mono ?_;rintro r w2 ⟨rfl,hk⟩;have hQ:=za (za3 hy.out hk hT.out (fun _ h=>h));have h0:=za (je HK.out hk AB.out (fun _ h=>h));have hd:=za hk;clear hk Hspent c0;by_cases hL:L=2
   ·have hR:R1=jo∧R2=8:=by have:=hO.out;rw[if_pos hL]at this;cases this;exact⟨rfl,rfl⟩
    have AA:(L==2)=true:=by simpa using hL
    clear hL hO
    go_wp2_with (first
     | (with_reducible refine wpList_store_mid rfl 24 _ _ rfl p2 0 #[zy z6 0,zy z6 0,zy z6 0,zy z6 0,zy z6 0,zy z6 0,zy z6 0,zy z6 0,zy z6 0,zy z6 0,zy z6 0,zy z6 0,zy z6 0,zy z6 0,zy z6 0,zy z6 0,zy z6 0,zy z6 0,zy z6 0,zy z6 0,zy z6 0,zy z6 0,zy z6 0,zy z6 0,zy z6 0,zy z6 0,zy z6 0,zy z6 0,zy z6 0,zy z6 0,zy z6 0,zy z6 0] rfl rfl hQ.out jb hl.out ?_)
     | (refine wpList_store_mid rfl 24 _ _ rfl p2 0 #[zy z6 0,zy z6 0,zy z6 0,zy z6 0,zy z6 0,zy z6 0,zy z6 0,zy z6 0,zy z6 0,zy z6 0,zy z6 0,zy z6 0,zy z6 0,zy z6 0,zy z6 0,zy z6 0,zy z6 0,zy z6 0,zy z6 0,zy z6 0,zy z6 0,zy z6 0,zy z6 0,zy z6 0,zy z6 0,zy z6 0,zy z6 0,zy z6 0,zy z6 0,zy z6 0,zy z6 0,zy z6 0] rfl rfl hQ.out jb hl.out ?_))
    have hJ:=run_loadVar_mid (P:=ze) _ p2 0 24 (#[zy z6 0,zy z6 0,zy z6 0,zy z6 0,zy z6 0,zy z6 0,zy z6 0,zy z6 0,zy z6 0,zy z6 0,zy z6 0,zy z6 0,zy z6 0,zy z6 0,zy z6 0,zy z6 0,zy z6 0,zy z6 0,zy z6 0,zy z6 0,zy z6 0,zy z6 0,zy z6 0,zy z6 0,zy z6 0,zy z6 0,zy z6 0,zy z6 0,zy z6 0,zy z6 0,zy z6 0,zy z6 0]:Array Value).toList (.array 32 5) (zg w2 p2 0 (#[zy z6 0,zy z6 0,zy z6 0,zy z6 0,zy z6 0,zy z6 0,zy z6 0,zy z6 0,zy z6 0,zy z6 0,zy z6 0,zy z6 0,zy z6 0,zy z6 0,zy z6 0,zy z6 0,zy z6 0,zy z6 0,zy z6 0,zy z6 0,zy z6 0,zy z6 0,zy z6 0,zy z6 0,zy z6 0,zy z6 0,zy z6 0,zy z6 0,zy z6 0,zy z6 0,zy z6 0,zy z6 0]:Array Value).toList hQ.out) z7 rfl jb;refine bodyPost_ret (v := .tuple #[.agg #[zy z6 0,zy z6 0,zy z6 0,zy z6 0,zy z6 0,zy z6 0,zy z6 0,zy z6 0,zy z6 0,zy z6 0,zy z6 0,zy z6 0,zy z6 0,zy z6 0,zy z6 0,zy z6 0,zy z6 0,zy z6 0,zy z6 0,zy z6 0,zy z6 0,zy z6 0,zy z6 0,zy z6 0,zy z6 0,zy z6 0,zy z6 0,zy z6 0,zy z6 0,zy z6 0,zy z6 0,zy z6 0],.iface 56 (.int .i64 8)]) ?_ rfl ⟨by rw[hR.1,hR.2];rfl,(HF.out.trans' hd.out).trans (jd _ _ _ _) (fun k _ hm => .inr (by have:=Hpp.out;have:=hN.out;omega))⟩;rw[results_cell_tmp rfl];simp only[Array.toArray_toList]at hJ;simp[asAddr,Result.andThen,hJ]
   have hR:R1=k2∧R2=0:=by have:=hO.out;rw[if_neg hL]at this;cases this;exact⟨rfl,rfl⟩
   have AA:(L==2)=false:=by simpa using hL
   clear hL hO;have hz:=hQ;have h2:=hd;have hc:Hid ((w2).there p2 0 K2.toArray.size):=za (by rw[h6.out];exact hz.out)
   go_wp2_with (first
    | (with_reducible refine zi rfl 24 _ rfl p 1 rfl K2 (.array 32 5) h0.out z7 rfl hP.out ?_)
    | (with_reducible refine wpList_store_mid rfl 24 _ _ rfl p2 0 K2.toArray rfl rfl hc.out hS.out hb.out ?_))
   have hJ:=run_loadVar_mid (P:=ze) _ p2 0 24 K2 (.array 32 5) (zg (w2) p2 0 K2 (by simpa using hc.out)) z7 rfl hP.out;refine bodyPost_ret (v := .tuple #[.agg K2.toArray,.nilIface]) ?_ rfl ⟨by rw[hR.1,hR.2,AC.out];rfl,(HF.out.trans' h2.out).trans (jd _ _ _ _) (fun k _ hm => .inr (by have:=Hpp.out;have:=hN.out;omega))⟩;rw[results_cell_tmp rfl];simp[asAddr,Result.andThen,hJ]
 | cons x l =>
   have h8:∀ W,(binOp .neq 9 (.string ⟨(x :: l).toArray⟩) (.string ⟨#[]⟩)).run ze W = .ok (.bool true) W:=fun W=>by simp[go_sem]
   have hO:Hid ((if b1=true then (k1,0) else (jo,8))=(R1,R2)):=za (by have:=Hp.out;simpa using this);clear Hp Hspent;have h9:=c0
   go_wp2_with fail
   refine(Hbound.out _ HF.out).mono ?_;rintro r w3 ⟨rfl,h5⟩;have AE:=za h5;clear h5 Hbound c0 h9 h8
   go_upto_region 3 with((with_reducible refine jh (w:=w3) rfl 24 _ _ rfl _ K1.toArray w3.heap.size rfl ?_ ?_ hG.out ha.out hX.out ?_);rfl;rfl)
   change Code.wp _ _ _ _ (w3.alloc (.cells K1.toArray 24));have hq:=jg (zh w3 (.cells K1.toArray 24));rw[List.toList_toArray]at hq;have hj:=AE.out.alloc (.cells K1.toArray 24);obtain⟨w2,h3⟩:∃ W,w3.alloc (.cells K1.toArray 24)=W:=⟨_,rfl⟩;rw[h3]at hq hj ⊢;obtain⟨q,h4⟩:∃ q,w3.heap.size=q:=⟨_,rfl⟩;rw[h4]at hq ⊢;clear h3 h4;have hQ:=za (za3 hy.out hj hT.out (fun _ h=>h));have h0:=za hq;have hd:=za hj;clear hq hj;cases b1
   ·have hR:R1=jo∧R2=8:=by have:=hO.out;rw[if_neg (by decide)]at this;cases this;exact⟨rfl,rfl⟩
    clear hO
    go_wp2_with (first
     | (with_reducible refine wpList_store_mid rfl 24 _ _ rfl p2 0 #[zy z6 0,zy z6 0,zy z6 0,zy z6 0,zy z6 0,zy z6 0,zy z6 0,zy z6 0,zy z6 0,zy z6 0,zy z6 0,zy z6 0,zy z6 0,zy z6 0,zy z6 0,zy z6 0,zy z6 0,zy z6 0,zy z6 0,zy z6 0,zy z6 0,zy z6 0,zy z6 0,zy z6 0,zy z6 0,zy z6 0,zy z6 0,zy z6 0,zy z6 0,zy z6 0,zy z6 0,zy z6 0] rfl rfl hQ.out jb hl.out ?_)
     | (refine wpList_store_mid rfl 24 _ _ rfl p2 0 #[zy z6 0,zy z6 0,zy z6 0,zy z6 0,zy z6 0,zy z6 0,zy z6 0,zy z6 0,zy z6 0,zy z6 0,zy z6 0,zy z6 0,zy z6 0,zy z6 0,zy z6 0,zy z6 0,zy z6 0,zy z6 0,zy z6 0,zy z6 0,zy z6 0,zy z6 0,zy z6 0,zy z6 0,zy z6 0,zy z6 0,zy z6 0,zy z6 0,zy z6 0,zy z6 0,zy z6 0,zy z6 0] rfl rfl hQ.out jb hl.out ?_))
    have hJ:=run_loadVar_mid (P:=ze) _ p2 0 24 (#[zy z6 0,zy z6 0,zy z6 0,zy z6 0,zy z6 0,zy z6 0,zy z6 0,zy z6 0,zy z6 0,zy z6 0,zy z6 0,zy z6 0,zy z6 0,zy z6 0,zy z6 0,zy z6 0,zy z6 0,zy z6 0,zy z6 0,zy z6 0,zy z6 0,zy z6 0,zy z6 0,zy z6 0,zy z6 0,zy z6 0,zy z6 0,zy z6 0,zy z6 0,zy z6 0,zy z6 0,zy z6 0]:Array Value).toList (.array 32 5) (zg w2 p2 0 (#[zy z6 0,zy z6 0,zy z6 0,zy z6 0,zy z6 0,zy z6 0,zy z6 0,zy z6 0,zy z6 0,zy z6 0,zy z6 0,zy z6 0,zy z6 0,zy z6 0,zy z6 0,zy z6 0,zy z6 0,zy z6 0,zy z6 0,zy z6 0,zy z6 0,zy z6 0,zy z6 0,zy z6 0,zy z6 0,zy z6 0,zy z6 0,zy z6 0,zy z6 0,zy z6 0,zy z6 0,zy z6 0]:Array Value).toList hQ.out) z7 rfl jb;refine bodyPost_ret (v := .tuple #[.agg #[zy z6 0,zy z6 0,zy z6 0,zy z6 0,zy z6 0,zy z6 0,zy z6 0,zy z6 0,zy z6 0,zy z6 0,zy z6 0,zy z6 0,zy z6 0,zy z6 0,zy z6 0,zy z6 0,zy z6 0,zy z6 0,zy z6 0,zy z6 0,zy z6 0,zy z6 0,zy z6 0,zy z6 0,zy z6 0,zy z6 0,zy z6 0,zy z6 0,zy z6 0,zy z6 0,zy z6 0,zy z6 0],.iface 56 (.int .i64 8)]) ?_ rfl ⟨by rw[hR.1,hR.2];rfl,(HF.out.trans' hd.out).trans (jd _ _ _ _) (fun k _ hm => .inr (by have:=Hpp.out;have:=hN.out;omega))⟩;rw[results_cell_tmp rfl];simp only[Array.toArray_toList]at hJ;simp[asAddr,Result.andThen,hJ]
   have hR:R1=k1∧R2=0:=by have:=hO.out;rw[if_pos rfl]at this;cases this;exact⟨rfl,rfl⟩
   clear hO;have hz:=hQ;have h2:=hd;have hc:Hid ((w2).there p2 0 K1.toArray.size):=za (by rw[hx.out];exact hz.out)
   go_wp2_with (first
    | (with_reducible refine zi rfl 24 _ rfl q 0 rfl K1 (.array 32 5) h0.out z7 rfl hU.out ?_)
    | (with_reducible refine wpList_store_mid rfl 24 _ _ rfl p2 0 K1.toArray rfl rfl hc.out hG.out hX.out ?_))
   have hJ:=run_loadVar_mid (P:=ze) _ p2 0 24 K1 (.array 32 5) (zg (w2) p2 0 K1 (by simpa using hc.out)) z7 rfl hU.out;refine bodyPost_ret (v := .tuple #[.agg K1.toArray,.nilIface]) ?_ rfl ⟨by rw[hR.1,hR.2,AD.out];rfl,(HF.out.trans' h2.out).trans (jd _ _ _ _) (fun k _ hm => .inr (by have:=Hpp.out;have:=hN.out;omega))⟩;rw[results_cell_tmp rfl];simp[asAddr,Result.andThen,hJ]
end
section
open Go.RowKit Go.Shelf
variable [OldK]
theorem MapB.new {k:TypeId}{K:KeyB ze k}{w:World}{b:Nat}(h:w.heap[b]? = some (.map #[] 0)):MapB K w b 0 (fun _=>none):=by
 obtain⟨D,⟨es,clock,h0,h1⟩,h2⟩:=MapB.made (K:=K) w;rw[zh]at h0
 injection h0 with h0
 injection h0 with e1 e2
 subst e1 e2;exact⟨D,⟨_,_,h,h1⟩,h2⟩
theorem zxc (w:World)(hk:OldK.k≤w.heap.size) :
 Calls ze 25 #[] w fun e w'=>e = .returned (.pointer (some ⟨w.heap.size+2,0,none⟩))∧TBL w.heap.size (w.heap.size+2) 0 w.heap.size (w.heap.size+1) Tb.new (fun _=>none) (fun _=>none) w'∧Fr NoB w w':=by
 have hm:∀ (t:TypeId) (W:World),(Instr.makeMap t none).run ze W = .ok (.map (some W.heap.size)) (W.alloc (.map #[] 0)):=fun t W=>run_makeMap t W
 have hb:∀ (a b:Option Nat) (W:World),(Instr.build 115 #[(0,.map a),(1,.map b)]).run ze W = .ok (.agg #[.map a,.map b]) W:=fun a b W=>run_build W 115 _ _ (by kernel_rfl)
 have hG:=zh w (.map #[] 0);have hB:=zh (w.alloc (.map #[] 0)) (.map #[] 0);have hA:=zh ((w.alloc (.map #[] 0)).alloc (.map #[] 0)) (.cells #[.map (some w.heap.size),.map (some (w.heap.size+1))] 115);simp only[zf]at hB hA;have hD:Fr NoB (w.alloc (.map #[] 0)) (((w.alloc (.map #[] 0)).alloc (.map #[] 0)).alloc (.cells #[.map (some w.heap.size),.map (some (w.heap.size+1))] 115)):=(Fr.refl.alloc _).alloc _;have hC:Fr NoB ((w.alloc (.map #[] 0)).alloc (.map #[] 0)) (((w.alloc (.map #[] 0)).alloc (.map #[] 0)).alloc (.cells #[.map (some w.heap.size),.map (some (w.heap.size+1))] 115)):=Fr.refl.alloc _;have hF:=hD.block _ _ hG (fun h=>h);have hE:=hC.block _ _ hB (fun h=>h);have HF:Hid (Fr NoB w (((w.alloc (.map #[] 0)).alloc (.map #[] 0)).alloc (.cells #[.map (some w.heap.size),.map (some (w.heap.size+1))] 115))):=za (((Fr.refl.alloc _).alloc _).alloc _);have hJ:=za hF;have hI:=za hE;have hH:=za hA;clear hG hB hA hD hC hF hE;go_enter Tryz.func25,Tryz.ntmps25
 go_wp2_with fail
 go_ret;exact⟨rfl,⟨hk,hH.out,⟨by omega,by omega,by omega,by omega⟩,MapB.new hJ.out,MapB.new hI.out,fun _ _=>rfl,fun x hx=>⟨rfl,.inl ⟨rfl,rfl⟩⟩,fun _ _ _ _ _ => .inl rfl,fun _=>zt _,fun _ c hc=>by cases hc⟩,HF.out⟩
theorem zvi {base:Nat} (l:List Chg) (v:Value) (w:World) (h:w.ownsRow base 117 34 v l.length (l.flatMap Chg.cells)) (hl:l.length≤2000000) (hk:∀ c∈l,c.ok) :
 Calls ze 79 #[v] w fun e w'=>∃ v',e = .returned v'∧w'.ownsRow w.heap.size 117 34 v' l.length (l.flatMap Chg.cells)∧Fr NoB w w':=by
 have qn:∀ (w:World) (a:Option Addr) (n c n' c':Nat),(binOp .eql 110 (.slice a n c) (.slice none n' c')).run ze w = .ok (.bool a.isNone) w:=fun w a n c n' c'=>Lib.run_eql_slice_nil w _ _ a n c n' c' Tryz.underlying110
 rcases zfi h with⟨rfl,h0⟩ | ⟨gb,cap,rfl,hb,hlt,hnc,hcm⟩
 ·have hJ:=List.length_eq_zero_iff.1 h0;subst hJ;clear h;go_enter Tryz.func79,Tryz.ntmps79
  go_wp2_with fail
  go_ret;exact⟨_,rfl,⟨rfl,.inl ⟨rfl,rfl⟩⟩,Fr.refl⟩
 obtain⟨i0,hK,hI,hH,hG⟩:=info_parts zb7;have hne:(some (⟨gb,0,none⟩:Addr)).isNone=false:=rfl;obtain⟨XS,hD⟩:∃ x,l.flatMap Chg.cells=x:=⟨_,rfl⟩;obtain⟨n,hn⟩:∃ x,l.length=x:=⟨_,rfl⟩;have hF:XS.length=n * 34:=by rw[← hD,← hn];exact h.1
 have hB:∀ u∈XS,u.oneCell'=true:=by
  rw[← hD];intro u hu;obtain⟨c,hc,hu⟩:=List.mem_flatMap.1 hu;have h:=Chg.one c;rw[List.all_toArray,List.all_eq_true]at h;exact h u hu
 have hA:∀ j u,XS[j]? = some u→(w.alloc (.cells #[] 117)).cell? ((⟨gb,0,none⟩:Addr).add j)=some u:=fun j u hj=>Lib.cell?_alloc_some _ (by
  rw[← hD]at hj;have:=h.cells (g:=gb) rfl j u hj
  exact this)
 rw[hD,hn];rw[hn]at hl;have Hone:=za hB;have Hcell:=za hA;have hL:=za hF;clear h hD hn hB hA hF hk;go_enter Tryz.func79,Tryz.ntmps79
 go_wp2_with(at_builtin;refine wpList_append_own _ rfl _ _ 110 rfl w.heap.size 117 i0 (.agg Chg.zero.cells.toArray) 34 48 Tryz.underlying110 hK hI hH hG rfl (by decide) _ _ _ rfl (World.ownsRow_made w #[] 0 (zt _) (Nat.zero_le _) rfl) ⟨gb,0,none⟩ n cap XS rfl hL.out Hcell.out Hone.out (by unfold maxLen;omega) (by omega) (by rw[zf];omega) ?_)
 intro v' w1 hE hC hnil
 go_wp2_with fail
 go_ret;refine⟨v',rfl,by simpa using hE,?_⟩
 exact ((Fr.refl (M:=NoB)).alloc _).trans (Fr.ofGrown hC) (fun k _ hm => .inr (by
  have h2:some k=some w.heap.size:=hm
  injection h2 with h2
  omega))
theorem zk1 {base tb n bc bl:Nat}{t:Tb}{g lv:Bs→Option Value}(x:Bs)(w:World)(h:TBL base tb n bc bl t g lv w)(hx:x.length≤maxLen)(hn:n≤1000000) :
 Calls ze 65 #[.pointer (some ⟨tb,0,none⟩),.string ⟨x.toArray⟩] w fun e w'=>∃ v',e = .returned v'∧w'.ownsRow w.heap.size 117 34 v' (t.hist x).length ((t.hist x).flatMap Chg.cells)∧Fr NoB w w':=by
 obtain⟨t0,t1⟩:=h.at;have hA:=h.lookC hx;have hB:=zvi (t.hist x) (zf4 g x) w (h.rows x hx) (by have:=h.few x;omega) (h.keys x);obtain⟨V,hV⟩:∃ V,zf4 g x=V:=⟨_,rfl⟩;rw[hV]at hA hB;have Hcl:=za hB;clear hB hV h;go_enter Tryz.func65,Tryz.ntmps65
 go_wp2_with fail
 refine Hcl.out.mono ?_;rintro e w1 ⟨v',rfl,h1,h2⟩;have H1:=za h1;have H2:=za h2;clear h1 h2
 go_wp2_with fail
 go_ret;exact⟨v',rfl,H1.out,H2.out⟩
theorem TBL.tv {base tb n bc bl:Nat}{t:Tb}{g lv:Bs→Option Value}{w:World}(h:TBL base tb n bc bl t g lv w)(hn:n≤1000000):TV (.pointer (some ⟨tb,0,none⟩)) t w :=
 ⟨h.tl,fun x V hV hx=>zk1 x V (h.keep hV) hx hn,fun x=>Nat.le_trans (h.few x) hn,h.keys⟩
theorem zjh (w:World)(base e size n:Nat)(cs:List Value)(hb:base≤w.heap.size)(hl:cs.length=n * size)(hn:n≤maxLen):(w.alloc (.cells cs.toArray e)).ownsRow base e size (.slice (some ⟨w.heap.size,0,none⟩) n n) n cs :=
 ⟨hl,.inr ⟨w.heap.size,n,cs.toArray,rfl,hb,zh _ _,zt _,hn,by simpa using hl,by rw[List.toList_toArray,← hl,List.take_length]⟩⟩
end
section
open Go.RowKit
variable [OldK]
theorem zuy (n:Nat) (hn:n≤20) (w:World) :
 Calls ze 34 #[zgf n] w fun e w'=>e = .returned (.int .i64 n)∧w=w':=by
 unfold zgf;by_cases h0:n=0
 ·subst h0;simp only[if_true];go_enter Tryz.func34,Tryz.ntmps34
  go_wp2_with fail
  go_ret;exact⟨rfl,rfl⟩
 rw[if_neg h0];have h1:((n:Int)==0)=false:=by simpa using h0
 have h2:((n:Int) != 0)=true:=by simpa using h0
 clear h0;have hta:∀ w,(Instr.typeAssert (Value.iface 56 (Value.int .i64 (n:Int))) 46 56 true).run ze w = .ok (.tuple #[.int .i64 n,.bool true]) w:=fun _=>by kernel_rfl
 go_enter Tryz.func34,Tryz.ntmps34
 go_wp2_with fail
 go_ret;exact⟨rfl,rfl⟩
theorem zu0 (n m:Nat)(hn:n≤20)(w:World) :
 Calls ze 31 #[zgf n,.int .i64 m] w fun e w'=>e = .returned (.bool (decide (n=m)))∧w=w':=by
 have hN:=fun W=>zuy n hn W
 obtain⟨E,hE⟩:∃ E,zgf n=E:=⟨_,rfl⟩;simp only[hE]at hN;rw[hE];have HN:=za hN;obtain⟨B,hB⟩:∃ B,decide (n=m)=B:=⟨_,rfl⟩;have hB2:((n:Int)==(m:Int))=B:=by rw[← hB];simp only[BEq.beq,Int.ofNat_inj]
 have hB3:(n==m)=B:=by rw[← hB];rfl
 rw[hB];clear hN hE hB hn;go_enter Tryz.func31,Tryz.ntmps31
 go_wp2_with fail
 refine(HN.out _).mono ?_;rintro e w1 ⟨rfl,rfl⟩
 go_wp2_with fail
 go_ret;exact⟨rfl,rfl⟩
end
end Go.Proofs.YtcddlemkimbkcaaGreatDoor
