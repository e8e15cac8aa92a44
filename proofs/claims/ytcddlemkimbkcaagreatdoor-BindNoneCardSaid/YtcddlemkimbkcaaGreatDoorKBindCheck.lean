/-
 The walk of bind.must and of bind.by.
-/
import Derived.Test.YtcddlemkimbkcaaGreatDoorKBy
import Derived.Test.YtcddlemkimbkcaaGreatDoorKSpecBind
import Derived.Test.YtcddlemkimbkcaaGreatDoorKCheckE
import Derived.Test.YtcddlemkimbkcaaGreatDoorKSubjects
open Go.Lib renaming hid→za,byteCells→zb
open Go.Proofs.Tryz renaming prog→ze
open Go.World renaming size_alloc→zf,rangeAt_setCells_same→zg
open Go renaming heap_alloc_new→zh,wpList_load_mid→zi,yieldsIf_load_mid→zj
open Or renaming inl→zv
namespace Go.Proofs.YtcddlemkimbkcaaGreatDoor
set_option linter.unusedVariables false
set_option linter.unusedSimpArgs false
set_option linter.unusedSectionVars false
set_option maxRecDepth 100000
set_option maxHeartbeats 8000000
section
open Go.RowKit Go.Shelf
variable [OldK]
theorem zke (e:En):(zfg e).ok:=⟨rfl,rfl⟩
theorem znd {e:En}(h:e.ok):(zjc e).ok:=⟨h.2.1,rfl⟩
theorem zo2 (idn:Bs)(W:World):(Instr.build 54 #[(0,.string ⟨idn.toArray⟩)]).run ze W = .ok (.agg (Sg.cells ⟨idn,jo,zb0⟩)) W:=by kernel_rfl
theorem zlh (k:Bs)(h:k.length=32)(W:World):(Instr.build 54 #[(1,.agg (zb k).toArray)]).run ze W = .ok (.agg (Sg.cells ⟨[],k,zb0⟩)) W:=by
 obtain⟨x0,x1,x2,x3,x4,x5,x6,x7,x8,x9,x10,x11,x12,x13,x14,x15,x16,x17,x18,x19,x20,x21,x22,x23,x24,x25,x26,x27,x28,x29,x30,x31,rfl⟩:=zky k h
 kernel_rfl
theorem zfz (a:Sg) (ha:a.ok):Tryz.prog.builtSlice 54 1 [(0,.agg a.cells)]=some a.cells:=by
 obtain⟨i0,hi,hB,hA,hz2⟩:=info_parts ze8
 have h:=zav (P:=ze) hi hB hA (by rfl) (by decide) (by decide:0<1) (by decide) [.agg a.cells] (fun v hv=>by
  obtain rfl:v = .agg a.cells:=by simpa using hv
  exact Sg.size ha) rfl
 have e:([Value.agg a.cells].flatMap fun v=>v.cells.toList).toArray=a.cells:=by simp[Value.cells]
 rw[e]at h;exact h
theorem zh7 (a b:Sg) (ha:a.ok) (hb:b.ok):Tryz.prog.builtSlice 54 2 [(0,.agg a.cells),(1,.agg b.cells)]=some (a.cells++b.cells):=by
 obtain⟨i0,hi,hB,hA,hz2⟩:=info_parts ze8
 have h:=zav (P:=ze) hi hB hA (by rfl) (by decide) (by decide:0<2) (by decide) [.agg a.cells,.agg b.cells] (fun v hv=>by
  have:v = .agg a.cells∨v = .agg b.cells:=by simpa using hv
  rcases this with rfl | rfl
  ·exact Sg.size ha
  exact Sg.size hb) rfl
 have e:([Value.agg a.cells,Value.agg b.cells].flatMap fun v=>v.cells.toList).toArray=a.cells++b.cells:=by
  apply Array.ext';simp[Value.cells]
 rw[e]at h;exact h
theorem zo4 (e:En) (pv sv:Value) (w:World) (hok:e.ok) (hp:pv.oneCell'=true) (hs:sv.oneCell'=true) :
 Calls ze 73 #[.agg (e.cells pv sv).toArray] w fun r w'=>(∃ gb,r = .returned (.slice (some ⟨gb,0,none⟩) (zcd e).length (zcd e).length)∧SgRow w'.heap.size gb (zcd e) w')∧Fr NoB w w':=by
 have hR:(w.alloc (.cells (e.cells pv sv).toArray 39)).rangeAt w.heap.size 0 (e.cells pv sv):=by simpa using jg (zh w (.cells (e.cells pv sv).toArray 39))
 have hF:Fr NoB w (w.alloc (.cells (e.cells pv sv).toArray 39)):=Fr.refl.alloc _;obtain⟨-,-,-,-,hb,ha,hK,-⟩:=En.parts hok hR;have hl:=fun V=>zo2 e.ident V
 have hk:=fun V=>zlh e.key hok.2.1 V
 have hS:=zke e;have hQ:=znd hok;obtain⟨A,hA⟩:∃ A,zfg e=A:=⟨_,rfl⟩;obtain⟨B,hB⟩:∃ B,zjc e=B:=⟨_,rfl⟩;have hm:zcd e=if e.op=1 then [B] else if e.op=2 then [A,B] else [A]:=by rw[← hA,← hB];rfl
 have AD:Sg.cells ⟨e.ident,jo,zb0⟩=A.cells:=by rw[← hA];rfl
 have AC:Sg.cells ⟨[],e.key,zb0⟩=B.cells:=by rw[← hB];rfl
 rw[AD]at hl;rw[AC]at hk;rw[hA]at hS;rw[hB]at hQ;obtain⟨M,hM⟩:∃ M,zcd e=M:=⟨_,rfl⟩;rw[hM]at hm ⊢;have hG:=za hm;have hr:(Tryz.prog.info? 24).map (·.size)=some (zb e.key).length:=by rw[jb,ja,hok.2.1]
 obtain⟨KC,AA⟩:∃ C,zb e.key=C:=⟨_,rfl⟩;rw[AA]at hK hk hr;obtain⟨C,hC⟩:∃ C,e.cells pv sv=C:=⟨_,rfl⟩;obtain⟨op,h3⟩:∃ o,e.op=o:=⟨_,rfl⟩;obtain⟨AH,hf⟩:∃ o,e.ident=o:=⟨_,rfl⟩;rw[hC]at hR hF hb ha hK ⊢;rw[h3]at hb hG;rw[hf]at ha hl;have AO:=za hl;have AN:=za hk;have Hkz:=za hr;have HF:=za hF;have HK:=za hK;have hP:w.heap.size<(w.alloc (.cells C.toArray 39)).heap.size:=by rw[zf];omega
 obtain⟨d,hu,hd⟩:=zai;have Hu:=za hu;have Hd:=za hd;have AF:Hid ((Tryz.prog.info? 54).map (·.size)=some A.cells.size):=za (by rw[jy,Sg.size hS]);have AE:Hid ((Tryz.prog.info? 54).map (·.size)=some B.cells.size):=za (by rw[jy,Sg.size hQ]);clear hR hF hK hm hM hA hB AD AC hl hk hr AA hC h3 hf hu hd hok;go_enter Tryz.func73,Tryz.ntmps73
 go_upto_region 1 with(fail)
 change Code.wp _ _ _ _ (w.alloc (.cells C.toArray 39));obtain⟨W,hW⟩:∃ W,w.alloc (.cells C.toArray 39)=W:=⟨_,rfl⟩;rw[hW]at HF HK hb ha hP ⊢;obtain⟨p,ho⟩:∃ p,w.heap.size=p:=⟨_,rfl⟩;rw[ho]at HK hb ha hP ⊢;have Hp:=za ho;clear hW ho;refine wp_region_held_drew (S:=fun V=>Hid (Fr (fun k _=>W.heap.size≤k) W V)) (by kernel_rfl) (za Fr.refl.drew) (fun hD=>?_);simp only[qV]
 iterate 2
  refine qt (v:=?_) rfl (zv ⟨by rfl,?_⟩) hD ?_;rotate_left
  ·intro W hg;have AM:=Fr.cell hg.out ha (fun _ h=>Nat.not_le_of_lt hP h)
   try simp only[qQ]
   go_simp
   try rw[if_neg (by omega)]
   try with_reducible rfl
  try simp only[Act.put,qP]
 refine wpAnyH_take (i:=2) (v := .agg A.cells) rfl (by kernel_rfl) (by kernel_rfl) (by kernel_rfl) (fun _ _ _ h=>h) (zv ⟨by rfl,?_⟩) hD ?_
 ·intro V hg;refine Eq.trans (b:=Result.andThen ((Instr.build 54 #[(0,.string ⟨AH.toArray⟩)]).run ze V) (fun a w' => .ok (.value a) w')) ?_ ?_
  ·kernel_rfl
  rw[AO.out V];rfl
 try simp only[Act.put,qP]
 refine qt (v:=?_) rfl (zv ⟨by rfl,?_⟩) hD ?_;rotate_left
 ·intro W hg;have AM:=Fr.cell hg.out ha (fun _ h=>Nat.not_le_of_lt hP h)
  try simp only[qQ]
  go_simp
  try rw[if_neg (by omega)]
  try with_reducible rfl
 try simp only[Act.put,qP]
 refine qi (i:=4) rfl (zj (by rfl) 24 _ rfl p 37 rfl KC (.array 32 5) (fun V h=>je HK.out h.out hP (fun _ h=>Nat.not_le_of_lt hP h)) z7 rfl Hkz.out) hD ?_
 try simp only[Act.put,qP]
 refine wpAnyH_take (i:=5) (v := .agg B.cells) rfl (by kernel_rfl) (by kernel_rfl) (by kernel_rfl) (fun _ _ _ h=>h) (zv ⟨by rfl,?_⟩) hD ?_
 ·intro V hg;simp only[execOp,Sem.run_bind,List.map_toArray,List.map_cons,List.map_nil,List.getElem_toArray,List.getElem_cons_zero,List.getElem_cons_succ];exact(congrArg (fun r=>Result.andThen r fun a w'=>Sem.run ze (pure (Next.value a)) w') (AN.out V)).trans rfl
 try simp only[Act.put,qP]
 have h7:=zh W (.cells Tryz.zeroCells54 54);have h4:=zh (W.alloc (.cells Tryz.zeroCells54 54)) (.cells Tryz.zeroCells54 54);have hT:Tryz.zeroCells54.size=97:=by kernel_rfl
 have AB:Fr NoB (W.alloc (.cells Tryz.zeroCells54 54)) (((W.alloc (.cells Tryz.zeroCells54 54)).alloc (.cells Tryz.zeroCells54 54)).drew):=(Fr.refl.alloc _).drew;have h9:=za3 (jr h7 (n:=97) (by rw[hT];exact Nat.le_refl _)) AB (by rw[zf];omega) (fun _ h=>h)
 have h8:(((W.alloc (.cells Tryz.zeroCells54 54)).alloc (.cells Tryz.zeroCells54 54)).drew).there (W.heap.size+1) 0 97:=by
  have:=jr h4 (n:=97) (by rw[hT];exact Nat.le_refl _);rw[zf]at this;exact za3 this (Fr.refl (M:=NoB)).drew (by rw[zf,zf];omega) (fun _ h=>h)
 have he:=za h9;have hc:=za h8;clear h7 h4 hT AB h9 h8;refine wpAnyH_ready (rs:=[6,7]) (by kernel_rfl) (by simp) (AllReadyH.cons rfl (fun K hK=>?_) (AllReadyH.cons rfl (fun K hK=>?_) AllReadyH.nil))
 ·try simp only [qQ]
  go_simp;refine hK.out _ _ (za (hD.out.alloc _)) (fun hD=>?_);clear hK K
  try simp only[Act.put,qP]
  refine qr (i:=7) (by kernel_rfl) rfl (fun K hK=>?_)
  try simp only[qQ]
  go_simp
  skip
  refine hK.out _ _ (za (hD.out.alloc _)) (fun hD=>?_);clear hK K
  try simp only[Act.put,qP]
  obtain⟨W2,hN⟩:∃ V,((W.alloc (.cells Tryz.zeroCells54 54)).alloc (.cells Tryz.zeroCells54 54)).drew=V:=⟨_,rfl⟩;have ht:Fr NoB W W2:=by rw[← hN];exact((Fr.refl.alloc _).alloc _).drew
  have hn:W2.heap.size=W.heap.size+2:=by rw[← hN];simp
  rw[hN]at hD he hc ⊢;have hV:W2.there W.heap.size 0 97:=(he).out;have hU:W2.there (W.heap.size+1) 0 97:=(hc).out;have hq:W.heap.size≠(W.heap.size+1):=by omega
  have AL:W.heap.size≤W.heap.size:=by omega
  have AJ:W.heap.size≤(W.heap.size+1):=by omega
  have AK:W.heap.size<W2.heap.size:=by omega
  have AI:(W.heap.size+1)<W2.heap.size:=by omega
  have lA:A.cells.size=97:=Sg.size hS;have lB:B.cells.size=97:=Sg.size hQ;have h0:=za (Sg.one A);have hz:=za (Sg.one B);have hy:=za (show W2.there W.heap.size 0 A.cells.size by rw[lA];exact hV);have hw:=za (show(W2.setCells W.heap.size 0 A.cells.toList).there (W.heap.size+1) 0 B.cells.size by rw[lB];exact World.there_setCells hU _ _ _);have hY:((W2.setCells W.heap.size 0 A.cells.toList).setCells (W.heap.size+1) 0 B.cells.toList).rangeAt W.heap.size 0 A.cells.toList:=World.rangeAt_setCells_apart (zg W2 W.heap.size 0 _ (by rw[Array.length_toList,lA];exact hV)) _ _ _ (.inl hq);have hX:((W2.setCells W.heap.size 0 A.cells.toList).setCells (W.heap.size+1) 0 B.cells.toList).rangeAt (W.heap.size+1) 0 B.cells.toList:=zg _ (W.heap.size+1) 0 _ (by rw[Array.length_toList,lB];exact World.there_setCells hU _ _ _);have hO:Fr (fun k _=>W.heap.size≤k) W ((W2.setCells W.heap.size 0 A.cells.toList).setCells (W.heap.size+1) 0 B.cells.toList):=((ht.mono (fun _ _ h=>h.elim)).trans' ((jd W.heap.size _ _ _).mono (fun _ _ h=>by have h5:=h;omega))).trans' ((jd (W.heap.size+1) _ _ _).mono (fun _ _ h=>by have h5:=h;omega));clear hN he hc hV hU;refine qr (i:=8) (by kernel_rfl) rfl (fun K hK=>?_)
  try simp only[qQ]
  rw[if_pos (by rfl)];refine wp_store_mid 54 (.tmp 3) (.tmp 7) (by rfl) W.heap.size 0 A.cells (by rfl) (by rfl) hy.out AF.out h0.out ?_;refine hK.out _ _ (za (hD.out.trans' ((jd W.heap.size _ _ _).mono (fun _ _ h=>by have h5:=h;omega)))) (fun hD=>?_);clear hK K
  try simp only[Act.put,qP]
  refine qr (i:=9) (by kernel_rfl) rfl (fun K hK=>?_)
  try simp only[qQ]
  rw[if_pos (by rfl)];refine wp_store_mid 54 (.tmp 4) (.tmp 10) (by rfl) (W.heap.size+1) 0 B.cells (by rfl) (by rfl) hw.out AE.out hz.out ?_;refine hK.out _ _ (za (hD.out.trans' ((jd (W.heap.size+1) _ _ _).mono (fun _ _ h=>by have h5:=h;omega)))) (fun hD=>?_);clear hK K
  try simp only[Act.put,qP]
  refine wpAnyH_done (by kernel_rfl) ?_ _;clear hD;obtain⟨E,hE⟩:∃ V,(W2.setCells W.heap.size 0 A.cells.toList).setCells (W.heap.size+1) 0 B.cells.toList=V:=⟨_,rfl⟩;rw[hE]at hY hX hO ⊢;have AG:=Fr.cell hO hb (fun _ h=>Nat.not_le_of_lt hP h);have hj:=za hY;have hh:=za hX;have hZ:=za (HF.out.trans hO (fun k _ hm => .inr (by have h6:W.heap.size≤k:=hm;have:=Hp.out;omega)));have hL:Hid ((Tryz.prog.info? 54).map (·.size)=some A.cells.toList.length):=za (by rw[jy,Array.length_toList,lA]);have hJ:Hid ((Tryz.prog.info? 54).map (·.size)=some B.cells.toList.length):=za (by rw[jy,Array.length_toList,lB]);have Hbo:=za (zfz B hQ);have Hao:=za (zfz A hS);have Hab:=za (zh7 A B hS hQ)
  have hI:∀ X:Sg,SgRow (E.alloc (.cells X.cells 54)).heap.size E.heap.size [X] (E.alloc (.cells X.cells 54)):=fun X=>⟨by rw[zf];omega,fun i x hi=>by
   cases i with
   | zero =>
     obtain rfl:X=x:=by simpa using hi
     exact jg (zh E (.cells X.cells 54))
   | succ i=>simp at hi⟩
  have hH : SgRow (E.alloc (.cells (A.cells++B.cells) 54)).heap.size E.heap.size [A,B] (E.alloc (.cells (A.cells++B.cells) 54)):=by
   have hx:=jg (zh E (.cells (A.cells++B.cells) 54));rw[Array.toList_append,range_append,Array.length_toList,lA]at hx;refine⟨by rw[zf];omega,fun i x hi=>?_⟩
   match i,hi with
   | 0, hi => obtain rfl:A=x:=by simpa using hi
              exact hx.1
   | 1, hi => obtain rfl:B=x:=by simpa using hi
              exact hx.2
  have Hone:=za hI;have Htwo:=za hH;clear hY hX hO hE hI hH lA lB;by_cases h1:op=1
  ·subst h1;have Hm:Hid (M=[B]):=za (by have:=hG.out;simpa using this);clear hG
   go_wp2_with (first
    | (with_reducible refine zi rfl 54 _ rfl ((W.heap.size+1)) 0 rfl B.cells.toList d hh.out Hu.out Hd.out hJ.out ?_)
    | ((with_reducible refine Great.wpList_buildSliceTo ?_ 37 54 1 _ rfl E.heap.size rfl _ rfl Tryz.underlying37 B.cells ?_ ?_);rfl;(refine Eq.trans (congrArg (Tryz.prog.builtSlice 54 1) ?_) Hbo.out;kernel_rfl)))
   go_ret;rw[Hm.out];exact⟨⟨_,rfl,Hone.out B⟩,hZ.out.alloc _⟩
  have e1:(op==1)=false:=by simpa using h1
  by_cases h2:op=2
  ·subst h2;have Hm:Hid (M=[A,B]):=za (by have:=hG.out;simpa using this);clear hG h1 e1
   go_wp2_with (first
    | (with_reducible refine zi rfl 54 _ rfl (W.heap.size) 0 rfl A.cells.toList d hj.out Hu.out Hd.out hL.out ?_)
    | (with_reducible refine zi rfl 54 _ rfl ((W.heap.size+1)) 0 rfl B.cells.toList d hh.out Hu.out Hd.out hJ.out ?_)
    | ((with_reducible refine Great.wpList_buildSliceTo ?_ 37 54 2 _ rfl E.heap.size rfl _ rfl Tryz.underlying37 (A.cells++B.cells) ?_ ?_);rfl;(refine Eq.trans (congrArg (Tryz.prog.builtSlice 54 2) ?_) Hab.out;kernel_rfl)))
   go_ret;rw[Hm.out];exact⟨⟨_,rfl,Htwo.out⟩,hZ.out.alloc _⟩
  have e2:(op==2)=false:=by simpa using h2
  have Hm:Hid (M=[A]):=za (by have:=hG.out;simpa[h1,h2] using this);clear hG h1 h2
  go_wp2_with (first
   | (with_reducible refine zi rfl 54 _ rfl (W.heap.size) 0 rfl A.cells.toList d hj.out Hu.out Hd.out hL.out ?_)
   | ((with_reducible refine Great.wpList_buildSliceTo ?_ 37 54 1 _ rfl E.heap.size rfl _ rfl Tryz.underlying37 A.cells ?_ ?_);rfl;(refine Eq.trans (congrArg (Tryz.prog.builtSlice 54 1) ?_) Hao.out;kernel_rfl)))
  go_ret;rw[Hm.out];exact⟨⟨_,rfl,Hone.out A⟩,hZ.out.alloc _⟩
 try simp only[qQ]
 go_simp;refine hK.out _ _ (za (hD.out.alloc _)) (fun hD=>?_);clear hK K
 try simp only[Act.put,qP]
 refine qr (i:=6) (by kernel_rfl) rfl (fun K hK=>?_)
 try simp only[qQ]
 go_simp
 skip
 refine hK.out _ _ (za (hD.out.alloc _)) (fun hD=>?_);clear hK K
 try simp only[Act.put,qP]
 obtain⟨W2,hN⟩:∃ V,((W.alloc (.cells Tryz.zeroCells54 54)).alloc (.cells Tryz.zeroCells54 54)).drew=V:=⟨_,rfl⟩;have ht:Fr NoB W W2:=by rw[← hN];exact((Fr.refl.alloc _).alloc _).drew
 have hn:W2.heap.size=W.heap.size+2:=by rw[← hN];simp
 rw[hN]at hD he hc ⊢;have hV:W2.there (W.heap.size+1) 0 97:=(hc).out;have hU:W2.there W.heap.size 0 97:=(he).out;have hq:(W.heap.size+1)≠W.heap.size:=by omega
 have AL:W.heap.size≤(W.heap.size+1):=by omega
 have AJ:W.heap.size≤W.heap.size:=by omega
 have AK:(W.heap.size+1)<W2.heap.size:=by omega
 have AI:W.heap.size<W2.heap.size:=by omega
 have lA:A.cells.size=97:=Sg.size hS;have lB:B.cells.size=97:=Sg.size hQ;have h0:=za (Sg.one A);have hz:=za (Sg.one B);have hy:=za (show W2.there (W.heap.size+1) 0 A.cells.size by rw[lA];exact hV);have hw:=za (show(W2.setCells (W.heap.size+1) 0 A.cells.toList).there W.heap.size 0 B.cells.size by rw[lB];exact World.there_setCells hU _ _ _);have hY:((W2.setCells (W.heap.size+1) 0 A.cells.toList).setCells W.heap.size 0 B.cells.toList).rangeAt (W.heap.size+1) 0 A.cells.toList:=World.rangeAt_setCells_apart (zg W2 (W.heap.size+1) 0 _ (by rw[Array.length_toList,lA];exact hV)) _ _ _ (.inl hq);have hX:((W2.setCells (W.heap.size+1) 0 A.cells.toList).setCells W.heap.size 0 B.cells.toList).rangeAt W.heap.size 0 B.cells.toList:=zg _ W.heap.size 0 _ (by rw[Array.length_toList,lB];exact World.there_setCells hU _ _ _);have hO:Fr (fun k _=>W.heap.size≤k) W ((W2.setCells (W.heap.size+1) 0 A.cells.toList).setCells W.heap.size 0 B.cells.toList):=((ht.mono (fun _ _ h=>h.elim)).trans' ((jd (W.heap.size+1) _ _ _).mono (fun _ _ h=>by have h5:=h;omega))).trans' ((jd W.heap.size _ _ _).mono (fun _ _ h=>by have h5:=h;omega));clear hN he hc hV hU;refine qr (i:=8) (by kernel_rfl) rfl (fun K hK=>?_)
 try simp only[qQ]
 rw[if_pos (by rfl)];refine wp_store_mid 54 (.tmp 3) (.tmp 7) (by rfl) (W.heap.size+1) 0 A.cells (by rfl) (by rfl) hy.out AF.out h0.out ?_;refine hK.out _ _ (za (hD.out.trans' ((jd (W.heap.size+1) _ _ _).mono (fun _ _ h=>by have h5:=h;omega)))) (fun hD=>?_);clear hK K
 try simp only[Act.put,qP]
 refine qr (i:=9) (by kernel_rfl) rfl (fun K hK=>?_)
 try simp only[qQ]
 rw[if_pos (by rfl)];refine wp_store_mid 54 (.tmp 4) (.tmp 10) (by rfl) W.heap.size 0 B.cells (by rfl) (by rfl) hw.out AE.out hz.out ?_;refine hK.out _ _ (za (hD.out.trans' ((jd W.heap.size _ _ _).mono (fun _ _ h=>by have h5:=h;omega)))) (fun hD=>?_);clear hK K
 try simp only[Act.put,qP]
 refine wpAnyH_done (by kernel_rfl) ?_ _;clear hD;obtain⟨E,hE⟩:∃ V,(W2.setCells (W.heap.size+1) 0 A.cells.toList).setCells W.heap.size 0 B.cells.toList=V:=⟨_,rfl⟩;rw[hE]at hY hX hO ⊢;have AG:=Fr.cell hO hb (fun _ h=>Nat.not_le_of_lt hP h);have hj:=za hY;have hh:=za hX;have hZ:=za (HF.out.trans hO (fun k _ hm => .inr (by have h6:W.heap.size≤k:=hm;have:=Hp.out;omega)));have hL:Hid ((Tryz.prog.info? 54).map (·.size)=some A.cells.toList.length):=za (by rw[jy,Array.length_toList,lA]);have hJ:Hid ((Tryz.prog.info? 54).map (·.size)=some B.cells.toList.length):=za (by rw[jy,Array.length_toList,lB]);have Hbo:=za (zfz B hQ);have Hao:=za (zfz A hS);have Hab:=za (zh7 A B hS hQ)
 have hI:∀ X:Sg,SgRow (E.alloc (.cells X.cells 54)).heap.size E.heap.size [X] (E.alloc (.cells X.cells 54)):=fun X=>⟨by rw[zf];omega,fun i x hi=>by
  cases i with
  | zero =>
    obtain rfl:X=x:=by simpa using hi
    exact jg (zh E (.cells X.cells 54))
  | succ i=>simp at hi⟩
 have hH : SgRow (E.alloc (.cells (A.cells++B.cells) 54)).heap.size E.heap.size [A,B] (E.alloc (.cells (A.cells++B.cells) 54)):=by
  have hx:=jg (zh E (.cells (A.cells++B.cells) 54));rw[Array.toList_append,range_append,Array.length_toList,lA]at hx;refine⟨by rw[zf];omega,fun i x hi=>?_⟩
  match i,hi with
  | 0, hi => obtain rfl:A=x:=by simpa using hi
             exact hx.1
  | 1, hi => obtain rfl:B=x:=by simpa using hi
             exact hx.2
 have Hone:=za hI;have Htwo:=za hH;clear hY hX hO hE hI hH lA lB;by_cases h1:op=1
 ·subst h1;have Hm:Hid (M=[B]):=za (by have:=hG.out;simpa using this);clear hG
  go_wp2_with (first
   | (with_reducible refine zi rfl 54 _ rfl (W.heap.size) 0 rfl B.cells.toList d hh.out Hu.out Hd.out hJ.out ?_)
   | ((with_reducible refine Great.wpList_buildSliceTo ?_ 37 54 1 _ rfl E.heap.size rfl _ rfl Tryz.underlying37 B.cells ?_ ?_);rfl;(refine Eq.trans (congrArg (Tryz.prog.builtSlice 54 1) ?_) Hbo.out;kernel_rfl)))
  go_ret;rw[Hm.out];exact⟨⟨_,rfl,Hone.out B⟩,hZ.out.alloc _⟩
 have e1:(op==1)=false:=by simpa using h1
 by_cases h2:op=2
 ·subst h2;have Hm:Hid (M=[A,B]):=za (by have:=hG.out;simpa using this);clear hG h1 e1
  go_wp2_with (first
   | (with_reducible refine zi rfl 54 _ rfl ((W.heap.size+1)) 0 rfl A.cells.toList d hj.out Hu.out Hd.out hL.out ?_)
   | (with_reducible refine zi rfl 54 _ rfl (W.heap.size) 0 rfl B.cells.toList d hh.out Hu.out Hd.out hJ.out ?_)
   | ((with_reducible refine Great.wpList_buildSliceTo ?_ 37 54 2 _ rfl E.heap.size rfl _ rfl Tryz.underlying37 (A.cells++B.cells) ?_ ?_);rfl;(refine Eq.trans (congrArg (Tryz.prog.builtSlice 54 2) ?_) Hab.out;kernel_rfl)))
  go_ret;rw[Hm.out];exact⟨⟨_,rfl,Htwo.out⟩,hZ.out.alloc _⟩
 have e2:(op==2)=false:=by simpa using h2
 have Hm:Hid (M=[A]):=za (by have:=hG.out;simpa[h1,h2] using this);clear hG h1 h2
 go_wp2_with (first
  | (with_reducible refine zi rfl 54 _ rfl ((W.heap.size+1)) 0 rfl A.cells.toList d hj.out Hu.out Hd.out hL.out ?_)
  | ((with_reducible refine Great.wpList_buildSliceTo ?_ 37 54 1 _ rfl E.heap.size rfl _ rfl Tryz.underlying37 A.cells ?_ ?_);rfl;(refine Eq.trans (congrArg (Tryz.prog.builtSlice 54 1) ?_) Hao.out;kernel_rfl)))
 go_ret;rw[Hm.out];exact⟨⟨_,rfl,Hone.out A⟩,hZ.out.alloc _⟩
end
section
open Go.RowKit Go.Shelf
variable [OldK]
theorem zpj {l:List Sg}:∀ x,x∈zhi l→x∈l:=by
 intro x hx;unfold zhi at hx;split at hx
 ·split at hx
  ·simp at hx ⊢;exact hx.symm
  exact hx
 exact hx
theorem zx4 (S:Nat→Prop) (e:En) (pv sv:Value) (want:List Sg) (gb n:Nat) (w:World) (hok:e.ok) (hg:GS S e.sigs sv w) (hoks:oks e.sigs) (hl:e.sigs.length≤1000) (hn:want.length=n) (hw:SgRow w.heap.size gb want w) (how:oks want) (h12:(∃ a,want=[a])∨∃ a b,want=[a,b]) :
 Calls ze 72 #[.agg (e.cells pv sv).toArray,.slice (some ⟨gb,0,none⟩) n n] w fun r w'=>r = .returned (.bool (pBy e want))∧Fr NoB w w':=by
 subst hn;obtain⟨a3,c3,hU,-⟩:=id hg;have hR:(w.alloc (.cells (e.cells pv sv).toArray 39)).rangeAt w.heap.size 0 (e.cells pv sv):=by simpa using jg (zh w (.cells (e.cells pv sv).toArray 39))
 have hF:Fr NoB w (w.alloc (.cells (e.cells pv sv).toArray 39)):=Fr.refl.alloc _;obtain⟨-,-,-,-,-,-,-,hG⟩:=En.parts hok hR;have hL:SgRow (w.alloc (.cells (e.cells pv sv).toArray 39)).heap.size gb want (w.alloc (.cells (e.cells pv sv).toArray 39)):=⟨Nat.lt_of_lt_of_le hw.1 hF.size,fun i x hi=>je (hw.2 i x hi) hF hw.1 (fun _ h=>h)⟩;have hO:=hg.fr hF (fun _ _ _ h=>h);have hB:=fun V=>zrt (some ⟨gb,0,none⟩) want.length want.length V
 have hD:=fun Bs V h1 h2 h3=>zka Bs gb want.length want h12 how V h1 h2 h3
 obtain⟨R,hH⟩:∃ R,pBy e want=R:=⟨_,rfl⟩;rw[hH];unfold pBy at hH;obtain⟨C,hC⟩:∃ C,e.cells pv sv=C:=⟨_,rfl⟩;obtain⟨ss,hV⟩:∃ s,e.sigs=s:=⟨_,rfl⟩;rw[hV]at hO hoks hl hH hU;have hN:oks (zhi want):=fun x hx=>how x (zpj x hx)
 have hP:=fun v (V:World) (h:GS (fun _=>True) (zhi want) v V) (hI:Fr NoB (w.alloc (.cells C.toArray 39)) V)=>zmx (S:=S) (l:=ss) (v:=sv) (w:=V) (hO.fr (by rw[hC];exact hI) (fun _ _ _ h=>h)) h hl hoks hN
 rw[hH]at hP;rw[hC]at hF hG hL ⊢;have Hvals:=za hB;have Hsort:=za hD;have Heq:=za hP;have HF:=za hF;have hJ:=za hL;clear hR hO hg hw hB hD hP hF hL hC hV hH hok;go_enter Tryz.func72,Tryz.ntmps72
 go_upto_region 3 with(fail)
 change Code.wp _ _ _ _ (w.alloc (.cells C.toArray 39));obtain⟨W,hW⟩:∃ W,w.alloc (.cells C.toArray 39)=W:=⟨_,rfl⟩;rw[hW]at HF hG hJ Heq ⊢;obtain⟨p,hY⟩:∃ p,w.heap.size=p:=⟨_,rfl⟩;rw[hY]at hG ⊢;clear hW hY;subst hU;refine wp_region_held_drew (S:=fun V=>Hid (Fr NoB W V)) (by kernel_rfl) (za Fr.refl.drew) (fun hA=>?_);simp only[qV]
 iterate 3
  refine qt (v:=?_) rfl (zv ⟨by rfl,?_⟩) hA ?_;rotate_left
  ·intro W hE;have hT:=Fr.cell hE.out hG
   try simp only[qQ]
   go_simp
   try rw[if_neg (by omega)]
   try with_reducible rfl
  try simp only[Act.put,qP]
 refine qi (i:=4) (v:=?_) rfl (zv ⟨by rfl,?_⟩) hA ?_;rotate_left
 ·intro W hE;have hT:=Fr.cell hE.out hG
  try simp only[qQ]
  go_simp
  try rw[if_neg (by omega)]
  try with_reducible rfl
 try simp only[Act.put,qP]
 refine qi (i:=6) (v:=?_) rfl (zv ⟨by rfl,?_⟩) hA ?_;rotate_left
 ·intro W hE;have hT:=Fr.cell hE.out hG
  try simp only[qQ]
  go_simp
  try rw[if_neg (by omega)]
  try with_reducible rfl
 try simp only[Act.put,qP]
 refine qr (i:=3) (by kernel_rfl) rfl (fun K hK=>?_)
 try simp only[qQ]
 go_simp;refine(Hvals.out _).mono ?_;rintro r w1 ⟨rfl,hM⟩;refine hK.out _ _ (za (by rw[hM];exact hA.out.alloc _)) (fun hA=>?_);clear hK K
 try simp only[Act.put,qP]
 have hS:w1.heap[W.drew.heap.size]? = some (.cells #[.slice (some ⟨gb,0,none⟩) want.length want.length] 37 (0,0)):=by rw[hM];exact zh W.drew _
 have hQ:Fr NoB W w1:=hA.out;have hX:=Hsort.out W.drew.heap.size w1 (jq hS) (by simp only[World.cell?];rw[hS];rfl) ⟨Nat.lt_of_lt_of_le hJ.out.1 hQ.size,fun i x hi=>je (hJ.out.2 i x hi) hQ hJ.out.1 (fun _ h=>h)⟩;have hb:=za hX;clear hX hS hM hQ;refine qr (i:=5) (by kernel_rfl) rfl (fun K hK=>?_)
 try simp only[qQ]
 go_simp;refine hb.out.mono ?_;rintro r w2 ⟨v,rfl,hZ,hI⟩;refine hK.out _ _ (za (hA.out.trans' hI)) (fun hA=>?_);clear hK K
 try simp only[Act.put,qP]
 have Hgs:=za hZ;clear hZ hI;refine qr (i:=7) (by kernel_rfl) rfl (fun K hK=>?_)
 try simp only[qQ]
 go_simp;refine(Heq.out _ w2 Hgs.out hA.out).mono ?_;rintro r w3 ⟨rfl,ha⟩;refine hK.out _ _ (za (hA.out.trans' ha)) (fun hA=>?_);clear hK K
 try simp only[Act.put,qP]
 clear ha;refine qt (v:=?_) rfl (zv ⟨by rfl,?_⟩) hA ?_;rotate_left
 ·intro W hE;have hT:=Fr.cell hE.out hG
  try simp only[qQ]
  go_simp
  try rw[if_neg (by omega)]
  try with_reducible rfl
 try simp only[Act.put,qP]
 refine wpAnyH_done (by kernel_rfl) ?_ _;have HG:=za hA.out;clear hA
 go_wp2_with fail
 go_ret;exact⟨rfl,HF.out.trans' HG.out⟩
end
section
open Go.RowKit Go.Shelf
variable [OldK]
def zhq (s:Bs):Bool:=(zd8 s).isSome
theorem zt5 {S:Nat→Prop} {e:En} {pv:Value} {w:World} (hb:SB S e.payload pv w) (hg:Gl w) (hlen:e.payload.length≤1000000):SubC zhq e pv w:=fun _ W hF =>
 (zof S _ pv W (hb.fr hF (fun _ _ _ _ h=>h)) (hg.fr hF (fun _ _ _ h=>h.elim)) (hg.fr hF (fun _ _ _ h=>h.elim)).old hlen).mono (by
   rintro r w' ⟨h1,h2⟩;refine⟨?_,h2⟩;unfold zrk zhq;cases hs:zd8 e.payload with
   | none =>
     rw[hs]at h1;exact⟨_,_,h1,rfl⟩
   | some l =>
     rw[hs]at h1;obtain⟨v,h1,-⟩:=h1
     exact⟨_,_,h1,rfl⟩)
structure Fine (S S':Nat→Prop) (e:En) (pv sv:Value) (w:World):Prop where
 ok:e.ok
 pay:SB S e.payload pv w
 sgs:GS S' e.sigs sv w
 gl:Gl w
 typ:e.typ.length≤1000000
 idn:e.ident.length≤1000000
 len:e.payload.length≤1000000
 many:e.sigs.length≤1000
 ids:∀ s∈e.sigs,s.id.length≤1000000
theorem Fine.fr {S S':Nat→Prop}{e:En}{pv sv:Value}{w w':World}(h:Fine S S' e pv sv w)(hF:Fr NoB w w'):Fine S S' e pv sv w' :=
 ⟨h.ok,h.pay.fr hF (fun _ _ _ _ h=>h),h.sgs.fr hF (fun _ _ _ h=>h),h.gl.fr hF (fun _ _ _ h=>h.elim),h.typ,h.idn,h.len,h.many,h.ids⟩
theorem Fine.oks {S S':Nat→Prop}{e:En}{pv sv:Value}{w:World}(h:Fine S S' e pv sv w):oks e.sigs:=fun x hx=>⟨h.ok.2.2 x hx,h.ids x hx⟩
theorem zp9 {e:En} (h:e.ok) (hi:e.ident.length≤1000000):oks (zcd e):=by
 intro x hx;unfold zcd at hx;have hs:(zfg e).ok2:=⟨zke e,hi⟩;have hk:(zjc e).ok2:=⟨znd h,Nat.zero_le _⟩;split at hx
 ·obtain rfl:x=zjc e:=by simpa using hx
  exact hk
 split at hx
 ·have:x=zfg e∨x=zjc e:=by simpa using hx
  rcases this with rfl | rfl
  ·exact hs
  exact hk
 obtain rfl:x=zfg e:=by simpa using hx
 exact hs
theorem zsj (e:En):(∃ a,zcd e=[a])∨∃ a b,zcd e=[a,b]:=by
 unfold zcd;split
 ·exact .inl ⟨_,rfl⟩
 split
 ·exact .inr ⟨_,_,rfl⟩
 exact .inl ⟨_,rfl⟩
theorem zk4 (c:Chg)(hc:c.ok)(W:World):(Instr.field 117 (.agg c.cells.toArray) 1).run ze W = .ok (.bool c.has) W:=by
 obtain⟨p,h,k⟩:=c;obtain⟨x0,x1,x2,x3,x4,x5,x6,x7,x8,x9,x10,x11,x12,x13,x14,x15,x16,x17,x18,x19,x20,x21,x22,x23,x24,x25,x26,x27,x28,x29,x30,x31,rfl⟩:=zky k hc
 kernel_rfl
theorem ze5 (S S':Nat→Prop) {tv:Value} {t:Tb} (e:En) (pv sv:Value) (w:World) (h:TL tv t w) (hf:Fine S S' e pv sv w) :
 Calls ze 35 #[tv,.agg (e.cells pv sv).toArray] w fun r w'=>r = .returned (zgf (zb6 zhq t e))∧Fr NoB w w':=by
 obtain⟨a1,c1,ea⟩:=hf.pay.form;obtain⟨a3,c3,es,-⟩:=id hf.sgs;have h2:pv.oneCell'=true:=by rw[ea];rfl
 have hy:sv.oneCell'=true:=by rw[es];rfl
 have hR:(w.alloc (.cells (e.cells pv sv).toArray 39)).rangeAt w.heap.size 0 (e.cells pv sv):=by simpa using jg (zh w (.cells (e.cells pv sv).toArray 39))
 have hF:Fr NoB w (w.alloc (.cells (e.cells pv sv).toArray 39)):=Fr.refl.alloc _;obtain⟨c0,-,-,-,hD,ho,hK,-⟩:=En.parts hf.ok hR;have hQ:=fun V (hV:Fr NoB w V)=>ztd zhq S S' e pv sv V hf.ok (hf.fr hV).pay (hf.fr hV).sgs (zt5 (hf.fr hV).pay (hf.fr hV).gl hf.len) hf.typ hf.idn (by have:=hf.len;omega) hf.many hf.ids
 have hI:=fun V (hV:Fr NoB w V)=>h.lastC e.ident V hV (by have:=hf.idn;unfold maxLen;omega)
 have hM:=fun V (hV:Fr NoB w V)=>h.lifeC e.key V hV hf.ok.2.1
 have hJ:=fun V=>zo4 e pv sv V hf.ok h2 hy
 have hn:=fun gb V (hV:Fr NoB w V) hG=>zx4 S' e pv sv (zcd e) gb (zcd e).length V hf.ok (hf.fr hV).sgs hf.oks hf.many rfl hG (zp9 hf.ok hf.idn) (zsj e)
 have hX:=h.lastok e.ident;have hx:=En.size hf.ok pv sv;obtain⟨d,hu,hd⟩:=qv;have hz:(Tryz.prog.info? 39).map (·.size)=some (e.cells pv sv).length:=by rw[ju,hx]
 have ht:(Tryz.prog.info? 24).map (·.size)=some (zb e.key).length:=by rw[jb,ja,hf.ok.2.1]
 obtain⟨R,hg⟩:∃ R,zb6 zhq t e=R:=⟨_,rfl⟩;rw[hg];unfold zb6 at hg;obtain⟨lc,hp⟩:∃ c,t.last e.ident=c:=⟨_,rfl⟩;obtain⟨L,hL⟩:∃ L,t.life e.key=L:=⟨_,rfl⟩;obtain⟨hc,ha⟩:∃ b,pBy e (zcd e)=b:=⟨_,rfl⟩;obtain⟨h9,hZ⟩:∃ b,zda zhq e=b:=⟨_,rfl⟩;obtain⟨k,hk⟩:∃ k,e.kind=k:=⟨_,rfl⟩;obtain⟨op,hs⟩:∃ k,e.op=k:=⟨_,rfl⟩;rw[hp,hL,ha,hZ,hk,hs]at hg;simp only[hZ]at hQ;simp only[hp]at hI;simp only[hL]at hM;simp only[ha]at hn;rw[hp]at hX;rw[hk]at c0;rw[hs]at hD;obtain⟨x0,hr⟩:∃ b,lc.has=b:=⟨_,rfl⟩;have hm:=fun V=>zk4 lc hX V
 simp only[hr]at hm;rw[hr]at hg;obtain⟨CL,h7⟩:∃ C,lc.cells.toArray=C:=⟨_,rfl⟩;simp only[h7]at hm hI;obtain⟨KC,hw⟩:∃ C,zb e.key=C:=⟨_,rfl⟩;rw[hw]at hK ht;simp only[hw]at hM;obtain⟨C,hC⟩:∃ C,e.cells pv sv=C:=⟨_,rfl⟩;obtain⟨idn,hY⟩:∃ s,e.ident=s:=⟨_,rfl⟩;simp only[hY]at hI;rw[hY]at ho;obtain⟨nm,h4⟩:∃ m,(zcd e).length=m:=⟨_,rfl⟩;simp only[h4,hC]at hJ hn;simp only[hC]at hQ;obtain⟨PM,h5⟩:∃ l,zcd e=l:=⟨_,rfl⟩;simp only[h5]at hJ hn;rw[hC]at hR hF c0 hD ho hK hz ⊢;have Hchk:=za hQ;have Hlast:=za hI;have Hlife:=za hM;have Hmust:=za hJ;have Hby:=za hn;have Hfh:=za hm;have Hu:=za hu;have Hd:=za hd;have Hz:=za hz;have Hkz:=za ht;have hh:=za hg;clear hQ hI hM hJ hn hm hu hd hz ht hg hX hp hL ha hZ hk hs hr h7 hw hC hY h4 h5 hx ea es h2 hy hf h;go_enter Tryz.func35,Tryz.ntmps35
 go_upto_region 1 with(fail)
 change Code.wp _ _ _ _ (w.alloc (.cells C.toArray 39));obtain⟨W,hW⟩:∃ W,w.alloc (.cells C.toArray 39)=W:=⟨_,rfl⟩;rw[hW]at hR hF c0 hD ho hK ⊢;obtain⟨p,h0⟩:∃ p,w.heap.size=p:=⟨_,rfl⟩;rw[h0]at hR c0 hD ho hK ⊢;have hP:p<W.heap.size:=World.block_lt_of_cell? _ _ c0;clear hW h0;have HR:=za hR;have HF:=za hF;have HK:=za hK;clear hR hF hK;cases h9
 ·simp only[zxg,Bool.false_eq_true,if_false]at Hchk;have hb:Hid (R=11):=za (by have:=hh.out;simpa using this.symm);clear hh
  go_wp2_with((with_reducible refine zi rfl 39 _ rfl p 0 rfl C d HR.out Hu.out Hd.out Hz.out ?_))
  refine(Hchk.out _ HF.out).mono ?_;rintro r w2 ⟨rfl,hO⟩;have hj:=za (HF.out.trans' hO);clear hO
  go_wp2_with fail
  go_ret;exact⟨by rw[hb.out];rfl,hj.out⟩
 simp only[zxg,if_true]at Hchk;by_cases hq:k=4
 ·subst hq;have e4:((4:Int) != 4)=false:=rfl;have he:Hid ((if x0≠decide (op≠1)∨(op≠3∧L≠0)∨hc=false then 8 else 0)=R):=za (by have:=hh.out;simpa using this);clear hh
  go_wp2_with((with_reducible refine zi rfl 39 _ rfl p 0 rfl C d HR.out Hu.out Hd.out Hz.out ?_))
  refine(Hchk.out _ HF.out).mono ?_;rintro r w2 ⟨rfl,hO⟩;have k0:=Fr.cell hO c0;have h8:=Fr.cell hO ho;have hj:=za hO;clear hO
  go_wp2_with fail
  refine(Hlast.out _ (HF.out.trans' hj.out)).mono ?_;rintro r w3 ⟨rfl,h6⟩;have hm:=Hfh.out w3;have hi:=za (hj.out.trans' h6);clear h6 k0 h8
  go_upto_region 4 with(fail)
  by_cases h1:op=1
  ·subst h1;have e1:((1:Int) != 1)=false:=rfl;have e3:((1:Int) != 3)=true:=rfl;cases x0 with
   | true =>
     have hH:Hid (R=8):=za (by have:=he.out;simpa using this.symm);refine wp_region_held_drew (S:=fun V=>Hid (Fr NoB W V)) (by kernel_rfl) (za hi.out.drew) (fun hA=>?_);simp only[qV]
     iterate 6
      refine qt (v:=?_) rfl (zv ⟨by rfl,?_⟩) hA ?_;rotate_left
      ·intro W hB;have hE:=Fr.cell hB.out hD
       try simp only[qQ]
       go_simp
       try rw[if_neg (by omega)]
       try with_reducible rfl
      try simp only[Act.put,qP]
     iterate 18
      first
      | refine qt (v:=undef) rfl (Or.inr ⟨by rfl,rfl⟩) hA ?_
        try simp only[Act.put,qP]
      | refine qt (v:=?_) rfl (zv ⟨by rfl,?_⟩) hA ?_
        rotate_left
        ·intro W hB;have hE:=Fr.cell hB.out hD
         try simp only[qQ]
         go_simp
         try rw[if_neg (by omega)]
         try with_reducible rfl
        try simp only[Act.put,qP]
     refine wpAnyH_done (by kernel_rfl) ?_ _;have HG:=za hA.out;clear hA
     go_wp2_with fail
     go_ret;exact⟨by rw[hH.out];rfl,HF.out.trans' HG.out⟩
   | false =>
     refine wp_region_held_drew (S:=fun V=>Hid (Fr NoB W V)) (by kernel_rfl) (za hi.out.drew) (fun hA=>?_);simp only[qV]
     iterate 6
      refine qt (v:=?_) rfl (zv ⟨by rfl,?_⟩) hA ?_;rotate_left
      ·intro W hB;have hE:=Fr.cell hB.out hD
       try simp only[qQ]
       go_simp
       try rw[if_neg (by omega)]
       try with_reducible rfl
      try simp only[Act.put,qP]
     iterate 6
      refine qt (v:=?_) rfl (zv ⟨by rfl,?_⟩) hA ?_;rotate_left
      ·intro W hB;have hE:=Fr.cell hB.out hD
       try simp only[qQ]
       go_simp
       try rw[if_neg (by omega)]
       try with_reducible rfl
      try simp only[Act.put,qP]
     obtain⟨xl,hl⟩:∃ b,(L != 0)=b:=⟨_,rfl⟩;cases xl with
     | true =>
       have hL:¬ L=0:=by simpa using hl
       have hH:Hid (R=8):=za (by have:=he.out;simpa[hL] using this.symm);clear hL;refine qi (i:=12) rfl (zj (by rfl) 24 _ rfl p 37 rfl KC (.array 32 5) (fun V h=>je HK.out h.out hP (fun _ h=>h)) z7 rfl Hkz.out) hA ?_
       try simp only[Act.put,qP]
       refine qr (i:=13) (by kernel_rfl) rfl (fun K hK=>?_)
       try simp only[qQ]
       go_simp;refine(Hlife.out _ (HF.out.trans' hA.out)).mono ?_;rintro r w4 ⟨rfl,hN⟩;refine hK.out _ _ (za (hA.out.trans' hN)) (fun hA=>?_);clear hK K
       try simp only[Act.put,qP]
       clear hN
       iterate 4
        refine qt (v:=?_) rfl (zv ⟨by rfl,?_⟩) hA ?_;rotate_left
        ·intro W hB;have hE:=Fr.cell hB.out hD
         try simp only[qQ]
         go_simp
         try rw[if_neg (by omega)]
         try with_reducible rfl
        try simp only[Act.put,qP]
       iterate 5
        refine qt (v:=undef) rfl (Or.inr ⟨by rfl,rfl⟩) hA ?_
        try simp only[Act.put,qP]
       refine qt (v:=?_) rfl (zv ⟨by rfl,?_⟩) hA ?_;rotate_left
       ·intro W hB;have hE:=Fr.cell hB.out hD
        try simp only[qQ]
        go_simp
        try rw[if_neg (by omega)]
        try with_reducible rfl
       try simp only[Act.put,qP]
       refine wpAnyH_done (by kernel_rfl) ?_ _;have HG:=za hA.out;clear hA
       go_wp2_with fail
       go_ret;exact⟨by rw[hH.out];rfl,HF.out.trans' HG.out⟩
     | false =>
       have hL:L=0:=by simpa using hl
       have hU:Hid ((if hc=false then 8 else 0)=R):=za (by have:=he.out;simpa[hL] using this);clear hL;refine qi (i:=12) rfl (zj (by rfl) 24 _ rfl p 37 rfl KC (.array 32 5) (fun V h=>je HK.out h.out hP (fun _ h=>h)) z7 rfl Hkz.out) hA ?_
       try simp only[Act.put,qP]
       refine qr (i:=13) (by kernel_rfl) rfl (fun K hK=>?_)
       try simp only[qQ]
       go_simp;refine(Hlife.out _ (HF.out.trans' hA.out)).mono ?_;rintro r w4 ⟨rfl,hN⟩;refine hK.out _ _ (za (hA.out.trans' hN)) (fun hA=>?_);clear hK K
       try simp only[Act.put,qP]
       clear hN
       iterate 4
        refine qt (v:=?_) rfl (zv ⟨by rfl,?_⟩) hA ?_;rotate_left
        ·intro W hB;have hE:=Fr.cell hB.out hD
         try simp only[qQ]
         go_simp
         try rw[if_neg (by omega)]
         try with_reducible rfl
        try simp only[Act.put,qP]
       refine qi (i:=18) rfl (zj (by rfl) 39 _ rfl p 0 rfl C d (fun V h=>je HR.out h.out hP (fun _ h=>h)) Hu.out Hd.out Hz.out) hA ?_
       try simp only[Act.put,qP]
       refine qi (i:=19) rfl (zj (by rfl) 39 _ rfl p 0 rfl C d (fun V h=>je HR.out h.out hP (fun _ h=>h)) Hu.out Hd.out Hz.out) hA ?_
       try simp only[Act.put,qP]
       refine qr (i:=20) (by kernel_rfl) rfl (fun K hK=>?_)
       try simp only[qQ]
       go_simp;refine(Hmust.out _).mono ?_;rintro r w5 ⟨⟨gb,rfl,hG⟩,hT⟩;refine hK.out _ _ (za (hA.out.trans' hT)) (fun hA=>?_);clear hK K
       try simp only[Act.put,qP]
       have Hrow:=za hG;clear hT hG;refine qr (i:=21) (by kernel_rfl) rfl (fun K hK=>?_)
       try simp only[qQ]
       go_simp;refine(Hby.out _ _ (HF.out.trans' hA.out) Hrow.out).mono ?_;rintro r w6 ⟨rfl,hS⟩;refine hK.out _ _ (za (hA.out.trans' hS)) (fun hA=>?_);clear hK K
       try simp only[Act.put,qP]
       clear hS;cases hc
       ·have hH:Hid (R=8):=za (by have:=hU.out;simpa using this.symm)
        iterate 2
         refine qt (v:=?_) rfl (zv ⟨by rfl,?_⟩) hA ?_;rotate_left
         ·intro W hB;have hE:=Fr.cell hB.out hD
          try simp only[qQ]
          go_simp
          try rw[if_neg (by omega)]
          try with_reducible rfl
         try simp only[Act.put,qP]
        refine wpAnyH_done (by kernel_rfl) ?_ _;have HG:=za hA.out;clear hA
        go_wp2_with fail
        go_ret;exact⟨by rw[hH.out];rfl,HF.out.trans' HG.out⟩
       have hH:Hid (R=0):=za (by have:=hU.out;simpa using this.symm)
       iterate 2
        refine qt (v:=?_) rfl (zv ⟨by rfl,?_⟩) hA ?_;rotate_left
        ·intro W hB;have hE:=Fr.cell hB.out hD
         try simp only[qQ]
         go_simp
         try rw[if_neg (by omega)]
         try with_reducible rfl
        try simp only[Act.put,qP]
       refine wpAnyH_done (by kernel_rfl) ?_ _;have HG:=za hA.out;clear hA
       go_wp2_with fail
       go_ret;exact⟨by rw[hH.out];rfl,HF.out.trans' HG.out⟩
  have e1:(op != 1)=true:=by simpa using h1
  cases x0 with
  | false =>
    have hH:Hid (R=8):=za (by have:=he.out;simpa[h1] using this.symm);clear h1;refine wp_region_held_drew (S:=fun V=>Hid (Fr NoB W V)) (by kernel_rfl) (za hi.out.drew) (fun hA=>?_);simp only[qV]
    iterate 6
     refine qt (v:=?_) rfl (zv ⟨by rfl,?_⟩) hA ?_;rotate_left
     ·intro W hB;have hE:=Fr.cell hB.out hD
      try simp only[qQ]
      go_simp
      try rw[if_neg (by omega)]
      try with_reducible rfl
     try simp only[Act.put,qP]
    iterate 18
     first
     | refine qt (v:=undef) rfl (Or.inr ⟨by rfl,rfl⟩) hA ?_
       try simp only[Act.put,qP]
     | refine qt (v:=?_) rfl (zv ⟨by rfl,?_⟩) hA ?_
       rotate_left
       ·intro W hB;have hE:=Fr.cell hB.out hD
        try simp only[qQ]
        go_simp
        try rw[if_neg (by omega)]
        try with_reducible rfl
       try simp only[Act.put,qP]
    refine wpAnyH_done (by kernel_rfl) ?_ _;have HG:=za hA.out;clear hA
    go_wp2_with fail
    go_ret;exact⟨by rw[hH.out];rfl,HF.out.trans' HG.out⟩
  | true =>
    by_cases h3:op=3
    ·subst h3;have e3:((3:Int) != 3)=false:=rfl;have hU:Hid ((if hc=false then 8 else 0)=R):=za (by have:=he.out;simpa using this);clear h1;refine wp_region_held_drew (S:=fun V=>Hid (Fr NoB W V)) (by kernel_rfl) (za hi.out.drew) (fun hA=>?_);simp only[qV]
     iterate 6
      refine qt (v:=?_) rfl (zv ⟨by rfl,?_⟩) hA ?_;rotate_left
      ·intro W hB;have hE:=Fr.cell hB.out hD
       try simp only[qQ]
       go_simp
       try rw[if_neg (by omega)]
       try with_reducible rfl
      try simp only[Act.put,qP]
     iterate 12
      first
      | refine qt (v:=undef) rfl (Or.inr ⟨by rfl,rfl⟩) hA ?_
        try simp only[Act.put,qP]
      | refine qt (v:=?_) rfl (zv ⟨by rfl,?_⟩) hA ?_
        rotate_left
        ·intro W hB;have hE:=Fr.cell hB.out hD
         try simp only[qQ]
         go_simp
         try rw[if_neg (by omega)]
         try with_reducible rfl
        try simp only[Act.put,qP]
     refine qi (i:=18) rfl (zj (by rfl) 39 _ rfl p 0 rfl C d (fun V h=>je HR.out h.out hP (fun _ h=>h)) Hu.out Hd.out Hz.out) hA ?_
     try simp only[Act.put,qP]
     refine qi (i:=19) rfl (zj (by rfl) 39 _ rfl p 0 rfl C d (fun V h=>je HR.out h.out hP (fun _ h=>h)) Hu.out Hd.out Hz.out) hA ?_
     try simp only[Act.put,qP]
     refine qr (i:=20) (by kernel_rfl) rfl (fun K hK=>?_)
     try simp only[qQ]
     go_simp;refine(Hmust.out _).mono ?_;rintro r w5 ⟨⟨gb,rfl,hG⟩,hT⟩;refine hK.out _ _ (za (hA.out.trans' hT)) (fun hA=>?_);clear hK K
     try simp only[Act.put,qP]
     have Hrow:=za hG;clear hT hG;refine qr (i:=21) (by kernel_rfl) rfl (fun K hK=>?_)
     try simp only[qQ]
     go_simp;refine(Hby.out _ _ (HF.out.trans' hA.out) Hrow.out).mono ?_;rintro r w6 ⟨rfl,hS⟩;refine hK.out _ _ (za (hA.out.trans' hS)) (fun hA=>?_);clear hK K
     try simp only[Act.put,qP]
     clear hS;cases hc
     ·have hH:Hid (R=8):=za (by have:=hU.out;simpa using this.symm)
      iterate 2
       refine qt (v:=?_) rfl (zv ⟨by rfl,?_⟩) hA ?_;rotate_left
       ·intro W hB;have hE:=Fr.cell hB.out hD
        try simp only[qQ]
        go_simp
        try rw[if_neg (by omega)]
        try with_reducible rfl
       try simp only[Act.put,qP]
      refine wpAnyH_done (by kernel_rfl) ?_ _;have HG:=za hA.out;clear hA
      go_wp2_with fail
      go_ret;exact⟨by rw[hH.out];rfl,HF.out.trans' HG.out⟩
     have hH:Hid (R=0):=za (by have:=hU.out;simpa using this.symm)
     iterate 2
      refine qt (v:=?_) rfl (zv ⟨by rfl,?_⟩) hA ?_;rotate_left
      ·intro W hB;have hE:=Fr.cell hB.out hD
       try simp only[qQ]
       go_simp
       try rw[if_neg (by omega)]
       try with_reducible rfl
      try simp only[Act.put,qP]
     refine wpAnyH_done (by kernel_rfl) ?_ _;have HG:=za hA.out;clear hA
     go_wp2_with fail
     go_ret;exact⟨by rw[hH.out];rfl,HF.out.trans' HG.out⟩
    have e3:(op != 3)=true:=by simpa using h3
    obtain⟨xl,hl⟩:∃ b,(L != 0)=b:=⟨_,rfl⟩;cases xl with
    | true =>
      have hL:¬ L=0:=by simpa using hl
      have hH:Hid (R=8):=za (by have:=he.out;simpa[hL,h3] using this.symm);clear hL h1 h3;refine wp_region_held_drew (S:=fun V=>Hid (Fr NoB W V)) (by kernel_rfl) (za hi.out.drew) (fun hA=>?_);simp only[qV]
      iterate 6
       refine qt (v:=?_) rfl (zv ⟨by rfl,?_⟩) hA ?_;rotate_left
       ·intro W hB;have hE:=Fr.cell hB.out hD
        try simp only[qQ]
        go_simp
        try rw[if_neg (by omega)]
        try with_reducible rfl
       try simp only[Act.put,qP]
      iterate 6
       refine qt (v:=?_) rfl (zv ⟨by rfl,?_⟩) hA ?_;rotate_left
       ·intro W hB;have hE:=Fr.cell hB.out hD
        try simp only[qQ]
        go_simp
        try rw[if_neg (by omega)]
        try with_reducible rfl
       try simp only[Act.put,qP]
      refine qi (i:=12) rfl (zj (by rfl) 24 _ rfl p 37 rfl KC (.array 32 5) (fun V h=>je HK.out h.out hP (fun _ h=>h)) z7 rfl Hkz.out) hA ?_
      try simp only[Act.put,qP]
      refine qr (i:=13) (by kernel_rfl) rfl (fun K hK=>?_)
      try simp only[qQ]
      go_simp;refine(Hlife.out _ (HF.out.trans' hA.out)).mono ?_;rintro r w4 ⟨rfl,hN⟩;refine hK.out _ _ (za (hA.out.trans' hN)) (fun hA=>?_);clear hK K
      try simp only[Act.put,qP]
      clear hN
      iterate 4
       refine qt (v:=?_) rfl (zv ⟨by rfl,?_⟩) hA ?_;rotate_left
       ·intro W hB;have hE:=Fr.cell hB.out hD
        try simp only[qQ]
        go_simp
        try rw[if_neg (by omega)]
        try with_reducible rfl
       try simp only[Act.put,qP]
      iterate 5
       refine qt (v:=undef) rfl (Or.inr ⟨by rfl,rfl⟩) hA ?_
       try simp only[Act.put,qP]
      refine qt (v:=?_) rfl (zv ⟨by rfl,?_⟩) hA ?_;rotate_left
      ·intro W hB;have hE:=Fr.cell hB.out hD
       try simp only[qQ]
       go_simp
       try rw[if_neg (by omega)]
       try with_reducible rfl
      try simp only[Act.put,qP]
      refine wpAnyH_done (by kernel_rfl) ?_ _;have HG:=za hA.out;clear hA
      go_wp2_with fail
      go_ret;exact⟨by rw[hH.out];rfl,HF.out.trans' HG.out⟩
    | false =>
      have hL:L=0:=by simpa using hl
      have hU:Hid ((if hc=false then 8 else 0)=R):=za (by have:=he.out;simpa[hL,h1] using this);clear hL h1 h3;refine wp_region_held_drew (S:=fun V=>Hid (Fr NoB W V)) (by kernel_rfl) (za hi.out.drew) (fun hA=>?_);simp only[qV]
      iterate 6
       refine qt (v:=?_) rfl (zv ⟨by rfl,?_⟩) hA ?_;rotate_left
       ·intro W hB;have hE:=Fr.cell hB.out hD
        try simp only[qQ]
        go_simp
        try rw[if_neg (by omega)]
        try with_reducible rfl
       try simp only[Act.put,qP]
      iterate 6
       refine qt (v:=?_) rfl (zv ⟨by rfl,?_⟩) hA ?_;rotate_left
       ·intro W hB;have hE:=Fr.cell hB.out hD
        try simp only[qQ]
        go_simp
        try rw[if_neg (by omega)]
        try with_reducible rfl
       try simp only[Act.put,qP]
      refine qi (i:=12) rfl (zj (by rfl) 24 _ rfl p 37 rfl KC (.array 32 5) (fun V h=>je HK.out h.out hP (fun _ h=>h)) z7 rfl Hkz.out) hA ?_
      try simp only[Act.put,qP]
      refine qr (i:=13) (by kernel_rfl) rfl (fun K hK=>?_)
      try simp only[qQ]
      go_simp;refine(Hlife.out _ (HF.out.trans' hA.out)).mono ?_;rintro r w4 ⟨rfl,hN⟩;refine hK.out _ _ (za (hA.out.trans' hN)) (fun hA=>?_);clear hK K
      try simp only[Act.put,qP]
      clear hN
      iterate 4
       refine qt (v:=?_) rfl (zv ⟨by rfl,?_⟩) hA ?_;rotate_left
       ·intro W hB;have hE:=Fr.cell hB.out hD
        try simp only[qQ]
        go_simp
        try rw[if_neg (by omega)]
        try with_reducible rfl
       try simp only[Act.put,qP]
      refine qi (i:=18) rfl (zj (by rfl) 39 _ rfl p 0 rfl C d (fun V h=>je HR.out h.out hP (fun _ h=>h)) Hu.out Hd.out Hz.out) hA ?_
      try simp only[Act.put,qP]
      refine qi (i:=19) rfl (zj (by rfl) 39 _ rfl p 0 rfl C d (fun V h=>je HR.out h.out hP (fun _ h=>h)) Hu.out Hd.out Hz.out) hA ?_
      try simp only[Act.put,qP]
      refine qr (i:=20) (by kernel_rfl) rfl (fun K hK=>?_)
      try simp only[qQ]
      go_simp;refine(Hmust.out _).mono ?_;rintro r w5 ⟨⟨gb,rfl,hG⟩,hT⟩;refine hK.out _ _ (za (hA.out.trans' hT)) (fun hA=>?_);clear hK K
      try simp only[Act.put,qP]
      have Hrow:=za hG;clear hT hG;refine qr (i:=21) (by kernel_rfl) rfl (fun K hK=>?_)
      try simp only[qQ]
      go_simp;refine(Hby.out _ _ (HF.out.trans' hA.out) Hrow.out).mono ?_;rintro r w6 ⟨rfl,hS⟩;refine hK.out _ _ (za (hA.out.trans' hS)) (fun hA=>?_);clear hK K
      try simp only[Act.put,qP]
      clear hS;cases hc
      ·have hH:Hid (R=8):=za (by have:=hU.out;simpa using this.symm)
       iterate 2
        refine qt (v:=?_) rfl (zv ⟨by rfl,?_⟩) hA ?_;rotate_left
        ·intro W hB;have hE:=Fr.cell hB.out hD
         try simp only[qQ]
         go_simp
         try rw[if_neg (by omega)]
         try with_reducible rfl
        try simp only[Act.put,qP]
       refine wpAnyH_done (by kernel_rfl) ?_ _;have HG:=za hA.out;clear hA
       go_wp2_with fail
       go_ret;exact⟨by rw[hH.out];rfl,HF.out.trans' HG.out⟩
      have hH:Hid (R=0):=za (by have:=hU.out;simpa using this.symm)
      iterate 2
       refine qt (v:=?_) rfl (zv ⟨by rfl,?_⟩) hA ?_;rotate_left
       ·intro W hB;have hE:=Fr.cell hB.out hD
        try simp only[qQ]
        go_simp
        try rw[if_neg (by omega)]
        try with_reducible rfl
       try simp only[Act.put,qP]
      refine wpAnyH_done (by kernel_rfl) ?_ _;have HG:=za hA.out;clear hA
      go_wp2_with fail
      go_ret;exact⟨by rw[hH.out];rfl,HF.out.trans' HG.out⟩
 have e4:(k != 4)=true:=by simpa using hq
 have hb:Hid (R=11):=za (by have:=hh.out;simpa[hq] using this.symm);clear hh hq
 go_wp2_with((with_reducible refine zi rfl 39 _ rfl p 0 rfl C d HR.out Hu.out Hd.out Hz.out ?_))
 refine(Hchk.out _ HF.out).mono ?_;rintro r w2 ⟨rfl,hO⟩;have k0:=Fr.cell hO c0;have hj:=za (HF.out.trans' hO);clear hO
 go_wp2_with fail
 go_ret;exact⟨by rw[hb.out];rfl,hj.out⟩
theorem zm6 (S S':Nat→Prop){base tb n bc bl:Nat}{t:Tb}{g lv:Bs→Option Value}(e:En)(pv sv:Value)(w:World)(h:TBL base tb n bc bl t g lv w)(hf:Fine S S' e pv sv w) :
 Calls ze 35 #[.pointer (some ⟨tb,0,none⟩),.agg (e.cells pv sv).toArray] w fun r w'=>r = .returned (zgf (zb6 zhq t e))∧Fr NoB w w' :=
 ze5 S S' e pv sv w h.tl hf
end
end Go.Proofs.YtcddlemkimbkcaaGreatDoor
