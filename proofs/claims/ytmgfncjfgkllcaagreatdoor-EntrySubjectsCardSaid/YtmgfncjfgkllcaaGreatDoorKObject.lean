/-
 The walk of entry.object: an object of names and texts (a range over slices.Chunk).
-/
import Derived.Test.YtmgfncjfgkllcaaGreatDoorKChunkS
import Derived.Test.YtmgfncjfgkllcaaGreatDoorKHeldY
import Derived.Test.YtmgfncjfgkllcaaGreatDoorKSorted2
import Derived.Test.YtmgfncjfgkllcaaGreatDoorKGet
import Derived.Test.YtmgfncjfgkllcaaGreatDoorKRefUnhex
import Derived.Test.YtmgfncjfgkllcaaGreatDoorKSpecVal
open Go.Lib renaming hid→za
open Go renaming heap_alloc_new→zh
open Or renaming inl→zv
namespace Go.Proofs.YtmgfncjfgkllcaaGreatDoor
set_option linter.unusedVariables false
set_option linter.unusedSimpArgs false
set_option linter.unusedSectionVars false
set_option maxRecDepth 100000
set_option maxHeartbeats 2000000
open Go.RowKit Go.Shelf
variable [OldK]
attribute [local go_sem] Oper.semAt_some
theorem zvp (s:Bs)(w:World):Calls Tryz.prog 161 #[.string ⟨s.toArray⟩] w fun e w'=>e = .returned (.agg #[.int .i64 3,.int .i64 0,.string ⟨s.toArray⟩,.slice none 0 0,.slice none 0 0])∧Fr NoB w w':=by
 go_enter Tryz.func161,Tryz.ntmps161
 go_wp2_with fail
 refine bodyPost_ret (v := .agg #[.int .i64 3,.int .i64 0,.string ⟨s.toArray⟩,.slice none 0 0,.slice none 0 0]) (by simp[results,Tryz.results161,go_sem]) rfl ?_;exact⟨rfl,Fr.refl.alloc _⟩
theorem RP.txt {S S':Nat→Prop} {w w':World}:∀ (l:List (Bs × Bs)) (xs:List Value),RP S w (l.map txP) xs→RP S' w' (l.map txP) xs
 | [],xs,h=>by unfold RP at h ⊢;exact h
 | q :: l,xs,h=>by
   rw[List.map_cons]at h ⊢;unfold txP pT RP at h ⊢;obtain⟨c0,c1,c2,c3,c4,ys,e,h1,h2⟩:=h;refine⟨c0,c1,c2,c3,c4,ys,e,?_,RP.txt l ys h2⟩;obtain⟨a1,n1,a2,n2,hv,_,_⟩:=h1.open;unfold RJ;exact⟨a1,n1,a2,n2,hv,.inl rfl,.inl rfl⟩
theorem QRow.txt {S:Nat→Prop} {N:Nat} {α:Type} {f:α→Bs × Bs} {l:List α} {lv:Value} {w w':World} (h:QRow S N (l.map fun x=>txP (f x)) lv w)
 (hk:∀ (k:Nat) (cs:Array Value),w.heap[k]? = some (Obj.cells cs 133 (0,0))→w'.heap[k]? = some (Obj.cells cs 133 (0,0))):QRow S N (l.map fun x=>txP (f x)) lv w':=by
 obtain⟨xs,hA,hB⟩:=h;have e:(l.map fun x=>txP (f x))=(l.map f).map txP:=by rw[List.map_map];rfl
 refine⟨xs,zcf hA (fun k hb=>?_),?_⟩
 ·obtain⟨_,o,ho,c,ff,rfl⟩:=zam hA k hb;rcases hA.2 with⟨rfl,_⟩ | ⟨g,cap,cur,rfl,_,hg,_⟩
  ·cases hb
  cases hb;show w'.heap[g]? = w.heap[g]?;rw[hg,hk _ _ hg]
 rw[e]at hB ⊢;exact RP.txt _ _ hB
theorem QRow.low {N N':Nat}{l:List (Bs × Bs)}{lv:Value}{w:World}(h:QRow (fun _=>False) N (l.map txP) lv w)(hN:N'≤N):QRow (fun _=>False) N' (l.map txP) lv w:=by
 obtain⟨xs,⟨h1,h2⟩,hA⟩:=h;refine⟨xs,⟨h1,?_⟩,RP.txt _ _ hA⟩;rcases h2 with h | ⟨g,cap,cur,hv,hb,hr⟩
 ·exact .inl h
 exact .inr ⟨g,cap,cur,hv,Nat.le_trans hN hb,hr⟩
theorem QRow.setV {N b:Nat} {l:List (Bs × Bs)} {lv q0 q1 q2 q3 q4:Value} {w:World} (h:QRow (fun _=>False) N (l.map txP) lv w) (hb:w.heap[b]? = some (.cells #[q0,q1,q2,q3,q4] 56 (0,0))) (v0 v1 v2 v3 v4:Value) :
 QRow (fun _=>False) N (l.map txP) lv (setV b v0 v1 v2 v3 v4 w) :=
 QRow.txt (f:=id) h (fun k cs hk=>(q9 b v0 v1 v2 v3 v4 w).block k _ hk (fun e=>by
  subst e;rw[hb]at hk
  injection hk with hk
  injection hk with _ hk _
  revert hk
  decide))
theorem QRow.frT {N:Nat}{l:List (Bs × Bs)}{lv:Value}{w w':World}(h:QRow (fun _=>False) N (l.map txP) lv w)(hF:Fr NoB w w'):QRow (fun _=>False) N (l.map txP) lv w' :=
 QRow.txt (f:=id) h (fun k cs hk=>hF.block k _ hk (fun h=>h))
theorem Fr.mono2 {M M':Nat→Obj→Prop}{w w':World}(h:Fr M w w')(hM:∀ k o,w.heap[k]? = some o→M k o→M' k o):Fr M' w w' :=
 ⟨h.os,h.tape,h.output,h.size,fun k o hk hn=>h.block k o hk (fun hm=>hn (hM k o hk hm))⟩
theorem zg6 {w:World}{b:Nat}{cs:Array Value}{T:TypeId}{f:Nat × Nat}(h:w.heap[b]? = some (Obj.cells cs T f)):∀ (j:Nat) (u:Value),cs.toList[j]? = some u→w.cell? ((⟨b,0,none⟩:Addr).add j)=some u:=by
 intro j u hu;have e0:∀ oo,(⟨b,oo,none⟩:Addr).add j=⟨b,oo+j,none⟩:=fun oo=>by simp[Addr.add]
 rw[e0,Nat.zero_add];rw[Array.getElem?_toList]at hu;simp[World.cell?,h,hu]
theorem zll {w3 w9:World} {B N g pl cap:Nat} {lv X a0 a1 a2 a3:Value} {xs:List Value} {z0 z1 z2 z3 z4 z5 v0 v1 v2 v3 v4 v5:Value} (hN:B<N) (hgN:N≤g)
 (hown:w3.ownsRow N 133 6 (.slice (some ⟨g,0,none⟩) (pl+1) cap) (pl+1) (xs++[z0,z1,z2,z3,z4,z5])) (hxl:xs.length=pl * 6)
 (hb:w3.heap[B]? = some (.cells #[a0,a1,a2,a3,lv] 56 (0,0)))
 (h9:w9=(put6 g (pl * 6) v0 v1 v2 v3 v4 v5 w3).setCell ⟨B,4,none⟩ X∨w9=put6 g (pl * 6) v0 v1 v2 v3 v4 v5 (w3.setCell ⟨B,4,none⟩ X)) :
 w9.ownsRow N 133 6 (.slice (some ⟨g,0,none⟩) (pl+1) cap) (pl+1) (xs++[v0,v1,v2,v3,v4,v5]) ∧
  w9.heap[B]? = some (.cells #[a0,a1,a2,a3,X] 56 (0,0))∧Fr (fun k _=>k=B∨k=g) w3 w9:=by
 have hA:B≠g:=by omega
 rcases h9 with rfl | rfl
 ·refine ⟨zcf (zil hown hxl v0 v1 v2 v3 v4 v5) (fun k hk=>?_),?_,?_⟩
  ·have:k=g:=by simpa[Value.ownBlock] using hk.symm
   exact Below.heap_setCell _ _ _ _ (by show k≠B;omega)
  ·exact z7 (o:=4) X ((zc8 hA).trans hb)
  exact(Fr.refl.put6 g _ _ _ _ _ _ _ (fun _ _ => .inr rfl)).setCell _ _ (fun _ _ => .inl rfl)
 refine⟨zil (zcf hown (fun k hk=>?_)) hxl v0 v1 v2 v3 v4 v5,?_,?_⟩
 ·have:k=g:=by simpa[Value.ownBlock] using hk.symm
  exact Below.heap_setCell _ _ _ _ (by show k≠B;omega)
 ·exact(zc8 hA).trans (z7 (o:=4) X hb)
 exact(Fr.refl.setCell _ _ (fun _ _ => .inl rfl)).put6 g _ _ _ _ _ _ _ (fun _ _ => .inr rfl)
theorem QRow.more {N pl g cap:Nat}{w w':World}{α:Type}{f:α→Bs × Bs}{pre:List α}{x:α}{q1 q2:Bs}{lv:Value}{xs:List Value}(hq:f x=(q1,q2))(hpl:(pre.map fun x=>txP (f x)).length=pl)
 (hrp:RP (fun k=>(False∨N≤k)∧lv.ownBlock≠some k) w (pre.map fun x=>txP (f x)) xs)
 (hown:w'.ownsRow N 133 6 (.slice (some ⟨g,0,none⟩) (pl+1) cap) (pl+1) (xs++[.string ⟨q1.toArray⟩,.int .i64 3,.int .i64 0,.string ⟨q2.toArray⟩,.slice none 0 0,.slice none 0 0])) :
 QRow (fun _=>False) N ((pre++[x]).map fun x=>txP (f x)) (.slice (some ⟨g,0,none⟩) (pl+1) cap) w':=by
 have e:(pre.map fun x=>txP (f x))=(pre.map f).map txP:=by rw[List.map_map];rfl
 refine⟨xs++[.string ⟨q1.toArray⟩,.int .i64 3,.int .i64 0,.string ⟨q2.toArray⟩,.slice none 0 0,.slice none 0 0],?_,?_⟩
 ·rw[List.map_append,List.length_append,hpl];exact hown
 rw[List.map_append];refine RP.append _ xs _ _ (by rw[e]at hrp ⊢;exact RP.txt _ _ hrp) ?_;rw[List.map_cons,List.map_nil,hq];exact RP.one (RJ.flat _ _ 3 0 q2)
theorem z1i (l:List (Bs × Bs))(m:Nat)(hm:l.length=m):(List.finRange m).map (fun x:Fin m=>txP (l.getD x.val ([],[])))=l.map txP:=by
 subst hm;refine List.ext_getElem (by simp) (fun i h1 h2=>?_);simp only[List.length_map]at h2;simp only[List.getElem_map,List.getElem_finRange,List.getD_eq_getElem?_getD];show txP (l[i]?.getD ([],[]))=_;rw[List.getElem?_eq_getElem h2];rfl
theorem zuj (l:List (Bs × Bs)) (m gb o cap:Nat) (w:World) (hm:l.length=m) (hmn:m≤100) (hcap:m * 2≤cap) (hcm:cap≤maxLen) (hom:o≤1000000) (hgb:gb<w.heap.size)
 (hc:∀ i q,l[i]? = some q→w.cell? ⟨gb,o+i * 2,none⟩=some (.string ⟨q.1.toArray⟩)∧w.cell? ⟨gb,o+i * 2+1,none⟩=some (.string ⟨q.2.toArray⟩)) :
 CallsIn Fence.wide 5 Tryz.prog 123 #[.slice (some ⟨gb,o,none⟩) (m * 2) cap] w fun e w'=>∃ lv,e = .returned (.agg #[.int .i64 5,.int .i64 0,.string ⟨#[]⟩,.slice none 0 0,lv])∧QRow (fun _=>False) w.heap.size (l.map txP) lv w'∧Fr NoB w w':=by
 have Hc:=za hc;obtain⟨L,hL⟩:∃ x,m * 2=x:=⟨_,rfl⟩;have AG:=hcap;rw[hL]at AG ⊢;have HL:=za hL;have Hm:=za hm;clear hc hL hm;refine callsIn_of_wp_marks Tryz.func123 rfl trivial ?_ rfl;simp only[Tryz.ntmps123,List.size_toArray,List.length_cons,List.length_nil,Nat.reduceAdd,Nat.reduceSub,Array.replicate_succ,Array.replicate_zero,List.push_toArray,List.append_toArray,List.nil_append,List.cons_append];refine wpIn_wide.2 ?_
 go_upto_region 2 with(fail)
 change Code.wp _ _ _ _ ((w.alloc (.cells #[.int .i64 0,.int .i64 0,.string ⟨#[]⟩,.slice none 0 0,.slice none 0 0] 56)).alloc (.cells #[.int .i64 5,.int .i64 0,.string ⟨#[]⟩,.slice none 0 0,.slice none 0 0] 56));have hR:=Below.heap_alloc (w.alloc (.cells #[.int .i64 0,.int .i64 0,.string ⟨#[]⟩,.slice none 0 0,.slice none 0 0] 56)) (.cells #[.int .i64 5,.int .i64 0,.string ⟨#[]⟩,.slice none 0 0,.slice none 0 0] 56) w.heap.size (by simp);rw[zh]at hR;have hS:=zh (w.alloc (.cells #[.int .i64 0,.int .i64 0,.string ⟨#[]⟩,.slice none 0 0,.slice none 0 0] 56)) (.cells #[.int .i64 5,.int .i64 0,.string ⟨#[]⟩,.slice none 0 0,.slice none 0 0] 56);rw[World.size_alloc]at hS;have AY:Fr NoB w ((w.alloc (.cells #[.int .i64 0,.int .i64 0,.string ⟨#[]⟩,.slice none 0 0,.slice none 0 0] 56)).alloc (.cells #[.int .i64 5,.int .i64 0,.string ⟨#[]⟩,.slice none 0 0,.slice none 0 0] 56)):=(Fr.refl.alloc _).alloc _;have h9:((w.alloc (.cells #[.int .i64 0,.int .i64 0,.string ⟨#[]⟩,.slice none 0 0,.slice none 0 0] 56)).alloc (.cells #[.int .i64 5,.int .i64 0,.string ⟨#[]⟩,.slice none 0 0,.slice none 0 0] 56)).heap.size=w.heap.size+1+1:=by simp[World.size_alloc]
 obtain⟨Wb,Am⟩:∃ V,((w.alloc (.cells #[.int .i64 0,.int .i64 0,.string ⟨#[]⟩,.slice none 0 0,.slice none 0 0] 56)).alloc (.cells #[.int .i64 5,.int .i64 0,.string ⟨#[]⟩,.slice none 0 0,.slice none 0 0] 56))=V:=⟨_,rfl⟩;rw[Am]at hR hS AY h9 ⊢;obtain⟨B,hB⟩:∃ x,w.heap.size+1=x:=⟨_,rfl⟩;obtain⟨r,hr⟩:∃ x,w.heap.size=x:=⟨_,rfl⟩;rw[hB]at hS h9 ⊢;rw[hr]at hR hgb ⊢;have HB:Hid (r+1=B):=za (by omega);have Hr:=za hr;have Hck:=za (zx3 (some ⟨gb,o,none⟩) L cap 2 (by omega) Wb);rw[h9]at Hck;have HR:=za hR;have HS:=za hS;have Ap:=za AY;clear hR hS AY Am hB hr
 go_wp2_with fail
 refine Hck.out.mono ?_;rintro e Wc ⟨rfl,AI⟩;have hsc:Wc.heap.size=B+3:=by rw[AI];simp[h9]
 have AX:Fr NoB Wb Wc:=by rw[AI];exact(Fr.refl.alloc _).alloc _
 have AT:Wc.cell? ⟨B+1,0,none⟩=some (.slice (some ⟨gb,o,none⟩) L cap):=by
  have h1:=((Fr.refl (M:=NoB)).alloc (.cells #[.int .i64 2] 3)).block _ _ (zh Wb (.cells #[.slice (some ⟨gb,o,none⟩) L cap] 81)) (fun h=>h);rw[← AI,h9]at h1;simp[World.cell?,h1]
 have Aj:Wc.cell? ⟨B+1+1,0,none⟩=some (.int .i64 2):=by
  have h1:=zh (Wb.alloc (.cells #[.slice (some ⟨gb,o,none⟩) L cap] 81)) (.cells #[.int .i64 2] 3);rw[← AI,World.size_alloc,h9]at h1;simp[World.cell?,h1]
 rw[← HL.out]at AT;have A1:=za AT;have A0:=za Aj;have AJ:Below B Wb Wc:=AX.below (by omega) (fun _ _ _ h=>h.elim);have An:=AX.block _ _ HS.out (fun h=>h);have AZ:=za AJ;have A2:=za An;clear AT Aj AX AI Hck AJ An HS
 go_wp2_with fail
 refine(wpIn_wide (n:=5)).1 ?_
 refine wpIn_rangeFunc_ownH (w:=Wc) rfl (by omega) (gf:=245) (lb:=#[.pointer (some ⟨B+1,0,none⟩),.pointer (some ⟨B+1+1,0,none⟩)]) rfl trivial (enters_of Tryz.func245 (by kernel_rfl) rfl)
  (zni Fence.wide 4 trivial rfl (by omega) (B+1) (B+1+1) gb o cap 2 m (by omega) (by omega) (by omega) hcap hcm (by unfold maxLen;omega) Wc (by omega) (by omega) A1.out A0.out)
  Ck2.trans (fun W l o o' hl ho hc hw=>Ck2.put (n₀:=B+3) (by omega) (by omega) W l o o' (by omega) ho hc hw) (Below.refl _ _) (fun _=>rfl)
  (fun h8 V=>(∃ lv,V.heap[B]? = some (.cells #[.int .i64 5,.int .i64 0,.string ⟨#[]⟩,.slice none 0 0,lv] 56 (0,0))∧QRow (fun _=>False) (B+3) (h8.map fun x:Fin m=>txP (l.getD x.val ([],[]))) lv V)∧Below B Wb V∧Wc.heap.size≤V.heap.size)
  (fun c h8 V=>False)
  ?hI (fun _ s A B AB hs hg hr=>hs.elim)
  ?h0
  (fun x a' V=>a'={ tmps:=#[.slice (some ⟨gb,o,none⟩) L cap,undef,.pointer (some ⟨r,0,none⟩),.pointer (some ⟨B,0,none⟩),.slice (some ⟨gb,o+x.val * 2,none⟩) 2 2,.agg #[.int .i64 5,.int .i64 0,.string ⟨#[]⟩,.slice none 0 0,.slice none 0 0],.slice (some ⟨gb,o,none⟩) L cap,.func (.func 245) #[] #[.pointer (some ⟨B+1,0,none⟩),.pointer (some ⟨B+1+1,0,none⟩)],.slice (some ⟨gb,o+x.val * 2,none⟩) 2 2,undef,undef,undef,undef,undef,undef,undef,undef,undef,undef,undef,undef,undef,undef,undef,undef],defers:=[] })
  (fun x a' s A B AB hs hg hr=>hs) ?assign ?body ?done ?stop
 case hI =>
  rintro s A B' AB ⟨⟨lv,h1,h2⟩,h5,h6⟩ hg AR;have Az:=zcg (β:=Unit) _ _ _ _ () A B' AB h1 hg (fun r e=>(AR r e).2);refine⟨⟨lv,Az,QRow.txt h2 (fun k cs hk=>?_)⟩,ownFrom_below (β:=Unit) (n₀:=B) (B:=Wc.heap.size) (w₀:=Wb) (by omega) (by omega) () A B' AB h5 hg AR,Nat.le_trans h6 hg.size⟩;exact zcg (β:=Unit) _ _ _ _ () A B' AB hk hg (fun r e=>(AR r e).2)
 case h0 =>
  exact⟨⟨_,A2.out,QRow.nil _ _ _⟩,AZ.out,Nat.le_refl _⟩
 case assign =>
  rintro l' h8 x V K hI hK;have HI:=za hI;have HK:=za hK;clear hI hK;unfold zqy
  gi_wp2
  exact HK.out _ _ (KeepsFrom.refl _ _) Ck2.refl HI.out rfl
 case body =>
  rintro l' h8 x a' V hl ⟨r',Ar⟩ ⟨⟨lv,hQ,hO⟩,h7,AD⟩ rfl hlt;obtain⟨q,hq⟩:∃ q,l[x.val]? = some q:=⟨_,List.getElem?_eq_getElem (by rw[Hm.out];exact x.isLt)⟩;have Ah:l.getD x.val ([],[])=q:=by rw[List.getD_eq_getElem?_getD,hq];rfl
  obtain⟨q1,q2⟩:=q
  have hY:∀ oo u,w.cell? ⟨gb,oo,none⟩=some u→V.drew.cell? ⟨gb,oo,none⟩=some u:=fun oo u hu=>by
   have h1:=Fr.cell Ap.out hu (fun _ h=>h);have h2:=(h7.cell (p:=⟨gb,oo,none⟩) (by show gb<B;have:=HB.out;omega)).trans h1;exact h2
  obtain⟨AO,AN⟩:=Hc.out _ _ hq;have AO:=hY _ _ AO;have AN:=hY _ _ AN;obtain⟨p,hp⟩:∃ z,o+x.val * 2=z:=⟨_,rfl⟩;rw[hp]at AO AN ⊢;have Ax:V.drew.cell? ⟨B,4,none⟩=some lv:=by show V.cell? _=_;simp[World.cell?,hQ]
  obtain⟨xs,hP,Af⟩:=hO;obtain⟨pl,AM⟩:∃ z,(List.map (fun x:Fin m=>txP (l.getD x.val ([],[]))) h8).length=z:=⟨_,rfl⟩;have hplm:pl≤100:=by rw[← AM,List.length_map];omega
  rw[AM]at hP;obtain⟨ao,co,rfl⟩:=qj hP;obtain⟨i1,Ak,Ac,Ab,Aa⟩:=info_parts zdb;have Hx:=za (fun W=>zvp q2 W);have Hown:=za hP;have Hrp:=za Af;have Hqd:=za Ah;have Hpl:=za AM;have AA:=za h7;have Hsz:=za AD;have Hblk:=za hQ;clear hP Af Ah AM h7 AD hY hq hp Ar hl hQ
  gi_wp2_with fail
  refine ze0 (S:=fun W=>Hid (W.cell? ⟨B,4,none⟩=some (.slice ao pl co)∧W.cell? ⟨gb,p,none⟩=some (.string ⟨q1.toArray⟩)∧W.cell? ⟨gb,p+1,none⟩=some (.string ⟨q2.toArray⟩))) 12 (by kernel_rfl) (by kernel_rfl) (za ⟨Ax,AO,AN⟩) (fun hA=>?_);simp only[qV]
  iterate 8
   refine qtY (v:=?_) rfl (zv ⟨by rfl,?_⟩) hA ?_;rotate_left
   ·intro W ha;obtain⟨z0,z1,z2⟩:=ha.out
    try simp only[qQ]
    go_simp
    try rw[if_neg (by omega)]
    try with_reducible rfl
   try simp only[Act.put,qP]
  refine qiY (i:=10) (v:=?_) rfl (zv ⟨by rfl,?_⟩) hA ?_;rotate_left
  ·intro W ha;obtain⟨z0,z1,z2⟩:=ha.out
   try simp only[qQ]
   go_simp
   try rw[if_neg (by omega)]
   try with_reducible rfl
  try simp only[Act.put,qP]
  have HK:=za (show ∀ W W',Fr NoB W W'→Hid (W.cell? ⟨B,4,none⟩=some (.slice ao pl co)∧W.cell? ⟨gb,p,none⟩=some (.string ⟨q1.toArray⟩)∧W.cell? ⟨gb,p+1,none⟩=some (.string ⟨q2.toArray⟩))→Hid (W'.cell? ⟨B,4,none⟩=some (.slice ao pl co)∧W'.cell? ⟨gb,p,none⟩=some (.string ⟨q1.toArray⟩)∧W'.cell? ⟨gb,p+1,none⟩=some (.string ⟨q2.toArray⟩)) from fun W W' hF h=>za ⟨Fr.cell hF h.out.1 (fun _ h=>h),Fr.cell hF h.out.2.1 (fun _ h=>h),Fr.cell hF h.out.2.2 (fun _ h=>h)⟩);refine q2Y (i:=8) (j:=11) (by kernel_rfl) rfl rfl (fun K hK=>?_) (fun K hK=>?_)
  ·try simp only[qQ]
   go_simp;refine(Hx.out _).mono ?_;rintro e w1 ⟨rfl,he⟩;refine hK.out _ _ (HK.out _ _ he hA) (fun hA=>?_);clear hK K
   try simp only[Act.put,qP]
   refine qiY (i:=9) (v:=?_) rfl (zv ⟨by rfl,?_⟩) hA ?_;rotate_left
   ·intro W ha;obtain⟨z0,z1,z2⟩:=ha.out
    try simp only[qQ]
    go_simp
    try rw[if_neg (by omega)]
    try with_reducible rfl
   try simp only[Act.put,qP]
   refine qrY (i:=11) (by kernel_rfl) rfl (fun K hK=>?_)
   try simp only[qQ]
   go_simp;refine hK.out _ _ (HK.out _ _ (Fr.refl.alloc _) hA) (fun hA=>?_);clear hK K
   try simp only[Act.put,qP]
   have AC:(w1.alloc (.cells #[.string ⟨#[]⟩,.int .i64 0,.int .i64 0,.string ⟨#[]⟩,.slice none 0 0,.slice none 0 0] 133)).heap[w1.heap.size]? = _:=zh w1 _;have hM:Fr NoB V.drew (w1.alloc (.cells #[.string ⟨#[]⟩,.int .i64 0,.int .i64 0,.string ⟨#[]⟩,.slice none 0 0,.slice none 0 0] 133)):=he.alloc _;have AQ:V.heap.size≤w1.heap.size:=he.size;obtain⟨sb,AE⟩:∃ z,w1.heap.size=z:=⟨_,rfl⟩;obtain⟨wA,Ae⟩:∃ W,w1.alloc (.cells #[.string ⟨#[]⟩,.int .i64 0,.int .i64 0,.string ⟨#[]⟩,.slice none 0 0,.slice none 0 0] 133)=W:=⟨_,rfl⟩;rw[AE]at AC AQ ⊢;rw[Ae]at AC hM hA ⊢;clear Ae AE he;refine qzY (by kernel_rfl) rfl (fun K hK=>?_)
   try simp only[qQ]
   rw[if_pos (by rfl)];refine zbu (.tmp 10) (.tmp 20) 54 (by rfl) (B+3) 133 i1 (.agg #[.string ⟨#[]⟩,.int .i64 0,.int .i64 0,.string ⟨#[]⟩,.slice none 0 0,.slice none 0 0]) 6 96 Tryz.underlying54 Ak Ac Ab Aa rfl (by decide) (.slice ao pl co) pl xs (by rfl) (za9 (w:=V.drew) Hown.out hM (fun _ _ _ _ _ h=>h)) ⟨sb,0,none⟩ 1 1 [.string ⟨#[]⟩,.int .i64 0,.int .i64 0,.string ⟨#[]⟩,.slice none 0 0,.slice none 0 0] (by rfl) rfl (zg6 AC) (by simp[Value.oneCell']) (by unfold maxLen;omega) (by omega) (by have:=Hsz.out;have:=hM.size;simp only[World.size_drew]at this;omega) ?_;intro v' w3 hH hN;refine hK.out _ _ ?_;clear hK K
   try simp only[Act.put,qP]
   clear hA;have hf:xs.length=pl * 6:=Hown.out.1;have hG:=hH;obtain⟨-,h3⟩:=hH;rcases h3 with⟨_,h0⟩ | ⟨g,cap',cur,rfl,hgB,hg3,hn3,hcm3,hcs3,htk3⟩
   ·omega
   have kz:∀ (j:Nat) (z:Value),([.string ⟨#[]⟩,.int .i64 0,.int .i64 0,.string ⟨#[]⟩,.slice none 0 0,.slice none 0 0]:List Value)[j]? = some z→w3.cell? ⟨g,pl * 6+j,none⟩=some z:=by
    intro j z hz
    have h1:(xs++[.string ⟨#[]⟩,.int .i64 0,.int .i64 0,.string ⟨#[]⟩,.slice none 0 0,.slice none 0 0])[pl * 6+j]? = some z:=by
     rw[List.getElem?_append_right (by omega),hf,Nat.add_sub_cancel_left];exact hz
    rw[← htk3,List.getElem?_take]at h1;split at h1
    ·rw[Array.getElem?_toList]at h1;simp[World.cell?,hg3,h1]
    cases h1
   have k0:=kz 0 _ rfl;have k1:=kz 1 _ rfl;have k2:=kz 2 _ rfl;have k3:=kz 3 _ rfl;have k4:=kz 4 _ rfl;have k5:=kz 5 _ rfl;rw[Nat.add_zero]at k0;have AW:∀ k,w3.frozen? ⟨g,k,none⟩=false:=fun k=>by simp[World.frozen?,hg3]
   have hX:∀ k,(Value.slice ao pl co).ownBlock=some k→B+3≤k:=fun k hk=>(zam Hown.out k hk).1
   have AH:wA.heap[B]? = some (.cells #[.int .i64 5,.int .i64 0,.string ⟨#[]⟩,.slice none 0 0,.slice ao pl co] 56 (0,0)):=hM.block _ _ Hblk.out (fun h=>h);have hd:=zaq hN AH (fun e=>by have:=hX _ e;omega);have b1:w3.cell? ⟨B,4,none⟩=some (.slice ao pl co):=by simp[World.cell?,hd]
   have b2:w3.frozen? ⟨B,4,none⟩=false:=by simp[World.frozen?,hd]
   have AV:¬ g=B:=by omega
   have AU:¬ B=g:=by omega
   have At:(pl:Int)<(pl:Int)+1:=by omega
   have hJ:=za hG;have hZ:=za hN;have AK:=za hd;have Hxl:=za hf;clear hG hN hd hf htk3 kz AH hX hn3;refine ziv (by kernel_rfl) ?_;have hA:True:=trivial;refine qi (i:=13) (v:=?_) rfl (zv ⟨by rfl,?_⟩) hA ?_;rotate_left
   ·intro W ha
    try simp only[qQ]
    go_simp
    try rw[if_neg (by omega)]
    try with_reducible rfl
   try simp only[Act.put,qP]
   refine qi (i:=15) (v:=?_) rfl (zv ⟨by rfl,?_⟩) hA ?_;rotate_left
   ·intro W ha
    try simp only[qQ]
    go_simp
    try rw[if_neg (by omega)]
    try with_reducible rfl
   try simp only[Act.put,qP]
   refine q2H (i:=14) (j:=16) (by kernel_rfl) rfl rfl (fun K hK=>?_) (fun K hK=>?_)
   ·try simp only[qQ]
    go_simp;refine hK.out _ _ trivial (fun hA=>?_);clear hK K
    try simp only[Act.put,qP]
    refine qr (i:=16) (by kernel_rfl) rfl (fun K hK=>?_)
    try simp only[qQ]
    go_simp;refine hK.out _ _ trivial (fun hA=>?_);clear hK K
    try simp only[Act.put,qP]
    refine wpAnyH_done (by kernel_rfl) ?_ _
    try simp only[zbb]
    change Exit.inBlock _ _ _ _ ((put6 g (pl * 6) (.string ⟨q1.toArray⟩) (.int .i64 3) (.int .i64 0) (.string ⟨q2.toArray⟩) (.slice none 0 0) (.slice none 0 0) w3).setCell ⟨B,4,none⟩ (.slice (some ⟨g,0,none⟩) (pl+1) cap'));obtain⟨w9,hT⟩:∃ z,((put6 g (pl * 6) (.string ⟨q1.toArray⟩) (.int .i64 3) (.int .i64 0) (.string ⟨q2.toArray⟩) (.slice none 0 0) (.slice none 0 0) w3).setCell ⟨B,4,none⟩ (.slice (some ⟨g,0,none⟩) (pl+1) cap'))=z:=⟨_,rfl⟩;rw[hT];obtain⟨hj,hb,hn⟩:=zll (w9:=w9) (N:=B+3) (X := .slice (some ⟨g,0,none⟩) (pl+1) cap') (v0 := .string ⟨q1.toArray⟩) (v1 := .int .i64 3) (v2 := .int .i64 0) (v3 := .string ⟨q2.toArray⟩) (v4 := .slice none 0 0) (v5 := .slice none 0 0) (by omega) hgB hJ.out Hxl.out AK.out (.inl hT.symm);have h4:Fr NoB V wA:=((Fr.refl (M:=NoB) (w:=V)).drew).trans' hM;have hE:wA.ownsRow (B+3) 133 6 (.slice ao pl co) pl xs:=za9 (w:=V.drew) Hown.out hM (fun _ _ _ _ _ h=>h)
    have hv:Fr (fun k o=>k=B∨(B+3≤k∧zbq 133 o)) wA w3:=(Fr.ofGrown hZ.out).mono2 (fun k o hk hm=>by
     obtain⟨h1,o',hW,ht⟩:=zam hE k hm.symm;rw[hk]at hW;cases hW
     exact .inr ⟨h1,ht⟩)
    have hx:Fr (fun k o=>k=B∨(B+3≤k∧zbq 133 o)) w3 w9:=hn.mono2 (fun k o hk hm=>by
     rcases hm with h | h
     ·exact .inl h
     subst h;rw[hg3]at hk;cases hk
     exact .inr ⟨hgB,_,_,rfl⟩)
    have hC:=((h4.mono (fun _ _ h=>h.elim)).trans' hv).trans' hx;have hi:=Hsz.out;obtain⟨o1,hV⟩:∃ o,V.heap[B+1]? = some o:=⟨_,Array.getElem?_eq_getElem (by omega)⟩;obtain⟨o2,hU⟩:∃ o,V.heap[B+1+1]? = some o:=⟨_,Array.getElem?_eq_getElem (by omega)⟩;refine⟨⟨hC.size,fun k o hk ho hc=>hC.block k o ho ?_⟩,⟨hC.size,?_,?_⟩,⟨_,hb,QRow.more Hqd.out Hpl.out Hrp.out hj⟩,AA.out.trans (hC.below (by omega) (fun k o hk h=>by rcases h with h | h<;>omega)),Nat.le_trans hi hC.size⟩
    ·rintro(h | ⟨_,_,_,rfl⟩)
     ·omega
     simp[Obj.isCells]at hc
    ·exact(hC.block _ _ hV (fun h=>by rcases h with h | h<;>omega)).trans hV.symm
    exact(hC.block _ _ hU (fun h=>by rcases h with h | h<;>omega)).trans hU.symm
   try simp only[qQ]
   go_simp;refine hK.out _ _ trivial (fun hA=>?_);clear hK K
   try simp only[Act.put,qP]
   refine qr (i:=14) (by kernel_rfl) rfl (fun K hK=>?_)
   try simp only[qQ]
   go_simp;refine hK.out _ _ trivial (fun hA=>?_);clear hK K
   try simp only[Act.put,qP]
   refine wpAnyH_done (by kernel_rfl) ?_ _
   try simp only[zbb]
   change Exit.inBlock _ _ _ _ (put6 g (pl * 6) (.string ⟨q1.toArray⟩) (.int .i64 3) (.int .i64 0) (.string ⟨q2.toArray⟩) (.slice none 0 0) (.slice none 0 0) (w3.setCell ⟨B,4,none⟩ (.slice (some ⟨g,0,none⟩) (pl+1) cap')));obtain⟨w9,hT⟩:∃ z,(put6 g (pl * 6) (.string ⟨q1.toArray⟩) (.int .i64 3) (.int .i64 0) (.string ⟨q2.toArray⟩) (.slice none 0 0) (.slice none 0 0) (w3.setCell ⟨B,4,none⟩ (.slice (some ⟨g,0,none⟩) (pl+1) cap')))=z:=⟨_,rfl⟩;rw[hT];obtain⟨hj,hb,hn⟩:=zll (w9:=w9) (N:=B+3) (X := .slice (some ⟨g,0,none⟩) (pl+1) cap') (v0 := .string ⟨q1.toArray⟩) (v1 := .int .i64 3) (v2 := .int .i64 0) (v3 := .string ⟨q2.toArray⟩) (v4 := .slice none 0 0) (v5 := .slice none 0 0) (by omega) hgB hJ.out Hxl.out AK.out (.inr hT.symm);have h4:Fr NoB V wA:=((Fr.refl (M:=NoB) (w:=V)).drew).trans' hM;have hE:wA.ownsRow (B+3) 133 6 (.slice ao pl co) pl xs:=za9 (w:=V.drew) Hown.out hM (fun _ _ _ _ _ h=>h)
   have hv:Fr (fun k o=>k=B∨(B+3≤k∧zbq 133 o)) wA w3:=(Fr.ofGrown hZ.out).mono2 (fun k o hk hm=>by
    obtain⟨h1,o',hW,ht⟩:=zam hE k hm.symm;rw[hk]at hW;cases hW
    exact .inr ⟨h1,ht⟩)
   have hx:Fr (fun k o=>k=B∨(B+3≤k∧zbq 133 o)) w3 w9:=hn.mono2 (fun k o hk hm=>by
    rcases hm with h | h
    ·exact .inl h
    subst h;rw[hg3]at hk;cases hk
    exact .inr ⟨hgB,_,_,rfl⟩)
   have hC:=((h4.mono (fun _ _ h=>h.elim)).trans' hv).trans' hx;have hi:=Hsz.out;obtain⟨o1,hV⟩:∃ o,V.heap[B+1]? = some o:=⟨_,Array.getElem?_eq_getElem (by omega)⟩;obtain⟨o2,hU⟩:∃ o,V.heap[B+1+1]? = some o:=⟨_,Array.getElem?_eq_getElem (by omega)⟩;refine⟨⟨hC.size,fun k o hk ho hc=>hC.block k o ho ?_⟩,⟨hC.size,?_,?_⟩,⟨_,hb,QRow.more Hqd.out Hpl.out Hrp.out hj⟩,AA.out.trans (hC.below (by omega) (fun k o hk h=>by rcases h with h | h<;>omega)),Nat.le_trans hi hC.size⟩
   ·rintro(h | ⟨_,_,_,rfl⟩)
    ·omega
    simp[Obj.isCells]at hc
   ·exact(hC.block _ _ hV (fun h=>by rcases h with h | h<;>omega)).trans hV.symm
   exact(hC.block _ _ hU (fun h=>by rcases h with h | h<;>omega)).trans hU.symm
  try simp only[qQ]
  go_simp;refine hK.out _ _ (HK.out _ _ (Fr.refl.alloc _) hA) (fun hA=>?_);clear hK K
  try simp only[Act.put,qP]
  have AL:(V.alloc (.cells #[.string ⟨#[]⟩,.int .i64 0,.int .i64 0,.string ⟨#[]⟩,.slice none 0 0,.slice none 0 0] 133)).drew.heap[V.heap.size]? = _:=zh V _;have hy:Fr NoB V.drew (V.alloc (.cells #[.string ⟨#[]⟩,.int .i64 0,.int .i64 0,.string ⟨#[]⟩,.slice none 0 0,.slice none 0 0] 133)).drew:=(Fr.refl (w:=V.drew)).alloc (.cells #[.string ⟨#[]⟩,.int .i64 0,.int .i64 0,.string ⟨#[]⟩,.slice none 0 0,.slice none 0 0] 133);have AQ:V.heap.size≤V.heap.size:=Nat.le_refl _;obtain⟨wB,Ad⟩:∃ W,(V.alloc (.cells #[.string ⟨#[]⟩,.int .i64 0,.int .i64 0,.string ⟨#[]⟩,.slice none 0 0,.slice none 0 0] 133)).drew=W:=⟨_,rfl⟩;rw[Ad]at AL hy hA ⊢;obtain⟨sb,hh⟩:∃ z,V.heap.size=z:=⟨_,rfl⟩;rw[hh]at AL;rw[hh];have AQ:V.heap.size≤sb:=by omega
  clear Ad;refine qrY (i:=8) (by kernel_rfl) rfl (fun K hK=>?_)
  try simp only[qQ]
  go_simp;refine(Hx.out _).mono ?_;rintro e wA ⟨rfl,he⟩;refine hK.out _ _ (HK.out _ _ he hA) (fun hA=>?_);clear hK K
  try simp only[Act.put,qP]
  refine qiY (i:=9) (v:=?_) rfl (zv ⟨by rfl,?_⟩) hA ?_;rotate_left
  ·intro W ha
   try simp only[qQ]
   go_simp
   try rw[if_neg (by omega)]
   try with_reducible rfl
  try simp only[Act.put,qP]
  have AC:=he.block _ _ AL (fun h=>h);have hM:=hy.trans' he;clear hh he AL hy;refine qzY (by kernel_rfl) rfl (fun K hK=>?_)
  try simp only[qQ]
  rw[if_pos (by rfl)];refine zbu (.tmp 10) (.tmp 20) 54 (by rfl) (B+3) 133 i1 (.agg #[.string ⟨#[]⟩,.int .i64 0,.int .i64 0,.string ⟨#[]⟩,.slice none 0 0,.slice none 0 0]) 6 96 Tryz.underlying54 Ak Ac Ab Aa rfl (by decide) (.slice ao pl co) pl xs (by rfl) (za9 (w:=V.drew) Hown.out hM (fun _ _ _ _ _ h=>h)) ⟨sb,0,none⟩ 1 1 [.string ⟨#[]⟩,.int .i64 0,.int .i64 0,.string ⟨#[]⟩,.slice none 0 0,.slice none 0 0] (by rfl) rfl (zg6 AC) (by simp[Value.oneCell']) (by unfold maxLen;omega) (by omega) (by have:=Hsz.out;have:=hM.size;simp only[World.size_drew]at this;omega) ?_;intro v' w3 hH hN;refine hK.out _ _ ?_;clear hK K
  try simp only[Act.put,qP]
  clear hA;have hf:xs.length=pl * 6:=Hown.out.1;have hG:=hH;obtain⟨-,h3⟩:=hH;rcases h3 with⟨_,h0⟩ | ⟨g,cap',cur,rfl,hgB,hg3,hn3,hcm3,hcs3,htk3⟩
  ·omega
  have kz:∀ (j:Nat) (z:Value),([.string ⟨#[]⟩,.int .i64 0,.int .i64 0,.string ⟨#[]⟩,.slice none 0 0,.slice none 0 0]:List Value)[j]? = some z→w3.cell? ⟨g,pl * 6+j,none⟩=some z:=by
   intro j z hz
   have h1:(xs++[.string ⟨#[]⟩,.int .i64 0,.int .i64 0,.string ⟨#[]⟩,.slice none 0 0,.slice none 0 0])[pl * 6+j]? = some z:=by
    rw[List.getElem?_append_right (by omega),hf,Nat.add_sub_cancel_left];exact hz
   rw[← htk3,List.getElem?_take]at h1;split at h1
   ·rw[Array.getElem?_toList]at h1;simp[World.cell?,hg3,h1]
   cases h1
  have k0:=kz 0 _ rfl;have k1:=kz 1 _ rfl;have k2:=kz 2 _ rfl;have k3:=kz 3 _ rfl;have k4:=kz 4 _ rfl;have k5:=kz 5 _ rfl;rw[Nat.add_zero]at k0;have AW:∀ k,w3.frozen? ⟨g,k,none⟩=false:=fun k=>by simp[World.frozen?,hg3]
  have hX:∀ k,(Value.slice ao pl co).ownBlock=some k→B+3≤k:=fun k hk=>(zam Hown.out k hk).1
  have AH:wA.heap[B]? = some (.cells #[.int .i64 5,.int .i64 0,.string ⟨#[]⟩,.slice none 0 0,.slice ao pl co] 56 (0,0)):=hM.block _ _ Hblk.out (fun h=>h);have hd:=zaq hN AH (fun e=>by have:=hX _ e;omega);have b1:w3.cell? ⟨B,4,none⟩=some (.slice ao pl co):=by simp[World.cell?,hd]
  have b2:w3.frozen? ⟨B,4,none⟩=false:=by simp[World.frozen?,hd]
  have AV:¬ g=B:=by omega
  have AU:¬ B=g:=by omega
  have At:(pl:Int)<(pl:Int)+1:=by omega
  have hJ:=za hG;have hZ:=za hN;have AK:=za hd;have Hxl:=za hf;clear hG hN hd hf htk3 kz AH hX hn3;refine ziv (by kernel_rfl) ?_;have hA:True:=trivial;refine qi (i:=13) (v:=?_) rfl (zv ⟨by rfl,?_⟩) hA ?_;rotate_left
  ·intro W ha
   try simp only[qQ]
   go_simp
   try rw[if_neg (by omega)]
   try with_reducible rfl
  try simp only[Act.put,qP]
  refine qi (i:=15) (v:=?_) rfl (zv ⟨by rfl,?_⟩) hA ?_;rotate_left
  ·intro W ha
   try simp only[qQ]
   go_simp
   try rw[if_neg (by omega)]
   try with_reducible rfl
  try simp only[Act.put,qP]
  refine q2H (i:=14) (j:=16) (by kernel_rfl) rfl rfl (fun K hK=>?_) (fun K hK=>?_)
  ·try simp only[qQ]
   go_simp;refine hK.out _ _ trivial (fun hA=>?_);clear hK K
   try simp only[Act.put,qP]
   refine qr (i:=16) (by kernel_rfl) rfl (fun K hK=>?_)
   try simp only[qQ]
   go_simp;refine hK.out _ _ trivial (fun hA=>?_);clear hK K
   try simp only[Act.put,qP]
   refine wpAnyH_done (by kernel_rfl) ?_ _
   try simp only[zbb]
   change Exit.inBlock _ _ _ _ ((put6 g (pl * 6) (.string ⟨q1.toArray⟩) (.int .i64 3) (.int .i64 0) (.string ⟨q2.toArray⟩) (.slice none 0 0) (.slice none 0 0) w3).setCell ⟨B,4,none⟩ (.slice (some ⟨g,0,none⟩) (pl+1) cap'));obtain⟨w9,hT⟩:∃ z,((put6 g (pl * 6) (.string ⟨q1.toArray⟩) (.int .i64 3) (.int .i64 0) (.string ⟨q2.toArray⟩) (.slice none 0 0) (.slice none 0 0) w3).setCell ⟨B,4,none⟩ (.slice (some ⟨g,0,none⟩) (pl+1) cap'))=z:=⟨_,rfl⟩;rw[hT];obtain⟨hj,hb,hn⟩:=zll (w9:=w9) (N:=B+3) (X := .slice (some ⟨g,0,none⟩) (pl+1) cap') (v0 := .string ⟨q1.toArray⟩) (v1 := .int .i64 3) (v2 := .int .i64 0) (v3 := .string ⟨q2.toArray⟩) (v4 := .slice none 0 0) (v5 := .slice none 0 0) (by omega) hgB hJ.out Hxl.out AK.out (.inl hT.symm);have h4:Fr NoB V wA:=((Fr.refl (M:=NoB) (w:=V)).drew).trans' hM;have hE:wA.ownsRow (B+3) 133 6 (.slice ao pl co) pl xs:=za9 (w:=V.drew) Hown.out hM (fun _ _ _ _ _ h=>h)
   have hv:Fr (fun k o=>k=B∨(B+3≤k∧zbq 133 o)) wA w3:=(Fr.ofGrown hZ.out).mono2 (fun k o hk hm=>by
    obtain⟨h1,o',hW,ht⟩:=zam hE k hm.symm;rw[hk]at hW;cases hW
    exact .inr ⟨h1,ht⟩)
   have hx:Fr (fun k o=>k=B∨(B+3≤k∧zbq 133 o)) w3 w9:=hn.mono2 (fun k o hk hm=>by
    rcases hm with h | h
    ·exact .inl h
    subst h;rw[hg3]at hk;cases hk
    exact .inr ⟨hgB,_,_,rfl⟩)
   have hC:=((h4.mono (fun _ _ h=>h.elim)).trans' hv).trans' hx;have hi:=Hsz.out;obtain⟨o1,hV⟩:∃ o,V.heap[B+1]? = some o:=⟨_,Array.getElem?_eq_getElem (by omega)⟩;obtain⟨o2,hU⟩:∃ o,V.heap[B+1+1]? = some o:=⟨_,Array.getElem?_eq_getElem (by omega)⟩;refine⟨⟨hC.size,fun k o hk ho hc=>hC.block k o ho ?_⟩,⟨hC.size,?_,?_⟩,⟨_,hb,QRow.more Hqd.out Hpl.out Hrp.out hj⟩,AA.out.trans (hC.below (by omega) (fun k o hk h=>by rcases h with h | h<;>omega)),Nat.le_trans hi hC.size⟩
   ·rintro(h | ⟨_,_,_,rfl⟩)
    ·omega
    simp[Obj.isCells]at hc
   ·exact(hC.block _ _ hV (fun h=>by rcases h with h | h<;>omega)).trans hV.symm
   exact(hC.block _ _ hU (fun h=>by rcases h with h | h<;>omega)).trans hU.symm
  try simp only[qQ]
  go_simp;refine hK.out _ _ trivial (fun hA=>?_);clear hK K
  try simp only[Act.put,qP]
  refine qr (i:=14) (by kernel_rfl) rfl (fun K hK=>?_)
  try simp only[qQ]
  go_simp;refine hK.out _ _ trivial (fun hA=>?_);clear hK K
  try simp only[Act.put,qP]
  refine wpAnyH_done (by kernel_rfl) ?_ _
  try simp only[zbb]
  change Exit.inBlock _ _ _ _ (put6 g (pl * 6) (.string ⟨q1.toArray⟩) (.int .i64 3) (.int .i64 0) (.string ⟨q2.toArray⟩) (.slice none 0 0) (.slice none 0 0) (w3.setCell ⟨B,4,none⟩ (.slice (some ⟨g,0,none⟩) (pl+1) cap')));obtain⟨w9,hT⟩:∃ z,(put6 g (pl * 6) (.string ⟨q1.toArray⟩) (.int .i64 3) (.int .i64 0) (.string ⟨q2.toArray⟩) (.slice none 0 0) (.slice none 0 0) (w3.setCell ⟨B,4,none⟩ (.slice (some ⟨g,0,none⟩) (pl+1) cap')))=z:=⟨_,rfl⟩;rw[hT];obtain⟨hj,hb,hn⟩:=zll (w9:=w9) (N:=B+3) (X := .slice (some ⟨g,0,none⟩) (pl+1) cap') (v0 := .string ⟨q1.toArray⟩) (v1 := .int .i64 3) (v2 := .int .i64 0) (v3 := .string ⟨q2.toArray⟩) (v4 := .slice none 0 0) (v5 := .slice none 0 0) (by omega) hgB hJ.out Hxl.out AK.out (.inr hT.symm);have h4:Fr NoB V wA:=((Fr.refl (M:=NoB) (w:=V)).drew).trans' hM;have hE:wA.ownsRow (B+3) 133 6 (.slice ao pl co) pl xs:=za9 (w:=V.drew) Hown.out hM (fun _ _ _ _ _ h=>h)
  have hv:Fr (fun k o=>k=B∨(B+3≤k∧zbq 133 o)) wA w3:=(Fr.ofGrown hZ.out).mono2 (fun k o hk hm=>by
   obtain⟨h1,o',hW,ht⟩:=zam hE k hm.symm;rw[hk]at hW;cases hW
   exact .inr ⟨h1,ht⟩)
  have hx:Fr (fun k o=>k=B∨(B+3≤k∧zbq 133 o)) w3 w9:=hn.mono2 (fun k o hk hm=>by
   rcases hm with h | h
   ·exact .inl h
   subst h;rw[hg3]at hk;cases hk
   exact .inr ⟨hgB,_,_,rfl⟩)
  have hC:=((h4.mono (fun _ _ h=>h.elim)).trans' hv).trans' hx;have hi:=Hsz.out;obtain⟨o1,hV⟩:∃ o,V.heap[B+1]? = some o:=⟨_,Array.getElem?_eq_getElem (by omega)⟩;obtain⟨o2,hU⟩:∃ o,V.heap[B+1+1]? = some o:=⟨_,Array.getElem?_eq_getElem (by omega)⟩;refine⟨⟨hC.size,fun k o hk ho hc=>hC.block k o ho ?_⟩,⟨hC.size,?_,?_⟩,⟨_,hb,QRow.more Hqd.out Hpl.out Hrp.out hj⟩,AA.out.trans (hC.below (by omega) (fun k o hk h=>by rcases h with h | h<;>omega)),Nat.le_trans hi hC.size⟩
  ·rintro(h | ⟨_,_,_,rfl⟩)
   ·omega
   simp[Obj.isCells]at hc
  ·exact(hC.block _ _ hV (fun h=>by rcases h with h | h<;>omega)).trans hV.symm
  exact(hC.block _ _ hU (fun h=>by rcases h with h | h<;>omega)).trans hU.symm
 case done =>
  rintro D ys V hD rfl ⟨⟨lv,hQ,hO⟩,h7,AD⟩ hK;rw[z1i l m Hm.out]at hO;have AS:=(h7.block r (by have:=HB.out;omega)).trans HR.out;obtain⟨b0,b1,b2,b3,b4,bz,blt⟩:=VB.at hQ;obtain⟨r0,r1,r2,r3,r4,rz,Aq⟩:=VB.at AS;have hrb1:¬ r=B:=by have:=HB.out;omega
  have hrb2:¬ B=r:=by have:=HB.out;omega
  have AA:=za h7;have HK:=za hK;have Hsz:=za AD;have Hrow:=za hO;have Ao:=za AS
  obtain ⟨xa,xc,Au⟩:∃ a c,lv = .slice a (l.map txP).length c:=by
   obtain⟨xs,hP,-⟩:=hO;obtain⟨a,c,h⟩:=qj hP;exact⟨a,c,h⟩
  subst Au;clear hQ h7 hK AD hO AS
  go_wp2_with fail
  change bodyPostM _ _ _ _ _ _ _ (setV r (.int .i64 5) (.int .i64 0) (.string ⟨#[]⟩) (.slice none 0 0) (.slice xa l.length xc) V);have hC:=q9 r (.int .i64 5) (.int .i64 0) (.string ⟨#[]⟩) (.slice none 0 0) (.slice xa l.length xc) V;have hrD:r<D:=by have:=HB.out;omega
  have AP:=hC.block D _ HK.out (by omega);have Ag:=VB.setV ⟨_,_,_,_,_,Ao.out⟩ (.int .i64 5) (.int .i64 0) (.string ⟨#[]⟩) (.slice none 0 0) (.slice xa l.length xc);have Ai:=QRow.setV Hrow.out Ao.out (.int .i64 5) (.int .i64 0) (.string ⟨#[]⟩) (.slice none 0 0) (.slice xa l.length xc);obtain⟨W9,Ay⟩:∃ z,setV r (.int .i64 5) (.int .i64 0) (.string ⟨#[]⟩) (.slice none 0 0) (.slice xa l.length xc) V=z:=⟨_,rfl⟩;rw[Ay]at hC AP Ag Ai ⊢;have Aw:Below r w Wb:=Ap.out.below (by have:=Hr.out;omega) (fun _ _ _ h=>h.elim);have hb:Below r w W9:=(Aw.trans (AA.out.mono (by have:=HB.out;omega))).trans (hC.below (Nat.le_of_lt Aq) (fun k o _ h=>by omega));have Al:Below r w (W9.putObj D (.deferred none)):=hb.trans (belowK_b (w:=Wc) (by have:=HB.out;omega) W9 D _ _ hD AP rfl rfl)
  have AF:∀ (k:Nat) (cs:Array Value) (T:TypeId) (f:Nat × Nat),W9.heap[k]? = some (Obj.cells cs T f)→(W9.putObj D (.deferred none)).heap[k]? = some (Obj.cells cs T f):=fun k cs T f hk=>by
   have Av:D≠k:=fun e=>by subst e;rw[AP]at hk;cases hk
   unfold World.putObj;simp only;rw[Array.getElem?_setIfInBounds_ne Av];exact hk
  have As:=QRow.txt (f:=id) Ai (fun k cs hk=>AF k cs _ _ hk);obtain⟨a0,a1,a2,a3,a4,-,-⟩:=VB.at (AF _ _ _ _ Ag);rw[← Hr.out]at Al;refine⟨by simp,.inl ⟨_,_,rfl,run_takeDeferred AP,?_⟩⟩;refine⟨.agg #[.int .i64 5,.int .i64 0,.string ⟨#[]⟩,.slice none 0 0,.slice xa l.length xc],by simp[results,Tryz.results123,go_sem,a0,a1,a2,a3,a4],_,rfl,QRow.low (l:=l) (by simpa using As) (by have:=Hr.out;have:=HB.out;omega),Fr.ofBelow Al⟩
 case stop =>
  intro D c h8 V hD hp h;exact h.elim
theorem zqj {α:Type} (f g:α→Value):∀ (l:List α) (i:Nat) (q:α),l[i]? = some q→(l.flatMap fun x=>[f x,g x])[i * 2]? = some (f q)∧(l.flatMap fun x=>[f x,g x])[i * 2+1]? = some (g q)
 | [],i,q,h=>by simp at h
 | x :: l,0,q,h=>by
   obtain rfl:x=q:=by simpa using h
   simp
 | x :: l,i+1,q,h=>by
   have:=zqj f g l i q (by simpa using h);rw[Nat.add_mul,Nat.one_mul];simpa using this
theorem zcy (l:List (Bs × Bs))(n gb cap:Nat)(cs:Array Value)(T:TypeId)(f:Nat × Nat)(w:World)(hb:w.heap[gb]? = some (.cells cs T f))(hcs:cs.toList=l.flatMap fun q=>[.string ⟨q.1.toArray⟩,.string ⟨q.2.toArray⟩])
 (hn:n=l.length * 2) (hl:l.length≤100) (hcap:n≤cap) (hcm:cap≤maxLen) :
 Calls Tryz.prog 123 #[.slice (some ⟨gb,0,none⟩) n cap] w fun e w'=>∃ lv,e = .returned (.agg #[.int .i64 5,.int .i64 0,.string ⟨#[]⟩,.slice none 0 0,lv])∧QRow (fun _=>False) w.heap.size (l.map txP) lv w'∧Fr NoB w w':=by
 subst hn;refine callsIn_wide.1 (zuj l l.length gb 0 cap w rfl hl hcap hcm (by omega) (jb hb) ?_);intro i q hi;have h:=zqj (fun q:Bs × Bs=>Value.string ⟨q.1.toArray⟩) (fun q=>Value.string ⟨q.2.toArray⟩) l i q hi;rw[← hcs,Array.getElem?_toList,Array.getElem?_toList]at h;rw[Nat.zero_add];exact⟨by simpa[World.cell?,hb] using h.1,by simpa[World.cell?,hb] using h.2⟩
end Go.Proofs.YtmgfncjfgkllcaaGreatDoor
