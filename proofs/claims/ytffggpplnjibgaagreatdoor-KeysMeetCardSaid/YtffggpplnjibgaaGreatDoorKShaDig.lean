/-
 The walk of sum.shape's digest (words of 32 bits).
-/
import Derived.Test.YtffggpplnjibgaaGreatDoorKShaPiece
import Derived.Test.YtffggpplnjibgaaGreatDoorKConcat
import Derived.Test.YtffggpplnjibgaaGreatDoorKLarge16
open Go.Lib renaming hid→zi,byteCells→zj
open Go.World renaming size_alloc→zm
open Go renaming heap_alloc_new→zo
open Nat renaming le_refl→ja
namespace Go.Proofs.YtffggpplnjibgaaGreatDoor
set_option linter.unusedVariables false
set_option linter.unusedSimpArgs false
set_option linter.unusedSectionVars false
set_option maxRecDepth 100000
set_option maxHeartbeats 8000000
open Go.RowKit Go.Shelf Go.Sort
variable [OldK]
attribute [local go_sem] Oper.semAt_some
def zwh (s:Wk) (l:Bs):Bs:=((za9 64 ((l.length+72) / 64) (zqd l)).foldl (zbf kShort) s).list.flatMap zco
def dSt {m:Nat} (PD:Bs) (s:Wk) (pre:List (Fin m)):Wk:=pre.foldl (fun s i=>zbf kShort s ((PD.drop (i.val * 64)).take 64)) s
theorem zvf {m:Nat} (PD:Bs) (pre:List (Fin m)):∀ s:Wk,s.lt→(dSt PD s pre).lt:=by
 induction pre with
 | nil=>exact fun s h=>h
 | cons x pre ih =>
   intro s _
   have h:(zbf kShort s ((PD.drop (x.val * 64)).take 64)).lt:=by
    unfold zbf;exact Wk.add_lt _ _
   have h2:=ih _ h;unfold dSt at h2 ⊢;rw[List.foldl_cons];exact h2
theorem zsq (m:Nat) (PD:Bs) (s:Wk):dSt PD s (List.finRange m)=(za9 64 m PD).foldl (zbf kShort) s:=by
 have h:za9 64 m PD=(List.finRange m).map (fun i=>(PD.drop (i.val * 64)).take 64):=by
  apply List.ext_getElem?;intro i;rw[List.getElem?_map];rcases Nat.lt_or_ge i m with h | h
  ·rw[ze8 _ _ _ _ h,List.getElem?_eq_getElem (by simpa using h)];simp
  rw[List.getElem?_eq_none (l:=za9 64 m PD) (by rw[zdv];exact h),List.getElem?_eq_none (l:=List.finRange m) (by simpa using h)];rfl
 rw[h,List.foldl_map];rfl
theorem zg3 {b:Nat} {e:TypeId} {f:Nat × Nat}:∀ (vs:List Value) (o:Nat) (w:World) (cs:Array Value),w.heap[b]? = some (.cells cs e f)→∃ cs',(w.setCells b o vs).heap[b]? = some (.cells cs' e f)
 | [],_,_,_,h=>⟨_,h⟩
 | v :: r,o,w,cs,h=>by
   rw[World.setCells];exact zg3 r (o+1) _ _ (jh v h)
theorem OB.base {B B':Nat}{out:Bs}{v:Value}{w:World}(h:OB B out v w)(hb:B'≤B):OB B' out v w:=by
 refine⟨h.1,h.2.imp id ?_⟩;rintro⟨g,hC,hB,e,hg,r⟩;exact⟨g,hC,hB,e,Nat.le_trans hb hg,r⟩
theorem zw9 (s:Wk)(j:Nat)(h:j<8):∀ w,(Instr.index 160 (.agg (wkC s)) (.int .i64 (j:Int))).run Tryz.prog w = .ok (.int .u32 ((s.list.getD j 0:Nat):Int)) w:=by
 have hB:j=0∨j=1∨j=2∨j=3∨j=4∨j=5∨j=6∨j=7:=by omega
 rcases hB with rfl | rfl | rfl | rfl | rfl | rfl | rfl | rfl<;>(intro w;kernel_rfl)
section
variable {F:Fence} {nF:Nat} {P:Program} {ops:Array Oper} {rest:List Oper} {op:Oper} {a:Act} {w:World} {Q:Exit→Act→World→Prop}
theorem zfk (hgd:op.guard=none)(ty:TypeId)(x y:Operand)(ho:op.op = .store ty x y)(b o:Nat)(cells:Array Value)
 (hx:a.eval x = .pointer (some ⟨b,o,none⟩)) (hy:a.eval y = .agg cells) (ht:w.there b o cells.size) (hi:(P.info? ty).map (·.size)=some cells.size) (h1:cells.all (·.oneCell')=true)
 (h:wpListIn F nF P ops Q rest (a.put op.dst undef) (w.setCells b o cells.toList)):wpListIn F nF P ops Q (op :: rest) a w:=by
 refine wpListIn_plain hgd fun K hK=>?_
 unfold Oper.wpIn;refine⟨by simp[Oper.about,ho],?_⟩;rw[Oper.semAt_plain F _ _ (by rw[ho];intro c hB;cases hB)];simp only[execOp,ho,hx,hy];rw[Sem.run_bind,run_storeAt_mid w b o ty cells ht hi h1];exact hK _ _ h
end
theorem OB.nil0 (B:Nat)(w:World):OB B [] (.slice none 0 0) w:=World.ownsRow_nil w B _ 1
theorem zvn {s:Wk} (hs:s.lt) (j:Nat):s.list.getD j 0<4294967296:=by
 rcases Nat.lt_or_ge j 8 with h | h
 ·have hB:j=0∨j=1∨j=2∨j=3∨j=4∨j=5∨j=6∨j=7:=by omega
  obtain⟨h0,h1,h2,h3,h4,h5,h6,h7⟩:=hs;rcases hB with rfl | rfl | rfl | rfl | rfl | rfl | rfl | rfl<;>assumption
 rw[List.getD_eq_getElem?_getD,List.getElem?_eq_none (by exact h)];decide
theorem zs8 (s:Wk)(j:Nat)(h:j<8):(s.list.take (j+1)).flatMap zco=(s.list.take j).flatMap zco++zco (s.list.getD j 0):=by
 have hB:j=0∨j=1∨j=2∨j=3∨j=4∨j=5∨j=6∨j=7:=by omega
 rcases hB with rfl | rfl | rfl | rfl | rfl | rfl | rfl | rfl<;>rfl
theorem zvm (s:Wk)(j:Nat)(h:j<8):((s.list.take j).flatMap zco).length≤28:=by
 have hB:j=0∨j=1∨j=2∨j=3∨j=4∨j=5∨j=6∨j=7:=by omega
 rcases hB with rfl | rfl | rfl | rfl | rfl | rfl | rfl | rfl<;>exact Nat.le_of_ble_eq_true rfl
theorem OB.drew' {B:Nat}{out:Bs}{v:Value}{w:World}(h:OB B out v w):OB B out v w.drew:=h.fr (Fr.refl (M:=NoB)).drew (fun _ _ _ _ h=>h)
theorem zx9 (S:Nat→Prop) (vs:List (Value × Bs)) (g cap b tb tcap:Nat) (s0:Wk) (w:World) (hg:∀ i (hi:i<vs.length),w.cell? ⟨g,i,none⟩=some vs[i].1) (hsb:∀ x∈vs,SB S x.2 x.1 w) (hnil:∀ x∈vs,∀ n c,x.1 = .slice none n c→c=0) (hn:vs.length≤1000) (ht:tot vs≤500000)
 (hslt:s0.lt) (htab:∀ i,i<64→w.cell? ⟨tb,i,none⟩=some (.int .u32 (kShort.getD i 0:Nat))) (hS:w.heap[b]? = some (.cells (zc4 (.slice (some ⟨tb,0,none⟩) 64 tcap) s0) 162 (0,0))) :
 CallsIn Fence.wide 6 Tryz.prog 118 #[.pointer (some ⟨b,0,none⟩),.slice (some ⟨g,0,none⟩) vs.length cap] w fun e w'=>∃ v,e = .returned v∧OB w.heap.size (zwh s0 (flat vs)) v w'∧Fr NoB w w':=by
 obtain⟨PP,A8⟩:∃ x,zwh s0 (flat vs)=x:=⟨_,rfl⟩;rw[A8];have Bt:=zi A8;have Ar:Fr NoB w (w.alloc (.cells #[.pointer (some ⟨b,0,none⟩)] 155)):=Fr.refl.alloc _;have BU:=zo w (.cells #[.pointer (some ⟨b,0,none⟩)] 155);have Aw:(w.alloc (.cells #[.pointer (some ⟨b,0,none⟩)] 155)).heap.size=w.heap.size+1:=zm _ _;have A3:=zur S vs g cap (w.alloc (.cells #[.pointer (some ⟨b,0,none⟩)] 155)) (fun i hi=>Fr.cell Ar (hg i hi)) (fun x hx=>(hsb x hx).fr Ar (fun _ _ _ _ h=>h)) hnil hn (by omega);have CD:=ju hS;have A1:(flat vs).length≤500000:=by rw[zoo];exact ht
 obtain⟨l,hl⟩:∃ x,flat vs=x:=⟨_,rfl⟩;simp only[hl]at A3;rw[hl]at A1 Bt;have Hcc:=zi A3;have HS:=zi hS;have Htab:=zi htab;have Hslt:=zi hslt;have Au:=zi Ar;have BG:=zi BU;clear A8 A3 hS htab hslt Ar hg hsb hnil hl ht hn BU;refine callsIn_of_wp_marks Tryz.func118 rfl trivial ?_ rfl;simp only[Tryz.ntmps118,List.size_toArray,List.length_cons,List.length_nil,Nat.reduceAdd,Nat.reduceSub,Array.replicate_succ,Array.replicate_zero,List.push_toArray,List.append_toArray,List.nil_append,List.cons_append];refine wpIn_wide.2 ?_
 go_upto_region 1 with(fail)
 change Code.wp _ _ _ _ (w.alloc (.cells #[.pointer (some ⟨b,0,none⟩)] 155));obtain⟨W,hW⟩:∃ V,w.alloc (.cells #[.pointer (some ⟨b,0,none⟩)] 155)=V:=⟨_,rfl⟩;rw[hW]at Hcc Au BG Aw ⊢;obtain⟨q,hq⟩:∃ x,w.heap.size=x:=⟨_,rfl⟩;rw[hq]at BG CD Aw ⊢;have Hq:=zi hq;rw[Aw]at Hcc;clear hW hq
 go_wp2_with fail
 refine Hcc.out.mono ?_;rintro e w2 ⟨v,rfl,BA,Aq⟩;obtain⟨a2,c2,rfl⟩:=BA.form;have AO:=Aq.block _ _ (Au.out.block _ _ HS.out (fun h=>h)) (fun h=>h);have Ax:=Aq.block _ _ BG.out (fun h=>h);have p0:w2.cell? ⟨q,0,none⟩=some (.pointer (some ⟨b,0,none⟩)):=by simp[World.cell?,Ax]
 have b0:w2.cell? ⟨b,0,none⟩=some (.int .i64 32):=by simp[World.cell?,AO,zc4]
 have Bq:=zi AO;have Hpw:=zi Ax;have Bv:=zi BA;have BJ:=zi Aq;have BF:Hid (q+1≤w2.heap.size):=zi (by have:=BJ.out.size;omega);obtain⟨i0,hf,he,hd,hb⟩:=info_parts zdj;clear AO Ax BA Aq Hcc;have hq2:=BF.out
 go_wp2_with(at_builtin;refine zck ?_)
 refine zi ?_;refine wpList_append_own _ rfl _ _ 24 rfl (q+1) 5 i0 (.int .u8 0) 1 1 Tryz.underlying24 hf he hd hb rfl (by decide) _ _ _ rfl (Bv.out.alloc _) ⟨w2.heap.size,0,none⟩ 1 1 [.int .u8 128] rfl rfl (qm w2 [.int .u8 128] 5) (by simp[Value.oneCell']) (by unfold maxLen;omega) (by omega) (by rw[zm];omega) ?_;intro v3 w3 AJ Ab _;obtain⟨Ao,Bg⟩:=Bv.out.push (news:=[128]) ((Fr.refl (M:=NoB)).alloc _) AJ Ab;obtain⟨a3,c3,rfl⟩:=Ao.form;have HO3:=zi Ao;have CR:=zi Bg;obtain⟨Z,hZ⟩:∃ x,(119 - l.length % 64) % 64=x:=⟨_,rfl⟩;have hZl:Z<64:=by omega
 have BR:l++[128]=l++[128]++List.replicate 0 0:=by simp
 have BI:Hid (OB (q+1) (l++[128]++List.replicate 0 0) (.slice a3 (l.length+1) c3) w3):=zi (by rw[← BR,show l.length+1=(l++[128]).length by simp];exact Ao);have HZ:=zi hZ;clear AJ Ab Ao Bg BR p0 b0 hZ
 go_wp2_with fail
 go_loopg [5] (Z+1) (fun gf vt wr=>∃ z:Nat,z≤Z∧z+gf=Z+1∧Hid (OB (q+1) (l++[128]++List.replicate z 0) vt wr)∧Hid (Fr (fun k _=>q+1≤k) w2 wr))
 case atStart=>exact⟨0,by omega,by omega,BI,CR⟩
 case round =>
  obtain⟨z,hz,B0,HO,hX⟩:=hrel;obtain⟨az,cz,B4⟩:=HO.out.form;subst B4;have p0:wr.cell? ⟨q,0,none⟩=some (.pointer (some ⟨b,0,none⟩)):=Fr.cell hX.out (by have:=Hpw.out;simp[World.cell?,this]) (fun h=>by omega);have Bl:wr.cell? ⟨b,22,none⟩=some (.int .i64 8):=Fr.cell hX.out (by have:=Bq.out;simp[World.cell?,this,zc4]) (fun h=>by omega);have AZ:(l++[128]++List.replicate z 0).length=l.length+1+z:=by simp;omega
  obtain⟨T,hT⟩:∃ x,l++[128]++List.replicate z 0=x:=⟨_,rfl⟩;have A5:l++[128]++List.replicate (z+1) 0=T++[0]:=by rw[← hT,List.replicate_succ'];simp
  rw[hT]at AZ HO;rw[hT];have HT:=zi hT;have Bp:=zi A5;obtain⟨n,AY⟩:∃ x,T.length=x:=⟨_,rfl⟩;rw[AY]at AZ;rw[AY]
  have Ak:Int.tmod (n:Int) 64=((n % 64:Nat):Int):=by
   rw[Int.tmod_eq_emod_of_nonneg (by omega)];omega
  have Hnn:=zi AY;have hzs:=hX.out.size;have hw56:IntKind.i64.wrap 56=56:=by rw[IntKind.wrap_i64];omega
  by_cases hY:z<Z
  ·have Am:(((n % 64:Nat):Int) != 56)=true:=by
    rw[bne_iff_ne];have:=HZ.out;omega
   obtain⟨r,hr⟩:∃ x,n % 64=x:=⟨_,rfl⟩;rw[hr]at Ak Am;have B9:n≤600000:=by omega
   clear hr hT A5 AY AZ
   go_upto_region 5 with(fail)
   refine zal (S:=fun V=>V=wr.drew) (by kernel_rfl) rfl (fun ha=>?_);simp only[qV]
   iterate 11
    refine qt (v:=?_) rfl (Or.inl ⟨by rfl,?_⟩) ha ?_;rotate_left
    ·intro W AO;obtain rfl:=AO
     try simp only[qQ]
     go_simp
     try rw[if_neg (by omega)]
     try with_reducible rfl
    try simp only[Act.put,qP]
   refine wpAnyH_done (by kernel_rfl) ?_ _;simp only[zbl];clear ha Ak;obtain⟨w5,hu⟩:∃ x,wr.drew=x:=⟨_,rfl⟩;have At:Hid (OB (q+1) T (.slice az n cz) w5):=zi (by rw[← hu,← Hnn.out];exact HO.out.drew');have AU:Hid (Fr (fun k _=>q+1≤k) w2 w5):=zi (by rw[← hu];exact hX.out.drew);have hz5:q+1≤w5.heap.size:=by have:=AU.out.size;omega
   rw[hu];clear hu
   go_wp2_with(at_builtin;refine zck ?_)
   refine zi ?_;refine wpList_append_own _ rfl _ _ 24 rfl (q+1) 5 i0 (.int .u8 0) 1 1 Tryz.underlying24 hf he hd hb rfl (by decide) (.slice az n cz) n (zj T) rfl (by have h:=At.out;unfold OB at h;rw[Hnn.out]at h;exact h.alloc _) ⟨w5.heap.size,0,none⟩ 1 1 [.int .u8 0] rfl rfl (qm w5 [.int .u8 0] 5) (by simp[Value.oneCell']) (by unfold maxLen;omega) (by omega) (by rw[zm];omega) ?_;intro v4 w4 hC hE _;obtain⟨hG,hL⟩:=At.out.push (news:=[0]) (w2:=w4) (v':=v4) ((Fr.refl (M:=NoB)).alloc _) (by rw[Hnn.out];exact hC) hE;rw[← Bp.out]at hG;have hP:=zi hG;have hQ:=zi (AU.out.trans' hL);clear hC hE hG hL
   go_wp2_with fail
   go_roundg (gk - 1)
   case measure=>omega
   case rel=>exact⟨z+1,by omega,by omega,hP,hQ⟩
  obtain rfl:z=Z:=by omega
  have Am:(((n % 64:Nat):Int) != 56)=false:=by
   have:=HZ.out;rw[bne_eq_false_iff_eq];omega
  obtain⟨r,hr⟩:∃ x,n % 64=x:=⟨_,rfl⟩;rw[hr]at Ak Am;have B9:n≤600000:=by omega
  have Hnl:=zi AZ;clear hr A5 AZ Bp hY hz B0
  go_upto_region 5 with(fail)
  refine zal (S:=fun V=>V=wr.drew) (by kernel_rfl) rfl (fun ha=>?_);simp only[qV]
  iterate 11
   refine qt (v:=?_) rfl (Or.inl ⟨by rfl,?_⟩) ha ?_;rotate_left
   ·intro W AO;obtain rfl:=AO
    try simp only[qQ]
    go_simp
    try rw[if_neg (by omega)]
    try with_reducible rfl
   try simp only[Act.put,qP]
  refine wpAnyH_done (by kernel_rfl) ?_ _;simp only[zbl];clear ha Ak;obtain⟨wo,B1⟩:∃ x:World,x=wr:=⟨_,rfl⟩;subst B1;obtain⟨w5,hu⟩:∃ x,wo.drew=x:=⟨_,rfl⟩;have At:Hid (OB (q+1) T (.slice az n cz) w5):=zi (by rw[← hu,← Hnn.out];exact HO.out.drew');have AU:Hid (Fr (fun k _=>q+1≤k) w2 w5):=zi (by rw[← hu];exact hX.out.drew);rw[hu];have BM:w5.cell? ⟨q,0,none⟩=some (.pointer (some ⟨b,0,none⟩)):=by rw[← hu];simpa using p0
  have BE:w5.cell? ⟨b,22,none⟩=some (.int .i64 8):=by rw[← hu];simpa using Bl
  clear hu p0 Bl HO hX Am
  go_wp2_with fail
  obtain⟨hF,h9⟩:∃ x,(List.range 8).map (fun i=>UInt8.ofNat (l.length * 8 / 2 ^ (8 * (7 - i))))=x:=⟨_,rfl⟩;have Aa:hF.length=8:=by rw[← h9];rfl
  have Hlens:=zi h9;have BH:Hid (OB (q+1) (T++hF.take 0) (.slice az n cz) w5):=zi (by rw[List.take_zero,List.append_nil];exact At.out);have Ah:=zi Aa;have Hp05:=zi BM;clear h9 Aa BM BE hT AY
  go_loopg [5,8] 9 (fun gf vt vi wr=>∃ j:Nat,j≤8∧j+gf=9∧vi = .int .i64 (7 - (j:Int))∧Hid (OB (q+1) (T++hF.take j) vt wr)∧Hid (Fr (fun k _=>q+1≤k) w2 wr))
  case atStart=>exact⟨0,by omega,by omega,rfl,BH,AU⟩
  case round =>
   obtain⟨j,hj,BZ,rfl,HO,hX⟩:=hrel;obtain⟨ab,cb,Av⟩:=HO.out.form;subst Av;have AM:=hX.out.size;have hM:(T++hF.take j).length=n+j:=by rw[List.length_append,Hnn.out,List.length_take,Ah.out];omega
   obtain⟨T2,hO⟩:∃ x,T++hF.take j=x:=⟨_,rfl⟩;rw[hO]at HO hM;rw[hO,hM];by_cases hY:j<8
   ·have hR:j=0∨j=1∨j=2∨j=3∨j=4∨j=5∨j=6∨j=7:=by omega
    rcases hR with rfl | rfl | rfl | rfl | rfl | rfl | rfl | rfl
    ·rw [show(7:Int) - ((0:Nat):Int)=7 from rfl];have hy:hF.take (0+1)=hF.take 0++[UInt8.ofNat (l.length * 8 / 72057594037927936)]:=by rw[← Hlens.out];rfl
     have hH:(l.length:Int) * 8 / 72057594037927936=((UInt8.ofNat (l.length * 8 / 72057594037927936)).toNat:Int):=by
      rw[UInt8.toNat_ofNat'];omega
     obtain⟨y,hJ⟩:∃ x,UInt8.ofNat (l.length * 8 / 72057594037927936)=x:=⟨_,rfl⟩;rw[hJ]at hy hH;have hN:T++hF.take (0+1)=T2++[y]:=by rw[hy,← hO,List.append_assoc]
     have hV:=zi hN;have hU:=zi hH;have Htl:=zi hM;clear hy hH hJ hN hO hM hY hj
     go_wp2_with(at_builtin;refine zck ?_)
     rw[hU.out];refine zi ?_;refine wpList_append_own _ rfl _ _ 24 rfl (q+1) 5 i0 (.int .u8 0) 1 1 Tryz.underlying24 hf he hd hb rfl (by decide) (.slice ab (n+0) cb) (n+0) (zj T2) rfl (by have h:=HO.out;unfold OB at h;rw[Htl.out]at h;exact h.alloc _) ⟨wr.heap.size,0,none⟩ 1 1 [.int .u8 y.toNat] rfl rfl (qm wr [.int .u8 y.toNat] 5) (by simp[Value.oneCell']) (by unfold maxLen;omega) (by omega) (by rw[zm];omega) ?_;intro v4 w4 hC hE _;obtain⟨hG,hL⟩:=HO.out.push (news:=[y]) (w2:=w4) (v':=v4) ((Fr.refl (M:=NoB)).alloc _) (by rw[Htl.out];exact hC) (by rw[Htl.out];exact hE);rw[← hV.out]at hG;have hP:=zi hG;have hQ:=zi (hX.out.trans' hL);clear hC hE hG hL
     go_wp2_with fail
     go_roundg (gk - 1)
     case measure=>omega
     case rel=>exact⟨0+1,by omega,by omega,rfl,hP,hQ⟩
    ·rw [show(7:Int) - ((1:Nat):Int)=6 from rfl];have hy:hF.take (1+1)=hF.take 1++[UInt8.ofNat (l.length * 8 / 281474976710656)]:=by rw[← Hlens.out];rfl
     have hH:(l.length:Int) * 8 / 281474976710656=((UInt8.ofNat (l.length * 8 / 281474976710656)).toNat:Int):=by
      rw[UInt8.toNat_ofNat'];omega
     obtain⟨y,hJ⟩:∃ x,UInt8.ofNat (l.length * 8 / 281474976710656)=x:=⟨_,rfl⟩;rw[hJ]at hy hH;have hN:T++hF.take (1+1)=T2++[y]:=by rw[hy,← hO,List.append_assoc]
     have hV:=zi hN;have hU:=zi hH;have Htl:=zi hM;clear hy hH hJ hN hO hM hY hj
     go_wp2_with(at_builtin;refine zck ?_)
     rw[hU.out];refine zi ?_;refine wpList_append_own _ rfl _ _ 24 rfl (q+1) 5 i0 (.int .u8 0) 1 1 Tryz.underlying24 hf he hd hb rfl (by decide) (.slice ab (n+1) cb) (n+1) (zj T2) rfl (by have h:=HO.out;unfold OB at h;rw[Htl.out]at h;exact h.alloc _) ⟨wr.heap.size,0,none⟩ 1 1 [.int .u8 y.toNat] rfl rfl (qm wr [.int .u8 y.toNat] 5) (by simp[Value.oneCell']) (by unfold maxLen;omega) (by omega) (by rw[zm];omega) ?_;intro v4 w4 hC hE _;obtain⟨hG,hL⟩:=HO.out.push (news:=[y]) (w2:=w4) (v':=v4) ((Fr.refl (M:=NoB)).alloc _) (by rw[Htl.out];exact hC) (by rw[Htl.out];exact hE);rw[← hV.out]at hG;have hP:=zi hG;have hQ:=zi (hX.out.trans' hL);clear hC hE hG hL
     go_wp2_with fail
     go_roundg (gk - 1)
     case measure=>omega
     case rel=>exact⟨1+1,by omega,by omega,rfl,hP,hQ⟩
    ·rw [show(7:Int) - ((2:Nat):Int)=5 from rfl];have hy:hF.take (2+1)=hF.take 2++[UInt8.ofNat (l.length * 8 / 1099511627776)]:=by rw[← Hlens.out];rfl
     have hH:(l.length:Int) * 8 / 1099511627776=((UInt8.ofNat (l.length * 8 / 1099511627776)).toNat:Int):=by
      rw[UInt8.toNat_ofNat'];omega
     obtain⟨y,hJ⟩:∃ x,UInt8.ofNat (l.length * 8 / 1099511627776)=x:=⟨_,rfl⟩;rw[hJ]at hy hH;have hN:T++hF.take (2+1)=T2++[y]:=by rw[hy,← hO,List.append_assoc]
     have hV:=zi hN;have hU:=zi hH;have Htl:=zi hM;clear hy hH hJ hN hO hM hY hj
     go_wp2_with(at_builtin;refine zck ?_)
     rw[hU.out];refine zi ?_;refine wpList_append_own _ rfl _ _ 24 rfl (q+1) 5 i0 (.int .u8 0) 1 1 Tryz.underlying24 hf he hd hb rfl (by decide) (.slice ab (n+2) cb) (n+2) (zj T2) rfl (by have h:=HO.out;unfold OB at h;rw[Htl.out]at h;exact h.alloc _) ⟨wr.heap.size,0,none⟩ 1 1 [.int .u8 y.toNat] rfl rfl (qm wr [.int .u8 y.toNat] 5) (by simp[Value.oneCell']) (by unfold maxLen;omega) (by omega) (by rw[zm];omega) ?_;intro v4 w4 hC hE _;obtain⟨hG,hL⟩:=HO.out.push (news:=[y]) (w2:=w4) (v':=v4) ((Fr.refl (M:=NoB)).alloc _) (by rw[Htl.out];exact hC) (by rw[Htl.out];exact hE);rw[← hV.out]at hG;have hP:=zi hG;have hQ:=zi (hX.out.trans' hL);clear hC hE hG hL
     go_wp2_with fail
     go_roundg (gk - 1)
     case measure=>omega
     case rel=>exact⟨2+1,by omega,by omega,rfl,hP,hQ⟩
    ·rw [show(7:Int) - ((3:Nat):Int)=4 from rfl];have hy:hF.take (3+1)=hF.take 3++[UInt8.ofNat (l.length * 8 / 4294967296)]:=by rw[← Hlens.out];rfl
     have hH:(l.length:Int) * 8 / 4294967296=((UInt8.ofNat (l.length * 8 / 4294967296)).toNat:Int):=by
      rw[UInt8.toNat_ofNat'];omega
     obtain⟨y,hJ⟩:∃ x,UInt8.ofNat (l.length * 8 / 4294967296)=x:=⟨_,rfl⟩;rw[hJ]at hy hH;have hN:T++hF.take (3+1)=T2++[y]:=by rw[hy,← hO,List.append_assoc]
     have hV:=zi hN;have hU:=zi hH;have Htl:=zi hM;clear hy hH hJ hN hO hM hY hj
     go_wp2_with(at_builtin;refine zck ?_)
     rw[hU.out];refine zi ?_;refine wpList_append_own _ rfl _ _ 24 rfl (q+1) 5 i0 (.int .u8 0) 1 1 Tryz.underlying24 hf he hd hb rfl (by decide) (.slice ab (n+3) cb) (n+3) (zj T2) rfl (by have h:=HO.out;unfold OB at h;rw[Htl.out]at h;exact h.alloc _) ⟨wr.heap.size,0,none⟩ 1 1 [.int .u8 y.toNat] rfl rfl (qm wr [.int .u8 y.toNat] 5) (by simp[Value.oneCell']) (by unfold maxLen;omega) (by omega) (by rw[zm];omega) ?_;intro v4 w4 hC hE _;obtain⟨hG,hL⟩:=HO.out.push (news:=[y]) (w2:=w4) (v':=v4) ((Fr.refl (M:=NoB)).alloc _) (by rw[Htl.out];exact hC) (by rw[Htl.out];exact hE);rw[← hV.out]at hG;have hP:=zi hG;have hQ:=zi (hX.out.trans' hL);clear hC hE hG hL
     go_wp2_with fail
     go_roundg (gk - 1)
     case measure=>omega
     case rel=>exact⟨3+1,by omega,by omega,rfl,hP,hQ⟩
    ·rw [show(7:Int) - ((4:Nat):Int)=3 from rfl];have hy:hF.take (4+1)=hF.take 4++[UInt8.ofNat (l.length * 8 / 16777216)]:=by rw[← Hlens.out];rfl
     have hH:(l.length:Int) * 8 / 16777216=((UInt8.ofNat (l.length * 8 / 16777216)).toNat:Int):=by
      rw[UInt8.toNat_ofNat'];omega
     obtain⟨y,hJ⟩:∃ x,UInt8.ofNat (l.length * 8 / 16777216)=x:=⟨_,rfl⟩;rw[hJ]at hy hH;have hN:T++hF.take (4+1)=T2++[y]:=by rw[hy,← hO,List.append_assoc]
     have hV:=zi hN;have hU:=zi hH;have Htl:=zi hM;clear hy hH hJ hN hO hM hY hj
     go_wp2_with(at_builtin;refine zck ?_)
     rw[hU.out];refine zi ?_;refine wpList_append_own _ rfl _ _ 24 rfl (q+1) 5 i0 (.int .u8 0) 1 1 Tryz.underlying24 hf he hd hb rfl (by decide) (.slice ab (n+4) cb) (n+4) (zj T2) rfl (by have h:=HO.out;unfold OB at h;rw[Htl.out]at h;exact h.alloc _) ⟨wr.heap.size,0,none⟩ 1 1 [.int .u8 y.toNat] rfl rfl (qm wr [.int .u8 y.toNat] 5) (by simp[Value.oneCell']) (by unfold maxLen;omega) (by omega) (by rw[zm];omega) ?_;intro v4 w4 hC hE _;obtain⟨hG,hL⟩:=HO.out.push (news:=[y]) (w2:=w4) (v':=v4) ((Fr.refl (M:=NoB)).alloc _) (by rw[Htl.out];exact hC) (by rw[Htl.out];exact hE);rw[← hV.out]at hG;have hP:=zi hG;have hQ:=zi (hX.out.trans' hL);clear hC hE hG hL
     go_wp2_with fail
     go_roundg (gk - 1)
     case measure=>omega
     case rel=>exact⟨4+1,by omega,by omega,rfl,hP,hQ⟩
    ·rw [show(7:Int) - ((5:Nat):Int)=2 from rfl];have hy:hF.take (5+1)=hF.take 5++[UInt8.ofNat (l.length * 8 / 65536)]:=by rw[← Hlens.out];rfl
     have hH:(l.length:Int) * 8 / 65536=((UInt8.ofNat (l.length * 8 / 65536)).toNat:Int):=by
      rw[UInt8.toNat_ofNat'];omega
     obtain⟨y,hJ⟩:∃ x,UInt8.ofNat (l.length * 8 / 65536)=x:=⟨_,rfl⟩;rw[hJ]at hy hH;have hN:T++hF.take (5+1)=T2++[y]:=by rw[hy,← hO,List.append_assoc]
     have hV:=zi hN;have hU:=zi hH;have Htl:=zi hM;clear hy hH hJ hN hO hM hY hj
     go_wp2_with(at_builtin;refine zck ?_)
     rw[hU.out];refine zi ?_;refine wpList_append_own _ rfl _ _ 24 rfl (q+1) 5 i0 (.int .u8 0) 1 1 Tryz.underlying24 hf he hd hb rfl (by decide) (.slice ab (n+5) cb) (n+5) (zj T2) rfl (by have h:=HO.out;unfold OB at h;rw[Htl.out]at h;exact h.alloc _) ⟨wr.heap.size,0,none⟩ 1 1 [.int .u8 y.toNat] rfl rfl (qm wr [.int .u8 y.toNat] 5) (by simp[Value.oneCell']) (by unfold maxLen;omega) (by omega) (by rw[zm];omega) ?_;intro v4 w4 hC hE _;obtain⟨hG,hL⟩:=HO.out.push (news:=[y]) (w2:=w4) (v':=v4) ((Fr.refl (M:=NoB)).alloc _) (by rw[Htl.out];exact hC) (by rw[Htl.out];exact hE);rw[← hV.out]at hG;have hP:=zi hG;have hQ:=zi (hX.out.trans' hL);clear hC hE hG hL
     go_wp2_with fail
     go_roundg (gk - 1)
     case measure=>omega
     case rel=>exact⟨5+1,by omega,by omega,rfl,hP,hQ⟩
    ·rw [show(7:Int) - ((6:Nat):Int)=1 from rfl];have hy:hF.take (6+1)=hF.take 6++[UInt8.ofNat (l.length * 8 / 256)]:=by rw[← Hlens.out];rfl
     have hH:(l.length:Int) * 8 / 256 % 256=((UInt8.ofNat (l.length * 8 / 256)).toNat:Int):=by
      rw[UInt8.toNat_ofNat'];omega
     obtain⟨y,hJ⟩:∃ x,UInt8.ofNat (l.length * 8 / 256)=x:=⟨_,rfl⟩;rw[hJ]at hy hH;have hN:T++hF.take (6+1)=T2++[y]:=by rw[hy,← hO,List.append_assoc]
     have hV:=zi hN;have hU:=zi hH;have Htl:=zi hM;clear hy hH hJ hN hO hM hY hj
     go_wp2_with(at_builtin;refine zck ?_)
     rw[hU.out];refine zi ?_;refine wpList_append_own _ rfl _ _ 24 rfl (q+1) 5 i0 (.int .u8 0) 1 1 Tryz.underlying24 hf he hd hb rfl (by decide) (.slice ab (n+6) cb) (n+6) (zj T2) rfl (by have h:=HO.out;unfold OB at h;rw[Htl.out]at h;exact h.alloc _) ⟨wr.heap.size,0,none⟩ 1 1 [.int .u8 y.toNat] rfl rfl (qm wr [.int .u8 y.toNat] 5) (by simp[Value.oneCell']) (by unfold maxLen;omega) (by omega) (by rw[zm];omega) ?_;intro v4 w4 hC hE _;obtain⟨hG,hL⟩:=HO.out.push (news:=[y]) (w2:=w4) (v':=v4) ((Fr.refl (M:=NoB)).alloc _) (by rw[Htl.out];exact hC) (by rw[Htl.out];exact hE);rw[← hV.out]at hG;have hP:=zi hG;have hQ:=zi (hX.out.trans' hL);clear hC hE hG hL
     go_wp2_with fail
     go_roundg (gk - 1)
     case measure=>omega
     case rel=>exact⟨6+1,by omega,by omega,rfl,hP,hQ⟩
    rw[show(7:Int) - ((7:Nat):Int)=0 from rfl];have hy:hF.take (7+1)=hF.take 7++[UInt8.ofNat (l.length * 8 / 1)]:=by rw[← Hlens.out];rfl
    have hH:(l.length:Int) * 8 % 256=((UInt8.ofNat (l.length * 8 / 1)).toNat:Int):=by
     rw[UInt8.toNat_ofNat'];omega
    obtain⟨y,hJ⟩:∃ x,UInt8.ofNat (l.length * 8 / 1)=x:=⟨_,rfl⟩;rw[hJ]at hy hH;have hN:T++hF.take (7+1)=T2++[y]:=by rw[hy,← hO,List.append_assoc]
    have hV:=zi hN;have hU:=zi hH;have Htl:=zi hM;clear hy hH hJ hN hO hM hY hj
    go_wp2_with(at_builtin;refine zck ?_)
    rw[hU.out];refine zi ?_;refine wpList_append_own _ rfl _ _ 24 rfl (q+1) 5 i0 (.int .u8 0) 1 1 Tryz.underlying24 hf he hd hb rfl (by decide) (.slice ab (n+7) cb) (n+7) (zj T2) rfl (by have h:=HO.out;unfold OB at h;rw[Htl.out]at h;exact h.alloc _) ⟨wr.heap.size,0,none⟩ 1 1 [.int .u8 y.toNat] rfl rfl (qm wr [.int .u8 y.toNat] 5) (by simp[Value.oneCell']) (by unfold maxLen;omega) (by omega) (by rw[zm];omega) ?_;intro v4 w4 hC hE _;obtain⟨hG,hL⟩:=HO.out.push (news:=[y]) (w2:=w4) (v':=v4) ((Fr.refl (M:=NoB)).alloc _) (by rw[Htl.out];exact hC) (by rw[Htl.out];exact hE);rw[← hV.out]at hG;have hP:=zi hG;have hQ:=zi (hX.out.trans' hL);clear hC hE hG hL
    go_wp2_with fail
    go_roundg (gk - 1)
    case measure=>omega
    case rel=>exact⟨7+1,by omega,by omega,rfl,hP,hQ⟩
   obtain rfl:j=8:=by omega
   obtain⟨m,hm⟩:∃ x,(l.length+72) / 64=x:=⟨_,rfl⟩
   have AN:T2=zqd l:=by
    rw[← hO,List.take_of_length_le (by rw[Ah.out];exact ja _),← HT.out,← HZ.out,← Hlens.out];rfl
   have AV:n+8=m * 64:=by rw[← hM,AN,zoe,hm,Nat.mul_comm]
   rw[AN]at HO hM;rw[AV]at hM;rw[AV];have hm1:1≤m:=by omega
   have hm2:m≤10000:=by omega
   obtain⟨PD,A9⟩:∃ x,zqd l=x:=⟨_,rfl⟩;rw[A9]at HO hM;have Bu:=zi (And.intro A9 hm);have Htl:=zi hM
   obtain ⟨gg,rfl,hgl,CC,CB,AW⟩:∃ gg,ab=some ⟨gg,0,none⟩∧gg<wr.heap.size∧m * 64≤cb∧cb≤maxLen∧∀ (k:Nat) (x:UInt8),PD[k]? = some x→wr.cell? ⟨gg,k,none⟩=some (.int .u8 x.toNat):=by
    rcases HO.out.2 with⟨-,h0⟩ | ⟨gg,cp,cur,e1,e2,e3,e4,e5,-⟩
    ·omega
    injection e1 with e1 e1' e1''
    subst e1 e1'';refine⟨gg,rfl,ju e3,by omega,e5,fun k x hk=>?_⟩;have h:=HO.out.cells (g:=gg) rfl k (.int .u8 x.toNat) (by unfold zj;rw[List.getElem?_map,hk];rfl);rw[Addr.add_lit,Nat.zero_add]at h;exact h
   have A7:wr.heap[b]? = some (.cells (zc4 (.slice (some ⟨tb,0,none⟩) 64 tcap) s0) 162 (0,0)):=hX.out.block _ _ Bq.out (fun h=>by omega);have Ay:wr.heap[q]? = some (.cells #[.pointer (some ⟨b,0,none⟩)] 155 (0,0)):=hX.out.block _ _ Hpw.out (fun h=>by omega);have p0:wr.cell? ⟨q,0,none⟩=some (.pointer (some ⟨b,0,none⟩)):=by simp[World.cell?,Ay]
   have BP:wr.rangeAt b 2 (wkC s0).toList:=fun k x hk=>by
    have h8:k<8:=by
     rcases Nat.lt_or_ge k 8 with h | h
     ·exact h
     rw[List.getElem?_eq_none (by simpa[wkC] using h)]at hk;cases hk
    have hR:k=0∨k=1∨k=2∨k=3∨k=4∨k=5∨k=6∨k=7:=by omega
    rcases hR with rfl | rfl | rfl | rfl | rfl | rfl | rfl | rfl<;>(obtain rfl:=Option.some.inj hk;simp[World.cell?,A7,zc4])
   have Br:=zi A7;have Hpr:=zi Ay;have Bo:=zi BP;have Hrow:=zi AW;have Bn:Hid ((Tryz.prog.info? 160).map (·.size)=some (wkC s0).toList.length):=zi (by kernel_rfl);have Ag:Hid ((Tryz.prog.info? 160).map (·.size)=some (wkC s0).size):=zi (by kernel_rfl);have Bz:Hid ((wkC s0).all (·.oneCell')=true):=zi (by simp[wkC,Value.oneCell']);have BC:Fr (fun k _=>q+1≤k) w2 (wr.alloc (.cells (wkC s0) 160)):=hX.out.alloc _;have Af:=zo wr (.cells (wkC s0) 160);clear A7 Ay BP AW hO AN hM A9 hY hj BZ;obtain⟨FC,Ap⟩:∃ x,wkC s0=x:=⟨_,rfl⟩;have Bf:FC.size=8:=by rw[← Ap];rfl
   rw[Ap]at Bo Bn Ag Bz BC Af;have CJ:Hid ((#[.int .u32 0,.int .u32 0,.int .u32 0,.int .u32 0,.int .u32 0,.int .u32 0,.int .u32 0,.int .u32 0]:Array Value).size=FC.size):=zi (by rw[Bf];rfl);have CQ:=zi Ap;clear Ap Bf
   go_upto_region 16 with(first
    | (with_reducible refine wpList_load_mid rfl 160 _ rfl b 2 rfl FC.toList (.array 8 159) Bo.out Tryz.underlying160 rfl Bn.out ?_)
    | ((with_reducible refine qc (w:=wr) rfl 160 _ _ rfl #[.int .u32 0,.int .u32 0,.int .u32 0,.int .u32 0,.int .u32 0,.int .u32 0,.int .u32 0,.int .u32 0] FC wr.heap.size rfl ?_ ?_ Ag.out CJ.out Bz.out ?_);rfl;rfl))
   obtain⟨B,hB⟩:∃ x,wr.heap.size=x:=⟨_,rfl⟩;rw[hB]at Af ⊢;obtain⟨Wb,An⟩:∃ V,wr.alloc (.cells FC 160)=V:=⟨_,rfl⟩;have hsb:Wb.heap.size=B+1:=by rw[← An,zm,hB]
   rw[An]at BC Af ⊢;have hqB:q+1≤B:=by have:=BF.out;omega
   have Ae:Below B wr Wb:=by
    rw[← An,← hB];exact(Below.refl _ _).alloc (ja _) _
   have Hck:=zi (zsr (some ⟨gg,0,none⟩) (m * 64) cb 64 (by omega) Wb);rw[hsb]at Hck;have CV:=zi Af;have BK:=zi Ae;have HB:=zi hB;clear BC Af Ae An AM
   go_wp2_with fail
   refine Hck.out.mono ?_;rintro e Wc ⟨rfl,Ad⟩;have hsc:Wc.heap.size=B+3:=by rw[Ad];simp[hsb]
   have BB:Fr NoB Wb Wc:=by rw[Ad];exact(Fr.refl.alloc _).alloc _
   have BY:Wc.cell? ⟨B+1,0,none⟩=some (.slice (some ⟨gg,0,none⟩) (m * 64) cb):=by
    have h1:=((Fr.refl (M:=NoB)).alloc (.cells #[.int .i64 64] 3)).block _ _ (zo Wb (.cells #[.slice (some ⟨gg,0,none⟩) (m * 64) cb] 24)) (fun h=>h);rw[← Ad,hsb]at h1;simp[World.cell?,h1]
   have BX:Wc.cell? ⟨B+2,0,none⟩=some (.int .i64 64):=by
    have h1:=zo (Wb.alloc (.cells #[.slice (some ⟨gg,0,none⟩) (m * 64) cb] 24)) (.cells #[.int .i64 64] 3);rw[← Ad,zm,hsb]at h1;simp[World.cell?,h1]
   have CL:=zi BY;have CK:=zi BX;have Bi:Below B wr Wc:=BK.out.trans (BB.below (by omega) (fun _ _ _ h=>h.elim));have Bj:=BB.block _ _ CV.out (fun h=>h);have CU:=zi Bi;have By:=zi Bj;clear BY BX BB Ad Hck Bi Bj
   go_wp2_with fail
   refine(wpIn_wide (n:=5)).1 ?_
   refine wpIn_rangeFunc_ownH (w:=Wc) rfl (by omega) (gf:=211) (lb:=#[.pointer (some ⟨B+1,0,none⟩),.pointer (some ⟨B+1+1,0,none⟩)]) rfl trivial (enters_of Tryz.func211 (by kernel_rfl) rfl)
    (zi3 Fence.wide 4 trivial rfl (by omega) (B+1) (B+1+1) gg 0 cb 64 m (by omega) (by omega) (by omega) CC CB (by omega) Wc (by omega) (by omega) CL.out CK.out)
    Ck2.trans (fun W l o o' hl ho hc hw=>Ck2.put (n₀:=B+3) (by omega) (by omega) W l o o' (by omega) ho hc hw) (Below.refl _ _) (fun _=>rfl)
    (fun AG V=>((∃ cs,V.heap[B]? = some (.cells cs 160 (0,0)))∧V.rangeAt B 0 (wkC (dSt PD s0 AG)).toList)∧Below B wr V∧Wc.heap.size≤V.heap.size)
    (fun c AG V=>False)
    ?hI (fun _ s A B Aj hs hg hr=>hs.elim)
    ?h0
    (fun x a' V=>a'={ tmps:=#[.pointer (some ⟨b,0,none⟩),.slice (some ⟨g,0,none⟩) vs.length cap,.pointer (some ⟨q,0,none⟩),undef,.slice none 0 0,.slice (some ⟨gg,0,none⟩) (m * 64) cb,.int .u64 ((List.length l:Nat):Int),.int .i64 64,.int .i64 (-1),.pointer (some ⟨B,0,none⟩),.slice (some ⟨gg,x.val * 64,none⟩) 64 64,undef,undef,undef,undef,.slice (some ⟨g,0,none⟩) vs.length cap,.slice a2 (List.length l) c2,.slice a2 (List.length l) c2,.int .i64 ((List.length l:Nat):Int),.int .u64 ((List.length l:Nat):Int),.pointer (some ⟨b,0,none⟩),.pointer (some ⟨b,0,none⟩),.pointer (some ⟨b,0,none⟩),.int .i64 32,.int .i64 512,.int .i64 64,.slice a2 (List.length l) c2,.slice (some ⟨w2.heap.size,0,none⟩) 1 1,.slice a3 (List.length l+1) c3,.slice az n cz,.int .i64 (n:Int),.int .i64 64,.int .i64 (r:Int),.int .i64 64,.pointer (some ⟨b,0,none⟩),.pointer (some ⟨b,0,none⟩),.pointer (some ⟨b,22,none⟩),.int .i64 8,.int .i64 56,.bool false,u40,u41,u42,.pointer (some ⟨b,0,none⟩),.pointer (some ⟨b,0,none⟩),.pointer (some ⟨b,22,none⟩),.int .i64 8,.int .i64 7,.int .i64 (-1),.bool false,u50,u51,u52,u53,u54,u55,u56,u57,u58,u59,u60,u61,u62,u63,u64,u65,u66,u67,u68,u69,u70,u71,u72,u73,u74,u75,.pointer (some ⟨b,0,none⟩),.pointer (some ⟨b,0,none⟩),.pointer (some ⟨b,2,none⟩),.agg FC,.slice (some ⟨gg,0,none⟩) (m * 64) cb,.int .i64 64,.func (.func 211) #[] #[.pointer (some ⟨B+1,0,none⟩),.pointer (some ⟨B+1+1,0,none⟩)],.slice (some ⟨gg,x.val * 64,none⟩) 64 64,undef,undef,undef,undef,undef,undef,undef,undef,undef,undef,undef,undef,undef,undef,undef,undef,undef,undef,undef,undef,undef,undef,undef,undef,undef,undef],defers:=[] })
    (fun x a' s A B Aj hs hg hr=>hs) ?assign ?body ?done ?stop
   case hI =>
    rintro s A B' Aj ⟨⟨⟨cs,h1⟩,h2⟩,h5,h6⟩ hg BO;have Bk:=zas (β:=Unit) _ _ _ _ () A B' Aj h1 hg (fun r e=>(BO r e).2);exact⟨⟨⟨cs,Bk⟩,ze4 h2 (Bk.trans h1.symm)⟩,ownFrom_below (β:=Unit) (n₀:=B) (B:=Wc.heap.size) (w₀:=wr) (by omega) (by omega) () A B' Aj h5 hg BO,Nat.le_trans h6 hg.size⟩
   case h0 =>
    exact⟨⟨⟨_,By.out⟩,by have h:=j8 By.out;rw[← CQ.out]at h;exact h⟩,CU.out,ja _⟩
   case assign =>
    rintro l AG x V K hI hK;have HI:=zi hI;have HK:=zi hK;clear hI hK;unfold zmb
    gi_wp2
    exact HK.out _ _ (KeepsFrom.refl _ _) Ck2.refl HI.out rfl
   case body =>
    rintro l' AG x a' V hl ⟨r',B8⟩ ⟨⟨⟨cs,AB⟩,AC⟩,AF,AM⟩ rfl hY;have Ai:=zi AF;have Hsz:=zi AM;have hx:=x.isLt;obtain⟨st,AI⟩:∃ z,dSt PD s0 AG=z:=⟨_,rfl⟩;have hv:st.lt:=by rw[← AI];exact zvf PD AG s0 Hslt.out
    have AK:dSt PD s0 (AG++[x])=zbf kShort st ((PD.drop (x.val * 64)).take 64):=by rw[← AI];unfold dSt;rw[List.foldl_append];rfl
    rw[AI]at AC;have Az:((PD.drop (x.val * 64)).take 64).length=64:=by rw[List.length_take,List.length_drop,Htl.out];omega
    have Be:=(AF.block b (by omega)).trans Br.out;have AX:=(AF.block q (by omega)).trans Hpr.out;have p0V:V.cell? ⟨q,0,none⟩=some (.pointer (some ⟨b,0,none⟩)):=by simp[World.cell?,AX]
    have AA:∀ (j:Nat) (y:UInt8),((PD.drop (x.val * 64)).take 64)[j]? = some y→V.cell? ⟨gg,x.val * 64+j,none⟩=some (.int .u8 y.toNat):=fun j y hy=>by
     have A2:j<64:=by
      rcases Nat.lt_or_ge j 64 with h | h
      ·exact h
      rw[List.getElem?_eq_none (by rw[Az];exact h)]at hy;cases hy
     rw[List.getElem?_take,if_pos A2,List.getElem?_drop]at hy;have h:=Hrow.out _ _ hy;have h6:gg<wr.heap.size:=World.block_lt_of_cell? _ _ h;exact(AF.cell (p:=⟨gg,x.val * 64+j,none⟩) (by show gg<B;omega)).trans h
    have AH:∀ i,i<64→V.cell? ⟨tb,i,none⟩=some (.int .u32 (kShort.getD i 0:Nat)):=fun i hi=>by
     have h:=Htab.out i hi;have h6:tb<w.heap.size:=World.block_lt_of_cell? _ _ h;have h7:=Hq.out;have h0:=Fr.cell hX.out (Fr.cell BJ.out (Fr.cell Au.out h)) (fun _ (h5:q+1≤tb)=>by omega);exact(AF.cell (p:=⟨tb,i,none⟩) (by show tb<B;omega)).trans h0
    have BS:x.val * 64≤maxLen:=by unfold maxLen;omega
    have BT:=(callsIn_wide (n:=2)).2 (zwd b tb tcap gg (x.val * 64) 64 s0 st _ V (by decide) (ja _) BS Az hv AH AA Be);have Hpc:=zi BT;have h7:V.cell? ⟨B,7,none⟩=some (.int .u32 st.h):=AC 7 _ rfl
    have Ba:8≤cs.size:=by
     rcases Nat.lt_or_ge 7 cs.size with h | h
     ·exact h
     simp[World.cell?,AB,h]at h7
    obtain⟨C1,AE⟩:∃ X,wkC st=X:=⟨_,rfl⟩;obtain⟨C2,AQ⟩:∃ X,wkC (zbf kShort st ((PD.drop (x.val * 64)).take 64))=X:=⟨_,rfl⟩;have BL:Hid ((Tryz.prog.info? 160).map (·.size)=some C1.toList.length):=zi (by rw[← AE];kernel_rfl);have CX:Hid ((Tryz.prog.info? 160).map (·.size)=some C2.size):=zi (by rw[← AQ];kernel_rfl);have CY:Hid (C2.all (·.oneCell')=true):=zi (by rw[← AQ];simp[wkC,Value.oneCell']);have CW:Hid (C2.size=8):=zi (by rw[← AQ];rfl);rw[AE]at AC;rw[AE,AQ]at Hpc;rw[← AK]at AQ;have CS:=zi AQ;have Hst:=zi AC;have Hblk:=zi AB;have Hcs:=zi Ba;clear AB AC Ba h7 AE AQ BT AA AH Az Be AX AK hv BS AI B8 hl AF AM hY
    gi_wp2_with (with_reducible refine zgr rfl 160 _ rfl B 0 rfl C1.toList (.array 8 159) Hst.out Tryz.underlying160 rfl BL.out ?_)
    refine⟨trivial,CallsIn.mono (F:=Fence.wide.inRound l') Hpc.out ?_⟩;rintro e V2 ⟨rfl,BD⟩;have A4:=BD.block _ _ Hblk.out (fun h=>h);have Bm:Hid (V2.there B 0 C2.size):=zi (qa A4 (by rw[CW.out];exact Hcs.out));have CN:=zi A4;have AU:=zi BD;clear A4 BD
    gi_wp2_with (refine zfk rfl 160 _ _ rfl B 0 C2 rfl rfl Bm.out CX.out CY.out ?_)
    have AP:Fr (fun k _=>k=B) V (V2.setCells B 0 C2.toList):=(AU.out.mono (fun _ _ h=>h.elim)).trans' (jr B _ _ _);obtain⟨CI,CE⟩:=zg3 C2.toList 0 V2 _ CN.out;have B7:=World.rangeAt_setCells_same V2 B 0 C2.toList (by have:=Bm.out;simpa using this);have CF:=Hsz.out;have B6:=AP.size;obtain⟨o1,BW⟩:∃ o,V.heap[B+1]? = some o:=⟨_,Array.getElem?_eq_getElem (by omega)⟩;obtain⟨o2,BV⟩:∃ o,V.heap[B+1+1]? = some o:=⟨_,Array.getElem?_eq_getElem (by omega)⟩;refine⟨⟨AP.size,fun k o hk ho _=>AP.block k o ho (fun h=>by omega)⟩,⟨AP.size,?_,?_⟩,⟨⟨CI,CE⟩,?_⟩,Ai.out.trans (AP.below (by omega) (fun k o hk h=>by omega)),Nat.le_trans CF B6⟩
    ·exact(AP.block _ _ BW (fun h=>by omega)).trans BW.symm
    ·exact(AP.block _ _ BV (fun h=>by omega)).trans BV.symm
    rw[CS.out];exact B7
   case done =>
    rintro D ys V hD rfl ⟨⟨⟨cs,AB⟩,AC⟩,AF,AM⟩ hK;have Ai:=zi AF;have HK:=zi hK;rw[zsq]at AC
    have AD:zwh s0 l=((za9 64 m PD).foldl (zbf kShort) s0).list.flatMap zco:=by
     unfold zwh;rw[Bu.out.2,Bu.out.1]
    rw[Bt.out]at AD;obtain⟨st,AI⟩:∃ z,(za9 64 m PD).foldl (zbf kShort) s0=z:=⟨_,rfl⟩;rw[AI]at AC AD;have HD:=zi AD;have Hst:=zi AC;have Hsz:=zi AM
    have hv:st.lt:=by
     rw[← AI,← zsq];exact zvf PD _ s0 Hslt.out
    have Hstl:=zi hv;clear AB AC AI AF hK AD AM hv;obtain⟨C1,AE⟩:∃ X,wkC st=X:=⟨_,rfl⟩;rw[AE]at Hst;have BL:Hid ((Tryz.prog.info? 160).map (·.size)=some C1.toList.length):=zi (by rw[← AE];kernel_rfl);have CT:=zi AE;clear AE
    have BQ:q<V.heap.size∧D<V.heap.size∧b<V.heap.size:=by
     have h1:=Hsz.out;have h2:=HK.out;exact⟨by omega,ju h2,by omega⟩
    have AR:=zi BQ;clear BQ
    go_wp2_with(with_reducible refine wpList_load_mid rfl 160 _ rfl B 0 rfl C1.toList (.array 8 159) Hst.out Tryz.underlying160 rfl BL.out ?_)
    obtain⟨wn,B2⟩:∃ x:World,x=wr:=⟨_,rfl⟩;subst B2
    go_loopg [11,89] 9 (fun gf vo vj wr=>∃ j:Nat,vj = .int .i64 j∧j≤8∧j+gf=9∧Hid (OB V.heap.size ((st.list.take j).flatMap zco) vo wr)∧Hid (Fr (fun k _=>V.heap.size≤k) V wr))
    case atStart=>exact⟨0,rfl,by omega,by omega,zi (OB.nil0 _ _),zi Fr.refl⟩
    case round =>
     obtain⟨j,rfl,hj,BZ,HO,AS⟩:=hrel;have AX:=AS.out.block _ _ ((Ai.out.block q (by omega)).trans Hpr.out) (fun h=>by have:=AR.out.1;omega);have Bc:=AS.out.block _ _ ((Ai.out.block b (by omega)).trans Br.out) (fun h=>by have:=AR.out.2.2;omega);have p0:wr.cell? ⟨q,0,none⟩=some (.pointer (some ⟨b,0,none⟩)):=by simp[World.cell?,AX]
     have b0:wr.cell? ⟨b,0,none⟩=some (.int .i64 32):=by simp[World.cell?,Bc,zc4]
     have Hp0:=zi p0;clear AX Bc;by_cases hY:j<8
     ·have A0:decide ((j:Int)<8)=true:=decide_eq_true (by omega);have CH:∀ w,(Instr.index 160 (.agg C1) (.int .i64 (j:Int))).run Tryz.prog w = .ok (.int .u32 ((st.list.getD j 0:Nat):Int)) w:=by rw[← CT.out];exact zw9 st j hY
      have hx:=zvn Hstl.out j;have Al:=zs8 st j hY;obtain⟨x,BN⟩:∃ x,st.list.getD j 0=x:=⟨_,rfl⟩;rw[BN]at CH hx Al;obtain⟨T0,A6⟩:∃ X,(st.list.take j).flatMap zco=X:=⟨_,rfl⟩;rw[A6]at HO Al;obtain⟨ao,co,rfl⟩:=HO.out.form;have Htk:=zi Al;have CO:=zi A6;clear Al A6 BN
      go_wp2_with fail
      obtain⟨wm,B3⟩:∃ x:World,x=wr:=⟨_,rfl⟩;subst B3;obtain⟨go,CA⟩:∃ x:Nat,x=gk:=⟨_,rfl⟩;subst CA;have CP:Hid (OB V.heap.size (T0++(zco x).take 0) (.slice ao T0.length co) wm):=zi (by rw[List.take_zero,List.append_nil];exact HO.out)
      have hTl:T0.length≤28:=by
       rw[← CO.out];exact zvm st j hY
      go_loopg [11,14] 5 (fun gf vo vi wr=>∃ k:Nat,vi = .int .i64 (24 - 8 * (k:Int))∧k≤4∧k+gf=5∧Hid (OB V.heap.size (T0++(zco x).take k) vo wr)∧Hid (Fr (fun k _=>V.heap.size≤k) V wr))
      case atStart=>exact⟨0,rfl,by omega,by omega,CP,AS⟩
      case round =>
       obtain⟨k,rfl,hk,hkg,hh,AT⟩:=hrel;obtain⟨ab,As,Av⟩:=hh.out.form;subst Av;have hszk:=AT.out.size;have hM:(T0++(zco x).take k).length=T0.length+k:=by rw[List.length_append,List.length_take,show(zco x).length=4 from rfl];omega
       by_cases hk4:k<4
       ·obtain ⟨t2,B5⟩:∃ z,T0.length+k=z:=⟨_,rfl⟩;have ht28:t2≤31:=by omega
        rw[B5]at hM;obtain⟨T2,hO⟩:∃ X,T0++(zco x).take k=X:=⟨_,rfl⟩;rw[hO]at hh hM;rw[hO,hM];have hR:k=0∨k=1∨k=2∨k=3:=by omega
        rcases hR with rfl | rfl | rfl | rfl
        ·have hH:(x:Int) / 16777216=((UInt8.ofNat (x / 2 ^ 24)).toNat:Int):=by
          rw[UInt8.toNat_ofNat'];omega
         obtain⟨y,hJ⟩:∃ z,UInt8.ofNat (x / 2 ^ 24)=z:=⟨_,rfl⟩;rw[hJ]at hH
         have hN:T0++(zco x).take (0+1)=T2++[y]:=by
          rw[← hO,← hJ,List.append_assoc];rfl
         have hV:=zi hN;have hU:=zi hH;have Htl:=zi hM;clear hH hJ hN hO hM
         go_wp2_with(at_builtin;refine zck ?_)
         rw[hU.out];refine zi ?_;refine wpList_append_own _ rfl _ _ 24 rfl V.heap.size 5 i0 (.int .u8 0) 1 1 Tryz.underlying24 hf he hd hb rfl (by decide) (.slice ab t2 As) t2 (zj T2) rfl (by have h:=hh.out;unfold OB at h;rw[Htl.out]at h;exact h.alloc _) ⟨wr.heap.size,0,none⟩ 1 1 [.int .u8 y.toNat] rfl rfl (qm wr [.int .u8 y.toNat] 5) (by simp[Value.oneCell']) (by unfold maxLen;omega) (by omega) (by rw[zm];omega) ?_;intro v4 w4 hC hE _;obtain⟨hG,hL⟩:=hh.out.push (news:=[y]) (w2:=w4) (v':=v4) ((Fr.refl (M:=NoB)).alloc _) (by rw[Htl.out];exact hC) (by rw[Htl.out];exact hE);rw[← hV.out]at hG;have hP:=zi hG;have hQ:=zi (AT.out.trans' hL);clear hC hE hG hL
         go_wp2_with fail
         go_roundg (gk - 1)
         case measure=>omega
         case rel=>exact⟨0+1,rfl,by omega,by omega,hP,hQ⟩
        ·have hH:(x:Int) / 65536 % 256=((UInt8.ofNat (x / 2 ^ 16)).toNat:Int):=by
          rw[UInt8.toNat_ofNat'];omega
         obtain⟨y,hJ⟩:∃ z,UInt8.ofNat (x / 2 ^ 16)=z:=⟨_,rfl⟩;rw[hJ]at hH
         have hN:T0++(zco x).take (1+1)=T2++[y]:=by
          rw[← hO,← hJ,List.append_assoc];rfl
         have hV:=zi hN;have hU:=zi hH;have Htl:=zi hM;clear hH hJ hN hO hM
         go_wp2_with(at_builtin;refine zck ?_)
         rw[hU.out];refine zi ?_;refine wpList_append_own _ rfl _ _ 24 rfl V.heap.size 5 i0 (.int .u8 0) 1 1 Tryz.underlying24 hf he hd hb rfl (by decide) (.slice ab t2 As) t2 (zj T2) rfl (by have h:=hh.out;unfold OB at h;rw[Htl.out]at h;exact h.alloc _) ⟨wr.heap.size,0,none⟩ 1 1 [.int .u8 y.toNat] rfl rfl (qm wr [.int .u8 y.toNat] 5) (by simp[Value.oneCell']) (by unfold maxLen;omega) (by omega) (by rw[zm];omega) ?_;intro v4 w4 hC hE _;obtain⟨hG,hL⟩:=hh.out.push (news:=[y]) (w2:=w4) (v':=v4) ((Fr.refl (M:=NoB)).alloc _) (by rw[Htl.out];exact hC) (by rw[Htl.out];exact hE);rw[← hV.out]at hG;have hP:=zi hG;have hQ:=zi (AT.out.trans' hL);clear hC hE hG hL
         go_wp2_with fail
         go_roundg (gk - 1)
         case measure=>omega
         case rel=>exact⟨1+1,rfl,by omega,by omega,hP,hQ⟩
        ·have hH:(x:Int) / 256 % 256=((UInt8.ofNat (x / 2 ^ 8)).toNat:Int):=by
          rw[UInt8.toNat_ofNat'];omega
         obtain⟨y,hJ⟩:∃ z,UInt8.ofNat (x / 2 ^ 8)=z:=⟨_,rfl⟩;rw[hJ]at hH
         have hN:T0++(zco x).take (2+1)=T2++[y]:=by
          rw[← hO,← hJ,List.append_assoc];rfl
         have hV:=zi hN;have hU:=zi hH;have Htl:=zi hM;clear hH hJ hN hO hM
         go_wp2_with(at_builtin;refine zck ?_)
         rw[hU.out];refine zi ?_;refine wpList_append_own _ rfl _ _ 24 rfl V.heap.size 5 i0 (.int .u8 0) 1 1 Tryz.underlying24 hf he hd hb rfl (by decide) (.slice ab t2 As) t2 (zj T2) rfl (by have h:=hh.out;unfold OB at h;rw[Htl.out]at h;exact h.alloc _) ⟨wr.heap.size,0,none⟩ 1 1 [.int .u8 y.toNat] rfl rfl (qm wr [.int .u8 y.toNat] 5) (by simp[Value.oneCell']) (by unfold maxLen;omega) (by omega) (by rw[zm];omega) ?_;intro v4 w4 hC hE _;obtain⟨hG,hL⟩:=hh.out.push (news:=[y]) (w2:=w4) (v':=v4) ((Fr.refl (M:=NoB)).alloc _) (by rw[Htl.out];exact hC) (by rw[Htl.out];exact hE);rw[← hV.out]at hG;have hP:=zi hG;have hQ:=zi (AT.out.trans' hL);clear hC hE hG hL
         go_wp2_with fail
         go_roundg (gk - 1)
         case measure=>omega
         case rel=>exact⟨2+1,rfl,by omega,by omega,hP,hQ⟩
        have hH:(x:Int) % 256=((UInt8.ofNat (x)).toNat:Int):=by
         rw[UInt8.toNat_ofNat'];omega
        obtain⟨y,hJ⟩:∃ z,UInt8.ofNat (x)=z:=⟨_,rfl⟩;rw[hJ]at hH
        have hN:T0++(zco x).take (3+1)=T2++[y]:=by
         rw[← hO,← hJ,List.append_assoc];rfl
        have hV:=zi hN;have hU:=zi hH;have Htl:=zi hM;clear hH hJ hN hO hM
        go_wp2_with(at_builtin;refine zck ?_)
        rw[hU.out];refine zi ?_;refine wpList_append_own _ rfl _ _ 24 rfl V.heap.size 5 i0 (.int .u8 0) 1 1 Tryz.underlying24 hf he hd hb rfl (by decide) (.slice ab t2 As) t2 (zj T2) rfl (by have h:=hh.out;unfold OB at h;rw[Htl.out]at h;exact h.alloc _) ⟨wr.heap.size,0,none⟩ 1 1 [.int .u8 y.toNat] rfl rfl (qm wr [.int .u8 y.toNat] 5) (by simp[Value.oneCell']) (by unfold maxLen;omega) (by omega) (by rw[zm];omega) ?_;intro v4 w4 hC hE _;obtain⟨hG,hL⟩:=hh.out.push (news:=[y]) (w2:=w4) (v':=v4) ((Fr.refl (M:=NoB)).alloc _) (by rw[Htl.out];exact hC) (by rw[Htl.out];exact hE);rw[← hV.out]at hG;have hP:=zi hG;have hQ:=zi (AT.out.trans' hL);clear hC hE hG hL
        go_wp2_with fail
        go_roundg (gk - 1)
        case measure=>omega
        case rel=>exact⟨3+1,rfl,by omega,by omega,hP,hQ⟩
       obtain rfl:k=4:=by omega
       have AL:T0++(zco x).take 4=(st.list.take (j+1)).flatMap zco:=Htk.out.symm;rw[AL]at hh ⊢;clear AL hM
       go_wp2_with fail
       go_roundg (go - 1)
       case measure=>omega
       case rel=>exact⟨j+1,by simp,by omega,by omega,hh,AT⟩
     obtain rfl:j=8:=by omega
     have A0:decide (((8:Nat):Int)<8)=false:=by decide
     have Ac:(st.list.take 8).flatMap zco=PP:=by rw[HD.out];rfl
     rw[Ac]at HO;have Bh:=AS.out.block _ _ HK.out (fun h=>by have:=AR.out.2.1;omega);have h1:=Hq.out;have h2:=BF.out;have h3:=AR.out.1;have h4:=AS.out.size;have Bd:Below q w wr:=((((Au.out.trans' BJ.out).below (by omega) (fun _ _ _ h=>h.elim)).trans (hX.out.below (by omega) (fun k o _ h=>by omega))).trans (Ai.out.mono (by omega))).trans (AS.out.below (by omega) (fun k o _ h=>by omega));have Bw:=zi Bh;have CM:=zi Bd;have HqD:Hid (q≤D):=zi (by omega);obtain⟨ao,co,rfl⟩:=HO.out.form;clear Bh Bd h1 h2 h3 h4 Ac
     go_wp2_with fail
     refine⟨by simp,.inl ⟨_,_,rfl,run_takeDeferred Bw.out,?_⟩⟩;have Bb:Below q w (wr.putObj D (.deferred none)):=CM.out.trans (belowK_b (w:=Wc) (by omega) wr D _ _ hD Bw.out rfl rfl)
     have CG:OB q PP (.slice ao (List.length PP) co) (wr.putObj D (.deferred none)):=by
      refine OB.base (B:=V.heap.size) ?_ (by have:=AR.out.1;omega);refine zdc HO.out (fun k hk=>?_)
      have hkV:V.heap.size≤k:=by
       rcases HO.out.2 with⟨h,_⟩ | ⟨g',cap',cur',e',hb',_⟩
       ·rw[h]at hk;cases hk
       rw[e']at hk;cases hk;exact hb'
      unfold World.putObj;simp only;rw[Array.getElem?_setIfInBounds_ne (by have:=AR.out.2.1;omega)]
     rw[← Hq.out]at Bb;exact⟨.slice ao (List.length PP) co,results_tmp (t:=4) rfl _ _ _,_,rfl,by rw[Hq.out];exact CG,Fr.ofBelow Bb⟩
   case stop =>
    intro D c AG V hD hp h;exact h.elim
theorem zyt (S:Nat→Prop)(vs:List (Value × Bs))(g cap b tb tcap:Nat)(s0:Wk)(w:World)(hg:∀ i (hi:i<vs.length),w.cell? ⟨g,i,none⟩=some vs[i].1)(hsb:∀ x∈vs,SB S x.2 x.1 w)(hnil:∀ x∈vs,∀ n c,x.1 = .slice none n c→c=0)(hn:vs.length≤1000)(ht:tot vs≤500000)
 (hslt:s0.lt) (htab:∀ i,i<64→w.cell? ⟨tb,i,none⟩=some (.int .u32 (kShort.getD i 0:Nat))) (hS:w.heap[b]? = some (.cells (zc4 (.slice (some ⟨tb,0,none⟩) 64 tcap) s0) 162 (0,0))) :
 Calls Tryz.prog 118 #[.pointer (some ⟨b,0,none⟩),.slice (some ⟨g,0,none⟩) vs.length cap] w fun e w'=>∃ v,e = .returned v∧OB w.heap.size (zwh s0 (flat vs)) v w'∧Fr NoB w w' :=
 callsIn_wide.1 (zx9 S vs g cap b tb tcap s0 w hg hsb hnil hn ht hslt htab hS)
end Go.Proofs.YtffggpplnjibgaaGreatDoor
