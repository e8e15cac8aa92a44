/-
 The walk of sum.shape's digest (words of 32 bits).
-/
import Derived.Test.YtffggpplnjibgaaGreatDoorKShaPiece
import Derived.Test.YtffggpplnjibgaaGreatDoorKConcat
import Derived.Test.YtffggpplnjibgaaGreatDoorKLarge16
open Go.Lib renaming hid→zi,byteCells→zj
open Go.World renaming size_alloc→zm
open Go renaming heap_alloc_new→zo
open Nat renaming le_refl→ja
namespace Go.Proofs.YtffggpplnjibgaaGreatDoor
set_option linter.unusedVariables false
set_option linter.unusedSimpArgs false
set_option linter.unusedSectionVars false
set_option maxRecDepth 100000
set_option maxHeartbeats 8000000
open Go.RowKit Go.Shelf Go.Sort
variable [OldK]
attribute [local go_sem] Oper.semAt_some
def zpz (s:Wk) (l:Bs):Bs:=((zaz 64 ((l.length+72) / 64) (zqi l)).foldl (zbg kShort) s).list.flatMap zbl
def dSt {m:Nat} (PD:Bs) (s:Wk) (pre:List (Fin m)):Wk:=pre.foldl (fun s i=>zbg kShort s ((PD.drop (i.val * 64)).take 64)) s
theorem zpf {m:Nat} (PD:Bs) (pre:List (Fin m)):∀ s:Wk,s.lt→(dSt PD s pre).lt:=by
 induction pre with
 | nil=>exact fun s h=>h
 | cons x pre ih =>
   intro s _
   have h:(zbg kShort s ((PD.drop (x.val * 64)).take 64)).lt:=by
    unfold zbg;exact Wk.add_lt _ _
   have h2:=ih _ h;unfold dSt at h2 ⊢;rw[List.foldl_cons];exact h2
theorem zm2 (m:Nat) (PD:Bs) (s:Wk):dSt PD s (List.finRange m)=(zaz 64 m PD).foldl (zbg kShort) s:=by
 have h:zaz 64 m PD=(List.finRange m).map (fun i=>(PD.drop (i.val * 64)).take 64):=by
  apply List.ext_getElem?;intro i;rw[List.getElem?_map];rcases Nat.lt_or_ge i m with h | h
  ·rw[zgg _ _ _ _ h,List.getElem?_eq_getElem (by simpa using h)];simp
  rw[List.getElem?_eq_none (l:=zaz 64 m PD) (by rw[zd9];exact h),List.getElem?_eq_none (l:=List.finRange m) (by simpa using h)];rfl
 rw[h,List.foldl_map];rfl
theorem zeh {b:Nat} {e:TypeId} {f:Nat × Nat}:∀ (vs:List Value) (o:Nat) (w:World) (cs:Array Value),w.heap[b]? = some (.cells cs e f)→∃ cs',(w.setCells b o vs).heap[b]? = some (.cells cs' e f)
 | [],_,_,_,h=>⟨_,h⟩
 | v :: r,o,w,cs,h=>by
   rw[World.setCells];exact zeh r (o+1) _ _ (jh v h)
theorem OB.base {B B':Nat}{out:Bs}{v:Value}{w:World}(h:OB B out v w)(hb:B'≤B):OB B' out v w:=by
 refine⟨h.1,h.2.imp id ?_⟩;rintro⟨g,hB,hA,e,hg,r⟩;exact⟨g,hB,hA,e,Nat.le_trans hb hg,r⟩
theorem zql (s:Wk)(j:Nat)(h:j<8):∀ w,(Instr.index 160 (.agg (wkC s)) (.int .i64 (j:Int))).run Tryz.prog w = .ok (.int .u32 ((s.list.getD j 0:Nat):Int)) w:=by
 have hA:j=0∨j=1∨j=2∨j=3∨j=4∨j=5∨j=6∨j=7:=by omega
 rcases hA with rfl | rfl | rfl | rfl | rfl | rfl | rfl | rfl<;>(intro w;kernel_rfl)
section
variable {F:Fence} {nF:Nat} {P:Program} {ops:Array Oper} {rest:List Oper} {op:Oper} {a:Act} {w:World} {Q:Exit→Act→World→Prop}
theorem zda (hgd:op.guard=none)(ty:TypeId)(x y:Operand)(ho:op.op = .store ty x y)(b o:Nat)(cells:Array Value)
 (hx:a.eval x = .pointer (some ⟨b,o,none⟩)) (hy:a.eval y = .agg cells) (ht:w.there b o cells.size) (hi:(P.info? ty).map (·.size)=some cells.size) (h1:cells.all (·.oneCell')=true)
 (h:wpListIn F nF P ops Q rest (a.put op.dst undef) (w.setCells b o cells.toList)):wpListIn F nF P ops Q (op :: rest) a w:=by
 refine wpListIn_plain hgd fun K hK=>?_
 unfold Oper.wpIn;refine⟨by simp[Oper.about,ho],?_⟩;rw[Oper.semAt_plain F _ _ (by rw[ho];intro c hA;cases hA)];simp only[execOp,ho,hx,hy];rw[Sem.run_bind,run_storeAt_mid w b o ty cells ht hi h1];exact hK _ _ h
end
theorem OB.nil0 (B:Nat)(w:World):OB B [] (.slice none 0 0) w:=World.ownsRow_nil w B _ 1
theorem zpi {s:Wk} (hs:s.lt) (j:Nat):s.list.getD j 0<4294967296:=by
 rcases Nat.lt_or_ge j 8 with h | h
 ·have hA:j=0∨j=1∨j=2∨j=3∨j=4∨j=5∨j=6∨j=7:=by omega
  obtain⟨h0,h1,h2,h3,h4,h5,h6,h7⟩:=hs;rcases hA with rfl | rfl | rfl | rfl | rfl | rfl | rfl | rfl<;>assumption
 rw[List.getD_eq_getElem?_getD,List.getElem?_eq_none (by exact h)];decide
theorem zng (s:Wk)(j:Nat)(h:j<8):(s.list.take (j+1)).flatMap zbl=(s.list.take j).flatMap zbl++zbl (s.list.getD j 0):=by
 have hA:j=0∨j=1∨j=2∨j=3∨j=4∨j=5∨j=6∨j=7:=by omega
 rcases hA with rfl | rfl | rfl | rfl | rfl | rfl | rfl | rfl<;>rfl
theorem zph (s:Wk)(j:Nat)(h:j<8):((s.list.take j).flatMap zbl).length≤28:=by
 have hA:j=0∨j=1∨j=2∨j=3∨j=4∨j=5∨j=6∨j=7:=by omega
 rcases hA with rfl | rfl | rfl | rfl | rfl | rfl | rfl | rfl<;>exact Nat.le_of_ble_eq_true rfl
theorem OB.drew' {B:Nat}{out:Bs}{v:Value}{w:World}(h:OB B out v w):OB B out v w.drew:=h.fr (Fr.refl (M:=NoB)).drew (fun _ _ _ _ h=>h)
theorem zra (S:Nat→Prop) (vs:List (Value × Bs)) (g cap b tb tcap:Nat) (s0:Wk) (w:World) (hg:∀ i (hi:i<vs.length),w.cell? ⟨g,i,none⟩=some vs[i].1) (hsb:∀ x∈vs,SB S x.2 x.1 w) (hnil:∀ x∈vs,∀ n c,x.1 = .slice none n c→c=0) (hn:vs.length≤1000) (ht:tot vs≤500000)
 (hslt:s0.lt) (htab:∀ i,i<64→w.cell? ⟨tb,i,none⟩=some (.int .u32 (kShort.getD i 0:Nat))) (hS:w.heap[b]? = some (.cells (zba (.slice (some ⟨tb,0,none⟩) 64 tcap) s0) 162 (0,0))) :
 CallsIn Fence.wide 6 Tryz.prog 118 #[.pointer (some ⟨b,0,none⟩),.slice (some ⟨g,0,none⟩) vs.length cap] w fun e w'=>∃ v,e = .returned v∧OB w.heap.size (zpz s0 (flat vs)) v w'∧Fr NoB w w':=by
 obtain⟨PP,A7⟩:∃ x,zpz s0 (flat vs)=x:=⟨_,rfl⟩;rw[A7];have Br:=zi A7;have Aq:Fr NoB w (w.alloc (.cells #[.pointer (some ⟨b,0,none⟩)] 155)):=Fr.refl.alloc _;have BT:=zo w (.cells #[.pointer (some ⟨b,0,none⟩)] 155);have Av:(w.alloc (.cells #[.pointer (some ⟨b,0,none⟩)] 155)).heap.size=w.heap.size+1:=zm _ _;have A2:=zor S vs g cap (w.alloc (.cells #[.pointer (some ⟨b,0,none⟩)] 155)) (fun i hi=>Fr.cell Aq (hg i hi)) (fun x hx=>(hsb x hx).fr Aq (fun _ _ _ _ h=>h)) hnil hn (by omega);have CC:=jq hS;have A0:(flat vs).length≤500000:=by rw[zjz];exact ht
 obtain⟨l,hl⟩:∃ x,flat vs=x:=⟨_,rfl⟩;simp only[hl]at A2;rw[hl]at A0 Br;have Hcc:=zi A2;have HS:=zi hS;have Htab:=zi htab;have Hslt:=zi hslt;have At:=zi Aq;have BF:=zi BT;clear A7 A2 hS htab hslt Aq hg hsb hnil hl ht hn BT;refine callsIn_of_wp_marks Tryz.func118 rfl trivial ?_ rfl;simp only[Tryz.ntmps118,List.size_toArray,List.length_cons,List.length_nil,Nat.reduceAdd,Nat.reduceSub,Array.replicate_succ,Array.replicate_zero,List.push_toArray,List.append_toArray,List.nil_append,List.cons_append];refine wpIn_wide.2 ?_
 go_upto_region 1 with(fail)
 change Code.wp _ _ _ _ (w.alloc (.cells #[.pointer (some ⟨b,0,none⟩)] 155));obtain⟨W,hW⟩:∃ V,w.alloc (.cells #[.pointer (some ⟨b,0,none⟩)] 155)=V:=⟨_,rfl⟩;rw[hW]at Hcc At BF Av ⊢;obtain⟨q,hq⟩:∃ x,w.heap.size=x:=⟨_,rfl⟩;rw[hq]at BF CC Av ⊢;have Hq:=zi hq;rw[Av]at Hcc;clear hW hq
 go_wp2_with fail
 refine Hcc.out.mono ?_;rintro e w2 ⟨v,rfl,A9,Ap⟩;obtain⟨a2,c2,rfl⟩:=A9.form;have AN:=Ap.block _ _ (At.out.block _ _ HS.out (fun h=>h)) (fun h=>h);have Aw:=Ap.block _ _ BF.out (fun h=>h);have p0:w2.cell? ⟨q,0,none⟩=some (.pointer (some ⟨b,0,none⟩)):=by simp[World.cell?,Aw]
 have b0:w2.cell? ⟨b,0,none⟩=some (.int .i64 32):=by simp[World.cell?,AN,zba]
 have Bp:=zi AN;have Hpw:=zi Aw;have Bu:=zi A9;have BI:=zi Ap;have BE:Hid (q+1≤w2.heap.size):=zi (by have:=BI.out.size;omega);obtain⟨i0,he,hd,hb,ha⟩:=info_parts zcr;clear AN Aw A9 Ap Hcc;have hq2:=BE.out
 go_wp2_with(at_builtin;refine zcg ?_)
 refine zi ?_;refine wpList_append_own _ rfl _ _ 24 rfl (q+1) 5 i0 (.int .u8 0) 1 1 Tryz.underlying24 he hd hb ha rfl (by decide) _ _ _ rfl (Bu.out.alloc _) ⟨w2.heap.size,0,none⟩ 1 1 [.int .u8 128] rfl rfl (j8 w2 [.int .u8 128] 5) (by simp[Value.oneCell']) (by unfold maxLen;omega) (by omega) (by rw[zm];omega) ?_;intro v3 w3 AI Aa _;obtain⟨An,Bf⟩:=Bu.out.push (news:=[128]) ((Fr.refl (M:=NoB)).alloc _) AI Aa;obtain⟨a3,c3,rfl⟩:=An.form;have HO3:=zi An;have CQ:=zi Bf;obtain⟨Z,hZ⟩:∃ x,(119 - l.length % 64) % 64=x:=⟨_,rfl⟩;have hZl:Z<64:=by omega
 have BQ:l++[128]=l++[128]++List.replicate 0 0:=by simp
 have BH:Hid (OB (q+1) (l++[128]++List.replicate 0 0) (.slice a3 (l.length+1) c3) w3):=zi (by rw[← BQ,show l.length+1=(l++[128]).length by simp];exact An);have HZ:=zi hZ;clear AI Aa An Bf BQ p0 b0 hZ
 go_wp2_with fail
 go_loopg [5] (Z+1) (fun gf vt wr=>∃ z:Nat,z≤Z∧z+gf=Z+1∧Hid (OB (q+1) (l++[128]++List.replicate z 0) vt wr)∧Hid (Fr (fun k _=>q+1≤k) w2 wr))
 case atStart=>exact⟨0,by omega,by omega,BH,CQ⟩
 case round =>
  obtain⟨z,hz,Bz,HO,hV⟩:=hrel;obtain⟨az,cz,B3⟩:=HO.out.form;subst B3;have p0:wr.cell? ⟨q,0,none⟩=some (.pointer (some ⟨b,0,none⟩)):=Fr.cell hV.out (by have:=Hpw.out;simp[World.cell?,this]) (fun h=>by omega);have Bk:wr.cell? ⟨b,22,none⟩=some (.int .i64 8):=Fr.cell hV.out (by have:=Bp.out;simp[World.cell?,this,zba]) (fun h=>by omega);have AY:(l++[128]++List.replicate z 0).length=l.length+1+z:=by simp;omega
  obtain⟨T,hT⟩:∃ x,l++[128]++List.replicate z 0=x:=⟨_,rfl⟩;have A4:l++[128]++List.replicate (z+1) 0=T++[0]:=by rw[← hT,List.replicate_succ'];simp
  rw[hT]at AY HO;rw[hT];have HT:=zi hT;have Bo:=zi A4;obtain⟨n,AX⟩:∃ x,T.length=x:=⟨_,rfl⟩;rw[AX]at AY;rw[AX]
  have Aj:Int.tmod (n:Int) 64=((n % 64:Nat):Int):=by
   rw[Int.tmod_eq_emod_of_nonneg (by omega)];omega
  have Hnn:=zi AX;have hzs:=hV.out.size;have hw56:IntKind.i64.wrap 56=56:=by rw[IntKind.wrap_i64];omega
  by_cases hX:z<Z
  ·have Al:(((n % 64:Nat):Int) != 56)=true:=by
    rw[bne_iff_ne];have:=HZ.out;omega
   obtain⟨r,hr⟩:∃ x,n % 64=x:=⟨_,rfl⟩;rw[hr]at Aj Al;have B8:n≤600000:=by omega
   clear hr hT A4 AX AY
   go_upto_region 5 with(fail)
   refine qg (S:=fun V=>V=wr.drew) (by kernel_rfl) rfl (fun hY=>?_);simp only[qV]
   iterate 11
    refine qt (v:=?_) rfl (Or.inl ⟨by rfl,?_⟩) hY ?_;rotate_left
    ·intro W AN;obtain rfl:=AN
     try simp only[qQ]
     go_simp
     try rw[if_neg (by omega)]
     try with_reducible rfl
    try simp only[Act.put,qP]
   refine wpAnyH_done (by kernel_rfl) ?_ _;simp only[zax];clear hY Aj;obtain⟨w5,hh⟩:∃ x,wr.drew=x:=⟨_,rfl⟩;have As:Hid (OB (q+1) T (.slice az n cz) w5):=zi (by rw[← hh,← Hnn.out];exact HO.out.drew');have AT:Hid (Fr (fun k _=>q+1≤k) w2 w5):=zi (by rw[← hh];exact hV.out.drew);have hz5:q+1≤w5.heap.size:=by have:=AT.out.size;omega
   rw[hh];clear hh
   go_wp2_with(at_builtin;refine zcg ?_)
   refine zi ?_;refine wpList_append_own _ rfl _ _ 24 rfl (q+1) 5 i0 (.int .u8 0) 1 1 Tryz.underlying24 he hd hb ha rfl (by decide) (.slice az n cz) n (zj T) rfl (by have h:=As.out;unfold OB at h;rw[Hnn.out]at h;exact h.alloc _) ⟨w5.heap.size,0,none⟩ 1 1 [.int .u8 0] rfl rfl (j8 w5 [.int .u8 0] 5) (by simp[Value.oneCell']) (by unfold maxLen;omega) (by omega) (by rw[zm];omega) ?_;intro v4 w4 hA hC _;obtain⟨hF,hJ⟩:=As.out.push (news:=[0]) (w2:=w4) (v':=v4) ((Fr.refl (M:=NoB)).alloc _) (by rw[Hnn.out];exact hA) hC;rw[← Bo.out]at hF;have hO:=zi hF;have hP:=zi (AT.out.trans' hJ);clear hA hC hF hJ
   go_wp2_with fail
   go_roundg (gk - 1)
   case measure=>omega
   case rel=>exact⟨z+1,by omega,by omega,hO,hP⟩
  obtain rfl:z=Z:=by omega
  have Al:(((n % 64:Nat):Int) != 56)=false:=by
   have:=HZ.out;rw[bne_eq_false_iff_eq];omega
  obtain⟨r,hr⟩:∃ x,n % 64=x:=⟨_,rfl⟩;rw[hr]at Aj Al;have B8:n≤600000:=by omega
  have Hnl:=zi AY;clear hr A4 AY Bo hX hz Bz
  go_upto_region 5 with(fail)
  refine qg (S:=fun V=>V=wr.drew) (by kernel_rfl) rfl (fun hY=>?_);simp only[qV]
  iterate 11
   refine qt (v:=?_) rfl (Or.inl ⟨by rfl,?_⟩) hY ?_;rotate_left
   ·intro W AN;obtain rfl:=AN
    try simp only[qQ]
    go_simp
    try rw[if_neg (by omega)]
    try with_reducible rfl
   try simp only[Act.put,qP]
  refine wpAnyH_done (by kernel_rfl) ?_ _;simp only[zax];clear hY Aj;obtain⟨wo,B0⟩:∃ x:World,x=wr:=⟨_,rfl⟩;subst B0;obtain⟨w5,hh⟩:∃ x,wo.drew=x:=⟨_,rfl⟩;have As:Hid (OB (q+1) T (.slice az n cz) w5):=zi (by rw[← hh,← Hnn.out];exact HO.out.drew');have AT:Hid (Fr (fun k _=>q+1≤k) w2 w5):=zi (by rw[← hh];exact hV.out.drew);rw[hh];have BL:w5.cell? ⟨q,0,none⟩=some (.pointer (some ⟨b,0,none⟩)):=by rw[← hh];simpa using p0
  have BD:w5.cell? ⟨b,22,none⟩=some (.int .i64 8):=by rw[← hh];simpa using Bk
  clear hh p0 Bk HO hV Al
  go_wp2_with fail
  obtain⟨hE,hv⟩:∃ x,(List.range 8).map (fun i=>UInt8.ofNat (l.length * 8 / 2 ^ (8 * (7 - i))))=x:=⟨_,rfl⟩;have AZ:hE.length=8:=by rw[← hv];rfl
  have Hlens:=zi hv;have BG:Hid (OB (q+1) (T++hE.take 0) (.slice az n cz) w5):=zi (by rw[List.take_zero,List.append_nil];exact As.out);have Ag:=zi AZ;have Hp05:=zi BL;clear hv AZ BL BD hT AX
  go_loopg [5,8] 9 (fun gf vt vi wr=>∃ j:Nat,j≤8∧j+gf=9∧vi = .int .i64 (7 - (j:Int))∧Hid (OB (q+1) (T++hE.take j) vt wr)∧Hid (Fr (fun k _=>q+1≤k) w2 wr))
  case atStart=>exact⟨0,by omega,by omega,rfl,BG,AT⟩
  case round =>
   obtain⟨j,hj,BY,rfl,HO,hV⟩:=hrel;obtain⟨ab,cb,Au⟩:=HO.out.form;subst Au;have AL:=hV.out.size;have hL:(T++hE.take j).length=n+j:=by rw[List.length_append,Hnn.out,List.length_take,Ag.out];omega
   obtain⟨T2,hN⟩:∃ x,T++hE.take j=x:=⟨_,rfl⟩;rw[hN]at HO hL;rw[hN,hL];by_cases hX:j<8
   ·have hQ:j=0∨j=1∨j=2∨j=3∨j=4∨j=5∨j=6∨j=7:=by omega
    rcases hQ with rfl | rfl | rfl | rfl | rfl | rfl | rfl | rfl
    ·rw [show(7:Int) - ((0:Nat):Int)=7 from rfl];have hy:hE.take (0+1)=hE.take 0++[UInt8.ofNat (l.length * 8 / 72057594037927936)]:=by rw[← Hlens.out];rfl
     have hG:(l.length:Int) * 8 / 72057594037927936=((UInt8.ofNat (l.length * 8 / 72057594037927936)).toNat:Int):=by
      rw[UInt8.toNat_ofNat'];omega
     obtain⟨y,hH⟩:∃ x,UInt8.ofNat (l.length * 8 / 72057594037927936)=x:=⟨_,rfl⟩;rw[hH]at hy hG;have hM:T++hE.take (0+1)=T2++[y]:=by rw[hy,← hN,List.append_assoc]
     have hU:=zi hM;have hR:=zi hG;have Htl:=zi hL;clear hy hG hH hM hN hL hX hj
     go_wp2_with(at_builtin;refine zcg ?_)
     rw[hR.out];refine zi ?_;refine wpList_append_own _ rfl _ _ 24 rfl (q+1) 5 i0 (.int .u8 0) 1 1 Tryz.underlying24 he hd hb ha rfl (by decide) (.slice ab (n+0) cb) (n+0) (zj T2) rfl (by have h:=HO.out;unfold OB at h;rw[Htl.out]at h;exact h.alloc _) ⟨wr.heap.size,0,none⟩ 1 1 [.int .u8 y.toNat] rfl rfl (j8 wr [.int .u8 y.toNat] 5) (by simp[Value.oneCell']) (by unfold maxLen;omega) (by omega) (by rw[zm];omega) ?_;intro v4 w4 hA hC _;obtain⟨hF,hJ⟩:=HO.out.push (news:=[y]) (w2:=w4) (v':=v4) ((Fr.refl (M:=NoB)).alloc _) (by rw[Htl.out];exact hA) (by rw[Htl.out];exact hC);rw[← hU.out]at hF;have hO:=zi hF;have hP:=zi (hV.out.trans' hJ);clear hA hC hF hJ
     go_wp2_with fail
     go_roundg (gk - 1)
     case measure=>omega
     case rel=>exact⟨0+1,by omega,by omega,rfl,hO,hP⟩
    ·rw [show(7:Int) - ((1:Nat):Int)=6 from rfl];have hy:hE.take (1+1)=hE.take 1++[UInt8.ofNat (l.length * 8 / 281474976710656)]:=by rw[← Hlens.out];rfl
     have hG:(l.length:Int) * 8 / 281474976710656=((UInt8.ofNat (l.length * 8 / 281474976710656)).toNat:Int):=by
      rw[UInt8.toNat_ofNat'];omega
     obtain⟨y,hH⟩:∃ x,UInt8.ofNat (l.length * 8 / 281474976710656)=x:=⟨_,rfl⟩;rw[hH]at hy hG;have hM:T++hE.take (1+1)=T2++[y]:=by rw[hy,← hN,List.append_assoc]
     have hU:=zi hM;have hR:=zi hG;have Htl:=zi hL;clear hy hG hH hM hN hL hX hj
     go_wp2_with(at_builtin;refine zcg ?_)
     rw[hR.out];refine zi ?_;refine wpList_append_own _ rfl _ _ 24 rfl (q+1) 5 i0 (.int .u8 0) 1 1 Tryz.underlying24 he hd hb ha rfl (by decide) (.slice ab (n+1) cb) (n+1) (zj T2) rfl (by have h:=HO.out;unfold OB at h;rw[Htl.out]at h;exact h.alloc _) ⟨wr.heap.size,0,none⟩ 1 1 [.int .u8 y.toNat] rfl rfl (j8 wr [.int .u8 y.toNat] 5) (by simp[Value.oneCell']) (by unfold maxLen;omega) (by omega) (by rw[zm];omega) ?_;intro v4 w4 hA hC _;obtain⟨hF,hJ⟩:=HO.out.push (news:=[y]) (w2:=w4) (v':=v4) ((Fr.refl (M:=NoB)).alloc _) (by rw[Htl.out];exact hA) (by rw[Htl.out];exact hC);rw[← hU.out]at hF;have hO:=zi hF;have hP:=zi (hV.out.trans' hJ);clear hA hC hF hJ
     go_wp2_with fail
     go_roundg (gk - 1)
     case measure=>omega
     case rel=>exact⟨1+1,by omega,by omega,rfl,hO,hP⟩
    ·rw [show(7:Int) - ((2:Nat):Int)=5 from rfl];have hy:hE.take (2+1)=hE.take 2++[UInt8.ofNat (l.length * 8 / 1099511627776)]:=by rw[← Hlens.out];rfl
     have hG:(l.length:Int) * 8 / 1099511627776=((UInt8.ofNat (l.length * 8 / 1099511627776)).toNat:Int):=by
      rw[UInt8.toNat_ofNat'];omega
     obtain⟨y,hH⟩:∃ x,UInt8.ofNat (l.length * 8 / 1099511627776)=x:=⟨_,rfl⟩;rw[hH]at hy hG;have hM:T++hE.take (2+1)=T2++[y]:=by rw[hy,← hN,List.append_assoc]
     have hU:=zi hM;have hR:=zi hG;have Htl:=zi hL;clear hy hG hH hM hN hL hX hj
     go_wp2_with(at_builtin;refine zcg ?_)
     rw[hR.out];refine zi ?_;refine wpList_append_own _ rfl _ _ 24 rfl (q+1) 5 i0 (.int .u8 0) 1 1 Tryz.underlying24 he hd hb ha rfl (by decide) (.slice ab (n+2) cb) (n+2) (zj T2) rfl (by have h:=HO.out;unfold OB at h;rw[Htl.out]at h;exact h.alloc _) ⟨wr.heap.size,0,none⟩ 1 1 [.int .u8 y.toNat] rfl rfl (j8 wr [.int .u8 y.toNat] 5) (by simp[Value.oneCell']) (by unfold maxLen;omega) (by omega) (by rw[zm];omega) ?_;intro v4 w4 hA hC _;obtain⟨hF,hJ⟩:=HO.out.push (news:=[y]) (w2:=w4) (v':=v4) ((Fr.refl (M:=NoB)).alloc _) (by rw[Htl.out];exact hA) (by rw[Htl.out];exact hC);rw[← hU.out]at hF;have hO:=zi hF;have hP:=zi (hV.out.trans' hJ);clear hA hC hF hJ
     go_wp2_with fail
     go_roundg (gk - 1)
     case measure=>omega
     case rel=>exact⟨2+1,by omega,by omega,rfl,hO,hP⟩
    ·rw [show(7:Int) - ((3:Nat):Int)=4 from rfl];have hy:hE.take (3+1)=hE.take 3++[UInt8.ofNat (l.length * 8 / 4294967296)]:=by rw[← Hlens.out];rfl
     have hG:(l.length:Int) * 8 / 4294967296=((UInt8.ofNat (l.length * 8 / 4294967296)).toNat:Int):=by
      rw[UInt8.toNat_ofNat'];omega
     obtain⟨y,hH⟩:∃ x,UInt8.ofNat (l.length * 8 / 4294967296)=x:=⟨_,rfl⟩;rw[hH]at hy hG;have hM:T++hE.take (3+1)=T2++[y]:=by rw[hy,← hN,List.append_assoc]
     have hU:=zi hM;have hR:=zi hG;have Htl:=zi hL;clear hy hG hH hM hN hL hX hj
     go_wp2_with(at_builtin;refine zcg ?_)
     rw[hR.out];refine zi ?_;refine wpList_append_own _ rfl _ _ 24 rfl (q+1) 5 i0 (.int .u8 0) 1 1 Tryz.underlying24 he hd hb ha rfl (by decide) (.slice ab (n+3) cb) (n+3) (zj T2) rfl (by have h:=HO.out;unfold OB at h;rw[Htl.out]at h;exact h.alloc _) ⟨wr.heap.size,0,none⟩ 1 1 [.int .u8 y.toNat] rfl rfl (j8 wr [.int .u8 y.toNat] 5) (by simp[Value.oneCell']) (by unfold maxLen;omega) (by omega) (by rw[zm];omega) ?_;intro v4 w4 hA hC _;obtain⟨hF,hJ⟩:=HO.out.push (news:=[y]) (w2:=w4) (v':=v4) ((Fr.refl (M:=NoB)).alloc _) (by rw[Htl.out];exact hA) (by rw[Htl.out];exact hC);rw[← hU.out]at hF;have hO:=zi hF;have hP:=zi (hV.out.trans' hJ);clear hA hC hF hJ
     go_wp2_with fail
     go_roundg (gk - 1)
     case measure=>omega
     case rel=>exact⟨3+1,by omega,by omega,rfl,hO,hP⟩
    ·rw [show(7:Int) - ((4:Nat):Int)=3 from rfl];have hy:hE.take (4+1)=hE.take 4++[UInt8.ofNat (l.length * 8 / 16777216)]:=by rw[← Hlens.out];rfl
     have hG:(l.length:Int) * 8 / 16777216=((UInt8.ofNat (l.length * 8 / 16777216)).toNat:Int):=by
      rw[UInt8.toNat_ofNat'];omega
     obtain⟨y,hH⟩:∃ x,UInt8.ofNat (l.length * 8 / 16777216)=x:=⟨_,rfl⟩;rw[hH]at hy hG;have hM:T++hE.take (4+1)=T2++[y]:=by rw[hy,← hN,List.append_assoc]
     have hU:=zi hM;have hR:=zi hG;have Htl:=zi hL;clear hy hG hH hM hN hL hX hj
     go_wp2_with(at_builtin;refine zcg ?_)
     rw[hR.out];refine zi ?_;refine wpList_append_own _ rfl _ _ 24 rfl (q+1) 5 i0 (.int .u8 0) 1 1 Tryz.underlying24 he hd hb ha rfl (by decide) (.slice ab (n+4) cb) (n+4) (zj T2) rfl (by have h:=HO.out;unfold OB at h;rw[Htl.out]at h;exact h.alloc _) ⟨wr.heap.size,0,none⟩ 1 1 [.int .u8 y.toNat] rfl rfl (j8 wr [.int .u8 y.toNat] 5) (by simp[Value.oneCell']) (by unfold maxLen;omega) (by omega) (by rw[zm];omega) ?_;intro v4 w4 hA hC _;obtain⟨hF,hJ⟩:=HO.out.push (news:=[y]) (w2:=w4) (v':=v4) ((Fr.refl (M:=NoB)).alloc _) (by rw[Htl.out];exact hA) (by rw[Htl.out];exact hC);rw[← hU.out]at hF;have hO:=zi hF;have hP:=zi (hV.out.trans' hJ);clear hA hC hF hJ
     go_wp2_with fail
     go_roundg (gk - 1)
     case measure=>omega
     case rel=>exact⟨4+1,by omega,by omega,rfl,hO,hP⟩
    ·rw [show(7:Int) - ((5:Nat):Int)=2 from rfl];have hy:hE.take (5+1)=hE.take 5++[UInt8.ofNat (l.length * 8 / 65536)]:=by rw[← Hlens.out];rfl
     have hG:(l.length:Int) * 8 / 65536=((UInt8.ofNat (l.length * 8 / 65536)).toNat:Int):=by
      rw[UInt8.toNat_ofNat'];omega
     obtain⟨y,hH⟩:∃ x,UInt8.ofNat (l.length * 8 / 65536)=x:=⟨_,rfl⟩;rw[hH]at hy hG;have hM:T++hE.take (5+1)=T2++[y]:=by rw[hy,← hN,List.append_assoc]
     have hU:=zi hM;have hR:=zi hG;have Htl:=zi hL;clear hy hG hH hM hN hL hX hj
     go_wp2_with(at_builtin;refine zcg ?_)
     rw[hR.out];refine zi ?_;refine wpList_append_own _ rfl _ _ 24 rfl (q+1) 5 i0 (.int .u8 0) 1 1 Tryz.underlying24 he hd hb ha rfl (by decide) (.slice ab (n+5) cb) (n+5) (zj T2) rfl (by have h:=HO.out;unfold OB at h;rw[Htl.out]at h;exact h.alloc _) ⟨wr.heap.size,0,none⟩ 1 1 [.int .u8 y.toNat] rfl rfl (j8 wr [.int .u8 y.toNat] 5) (by simp[Value.oneCell']) (by unfold maxLen;omega) (by omega) (by rw[zm];omega) ?_;intro v4 w4 hA hC _;obtain⟨hF,hJ⟩:=HO.out.push (news:=[y]) (w2:=w4) (v':=v4) ((Fr.refl (M:=NoB)).alloc _) (by rw[Htl.out];exact hA) (by rw[Htl.out];exact hC);rw[← hU.out]at hF;have hO:=zi hF;have hP:=zi (hV.out.trans' hJ);clear hA hC hF hJ
     go_wp2_with fail
     go_roundg (gk - 1)
     case measure=>omega
     case rel=>exact⟨5+1,by omega,by omega,rfl,hO,hP⟩
    ·rw [show(7:Int) - ((6:Nat):Int)=1 from rfl];have hy:hE.take (6+1)=hE.take 6++[UInt8.ofNat (l.length * 8 / 256)]:=by rw[← Hlens.out];rfl
     have hG:(l.length:Int) * 8 / 256 % 256=((UInt8.ofNat (l.length * 8 / 256)).toNat:Int):=by
      rw[UInt8.toNat_ofNat'];omega
     obtain⟨y,hH⟩:∃ x,UInt8.ofNat (l.length * 8 / 256)=x:=⟨_,rfl⟩;rw[hH]at hy hG;have hM:T++hE.take (6+1)=T2++[y]:=by rw[hy,← hN,List.append_assoc]
     have hU:=zi hM;have hR:=zi hG;have Htl:=zi hL;clear hy hG hH hM hN hL hX hj
     go_wp2_with(at_builtin;refine zcg ?_)
     rw[hR.out];refine zi ?_;refine wpList_append_own _ rfl _ _ 24 rfl (q+1) 5 i0 (.int .u8 0) 1 1 Tryz.underlying24 he hd hb ha rfl (by decide) (.slice ab (n+6) cb) (n+6) (zj T2) rfl (by have h:=HO.out;unfold OB at h;rw[Htl.out]at h;exact h.alloc _) ⟨wr.heap.size,0,none⟩ 1 1 [.int .u8 y.toNat] rfl rfl (j8 wr [.int .u8 y.toNat] 5) (by simp[Value.oneCell']) (by unfold maxLen;omega) (by omega) (by rw[zm];omega) ?_;intro v4 w4 hA hC _;obtain⟨hF,hJ⟩:=HO.out.push (news:=[y]) (w2:=w4) (v':=v4) ((Fr.refl (M:=NoB)).alloc _) (by rw[Htl.out];exact hA) (by rw[Htl.out];exact hC);rw[← hU.out]at hF;have hO:=zi hF;have hP:=zi (hV.out.trans' hJ);clear hA hC hF hJ
     go_wp2_with fail
     go_roundg (gk - 1)
     case measure=>omega
     case rel=>exact⟨6+1,by omega,by omega,rfl,hO,hP⟩
    rw[show(7:Int) - ((7:Nat):Int)=0 from rfl];have hy:hE.take (7+1)=hE.take 7++[UInt8.ofNat (l.length * 8 / 1)]:=by rw[← Hlens.out];rfl
    have hG:(l.length:Int) * 8 % 256=((UInt8.ofNat (l.length * 8 / 1)).toNat:Int):=by
     rw[UInt8.toNat_ofNat'];omega
    obtain⟨y,hH⟩:∃ x,UInt8.ofNat (l.length * 8 / 1)=x:=⟨_,rfl⟩;rw[hH]at hy hG;have hM:T++hE.take (7+1)=T2++[y]:=by rw[hy,← hN,List.append_assoc]
    have hU:=zi hM;have hR:=zi hG;have Htl:=zi hL;clear hy hG hH hM hN hL hX hj
    go_wp2_with(at_builtin;refine zcg ?_)
    rw[hR.out];refine zi ?_;refine wpList_append_own _ rfl _ _ 24 rfl (q+1) 5 i0 (.int .u8 0) 1 1 Tryz.underlying24 he hd hb ha rfl (by decide) (.slice ab (n+7) cb) (n+7) (zj T2) rfl (by have h:=HO.out;unfold OB at h;rw[Htl.out]at h;exact h.alloc _) ⟨wr.heap.size,0,none⟩ 1 1 [.int .u8 y.toNat] rfl rfl (j8 wr [.int .u8 y.toNat] 5) (by simp[Value.oneCell']) (by unfold maxLen;omega) (by omega) (by rw[zm];omega) ?_;intro v4 w4 hA hC _;obtain⟨hF,hJ⟩:=HO.out.push (news:=[y]) (w2:=w4) (v':=v4) ((Fr.refl (M:=NoB)).alloc _) (by rw[Htl.out];exact hA) (by rw[Htl.out];exact hC);rw[← hU.out]at hF;have hO:=zi hF;have hP:=zi (hV.out.trans' hJ);clear hA hC hF hJ
    go_wp2_with fail
    go_roundg (gk - 1)
    case measure=>omega
    case rel=>exact⟨7+1,by omega,by omega,rfl,hO,hP⟩
   obtain rfl:j=8:=by omega
   obtain⟨m,hm⟩:∃ x,(l.length+72) / 64=x:=⟨_,rfl⟩
   have AM:T2=zqi l:=by
    rw[← hN,List.take_of_length_le (by rw[Ag.out];exact ja _),← HT.out,← HZ.out,← Hlens.out];rfl
   have AU:n+8=m * 64:=by rw[← hL,AM,zn0,hm,Nat.mul_comm]
   rw[AM]at HO hL;rw[AU]at hL;rw[AU];have hm1:1≤m:=by omega
   have hm2:m≤10000:=by omega
   obtain⟨PD,A8⟩:∃ x,zqi l=x:=⟨_,rfl⟩;rw[A8]at HO hL;have Bt:=zi (And.intro A8 hm);have Htl:=zi hL
   obtain ⟨gg,rfl,hgl,CB,CA,AV⟩:∃ gg,ab=some ⟨gg,0,none⟩∧gg<wr.heap.size∧m * 64≤cb∧cb≤maxLen∧∀ (k:Nat) (x:UInt8),PD[k]? = some x→wr.cell? ⟨gg,k,none⟩=some (.int .u8 x.toNat):=by
    rcases HO.out.2 with⟨-,h0⟩ | ⟨gg,cp,cur,e1,e2,e3,e4,e5,-⟩
    ·omega
    injection e1 with e1 e1' e1''
    subst e1 e1'';refine⟨gg,rfl,jq e3,by omega,e5,fun k x hk=>?_⟩;have h:=HO.out.cells (g:=gg) rfl k (.int .u8 x.toNat) (by unfold zj;rw[List.getElem?_map,hk];rfl);rw[Addr.add_lit,Nat.zero_add]at h;exact h
   have A6:wr.heap[b]? = some (.cells (zba (.slice (some ⟨tb,0,none⟩) 64 tcap) s0) 162 (0,0)):=hV.out.block _ _ Bp.out (fun h=>by omega);have Ax:wr.heap[q]? = some (.cells #[.pointer (some ⟨b,0,none⟩)] 155 (0,0)):=hV.out.block _ _ Hpw.out (fun h=>by omega);have p0:wr.cell? ⟨q,0,none⟩=some (.pointer (some ⟨b,0,none⟩)):=by simp[World.cell?,Ax]
   have BO:wr.rangeAt b 2 (wkC s0).toList:=fun k x hk=>by
    have h8:k<8:=by
     rcases Nat.lt_or_ge k 8 with h | h
     ·exact h
     rw[List.getElem?_eq_none (by simpa[wkC] using h)]at hk;cases hk
    have hQ:k=0∨k=1∨k=2∨k=3∨k=4∨k=5∨k=6∨k=7:=by omega
    rcases hQ with rfl | rfl | rfl | rfl | rfl | rfl | rfl | rfl<;>(obtain rfl:=Option.some.inj hk;simp[World.cell?,A6,zba])
   have Bq:=zi A6;have Hpr:=zi Ax;have Bn:=zi BO;have Hrow:=zi AV;have Bm:Hid ((Tryz.prog.info? 160).map (·.size)=some (wkC s0).toList.length):=zi (by kernel_rfl);have Af:Hid ((Tryz.prog.info? 160).map (·.size)=some (wkC s0).size):=zi (by kernel_rfl);have By:Hid ((wkC s0).all (·.oneCell')=true):=zi (by simp[wkC,Value.oneCell']);have BB:Fr (fun k _=>q+1≤k) w2 (wr.alloc (.cells (wkC s0) 160)):=hV.out.alloc _;have Ae:=zo wr (.cells (wkC s0) 160);clear A6 Ax BO AV hN AM hL A8 hX hj BY;obtain⟨FC,Ao⟩:∃ x,wkC s0=x:=⟨_,rfl⟩;have Be:FC.size=8:=by rw[← Ao];rfl
   rw[Ao]at Bn Bm Af By BB Ae;have CI:Hid ((#[.int .u32 0,.int .u32 0,.int .u32 0,.int .u32 0,.int .u32 0,.int .u32 0,.int .u32 0,.int .u32 0]:Array Value).size=FC.size):=zi (by rw[Be];rfl);have CP:=zi Ao;clear Ao Be
   go_upto_region 16 with(first
    | (with_reducible refine wpList_load_mid rfl 160 _ rfl b 2 rfl FC.toList (.array 8 159) Bn.out Tryz.underlying160 rfl Bm.out ?_)
    | ((with_reducible refine qn (w:=wr) rfl 160 _ _ rfl #[.int .u32 0,.int .u32 0,.int .u32 0,.int .u32 0,.int .u32 0,.int .u32 0,.int .u32 0,.int .u32 0] FC wr.heap.size rfl ?_ ?_ Af.out CI.out By.out ?_);rfl;rfl))
   obtain⟨B,hB⟩:∃ x,wr.heap.size=x:=⟨_,rfl⟩;rw[hB]at Ae ⊢;obtain⟨Wb,Am⟩:∃ V,wr.alloc (.cells FC 160)=V:=⟨_,rfl⟩;have hsb:Wb.heap.size=B+1:=by rw[← Am,zm,hB]
   rw[Am]at BB Ae ⊢;have hqB:q+1≤B:=by have:=BE.out;omega
   have Ad:Below B wr Wb:=by
    rw[← Am,← hB];exact(Below.refl _ _).alloc (ja _) _
   have Hck:=zi (zm3 (some ⟨gg,0,none⟩) (m * 64) cb 64 (by omega) Wb);rw[hsb]at Hck;have CU:=zi Ae;have BJ:=zi Ad;have HB:=zi hB;clear BB Ae Ad Am AL
   go_wp2_with fail
   refine Hck.out.mono ?_;rintro e Wc ⟨rfl,Ac⟩;have hsc:Wc.heap.size=B+3:=by rw[Ac];simp[hsb]
   have BA:Fr NoB Wb Wc:=by rw[Ac];exact(Fr.refl.alloc _).alloc _
   have BX:Wc.cell? ⟨B+1,0,none⟩=some (.slice (some ⟨gg,0,none⟩) (m * 64) cb):=by
    have h1:=((Fr.refl (M:=NoB)).alloc (.cells #[.int .i64 64] 3)).block _ _ (zo Wb (.cells #[.slice (some ⟨gg,0,none⟩) (m * 64) cb] 24)) (fun h=>h);rw[← Ac,hsb]at h1;simp[World.cell?,h1]
   have BW:Wc.cell? ⟨B+2,0,none⟩=some (.int .i64 64):=by
    have h1:=zo (Wb.alloc (.cells #[.slice (some ⟨gg,0,none⟩) (m * 64) cb] 24)) (.cells #[.int .i64 64] 3);rw[← Ac,zm,hsb]at h1;simp[World.cell?,h1]
   have CK:=zi BX;have CJ:=zi BW;have Bh:Below B wr Wc:=BJ.out.trans (BA.below (by omega) (fun _ _ _ h=>h.elim));have Bi:=BA.block _ _ CU.out (fun h=>h);have CT:=zi Bh;have Bw:=zi Bi;clear BX BW BA Ac Hck Bh Bi
   go_wp2_with fail
   refine(wpIn_wide (n:=5)).1 ?_
   refine wpIn_rangeFunc_ownH (w:=Wc) rfl (by omega) (gf:=211) (lb:=#[.pointer (some ⟨B+1,0,none⟩),.pointer (some ⟨B+1+1,0,none⟩)]) rfl trivial (enters_of Tryz.func211 (by kernel_rfl) rfl)
    (zfx Fence.wide 4 trivial rfl (by omega) (B+1) (B+1+1) gg 0 cb 64 m (by omega) (by omega) (by omega) CB CA (by omega) Wc (by omega) (by omega) CK.out CJ.out)
    Ck2.trans (fun W l o o' hl ho hc hw=>Ck2.put (n₀:=B+3) (by omega) (by omega) W l o o' (by omega) ho hc hw) (Below.refl _ _) (fun _=>rfl)
    (fun AF V=>((∃ cs,V.heap[B]? = some (.cells cs 160 (0,0)))∧V.rangeAt B 0 (wkC (dSt PD s0 AF)).toList)∧Below B wr V∧Wc.heap.size≤V.heap.size)
    (fun c AF V=>False)
    ?hI (fun _ s A B Ai hs hg hr=>hs.elim)
    ?h0
    (fun x a' V=>a'={ tmps:=#[.pointer (some ⟨b,0,none⟩),.slice (some ⟨g,0,none⟩) vs.length cap,.pointer (some ⟨q,0,none⟩),undef,.slice none 0 0,.slice (some ⟨gg,0,none⟩) (m * 64) cb,.int .u64 ((List.length l:Nat):Int),.int .i64 64,.int .i64 (-1),.pointer (some ⟨B,0,none⟩),.slice (some ⟨gg,x.val * 64,none⟩) 64 64,undef,undef,undef,undef,.slice (some ⟨g,0,none⟩) vs.length cap,.slice a2 (List.length l) c2,.slice a2 (List.length l) c2,.int .i64 ((List.length l:Nat):Int),.int .u64 ((List.length l:Nat):Int),.pointer (some ⟨b,0,none⟩),.pointer (some ⟨b,0,none⟩),.pointer (some ⟨b,0,none⟩),.int .i64 32,.int .i64 512,.int .i64 64,.slice a2 (List.length l) c2,.slice (some ⟨w2.heap.size,0,none⟩) 1 1,.slice a3 (List.length l+1) c3,.slice az n cz,.int .i64 (n:Int),.int .i64 64,.int .i64 (r:Int),.int .i64 64,.pointer (some ⟨b,0,none⟩),.pointer (some ⟨b,0,none⟩),.pointer (some ⟨b,22,none⟩),.int .i64 8,.int .i64 56,.bool false,u40,u41,u42,.pointer (some ⟨b,0,none⟩),.pointer (some ⟨b,0,none⟩),.pointer (some ⟨b,22,none⟩),.int .i64 8,.int .i64 7,.int .i64 (-1),.bool false,u50,u51,u52,u53,u54,u55,u56,u57,u58,u59,u60,u61,u62,u63,u64,u65,u66,u67,u68,u69,u70,u71,u72,u73,u74,u75,.pointer (some ⟨b,0,none⟩),.pointer (some ⟨b,0,none⟩),.pointer (some ⟨b,2,none⟩),.agg FC,.slice (some ⟨gg,0,none⟩) (m * 64) cb,.int .i64 64,.func (.func 211) #[] #[.pointer (some ⟨B+1,0,none⟩),.pointer (some ⟨B+1+1,0,none⟩)],.slice (some ⟨gg,x.val * 64,none⟩) 64 64,undef,undef,undef,undef,undef,undef,undef,undef,undef,undef,undef,undef,undef,undef,undef,undef,undef,undef,undef,undef,undef,undef,undef,undef,undef,undef],defers:=[] })
    (fun x a' s A B Ai hs hg hr=>hs) ?assign ?body ?done ?stop
   case hI =>
    rintro s A B' Ai ⟨⟨⟨cs,h1⟩,h2⟩,h5,h6⟩ hg BN;have Bj:=qo (β:=Unit) _ _ _ _ () A B' Ai h1 hg (fun r e=>(BN r e).2);exact⟨⟨⟨cs,Bj⟩,zcx h2 (Bj.trans h1.symm)⟩,ownFrom_below (β:=Unit) (n₀:=B) (B:=Wc.heap.size) (w₀:=wr) (by omega) (by omega) () A B' Ai h5 hg BN,Nat.le_trans h6 hg.size⟩
   case h0 =>
    exact⟨⟨⟨_,Bw.out⟩,by have h:=jz Bw.out;rw[← CP.out]at h;exact h⟩,CT.out,ja _⟩
   case assign =>
    rintro l AF x V K hI hK;have HI:=zi hI;have HK:=zi hK;clear hI hK;unfold zh4
    gi_wp2
    exact HK.out _ _ (KeepsFrom.refl _ _) Ck2.refl HI.out rfl
   case body =>
    rintro l' AF x a' V hl ⟨r',B7⟩ ⟨⟨⟨cs,AA⟩,AB⟩,AE,AL⟩ rfl hX;have Ah:=zi AE;have Hsz:=zi AL;have hx:=x.isLt;obtain⟨st,AH⟩:∃ z,dSt PD s0 AF=z:=⟨_,rfl⟩;have hu:st.lt:=by rw[← AH];exact zpf PD AF s0 Hslt.out
    have AJ:dSt PD s0 (AF++[x])=zbg kShort st ((PD.drop (x.val * 64)).take 64):=by rw[← AH];unfold dSt;rw[List.foldl_append];rfl
    rw[AH]at AB;have Ay:((PD.drop (x.val * 64)).take 64).length=64:=by rw[List.length_take,List.length_drop,Htl.out];omega
    have Bd:=(AE.block b (by omega)).trans Bq.out;have AW:=(AE.block q (by omega)).trans Hpr.out;have p0V:V.cell? ⟨q,0,none⟩=some (.pointer (some ⟨b,0,none⟩)):=by simp[World.cell?,AW]
    have h9:∀ (j:Nat) (y:UInt8),((PD.drop (x.val * 64)).take 64)[j]? = some y→V.cell? ⟨gg,x.val * 64+j,none⟩=some (.int .u8 y.toNat):=fun j y hy=>by
     have A1:j<64:=by
      rcases Nat.lt_or_ge j 64 with h | h
      ·exact h
      rw[List.getElem?_eq_none (by rw[Ay];exact h)]at hy;cases hy
     rw[List.getElem?_take,if_pos A1,List.getElem?_drop]at hy;have h:=Hrow.out _ _ hy;have h6:gg<wr.heap.size:=World.block_lt_of_cell? _ _ h;exact(AE.cell (p:=⟨gg,x.val * 64+j,none⟩) (by show gg<B;omega)).trans h
    have AG:∀ i,i<64→V.cell? ⟨tb,i,none⟩=some (.int .u32 (kShort.getD i 0:Nat)):=fun i hi=>by
     have h:=Htab.out i hi;have h6:tb<w.heap.size:=World.block_lt_of_cell? _ _ h;have h7:=Hq.out;have h0:=Fr.cell hV.out (Fr.cell BI.out (Fr.cell At.out h)) (fun _ (h5:q+1≤tb)=>by omega);exact(AE.cell (p:=⟨tb,i,none⟩) (by show tb<B;omega)).trans h0
    have BR:x.val * 64≤maxLen:=by unfold maxLen;omega
    have BS:=(callsIn_wide (n:=2)).2 (zpw b tb tcap gg (x.val * 64) 64 s0 st _ V (by decide) (ja _) BR Ay hu AG h9 Bd);have Hpc:=zi BS;have h7:V.cell? ⟨B,7,none⟩=some (.int .u32 st.h):=AB 7 _ rfl
    have BZ:8≤cs.size:=by
     rcases Nat.lt_or_ge 7 cs.size with h | h
     ·exact h
     simp[World.cell?,AA,h]at h7
    obtain⟨C1,AD⟩:∃ X,wkC st=X:=⟨_,rfl⟩;obtain⟨C2,AP⟩:∃ X,wkC (zbg kShort st ((PD.drop (x.val * 64)).take 64))=X:=⟨_,rfl⟩;have BK:Hid ((Tryz.prog.info? 160).map (·.size)=some C1.toList.length):=zi (by rw[← AD];kernel_rfl);have CW:Hid ((Tryz.prog.info? 160).map (·.size)=some C2.size):=zi (by rw[← AP];kernel_rfl);have CX:Hid (C2.all (·.oneCell')=true):=zi (by rw[← AP];simp[wkC,Value.oneCell']);have CV:Hid (C2.size=8):=zi (by rw[← AP];rfl);rw[AD]at AB;rw[AD,AP]at Hpc;rw[← AJ]at AP;have CR:=zi AP;have Hst:=zi AB;have Hblk:=zi AA;have Hcs:=zi BZ;clear AA AB BZ h7 AD AP BS h9 AG Ay Bd AW AJ hu BR AH B7 hl AE AL hX
    gi_wp2_with (with_reducible refine zd1 rfl 160 _ rfl B 0 rfl C1.toList (.array 8 159) Hst.out Tryz.underlying160 rfl BK.out ?_)
    refine⟨trivial,CallsIn.mono (F:=Fence.wide.inRound l') Hpc.out ?_⟩;rintro e V2 ⟨rfl,BC⟩;have A3:=BC.block _ _ Hblk.out (fun h=>h);have Bl:Hid (V2.there B 0 C2.size):=zi (jw A3 (by rw[CV.out];exact Hcs.out));have CM:=zi A3;have AT:=zi BC;clear A3 BC
    gi_wp2_with (refine zda rfl 160 _ _ rfl B 0 C2 rfl rfl Bl.out CW.out CX.out ?_)
    have AO:Fr (fun k _=>k=B) V (V2.setCells B 0 C2.toList):=(AT.out.mono (fun _ _ h=>h.elim)).trans' (ji B _ _ _);obtain⟨CH,CD⟩:=zeh C2.toList 0 V2 _ CM.out;have B6:=World.rangeAt_setCells_same V2 B 0 C2.toList (by have:=Bl.out;simpa using this);have CE:=Hsz.out;have B5:=AO.size;obtain⟨o1,BV⟩:∃ o,V.heap[B+1]? = some o:=⟨_,Array.getElem?_eq_getElem (by omega)⟩;obtain⟨o2,BU⟩:∃ o,V.heap[B+1+1]? = some o:=⟨_,Array.getElem?_eq_getElem (by omega)⟩;refine⟨⟨AO.size,fun k o hk ho _=>AO.block k o ho (fun h=>by omega)⟩,⟨AO.size,?_,?_⟩,⟨⟨CH,CD⟩,?_⟩,Ah.out.trans (AO.below (by omega) (fun k o hk h=>by omega)),Nat.le_trans CE B5⟩
    ·exact(AO.block _ _ BV (fun h=>by omega)).trans BV.symm
    ·exact(AO.block _ _ BU (fun h=>by omega)).trans BU.symm
    rw[CR.out];exact B6
   case done =>
    rintro D ys V hD rfl ⟨⟨⟨cs,AA⟩,AB⟩,AE,AL⟩ hK;have Ah:=zi AE;have HK:=zi hK;rw[zm2]at AB
    have AC:zpz s0 l=((zaz 64 m PD).foldl (zbg kShort) s0).list.flatMap zbl:=by
     unfold zpz;rw[Bt.out.2,Bt.out.1]
    rw[Br.out]at AC;obtain⟨st,AH⟩:∃ z,(zaz 64 m PD).foldl (zbg kShort) s0=z:=⟨_,rfl⟩;rw[AH]at AB AC;have HD:=zi AC;have Hst:=zi AB;have Hsz:=zi AL
    have hu:st.lt:=by
     rw[← AH,← zm2];exact zpf PD _ s0 Hslt.out
    have Hstl:=zi hu;clear AA AB AH AE hK AC AL hu;obtain⟨C1,AD⟩:∃ X,wkC st=X:=⟨_,rfl⟩;rw[AD]at Hst;have BK:Hid ((Tryz.prog.info? 160).map (·.size)=some C1.toList.length):=zi (by rw[← AD];kernel_rfl);have CS:=zi AD;clear AD
    have BP:q<V.heap.size∧D<V.heap.size∧b<V.heap.size:=by
     have h1:=Hsz.out;have h2:=HK.out;exact⟨by omega,jq h2,by omega⟩
    have AQ:=zi BP;clear BP
    go_wp2_with(with_reducible refine wpList_load_mid rfl 160 _ rfl B 0 rfl C1.toList (.array 8 159) Hst.out Tryz.underlying160 rfl BK.out ?_)
    obtain⟨wn,B1⟩:∃ x:World,x=wr:=⟨_,rfl⟩;subst B1
    go_loopg [11,89] 9 (fun gf vo vj wr=>∃ j:Nat,vj = .int .i64 j∧j≤8∧j+gf=9∧Hid (OB V.heap.size ((st.list.take j).flatMap zbl) vo wr)∧Hid (Fr (fun k _=>V.heap.size≤k) V wr))
    case atStart=>exact⟨0,rfl,by omega,by omega,zi (OB.nil0 _ _),zi Fr.refl⟩
    case round =>
     obtain⟨j,rfl,hj,BY,HO,AR⟩:=hrel;have AW:=AR.out.block _ _ ((Ah.out.block q (by omega)).trans Hpr.out) (fun h=>by have:=AQ.out.1;omega);have Bb:=AR.out.block _ _ ((Ah.out.block b (by omega)).trans Bq.out) (fun h=>by have:=AQ.out.2.2;omega);have p0:wr.cell? ⟨q,0,none⟩=some (.pointer (some ⟨b,0,none⟩)):=by simp[World.cell?,AW]
     have b0:wr.cell? ⟨b,0,none⟩=some (.int .i64 32):=by simp[World.cell?,Bb,zba]
     have Hp0:=zi p0;clear AW Bb;by_cases hX:j<8
     ·have Az:decide ((j:Int)<8)=true:=decide_eq_true (by omega);have CG:∀ w,(Instr.index 160 (.agg C1) (.int .i64 (j:Int))).run Tryz.prog w = .ok (.int .u32 ((st.list.getD j 0:Nat):Int)) w:=by rw[← CS.out];exact zql st j hX
      have hx:=zpi Hstl.out j;have Ak:=zng st j hX;obtain⟨x,BM⟩:∃ x,st.list.getD j 0=x:=⟨_,rfl⟩;rw[BM]at CG hx Ak;obtain⟨T0,A5⟩:∃ X,(st.list.take j).flatMap zbl=X:=⟨_,rfl⟩;rw[A5]at HO Ak;obtain⟨ao,co,rfl⟩:=HO.out.form;have Htk:=zi Ak;have CN:=zi A5;clear Ak A5 BM
      go_wp2_with fail
      obtain⟨wm,B2⟩:∃ x:World,x=wr:=⟨_,rfl⟩;subst B2;obtain⟨go,B9⟩:∃ x:Nat,x=gk:=⟨_,rfl⟩;subst B9;have CO:Hid (OB V.heap.size (T0++(zbl x).take 0) (.slice ao T0.length co) wm):=zi (by rw[List.take_zero,List.append_nil];exact HO.out)
      have hTl:T0.length≤28:=by
       rw[← CN.out];exact zph st j hX
      go_loopg [11,14] 5 (fun gf vo vi wr=>∃ k:Nat,vi = .int .i64 (24 - 8 * (k:Int))∧k≤4∧k+gf=5∧Hid (OB V.heap.size (T0++(zbl x).take k) vo wr)∧Hid (Fr (fun k _=>V.heap.size≤k) V wr))
      case atStart=>exact⟨0,rfl,by omega,by omega,CO,AR⟩
      case round =>
       obtain⟨k,rfl,hk,hkg,hf,AS⟩:=hrel;obtain⟨ab,Ar,Au⟩:=hf.out.form;subst Au;have hszk:=AS.out.size;have hL:(T0++(zbl x).take k).length=T0.length+k:=by rw[List.length_append,List.length_take,show(zbl x).length=4 from rfl];omega
       by_cases hk4:k<4
       ·obtain ⟨t2,B4⟩:∃ z,T0.length+k=z:=⟨_,rfl⟩;have ht28:t2≤31:=by omega
        rw[B4]at hL;obtain⟨T2,hN⟩:∃ X,T0++(zbl x).take k=X:=⟨_,rfl⟩;rw[hN]at hf hL;rw[hN,hL];have hQ:k=0∨k=1∨k=2∨k=3:=by omega
        rcases hQ with rfl | rfl | rfl | rfl
        ·have hG:(x:Int) / 16777216=((UInt8.ofNat (x / 2 ^ 24)).toNat:Int):=by
          rw[UInt8.toNat_ofNat'];omega
         obtain⟨y,hH⟩:∃ z,UInt8.ofNat (x / 2 ^ 24)=z:=⟨_,rfl⟩;rw[hH]at hG
         have hM:T0++(zbl x).take (0+1)=T2++[y]:=by
          rw[← hN,← hH,List.append_assoc];rfl
         have hU:=zi hM;have hR:=zi hG;have Htl:=zi hL;clear hG hH hM hN hL
         go_wp2_with(at_builtin;refine zcg ?_)
         rw[hR.out];refine zi ?_;refine wpList_append_own _ rfl _ _ 24 rfl V.heap.size 5 i0 (.int .u8 0) 1 1 Tryz.underlying24 he hd hb ha rfl (by decide) (.slice ab t2 Ar) t2 (zj T2) rfl (by have h:=hf.out;unfold OB at h;rw[Htl.out]at h;exact h.alloc _) ⟨wr.heap.size,0,none⟩ 1 1 [.int .u8 y.toNat] rfl rfl (j8 wr [.int .u8 y.toNat] 5) (by simp[Value.oneCell']) (by unfold maxLen;omega) (by omega) (by rw[zm];omega) ?_;intro v4 w4 hA hC _;obtain⟨hF,hJ⟩:=hf.out.push (news:=[y]) (w2:=w4) (v':=v4) ((Fr.refl (M:=NoB)).alloc _) (by rw[Htl.out];exact hA) (by rw[Htl.out];exact hC);rw[← hU.out]at hF;have hO:=zi hF;have hP:=zi (AS.out.trans' hJ);clear hA hC hF hJ
         go_wp2_with fail
         go_roundg (gk - 1)
         case measure=>omega
         case rel=>exact⟨0+1,rfl,by omega,by omega,hO,hP⟩
        ·have hG:(x:Int) / 65536 % 256=((UInt8.ofNat (x / 2 ^ 16)).toNat:Int):=by
          rw[UInt8.toNat_ofNat'];omega
         obtain⟨y,hH⟩:∃ z,UInt8.ofNat (x / 2 ^ 16)=z:=⟨_,rfl⟩;rw[hH]at hG
         have hM:T0++(zbl x).take (1+1)=T2++[y]:=by
          rw[← hN,← hH,List.append_assoc];rfl
         have hU:=zi hM;have hR:=zi hG;have Htl:=zi hL;clear hG hH hM hN hL
         go_wp2_with(at_builtin;refine zcg ?_)
         rw[hR.out];refine zi ?_;refine wpList_append_own _ rfl _ _ 24 rfl V.heap.size 5 i0 (.int .u8 0) 1 1 Tryz.underlying24 he hd hb ha rfl (by decide) (.slice ab t2 Ar) t2 (zj T2) rfl (by have h:=hf.out;unfold OB at h;rw[Htl.out]at h;exact h.alloc _) ⟨wr.heap.size,0,none⟩ 1 1 [.int .u8 y.toNat] rfl rfl (j8 wr [.int .u8 y.toNat] 5) (by simp[Value.oneCell']) (by unfold maxLen;omega) (by omega) (by rw[zm];omega) ?_;intro v4 w4 hA hC _;obtain⟨hF,hJ⟩:=hf.out.push (news:=[y]) (w2:=w4) (v':=v4) ((Fr.refl (M:=NoB)).alloc _) (by rw[Htl.out];exact hA) (by rw[Htl.out];exact hC);rw[← hU.out]at hF;have hO:=zi hF;have hP:=zi (AS.out.trans' hJ);clear hA hC hF hJ
         go_wp2_with fail
         go_roundg (gk - 1)
         case measure=>omega
         case rel=>exact⟨1+1,rfl,by omega,by omega,hO,hP⟩
        ·have hG:(x:Int) / 256 % 256=((UInt8.ofNat (x / 2 ^ 8)).toNat:Int):=by
          rw[UInt8.toNat_ofNat'];omega
         obtain⟨y,hH⟩:∃ z,UInt8.ofNat (x / 2 ^ 8)=z:=⟨_,rfl⟩;rw[hH]at hG
         have hM:T0++(zbl x).take (2+1)=T2++[y]:=by
          rw[← hN,← hH,List.append_assoc];rfl
         have hU:=zi hM;have hR:=zi hG;have Htl:=zi hL;clear hG hH hM hN hL
         go_wp2_with(at_builtin;refine zcg ?_)
         rw[hR.out];refine zi ?_;refine wpList_append_own _ rfl _ _ 24 rfl V.heap.size 5 i0 (.int .u8 0) 1 1 Tryz.underlying24 he hd hb ha rfl (by decide) (.slice ab t2 Ar) t2 (zj T2) rfl (by have h:=hf.out;unfold OB at h;rw[Htl.out]at h;exact h.alloc _) ⟨wr.heap.size,0,none⟩ 1 1 [.int .u8 y.toNat] rfl rfl (j8 wr [.int .u8 y.toNat] 5) (by simp[Value.oneCell']) (by unfold maxLen;omega) (by omega) (by rw[zm];omega) ?_;intro v4 w4 hA hC _;obtain⟨hF,hJ⟩:=hf.out.push (news:=[y]) (w2:=w4) (v':=v4) ((Fr.refl (M:=NoB)).alloc _) (by rw[Htl.out];exact hA) (by rw[Htl.out];exact hC);rw[← hU.out]at hF;have hO:=zi hF;have hP:=zi (AS.out.trans' hJ);clear hA hC hF hJ
         go_wp2_with fail
         go_roundg (gk - 1)
         case measure=>omega
         case rel=>exact⟨2+1,rfl,by omega,by omega,hO,hP⟩
        have hG:(x:Int) % 256=((UInt8.ofNat (x)).toNat:Int):=by
         rw[UInt8.toNat_ofNat'];omega
        obtain⟨y,hH⟩:∃ z,UInt8.ofNat (x)=z:=⟨_,rfl⟩;rw[hH]at hG
        have hM:T0++(zbl x).take (3+1)=T2++[y]:=by
         rw[← hN,← hH,List.append_assoc];rfl
        have hU:=zi hM;have hR:=zi hG;have Htl:=zi hL;clear hG hH hM hN hL
        go_wp2_with(at_builtin;refine zcg ?_)
        rw[hR.out];refine zi ?_;refine wpList_append_own _ rfl _ _ 24 rfl V.heap.size 5 i0 (.int .u8 0) 1 1 Tryz.underlying24 he hd hb ha rfl (by decide) (.slice ab t2 Ar) t2 (zj T2) rfl (by have h:=hf.out;unfold OB at h;rw[Htl.out]at h;exact h.alloc _) ⟨wr.heap.size,0,none⟩ 1 1 [.int .u8 y.toNat] rfl rfl (j8 wr [.int .u8 y.toNat] 5) (by simp[Value.oneCell']) (by unfold maxLen;omega) (by omega) (by rw[zm];omega) ?_;intro v4 w4 hA hC _;obtain⟨hF,hJ⟩:=hf.out.push (news:=[y]) (w2:=w4) (v':=v4) ((Fr.refl (M:=NoB)).alloc _) (by rw[Htl.out];exact hA) (by rw[Htl.out];exact hC);rw[← hU.out]at hF;have hO:=zi hF;have hP:=zi (AS.out.trans' hJ);clear hA hC hF hJ
        go_wp2_with fail
        go_roundg (gk - 1)
        case measure=>omega
        case rel=>exact⟨3+1,rfl,by omega,by omega,hO,hP⟩
       obtain rfl:k=4:=by omega
       have AK:T0++(zbl x).take 4=(st.list.take (j+1)).flatMap zbl:=Htk.out.symm;rw[AK]at hf ⊢;clear AK hL
       go_wp2_with fail
       go_roundg (go - 1)
       case measure=>omega
       case rel=>exact⟨j+1,by simp,by omega,by omega,hf,AS⟩
     obtain rfl:j=8:=by omega
     have Az:decide (((8:Nat):Int)<8)=false:=by decide
     have Ab:(st.list.take 8).flatMap zbl=PP:=by rw[HD.out];rfl
     rw[Ab]at HO;have Bg:=AR.out.block _ _ HK.out (fun h=>by have:=AQ.out.2.1;omega);have h1:=Hq.out;have h2:=BE.out;have h3:=AQ.out.1;have h4:=AR.out.size;have Bc:Below q w wr:=((((At.out.trans' BI.out).below (by omega) (fun _ _ _ h=>h.elim)).trans (hV.out.below (by omega) (fun k o _ h=>by omega))).trans (Ah.out.mono (by omega))).trans (AR.out.below (by omega) (fun k o _ h=>by omega));have Bv:=zi Bg;have CL:=zi Bc;have HqD:Hid (q≤D):=zi (by omega);obtain⟨ao,co,rfl⟩:=HO.out.form;clear Bg Bc h1 h2 h3 h4 Ab
     go_wp2_with fail
     refine⟨by simp,.inl ⟨_,_,rfl,run_takeDeferred Bv.out,?_⟩⟩;have Ba:Below q w (wr.putObj D (.deferred none)):=CL.out.trans (belowK_b (w:=Wc) (by omega) wr D _ _ hD Bv.out rfl rfl)
     have CF:OB q PP (.slice ao (List.length PP) co) (wr.putObj D (.deferred none)):=by
      refine OB.base (B:=V.heap.size) ?_ (by have:=AQ.out.1;omega);refine zcz HO.out (fun k hk=>?_)
      have hkV:V.heap.size≤k:=by
       rcases HO.out.2 with⟨h,_⟩ | ⟨g',cap',cur',e',hb',_⟩
       ·rw[h]at hk;cases hk
       rw[e']at hk;cases hk;exact hb'
      unfold World.putObj;simp only;rw[Array.getElem?_setIfInBounds_ne (by have:=AQ.out.2.1;omega)]
     rw[← Hq.out]at Ba;exact⟨.slice ao (List.length PP) co,results_tmp (t:=4) rfl _ _ _,_,rfl,by rw[Hq.out];exact CF,Fr.ofBelow Ba⟩
   case stop =>
    intro D c AF V hD hp h;exact h.elim
theorem zru (S:Nat→Prop)(vs:List (Value × Bs))(g cap b tb tcap:Nat)(s0:Wk)(w:World)(hg:∀ i (hi:i<vs.length),w.cell? ⟨g,i,none⟩=some vs[i].1)(hsb:∀ x∈vs,SB S x.2 x.1 w)(hnil:∀ x∈vs,∀ n c,x.1 = .slice none n c→c=0)(hn:vs.length≤1000)(ht:tot vs≤500000)
 (hslt:s0.lt) (htab:∀ i,i<64→w.cell? ⟨tb,i,none⟩=some (.int .u32 (kShort.getD i 0:Nat))) (hS:w.heap[b]? = some (.cells (zba (.slice (some ⟨tb,0,none⟩) 64 tcap) s0) 162 (0,0))) :
 Calls Tryz.prog 118 #[.pointer (some ⟨b,0,none⟩),.slice (some ⟨g,0,none⟩) vs.length cap] w fun e w'=>∃ v,e = .returned v∧OB w.heap.size (zpz s0 (flat vs)) v w'∧Fr NoB w w' :=
 callsIn_wide.1 (zra S vs g cap b tb tcap s0 w hg hsb hnil hn ht hslt htab hS)
end Go.Proofs.YtffggpplnjibgaaGreatDoor
