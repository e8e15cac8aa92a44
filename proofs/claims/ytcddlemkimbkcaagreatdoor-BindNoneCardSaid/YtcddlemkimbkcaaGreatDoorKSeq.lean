/-
 The walks of slices.Values,AppendSeq,Collect at signatures: a range over a function.
-/
import Derived.RangeFuncNested
import Derived.RangeFuncBound
import Derived.RangeFuncCalls
import Derived.RangeFuncLeaves
import Derived.Shelf.Abstract
import Derived.Shelf.RegionOpen
import Derived.OwnWalkIn
import Derived.TacticsInMore
import Derived.LoopNIn
import Derived.LoopIn
import Derived.Deep.WholeRow
import Derived.Great.Walk
import Derived.Test.YtcddlemkimbkcaaGreatDoorKGet
import Derived.Test.YtcddlemkimbkcaaGreatDoorKSubjects
import Derived.Test.YtcddlemkimbkcaaGreatDoorKSort2
open Go.Lib renaming hid→za
open Go.World renaming size_alloc→zf
open List renaming size_toArray→zn
open Nat renaming le_refl→zt
open Go.Value renaming int→zy
open Go.IntKind renaming u8→z6
namespace Go.Proofs.YtcddlemkimbkcaaGreatDoor
set_option linter.unusedVariables false
set_option linter.unusedSimpArgs false
set_option linter.unusedSectionVars false
set_option maxRecDepth 100000
set_option maxHeartbeats 4000000
open Go.RowKit Go.Shelf
variable [OldK]
attribute [local go_sem] Oper.semAt_some
theorem zhf {p:Prop}(h:Hid p):p:=h.out
section
variable {F:Fence} {nF:Nat} {P:Program} {ops:Array Oper} {rest:List Oper} {op:Oper} {a:Act} {w:World} {Q:Exit→Act→World→Prop}
theorem zaq (hgd:op.guard=none)(ty:TypeId)(x:Operand)(ho:op.op = .load ty x)
 (b o:Nat) (hx:a.eval x = .pointer (some ⟨b,o,none⟩)) (cs:List Value) (d:TypeDesc) (hc:w.rangeAt b o cs)
 (hu:P.underlying ty=some d) (hd:d.isRow=true) (hi:(P.info? ty).map (·.size)=some cs.length)
 (h:wpListIn F nF P ops Q rest (a.put op.dst (.agg cs.toArray)) w):wpListIn F nF P ops Q (op :: rest) a w:=by
 refine wpListIn_plain hgd fun K hK=>?_
 unfold Oper.wpIn;refine⟨by simp[Oper.about,ho],?_⟩;rw[Oper.semAt_plain F _ _ (by rw[ho];intro c hA;cases hA)];simp only[execOp,ho,hx];rw[Sem.run_bind,run_loadAt_mid w b o ty cs d hc hu hd hi];exact hK _ _ h
theorem zbf (hgd:op.guard=none)(ty:TypeId)(x y:Operand)(ho:op.op = .store ty x y)(c c':Array Value)
 (hx:a.eval x = .pointer (some ⟨w.heap.size,0,none⟩)) (hy:a.eval y = .agg c') (hi:(P.info? ty).map (·.size)=some c'.size) (hs:c.size=c'.size) (h1:c'.all (·.oneCell')=true)
 (h:wpListIn F nF P ops Q rest (a.put op.dst undef) (w.alloc (.cells c' ty))):wpListIn F nF P ops Q (op :: rest) a (w.alloc (.cells c ty)):=by
 refine wpListIn_plain hgd fun K hK=>?_
 unfold Oper.wpIn;refine⟨by simp[Oper.about,ho],?_⟩;rw[Oper.semAt_plain F _ _ (by rw[ho];intro c hA;cases hA)];simp only[execOp,ho,hx,hy];rw[Sem.run_bind,run_storeAt_new w ty c c' hi hs h1];exact hK _ _ h
theorem zd0 (hgd:op.guard=none) (t e:TypeId) (len:Nat) (parts:Array (Nat × Operand)) (ho:op.op = .buildSlice t len parts)
 (hu:P.underlying t=some (.slice e)) (cells:Array Value) (hf:P.builtSlice e len (parts.map fun(i,x)=>(i,a.eval x)).toList=some cells)
 (h:wpListIn F nF P ops Q rest (a.put op.dst (.slice (some ⟨w.heap.size,0,none⟩) len len)) (w.alloc (.cells cells e))):wpListIn F nF P ops Q (op :: rest) a w:=by
 refine wpListIn_plain hgd fun K hK=>?_
 unfold Program.builtSlice at hf;cases hA:P.info? e with
 | none=>simp[hA]at hf
 | some ie =>
   simp only[hA]at hf;cases hz:ie.zero with
   | none=>simp[hz]at hf
   | some z =>
     simp only[hz]at hf;by_cases hc:len * ie.size > 2 ^ 24∨len * ie.size=0
     ·simp[hc]at hf
     rw[if_neg hc]at hf;unfold Oper.wpIn;refine⟨by simp[Oper.about,ho],?_⟩;rw[Oper.semAt_plain F _ _ (by rw[ho];intro c hB;cases hB)];simp only[execOp,ho];rw[Sem.run_bind,run_buildSlice w t e len _ cells ie z hu hA hz (fun h'=>hc (Or.inl h')) (fun h'=>hc (Or.inr h')) hf];exact hK _ _ h
end
theorem zav {P:Program} {T:TypeId} {i:TypeInfo} {z:Value} {s len:Nat} (hi:P.info? T=some i) (hz:i.zero=some z) (hs:i.size=s) (hzs:z.cells.size=s) (h0:0<s) (hl:0<len) (hsm:len * s≤2 ^ 24) (vs:List Value) (h1:∀ v∈vs,v.cells.size=s) (hlen:vs.length=len) :
 P.builtSlice T len ((vs.zipIdx 0).map fun x=>(x.2,x.1))=some (vs.flatMap fun v=>v.cells.toList).toArray:=by
 subst hs hlen;unfold Program.builtSlice;rw[hi];simp only[hz]
 rw [if_neg (by
  rintro(h | h)
  ·omega
  rcases Nat.mul_eq_zero.1 h with h | h<;>omega)]
 exact Great.fill_whole h0 vs _ h1 (by simp)
def sgZ:Array Value:=#[.string ⟨#[]⟩,zy z6 0,zy z6 0,zy z6 0,zy z6 0,zy z6 0,zy z6 0,zy z6 0,zy z6 0,zy z6 0,zy z6 0,zy z6 0,zy z6 0,zy z6 0,zy z6 0,zy z6 0,zy z6 0,zy z6 0,zy z6 0,zy z6 0,zy z6 0,zy z6 0,zy z6 0,zy z6 0,zy z6 0,zy z6 0,zy z6 0,zy z6 0,zy z6 0,zy z6 0,zy z6 0,zy z6 0,zy z6 0,zy z6 0,zy z6 0,zy z6 0,zy z6 0,zy z6 0,zy z6 0,zy z6 0,zy z6 0,zy z6 0,zy z6 0,zy z6 0,zy z6 0,zy z6 0,zy z6 0,zy z6 0,zy z6 0,zy z6 0,zy z6 0,zy z6 0,zy z6 0,zy z6 0,zy z6 0,zy z6 0,zy z6 0,zy z6 0,zy z6 0,zy z6 0,zy z6 0,zy z6 0,zy z6 0,zy z6 0,zy z6 0,zy z6 0,zy z6 0,zy z6 0,zy z6 0,zy z6 0,zy z6 0,zy z6 0,zy z6 0,zy z6 0,zy z6 0,zy z6 0,zy z6 0,zy z6 0,zy z6 0,zy z6 0,zy z6 0,zy z6 0,zy z6 0,zy z6 0,zy z6 0,zy z6 0,zy z6 0,zy z6 0,zy z6 0,zy z6 0,zy z6 0,zy z6 0,zy z6 0,zy z6 0,zy z6 0,zy z6 0,zy z6 0]
def Sg.enc (x:Sg):List Value:=if x.cells.size=97 then x.cells.toList else sgZ.toList
theorem Sg.enc_len (x:Sg):x.enc.length=97:=by
 unfold Sg.enc;split
 ·rename_i h
  rw[Array.length_toList,h]
 rfl
theorem Sg.enc_ok {x:Sg}(h:x.ok):x.enc=x.cells.toList:=if_pos (Sg.size h)
theorem Sg.enc_one (x:Sg):x.enc.toArray.all (·.oneCell')=true:=by
 unfold Sg.enc;split
 ·simpa using Sg.one x
 kernel_rfl
theorem Sg.enc_mem (x:Sg):∀ u∈x.enc,u.oneCell'=true:=by
 have h:=Sg.enc_one x;intro u hu;simp only[List.all_toArray,List.all_eq_true]at h;exact h u hu
def SgRow (n₀ gb:Nat) (xs:List Sg) (W:World):Prop:=gb<n₀∧∀ (i:Nat) (x:Sg),xs[i]? = some x→W.rangeAt gb (i * 97) x.cells.toList
theorem SgRow.below {n₀ gb:Nat}{xs:List Sg}{A B:World}(h:SgRow n₀ gb xs A)(hb:Below n₀ A B):SgRow n₀ gb xs B :=
 ⟨h.1,fun i x hx=>zas (h.2 i x hx) (hb.block gb h.1)⟩
theorem zru (F:Fence) (n:Nat) (h7:F.fn 170) (hro:F.round=none) (hn:1≤n) (l Bs n₀ gb len cap:Nat) (xs:List Sg) (hlen:xs.length=len) (hll:len≤67108864) (hok:∀ x∈xs,x.ok) (J Jx:List Sg→World→Prop)
 (hY:∀ pre x W,J pre W→pre.length<len→YieldAt F (n - 1) Tryz.prog l #[.agg x.enc.toArray] W fun e W' =>
   (e = .returned (.bool true)∧J (pre++[x]) W'∧Below n₀ W W')∨(e = .returned (.bool false)∧Jx (pre++[x]) W'))
 (W:World) (hBs:Bs<n₀) (hn₀:n₀≤W.heap.size) (hB0:W.cell? ⟨Bs,0,none⟩=some (.slice (some ⟨gb,0,none⟩) len cap)) (hr:SgRow n₀ gb xs W) (h0:J [] W)
 (hJ:AbidesFrom W.heap.size J) :
 CallsIn F n Tryz.prog 170 #[.func (.yield l) #[] #[],.pointer (some ⟨Bs,0,none⟩)] W fun e W'=>(∃ v,e = .returned v) ∧
  ((∃ ys,ys=xs∧J ys W')∨(∃ pre,pre <+: xs∧Jx pre W')):=by
 obtain⟨d,hu,hd⟩:=zai;have Hu:=za hu;have Hd:=za hd;clear hu hd;refine callsIn_of_wp Tryz.func170 rfl h7 ?_ hro;simp only[Tryz.ntmps170,zn,List.length_cons,List.length_nil,Nat.reduceAdd,Nat.reduceSub,Array.replicate_succ,Array.replicate_zero,List.push_toArray,List.append_toArray,List.nil_append,List.cons_append]
 gi_wp2
 gi_loopw [7] (fun i wr=>∃ k:Nat,k≤len∧i = .int .i64 k∧J (xs.take k) wr∧Below n₀ W wr∧W.heap.size≤wr.heap.size)
  (fun i _=>len - (intOf i).toNat)
 case atStart=>exact⟨0,Nat.zero_le _,rfl,h0,Below.refl _ _,zt _⟩
 case round =>
  obtain⟨k,hk,rfl,hB,hE,hsz⟩:=hrel;by_cases hlt:k<len
  ·obtain ⟨x,hx⟩:∃ x,xs[k]? = some x:=⟨_,List.getElem?_eq_getElem (by omega)⟩;have hR:=(hr.below hE).2 k x hx;have hA:=hok x (List.mem_of_getElem? hx);rw[← Sg.enc_ok hA]at hR;obtain⟨C,hC⟩:∃ C,x.enc=C:=⟨_,rfl⟩;have hD:C.length=97:=by rw[← hC];exact Sg.enc_len x
   have hI:C.toArray.all (·.oneCell')=true:=by rw[← hC];exact Sg.enc_one x
   have hH:=hJ _ _ (wr.alloc (.cells C.toArray 54)) none hB (World.grownBy_alloc wr _ none) (fun r e=>by cases e);obtain⟨fn,tmps,assign,body,hy,hN⟩:=hY _ x _ hH (by rw[List.length_take];omega);rw[hC]at hR hy;have HR:=za hR;have hS:=za (show(wr.alloc (.cells C.toArray 54)).rangeAt wr.heap.size 0 C by simpa using jg (heap_alloc_new wr (.cells C.toArray 54)));have hL:Hid ((Tryz.prog.info? 54).map (·.size)=some C.length):=za (by rw[jy,hD]);have hQ:Hid ((Tryz.prog.info? 54).map (·.size)=some C.toArray.size):=za (by rw[jy,zn,hD]);have hP:Hid (sgZ.size=C.toArray.size):=za (by rw[show C.toArray.size=97 by rw[zn,hD]];rfl);have hT:=za hI;have HX:=za hx;have Hnx:=za hE;clear hx hE hB hH hR hC hD hI hA
   gi_wp2_with (first
    | (with_reducible refine zaq rfl 54 _ rfl gb (k * 97) rfl C d HR.out Hu.out Hd.out hL.out ?_)
    | (refine zbf rfl 54 _ _ rfl sgZ C.toArray rfl rfl hQ.out hP.out hT.out ?_)
    | (with_reducible refine zaq rfl 54 _ rfl wr.heap.size 0 rfl C d hS.out Hu.out Hd.out hL.out ?_))
   refine hN.mono ?_;rintro e W3 (⟨rfl,hO,hF⟩ | ⟨rfl,hG⟩)
   ·have hK:Below n₀ W W3:=(Hnx.out.trans ((Below.refl n₀ wr).alloc (by omega) _)).trans hF;have hM:=hF.size;rw[zf]at hM;have hU:=za hK;clear hK hF
    gi_wp2
    go_roundw
    case rel=>exact⟨k+1,by omega,by simp,by rw[List.take_add_one,HX.out];exact hO,hU.out,by omega⟩
    case measure=>simp[intOf];omega
   gi_wp2
   refine bodyPost_ret (results_none rfl _ _ _) rfl ?_
   exact ⟨⟨_,rfl⟩,.inr ⟨_,⟨xs.drop (k+1),by
    have h2:=HX.out;obtain⟨h3,rfl⟩:=List.getElem?_eq_some_iff.1 h2
    rw[List.append_assoc,List.singleton_append,← List.drop_eq_getElem_cons h3,List.take_append_drop]⟩,hG⟩⟩
  obtain rfl:k=len:=by omega
  have e:xs.take k=xs:=List.take_of_length_le (by omega);rw[e]at hB
  gi_wp2
  go_end0
  exact⟨⟨_,rfl⟩,.inl ⟨_,rfl,hB⟩⟩
theorem zrt (a:Option Addr)(n c:Nat)(w:World) :
 Calls Tryz.prog 122 #[.slice a n c] w fun e w'=>e = .returned (.func (.func 170) #[] #[.pointer (some ⟨w.heap.size,0,none⟩)])∧w'=w.alloc (.cells #[.slice a n c] 37):=by
 go_enter Tryz.func122,Tryz.ntmps122
 go_wp2_with fail
 go_ret;exact⟨rfl,rfl⟩
theorem zn9 (F:Fence)(n:Nat)(h7:F.fn 170)(hro:F.round=none)(hn:1≤n)(Bs n₀ gb cap:Nat)(xs:List Sg)(hll:xs.length≤67108864)(hok:∀ x∈xs,x.ok)(w:World)(hBs:Bs<n₀)(hn₀:n₀≤w.heap.size)
 (hB0:w.cell? ⟨Bs,0,none⟩=some (.slice (some ⟨gb,0,none⟩) xs.length cap)) (hr:SgRow n₀ gb xs w) :
 SeqStopsK F n Tryz.prog 170 #[.pointer (some ⟨Bs,0,none⟩)] (fun x:Sg=>#[Value.agg x.enc.toArray]) (Below n₀) (fun ys=>ys=xs) (fun pre=>pre <+: xs) xs.length w:=fun l J Jx W hW hJ _ hY h0=>by
 have hWn:=hW.mono hn₀;exact zru F n h7 hro hn l Bs n₀ gb xs.length cap xs rfl hll hok J Jx hY W hBs (Nat.le_trans hn₀ hW.size) ((hWn.cell (p:=⟨Bs,0,none⟩) hBs).trans hB0) (hr.below hWn) h0 hJ
def zdr (l:List Sg):List Value:=l.flatMap Sg.enc
theorem ze8:(Tryz.prog.info? 54).map (fun i=>(i.zero,i.size,i.bytes))=some (some (.agg sgZ),97,112):=by kernel_rfl
theorem zli (Bs n₀ gb cap:Nat) (xs:List Sg) (hll:xs.length≤100) (hok:∀ x∈xs,x.ok) (w:World) (hBs:Bs<n₀) (hn₀:n₀=w.heap.size)
 (hB0:w.cell? ⟨Bs,0,none⟩=some (.slice (some ⟨gb,0,none⟩) xs.length cap)) (hr:SgRow n₀ gb xs w) :
 CallsIn Fence.wide 5 Tryz.prog 208 #[.slice none 0 0,.func (.func 170) #[] #[.pointer (some ⟨Bs,0,none⟩)]] w fun e W'=>∃ v,e = .returned v∧W'.ownsRow n₀ 54 97 v xs.length (zdr xs)∧Fr NoB w W':=by
 subst hn₀;obtain⟨W0,hW⟩:∃ W0,w.alloc (.cells #[.slice none 0 0] 37)=W0:=⟨_,rfl⟩;have hs0:W0.heap.size=w.heap.size+1:=by rw[← hW,zf]
 have hJ:Below w.heap.size w W0:=by rw[← hW];exact(Below.refl _ w).alloc (zt _) _
 have hM:W0.heap[w.heap.size]? = some (.cells #[.slice none 0 0] 37 (0,0)):=by rw[← hW];exact heap_alloc_new _ _
 have hf:=(hJ.cell (p:=⟨Bs,0,none⟩) hBs).trans hB0;obtain⟨i0,hi,hc,hb,hn⟩:=info_parts ze8;obtain⟨d,hu,hd⟩:=zai;refine callsIn_of_wp_marks Tryz.func208 rfl trivial ?_ rfl;simp only[Tryz.ntmps208,zn,List.length_cons,List.length_nil,Nat.reduceAdd,Nat.reduceSub,Array.replicate_succ,Array.replicate_zero,List.push_toArray,List.append_toArray,List.nil_append,List.cons_append];have hz:=za hM;have hQ:=za hJ;have Hu:=za hu;have Hd:=za hd;have Hr:=za hr;have hy:=za hf;clear hM hJ hu hd hr hf hB0
 gi_wp2_with fail
 refine wpIn_rangeFunc_ownH (w:=W0) rfl (by omega) (gf:=170) (lb:=#[.pointer (some ⟨Bs,0,none⟩)]) rfl trivial (enters_of Tryz.func170 (by kernel_rfl) rfl)
  (zn9 Fence.wide 4 trivial rfl (by omega) Bs w.heap.size gb cap xs (by omega) hok W0 hBs (by omega) hy.out (Hr.out.below hQ.out))
  belowK_t (belowK_b (by omega)) (Below.refl _ _) (fun _=>rfl)
  (fun hA W=>(∃ v,W.heap[w.heap.size]? = some (.cells #[v] 37 (0,0))∧W.ownsRow w.heap.size 54 97 v hA.length (zdr hA)∧v.ownBlock≠some w.heap.size∧∃ a c,v = .slice a hA.length c)∧Below w.heap.size w W∧W0.heap.size≤W.heap.size)
  (fun c hA W=>False)
  ?hI (fun _ s A B hL hs hg hr=>hs.elim)
  ⟨⟨_,hz.out,⟨rfl,.inl ⟨rfl,rfl⟩⟩,by simp[Value.ownBlock],none,0,rfl⟩,hQ.out,zt _⟩
  (fun x a' W=>∃ Bx,W0.heap.size≤Bx∧W.heap[Bx]? = some (.cells x.enc.toArray 54 (0,0))∧a'={ tmps:=#[.slice none 0 0,.func (.func 170) #[] #[.pointer (some ⟨Bs,0,none⟩)],.pointer (some ⟨w.heap.size,0,none⟩),undef,.slice none 0 0,.pointer (some ⟨Bx,0,none⟩),.func (.func 170) #[] #[.pointer (some ⟨Bs,0,none⟩)],.agg x.enc.toArray,undef,undef,undef,undef,undef],defers:=[] })
  (fun x a' s A B hL hs hg hr=>by
    obtain⟨Bx,h1,h2,h3⟩:=hs
    exact⟨Bx,h1,qe (β:=Unit) _ _ _ _ () A B hL h2 hg (fun r e=>(hr r e).2),h3⟩) ?assign ?body ?done ?stop
 case hI =>
  rintro s A B hL ⟨⟨v,h1,h2,h3,h4⟩,h5,h6⟩ hg hR;refine⟨⟨v,qe (β:=Unit) _ _ _ _ () A B hL h1 hg (fun r e=>(hR r e).2),⟨h2.1,h2.2.imp id ?_⟩,h3,h4⟩,?_,Nat.le_trans h6 hg.size⟩
  ·rintro⟨g,cp,hY,e1,e2,e3,e4⟩;exact⟨g,cp,hY,e1,e2,qe (β:=Unit) _ _ _ _ () A B hL e3 hg (fun r e=>(hR r e).2),e4⟩
  exact ownFrom_below (β:=Unit) (n₀:=w.heap.size) (B:=W0.heap.size) (w₀:=w) (zt _) (by omega) () A B hL h5 hg hR
 case assign =>
  rintro l hA x W K ⟨⟨v,h1,h2,h3,h4⟩,hB,he⟩ hK
  have Hi:Hid (((∃ v,(W.alloc (.cells x.enc.toArray 54)).heap[w.heap.size]? = some (.cells #[v] 37 (0,0))∧(W.alloc (.cells x.enc.toArray 54)).ownsRow w.heap.size 54 97 v hA.length (zdr hA)∧v.ownBlock≠some w.heap.size∧∃ a c,v = .slice a hA.length c)∧Below w.heap.size w (W.alloc (.cells x.enc.toArray 54))∧W0.heap.size≤(W.alloc (.cells x.enc.toArray 54)).heap.size)) :=
   za ⟨⟨v,(Fr.refl (M:=NoB).alloc _).block _ _ h1 (fun h=>h),h2.alloc _,h3,h4⟩,hB.alloc hB.size _,by rw[zf];omega⟩
  have HK:=za hK;have h8:=za (Sg.enc_one x);have hw:Hid ((Tryz.prog.info? 54).map (·.size)=some x.enc.toArray.size):=za (by rw[jy,zn,Sg.enc_len]);have ht:Hid (sgZ.size=x.enc.toArray.size):=za (by rw[show x.enc.toArray.size=97 by rw[zn,Sg.enc_len]];rfl);have hq:w.heap.size≤W.heap.size:=by omega
  clear hK h1 h2 h3 h4 hB
  gi_wp2_with (refine zbf rfl 54 _ _ rfl sgZ x.enc.toArray rfl rfl hw.out ht.out h8.out ?_)
  exact HK.out _ _ ((KeepsOthers.alloc _ _).from _) ((Below.refl _ W).alloc hq _) Hi.out ⟨W.heap.size,he,heap_alloc_new W _,rfl⟩
 case body =>
  rintro l hA x a' W hl ⟨r,hp⟩ ⟨⟨v,h1,h2,h3,a1,c1,rfl⟩,hB,he⟩ ⟨Bx,hBx,hV,rfl⟩ hlt;have hC:=Sg.enc_mem x;have hO:=Sg.enc_len x;obtain⟨C,hX⟩:∃ C,x.enc=C:=⟨_,rfl⟩;have hH:zdr (hA++[x])=zdr hA++C:=by rw[← hX];simp[zdr]
  rw[hX]at hV hC hO
  have hM:=zav (P:=Tryz.prog) hi hc hb (by rfl) (by decide) (by decide:0<1) (by decide) [.agg C.toArray] (fun v hv=>by
   obtain rfl:v = .agg C.toArray:=by simpa using hv
   show C.toArray.size=97
   rw[zn,hO]) rfl
  have Hbl:Hid (Tryz.prog.builtSlice 54 1 [(0,.agg C.toArray)]=some C.toArray):=za (by
   have e:([Value.agg C.toArray].flatMap fun v=>v.cells.toList).toArray=C.toArray:=by simp[Value.cells]
   rw[e]at hM
   exact hM)
  have HR:=za (show W.rangeAt Bx 0 C by simpa using jg hV);have hx:Hid ((Tryz.prog.info? 54).map (·.size)=some C.length):=za (by rw[jy,hO]);have v0:W.cell? ⟨w.heap.size,0,none⟩=some (.slice a1 hA.length c1):=by simp[World.cell?,h1]
  have vz:W.frozen? ⟨w.heap.size,0,none⟩=false:=by simp[World.frozen?,h1]
  have H2:=za h2;have H1:=za h1;have H3:=za h3;have HC:=za hC;have h7:=za hO;have HB:=za hB;have Hrows:=za hH;have hwW:w.heap.size<W.heap.size:=jq h1;clear hV hC hO hM h1 h2 h3 hB hH hX hp hl
  gi_wp2_with (first
   | (with_reducible refine zaq rfl 54 _ rfl Bx 0 rfl C d HR.out Hu.out Hd.out hx.out ?_)
   | ((with_reducible refine zd0 ?_ 37 54 1 _ rfl Tryz.underlying37 C.toArray ?_ ?_);rfl;(refine Eq.trans (congrArg (Tryz.prog.builtSlice 54 1) ?_) Hbl.out;kernel_rfl))
   | (gi_at_builtin;refine zhf ?_))
  refine za ?_;refine wpListIn_append_own _ rfl _ _ 37 rfl w.heap.size 54 i0 (.agg sgZ) 97 112 Tryz.underlying37 hi hc hb hn rfl (by decide) (.slice a1 hA.length c1) hA.length (zdr hA) (by rfl) (H2.out.alloc _) ⟨W.heap.size,0,none⟩ 1 1 C (by rfl) (by rw[h7.out]) (za1 W C 54) HC.out (by unfold maxLen;omega) (by omega) (by rw[zf];omega) ?_;intro v' w1 hE hG hS;rcases hE.2 with⟨rfl,h0⟩ | ⟨g1,cp1,cur1,rfl,hg1,hgb,hgr⟩
  ·omega
  have hU:=fun k (hk:some k=(Value.slice a1 hA.length c1).ownBlock)=>zbr H2.out hk
  have hT:some w.heap.size≠(Value.slice a1 hA.length c1).ownBlock:=fun h=>H3.out h.symm
  have hF:=(hG.block w.heap.size (by rw[zf];omega) hT).trans ((Fr.refl (M:=NoB).alloc (.cells C.toArray 54)).block _ _ H1.out (fun h=>h));have hm:Below w.heap.size W w1:=((Below.refl _ W).alloc (by omega) _).grown hG (by rw[zf];omega) (fun j hj=>by have:=hU j hj.symm;omega)
  have hh:KeepsOthers W w1:=(KeepsOthers.alloc _ _).trans (KeepsOthers.of_grownBy hG (fun j o hj ho=>by
   rcases H2.out.2 with⟨e1,-⟩ | ⟨g2,cp2,cur2,e1,e2,e3,-⟩
   ·rw[e1]at hj;cases hj
   rw[e1]at hj;obtain rfl:g2=j:=by simpa[Value.ownBlock] using hj
   have:=(Fr.refl (M:=NoB).alloc (.cells C.toArray 54)).block _ _ e3 (fun h=>h);rw[this]at ho;cases ho
   rfl))
  have y0:w1.cell? ⟨w.heap.size,0,none⟩=some (.slice a1 hA.length c1):=by simp[World.cell?,hF]
  have yz:w1.frozen? ⟨w.heap.size,0,none⟩=false:=by simp[World.frozen?,hF]
  have hN:g1≠w.heap.size:=fun h=>by
   rw[h,hF]at hgb
   injection hgb with hgb
   injection hgb with _ hgb _
   revert hgb;decide
  have Hgb:=za hgb;have Hgr:=za hgr;have hP:=za hE;have hZ:=za hF;have ha:=za hm;have Hkp:=za hh;clear hE hF hm hh hG hS v0 vz hgb hgr
  gi_wp2
  refine⟨(Hkp.out.trans (KeepsOthers.setCell _ _ _)).from _,ha.out.setCell (p:=⟨w.heap.size,0,none⟩) (zt _) _,⟨.slice (some ⟨g1,0,none⟩) (hA.length+1) cp1,jc (o:=0) (.slice (some ⟨g1,0,none⟩) (hA.length+1) cp1) hZ.out,⟨?_,.inr ⟨g1,cp1,cur1,by simp,hg1,?_,?_⟩⟩,(fun h=>hN (by simpa[Value.ownBlock] using h)),_,_,by rw[List.length_append];rfl⟩,HB.out.trans (ha.out.setCell (p:=⟨w.heap.size,0,none⟩) (zt _) _),?_⟩
  ·rw[Hrows.out];simpa using hP.out.1
  ·rw[Below.heap_setCell _ _ _ _ (by simpa using hN)];exact Hgb.out
  ·rw[Hrows.out];simpa using Hgr.out
  have:=ha.out.size;simp;omega
 case done =>
  rintro D ys W hD rfl ⟨⟨v,hv,ho,-,a1,c1,rfl⟩,hB,-⟩ hK;have v0:W.cell? ⟨w.heap.size,0,none⟩=some (.slice a1 ys.length c1):=by simp[World.cell?,hv]
  have Ho:=za ho;have HB:=za hB;have HK:=za hK;have Hv:=za hv;clear ho hB hK hv
  gi_wp2
  refine⟨by simp,.inl ⟨_,_,rfl,run_takeDeferred HK.out,?_⟩⟩;refine⟨.slice a1 ys.length c1,by simp[results,Tryz.f208,go_sem],_,rfl,⟨Ho.out.1,Ho.out.2.imp id ?_⟩,Fr.ofBelow (HB.out.trans (belowK_b (w:=W0) (by omega) W D _ _ hD HK.out rfl rfl))⟩;rintro⟨g,cp,hY,e1,e2,e3,e4⟩;exact⟨g,cp,hY,e1,e2,qe (β:=Unit) _ _ _ _ () _ _ _ e3 (grownBy_putObj' W D (.deferred none)) (fun r e=>by cases e;exact⟨_,HK.out,rfl⟩),e4⟩
 case stop =>
  rintro D c hA W hD hpre h hK;exact h.elim
end Go.Proofs.YtcddlemkimbkcaaGreatDoor
