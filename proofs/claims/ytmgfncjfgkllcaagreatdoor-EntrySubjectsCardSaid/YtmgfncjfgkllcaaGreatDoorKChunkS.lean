/-
 A region that draws its order and calls nothing,inside a fence: by the walk outside of one.
-/
import Derived.OrdersIn
import Derived.Deep.RegionHeld
import Derived.Test.YtmgfncjfgkllcaaGreatDoorKSeen
import Derived.Test.YtmgfncjfgkllcaaGreatDoorKReadB
open Go.Lib renaming hid→za
namespace Go.Proofs.YtmgfncjfgkllcaaGreatDoor
set_option linter.unusedVariables false
set_option linter.unusedSimpArgs false
set_option linter.unusedSectionVars false
set_option maxRecDepth 100000
set_option maxHeartbeats 2000000
section
open Go.RowKit
def zhl:Op→Bool
 | .load .. | .store .. | .fieldAddr .. | .indexAddr .. | .move .. | .assign .. | .binOp .. | .unOp .. | .slice ..=>true
 | .call c=>match c.callee with
   | .builtin .len | .builtin .min | .builtin .append=>true
   | _=>false
 | _=>false
theorem zyl {P:Program} {s:Sem Value} {w w':World} {x:Next} (h:(do pure (.value (← s)):Sem Next).run P w = .ok x w'):(∃ v,x = .value v)∨x = .skip:=by
 rw[Sem.run_bind]at h;cases hs:s.run P w with
 | ok v w1 =>
   rw[hs]at h;simp only[Result.andThen,Sem.run_pure]at h;cases h;exact .inl ⟨_,rfl⟩
 | halt v w1=>rw[hs]at h;cases h
theorem z07 {P:Program} {s:Sem Unit} {w w':World} {x:Next} (h:(do s;pure .skip:Sem Next).run P w = .ok x w'):(∃ v,x = .value v)∨x = .skip:=by
 rw[Sem.run_bind]at h;cases hs:s.run P w with
 | ok v w1 =>
   rw[hs]at h;simp only[Result.andThen,Sem.run_pure]at h;cases h;exact .inr rfl
 | halt v w1=>rw[hs]at h;cases h
theorem zr7 {P:Program} {ρ:Operand→Value} {o:Oper} (h:zhl o.op=true) {w w':World} {x:Next} (hr:(execOp ρ o).run P w = .ok x w'):(∃ v,x = .value v)∨x = .skip:=by
 unfold execOp at hr;cases ho:o.op<;>rw[ho]at h<;>first | (cases h;done) | skip
 all_goals
  rw[ho]at hr
  first
   | exact zyl hr
   | exact z07 hr
   | (simp only[Sem.run_pure]at hr;cases hr;exact .inl ⟨_,rfl⟩)
   | (rename_i c
      obtain⟨hA,cargs,cts⟩:=c;cases hA with
      | builtin b =>
        simp only[resolve,Sem.run_bind,Sem.run_pure,Result.andThen,invoke]at hr;cases b<;>first | (cases h;done) | exact zyl hr
      | invoke r n=>cases h
      | value f=>cases h)
theorem zjb {P:Program} {ρ:Operand→Value} {o:Oper} (h:zhl o.op=true) (w:World):o.about P w ρ=none:=by
 unfold Oper.about
 cases ho:o.op<;>rw[ho]at h<;>first
  | (cases h;done)
  | rfl
  | (rename_i c
     obtain⟨hA,cargs,cts⟩:=c;cases hA with
     | builtin b=>rfl
     | invoke r n=>cases h
     | value f=>cases h)
theorem zt9 {ro:Option Nat}{ρ:Operand→Value}{o:Oper}(h:zhl o.op=true):Oper.semAt ro ρ o=execOp ρ o :=
 Oper.semAt_eq ro ρ o (fun c hc=>by rw[hc]at h;cases h)
def zbb (Q:Exit→Act→World→Prop):Exit→Act→World→Prop
 | .normal,a,w=>Q .normal a w
 | _,_,_=>False
section
variable {F:Fence} {n:Nat} {P:Program} {ops:Array Oper} {Q:Exit→Act→World→Prop} {md:Region.Mode} {S:World→Prop}
theorem zrb {o:Oper} (h:zhl o.op=true) {a:Act} {w:World} {K K':Act→World→Prop} (hK:∀ a w,K a w→K' a w) (hw:o.wp P a w K (zbb Q)):o.wpIn F n P a w K' Q:=by
 unfold Oper.wpIn;refine⟨fun f hf=>(by rw[zjb h]at hf;cases hf),?_⟩;rw[zt9 h];unfold Oper.wp at hw;cases hr:(execOp a.eval o).run P w with
 | ok x w' =>
   rw[hr]at hw;rcases zr7 h hr with⟨v,rfl⟩ | rfl
   ·exact hK _ _ hw
   exact hK _ _ hw
 | halt x w' =>
   rw[hr]at hw;cases x<;>simp only[Oper.upon,zbb]at hw
theorem zcb (hp:∀ o∈ops,zhl o.op=true):∀ (fuel:Nat) (listed:Array Bool) (a:Act) (w:World),wpAnyH P md ops (zbb Q) S fuel listed a w→wpAnyIn F n P md ops Q fuel listed a w
 | 0,_,_,_,h=>h
 | fuel+1,listed,a,w,h=>by
   refine⟨h.1,fun i hi=>?_⟩;have h1:=h.2 i hi;unfold wpOp at h1;unfold wpOpIn;cases ho:ops[i]? with
   | none =>
     rw[ho]at h1;exact zcb hp fuel _ a w h1.2
   | some o =>
     rw[ho]at h1;have hpo:=hp o (Array.mem_of_getElem? ho);simp only at h1 ⊢;split
     ·rename_i hw
      rw[if_pos hw]at h1;rcases h1 with h1 | ⟨-,a',w',h1⟩
      ·exact zrb hpo (fun a w h=>zcb hp fuel _ a w h.2) h1
      exact h1.elim
     rename_i hw
     rw[if_neg hw]at h1;exact⟨fun f hf=>(by rw[zjb hpo]at hf;cases hf),zcb hp fuel _ _ w h1.2⟩
theorem ze4 {id:Nat}{a:Act}{w:World}(hm:P.follows .mixedOrders=true)(hp:ops.all (fun o=>zhl o.op)=true)(hS:S w.drew)
 (h:S w.drew→wpAnyH P .any ops (zbb Q) S ops.size (Array.replicate ops.size false) a w.drew):(Code.region id ops true).wpIn F n P Q a w :=
 wpIn_region_any hm (zcb (fun o ho=>Array.all_eq_true_iff_forall_mem.1 hp o ho) _ _ _ _ (h hS))
end
end
section
open Go.RowKit Go.Shelf
variable [OldK]
attribute [local go_sem] Oper.semAt_some
structure Ck2 (Bs Bn:Nat) (A C:World):Prop where
 size:A.heap.size≤C.heap.size
 b0:C.heap[Bs]? = A.heap[Bs]?
 b1:C.heap[Bn]? = A.heap[Bn]?
theorem Ck2.trans {Bs Bn:Nat}{A B C:World}(h:Ck2 Bs Bn A B)(h':Ck2 Bs Bn B C):Ck2 Bs Bn A C:=⟨Nat.le_trans h.size h'.size,h'.b0.trans h.b0,h'.b1.trans h.b1⟩
theorem Ck2.refl {Bs Bn:Nat}{A:World}:Ck2 Bs Bn A A:=⟨Nat.le_refl _,rfl,rfl⟩
theorem Ck2.drew {Bs Bn:Nat}{A B:World}(h:Ck2 Bs Bn A B):Ck2 Bs Bn A B.drew:=⟨h.size,h.b0,h.b1⟩
theorem Ck2.put {Bs Bn n₀:Nat}(h0:Bs<n₀)(h1:Bn<n₀)(W:World)(l:Nat)(o o':Obj)(hl:n₀≤l)(_:W.heap[l]? = some o)(_:o.isCells=false)(_:o.isWalk=false):Ck2 Bs Bn W (W.putObj l o'):=by
 have hb:=grownBy_putObj' W l o';have hz:(W.putObj l o').heap.size=W.heap.size:=by simp[World.putObj]
 refine⟨by omega,?_,?_⟩
 ·unfold World.putObj;simp only;rw[Array.getElem?_setIfInBounds_ne (by omega)]
 unfold World.putObj;simp only;rw[Array.getElem?_setIfInBounds_ne (by omega)]
theorem zep {A C:World}{b o:Nat}(h:C.heap[b]? = A.heap[b]?):C.cell? ⟨b,o,none⟩=A.cell? ⟨b,o,none⟩:=by simp[World.cell?,h]
def zqy {m:Nat} (gb o k:Nat) (i:Fin m):Array Value:=#[.slice (some ⟨gb,o+i.val * k,none⟩) k k]
end
section
open Go.RowKit Go.Shelf
variable [OldK]
attribute [local go_sem] Oper.semAt_some
theorem zsx (F:Fence) (n:Nat) (h7:F.fn 245) (hro:F.round=none) (hn:1≤n) (l Bs Bn gb o cap k m:Nat) (hk:1≤k) (hk2:k≤1000) (hm:m≤1000000) (hcap:m * k≤cap) (hcm:cap≤maxLen) (hom:o≤maxLen) (J Jx:List (Fin m)→World→Prop)
 (hY:∀ pre x W,J pre W→pre.length<m→YieldAt F (n - 1) Tryz.prog l (zqy gb o k x) W fun e W' =>
   (e = .returned (.bool true)∧J (pre++[x]) W'∧Ck2 Bs Bn W W')∨(e = .returned (.bool false)∧Jx (pre++[x]) W'))
 (W:World) (hB0:W.cell? ⟨Bs,0,none⟩=some (.slice (some ⟨gb,o,none⟩) (m * k) cap)) (hB1:W.cell? ⟨Bn,0,none⟩=some (.int .i64 k)) (h0:J [] W) (hJ:AbidesFrom W.heap.size J) :
 CallsIn F n Tryz.prog 245 #[.func (.yield l) #[] #[],.pointer (some ⟨Bs,0,none⟩),.pointer (some ⟨Bn,0,none⟩)] W fun e W'=>(∃ v,e = .returned v) ∧
  ((∃ ys,ys=List.finRange m∧J ys W')∨(∃ pre,pre <+: List.finRange m∧Jx pre W')):=by
 refine callsIn_of_wp Tryz.func245 rfl h7 ?_ hro;simp only[Tryz.ntmps245,List.size_toArray,List.length_cons,List.length_nil,Nat.reduceAdd,Nat.reduceSub,Array.replicate_succ,Array.replicate_zero,List.push_toArray,List.append_toArray,List.nil_append,List.cons_append]
 gi_wp2
 gi_loopw [4] (fun i wr=>∃ j:Nat,j≤m∧i = .int .i64 ((j * k:Nat):Int)∧J ((List.finRange m).take j) wr∧Ck2 Bs Bn W wr∧W.heap.size≤wr.heap.size)
  (fun i _=>m * k - (intOf i).toNat)
 case atStart=>exact⟨0,Nat.zero_le _,by simp,h0,Ck2.refl,Nat.le_refl _⟩
 case round =>
  obtain⟨j,hj,rfl,hH,hE,hsz⟩:=hrel;have hS:=(zep (o:=0) hE.b0).trans hB0;have hq1:=(zep (o:=0) hE.b1).trans hB1;by_cases hF:j<m
  ·have hC:(j+1) * k≤m * k:=Nat.mul_le_mul_right _ hF;have hG:(j+1) * k=j * k+k:=by rw[Nat.add_mul];omega
   have hO:m * k≤1000000 * 1000:=Nat.mul_le_mul hm hk2;have hQ:=hJ _ _ wr.drew none hH (zsl Fr.refl.drew) (fun r e=>by cases e);obtain⟨fn,tmps,assign,body,hy,hP⟩:=hY _ ⟨j,hF⟩ _ hQ (by simp;omega);unfold zqy at hy
   have hA:(List.finRange m).take (j+1)=(List.finRange m).take j++[⟨j,hF⟩]:=by
    rw[List.take_add_one,List.getElem?_eq_getElem (by simpa using hF)];simp
   have Hrange:=za hA;have Hnx:=za hE;obtain⟨i0,hK⟩:∃ x,j * k=x:=⟨_,rfl⟩;obtain⟨L,hL⟩:∃ x,m * k=x:=⟨_,rfl⟩;rw[hK]at hy hG ⊢;have hT:L≤cap:=by rw[← hL];exact hcap
   rw[hL]at hC hO hS;rw[hG]at hC;have hW:=za (And.intro hK hL);have hlt1:decide ((i0:Int)<(L:Int))=true:=decide_eq_true (by omega);clear hE hH hQ hA hK hL;have hk0:(0:Int)≤(i0:Int):=by omega
   have hkL:(i0:Int)≤(L:Int):=by omega
   have hkc:(i0:Int)≤(cap:Int):=by omega
   have hmin:min (k:Int) ((L - i0:Nat):Int)=(k:Int):=by omega
   gi_wp2_with fail
   refine ze4 (S:=fun V=>V=wr.drew) (by kernel_rfl) (by kernel_rfl) rfl (fun hB=>?_);simp only[qV]
   iterate 7
    refine qt (v:=?_) rfl (Or.inl ⟨by rfl,?_⟩) hB ?_;rotate_left
    ·intro W hU;obtain rfl:=hU
     try simp only[qQ]
     go_simp
     try rw[if_neg (by omega)]
     try with_reducible rfl
    try simp only[Act.put,qP]
   refine wpAnyH_done (by kernel_rfl) ?_ _;clear hB;simp only[zbb];have hik:(i0:Int)+(k:Int)≤(cap:Int):=by omega
   have hik0:(0:Int)≤(k:Int):=by omega
   have hik9:(i0:Int)+(k:Int)≤1000000000:=by omega
   have hsub:i0+k - i0=k:=by omega
   have Hyy:=za hy;have hX:=za hP;have hD:=za hG;clear hC hO hT hG hP hY
   gi_wp2_with fail
   refine hX.out.mono ?_;rintro e W3 (⟨rfl,hV,hI⟩ | ⟨rfl,hM⟩)
   ·have hN:Ck2 Bs Bn W W3:=(Hnx.out.drew).trans hI;have hR:=hI.size;have hZ:=za hN;have hq13:=(zep (o:=0) hN.b1).trans hB1;clear hN hI
    gi_wp2
    go_roundw
    case rel=>exact⟨j+1,by omega,by rw[hD.out];simp,by rw[Hrange.out];exact hV,hZ.out,by simp at hR;omega⟩
    case measure=>have h1:=hD.out;have h2:=hW.out;simp[intOf]<;>omega
   gi_wp2
   refine bodyPost_ret (results_none rfl _ _ _) rfl ?_;exact⟨⟨_,rfl⟩,.inr ⟨_,by rw[← Hrange.out];exact List.take_prefix _ _,hM⟩⟩
  obtain rfl:j=m:=by omega
  rw[List.take_of_length_le (by simp)]at hH
  gi_wp2
  go_end0
  exact⟨⟨_,rfl⟩,.inl ⟨_,rfl,hH⟩⟩
theorem zx3 (a:Option Addr)(n c:Nat)(k:Int)(hk:1≤k)(w:World) :
 Calls Tryz.prog 194 #[.slice a n c,.int .i64 k] w fun e w'=>e = .returned (.func (.func 245) #[] #[.pointer (some ⟨w.heap.size,0,none⟩),.pointer (some ⟨w.heap.size+1,0,none⟩)])∧w'=(w.alloc (.cells #[.slice a n c] 81)).alloc (.cells #[.int .i64 k] 3):=by
 have hk1:decide (k<1)=false:=decide_eq_false (by omega);clear hk;go_enter Tryz.func194,Tryz.ntmps194
 go_wp2_with fail
 go_ret;exact⟨rfl,rfl⟩
theorem zni (F:Fence)(n:Nat)(h7:F.fn 245)(hro:F.round=none)(hn:1≤n)(Bs Bn gb o cap k m:Nat)(hk:1≤k)(hk2:k≤1000)(hm:m≤1000000)(hcap:m * k≤cap)(hcm:cap≤maxLen)(hom:o≤maxLen)(w:World)(hBs:Bs<w.heap.size)(hBn:Bn<w.heap.size)
 (hB0:w.cell? ⟨Bs,0,none⟩=some (.slice (some ⟨gb,o,none⟩) (m * k) cap)) (hB1:w.cell? ⟨Bn,0,none⟩=some (.int .i64 k)) :
 SeqStopsK F n Tryz.prog 245 #[.pointer (some ⟨Bs,0,none⟩),.pointer (some ⟨Bn,0,none⟩)] (zqy gb o k) (Ck2 Bs Bn) (fun ys=>ys=List.finRange m) (fun pre=>pre <+: List.finRange m) m w:=fun l J Jx W hW hJ _ hY h0=>by
 exact zsx F n h7 hro hn l Bs Bn gb o cap k m hk hk2 hm hcap hcm hom J Jx hY W ((hW.cell (p:=⟨Bs,0,none⟩) hBs).trans hB0) ((hW.cell (p:=⟨Bn,0,none⟩) hBn).trans hB1) h0 hJ
end
end Go.Proofs.YtmgfncjfgkllcaaGreatDoor
