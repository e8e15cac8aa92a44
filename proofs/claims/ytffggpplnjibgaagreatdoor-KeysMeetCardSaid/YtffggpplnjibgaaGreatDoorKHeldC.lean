/-
 A region that draws its order and calls nothing,inside a fence: by the walk outside of one.
-/
import Derived.OrdersIn
import Derived.Deep.RegionHeld
import Derived.Test.YtffggpplnjibgaaGreatDoorKSeen
import Derived.Test.YtffggpplnjibgaaGreatDoorKSeq
open Go.Lib renaming hid→zi
namespace Go.Proofs.YtffggpplnjibgaaGreatDoor
set_option linter.unusedVariables false
set_option linter.unusedSimpArgs false
set_option linter.unusedSectionVars false
set_option maxRecDepth 100000
set_option maxHeartbeats 2000000
section
open Go.RowKit
def zgy:Op→Bool
 | .load .. | .store .. | .fieldAddr .. | .indexAddr .. | .move .. | .assign .. | .binOp .. | .unOp .. | .slice ..=>true
 | .call c=>match c.callee with
   | .builtin .len | .builtin .min | .builtin .append=>true
   | _=>false
 | _=>false
theorem zu7 {P:Program} {s:Sem Value} {w w':World} {x:Next} (h:(do pure (.value (← s)):Sem Next).run P w = .ok x w'):(∃ v,x = .value v)∨x = .skip:=by
 rw[Sem.run_bind]at h;cases hs:s.run P w with
 | ok v w1 =>
   rw[hs]at h;simp only[Result.andThen,Sem.run_pure]at h;cases h;exact .inl ⟨_,rfl⟩
 | halt v w1=>rw[hs]at h;cases h
theorem zxr {P:Program} {s:Sem Unit} {w w':World} {x:Next} (h:(do s;pure .skip:Sem Next).run P w = .ok x w'):(∃ v,x = .value v)∨x = .skip:=by
 rw[Sem.run_bind]at h;cases hs:s.run P w with
 | ok v w1 =>
   rw[hs]at h;simp only[Result.andThen,Sem.run_pure]at h;cases h;exact .inr rfl
 | halt v w1=>rw[hs]at h;cases h
theorem zpu {P:Program} {ρ:Operand→Value} {o:Oper} (h:zgy o.op=true) {w w':World} {x:Next} (hr:(execOp ρ o).run P w = .ok x w'):(∃ v,x = .value v)∨x = .skip:=by
 unfold execOp at hr;cases ho:o.op<;>rw[ho]at h<;>first | (cases h;done) | skip
 all_goals
  rw[ho]at hr
  first
   | exact zu7 hr
   | exact zxr hr
   | (simp only[Sem.run_pure]at hr;cases hr;exact .inl ⟨_,rfl⟩)
   | (rename_i c
      obtain⟨hB,cargs,cts⟩:=c;cases hB with
      | builtin b =>
        simp only[resolve,Sem.run_bind,Sem.run_pure,Result.andThen,invoke]at hr;cases b<;>first | (cases h;done) | exact zu7 hr
      | invoke r n=>cases h
      | value f=>cases h)
theorem zim {P:Program} {ρ:Operand→Value} {o:Oper} (h:zgy o.op=true) (w:World):o.about P w ρ=none:=by
 unfold Oper.about
 cases ho:o.op<;>rw[ho]at h<;>first
  | (cases h;done)
  | rfl
  | (rename_i c
     obtain⟨hB,cargs,cts⟩:=c;cases hB with
     | builtin b=>rfl
     | invoke r n=>cases h
     | value f=>cases h)
theorem zrf {ro:Option Nat}{ρ:Operand→Value}{o:Oper}(h:zgy o.op=true):Oper.semAt ro ρ o=execOp ρ o :=
 Oper.semAt_eq ro ρ o (fun c hc=>by rw[hc]at h;cases h)
def zbl (Q:Exit→Act→World→Prop):Exit→Act→World→Prop
 | .normal,a,w=>Q .normal a w
 | _,_,_=>False
section
variable {F:Fence} {n:Nat} {P:Program} {ops:Array Oper} {Q:Exit→Act→World→Prop} {md:Region.Mode} {S:World→Prop}
theorem zo4 {o:Oper} (h:zgy o.op=true) {a:Act} {w:World} {K K':Act→World→Prop} (hK:∀ a w,K a w→K' a w) (hw:o.wp P a w K (zbl Q)):o.wpIn F n P a w K' Q:=by
 unfold Oper.wpIn;refine⟨fun f hf=>(by rw[zim h]at hf;cases hf),?_⟩;rw[zrf h];unfold Oper.wp at hw;cases hr:(execOp a.eval o).run P w with
 | ok x w' =>
   rw[hr]at hw;rcases zpu h hr with⟨v,rfl⟩ | rfl
   ·exact hK _ _ hw
   exact hK _ _ hw
 | halt x w' =>
   rw[hr]at hw;cases x<;>simp only[Oper.upon,zbl]at hw
theorem zbs (hp:∀ o∈ops,zgy o.op=true):∀ (fuel:Nat) (listed:Array Bool) (a:Act) (w:World),wpAnyH P md ops (zbl Q) S fuel listed a w→wpAnyIn F n P md ops Q fuel listed a w
 | 0,_,_,_,h=>h
 | fuel+1,listed,a,w,h=>by
   refine⟨h.1,fun i hi=>?_⟩;have h1:=h.2 i hi;unfold wpOp at h1;unfold wpOpIn;cases ho:ops[i]? with
   | none =>
     rw[ho]at h1;exact zbs hp fuel _ a w h1.2
   | some o =>
     rw[ho]at h1;have hpo:=hp o (Array.mem_of_getElem? ho);simp only at h1 ⊢;split
     ·rename_i hw
      rw[if_pos hw]at h1;rcases h1 with h1 | ⟨-,a',w',h1⟩
      ·exact zo4 hpo (fun a w h=>zbs hp fuel _ a w h.2) h1
      exact h1.elim
     rename_i hw
     rw[if_neg hw]at h1;exact⟨fun f hf=>(by rw[zim hpo]at hf;cases hf),zbs hp fuel _ _ w h1.2⟩
theorem zen {id:Nat}{a:Act}{w:World}(hm:P.follows .mixedOrders=true)(hp:ops.all (fun o=>zgy o.op)=true)(hS:S w.drew)
 (h:S w.drew→wpAnyH P .any ops (zbl Q) S ops.size (Array.replicate ops.size false) a w.drew):(Code.region id ops true).wpIn F n P Q a w :=
 wpIn_region_any hm (zbs (fun o ho=>Array.all_eq_true_iff_forall_mem.1 hp o ho) _ _ _ _ (h hS))
end
end
section
open Go.RowKit Go.Shelf
variable [OldK]
attribute [local go_sem] Oper.semAt_some
structure Ck2 (Bs Bn:Nat) (A C:World):Prop where
 size:A.heap.size≤C.heap.size
 b0:C.heap[Bs]? = A.heap[Bs]?
 b1:C.heap[Bn]? = A.heap[Bn]?
theorem Ck2.trans {Bs Bn:Nat}{A B C:World}(h:Ck2 Bs Bn A B)(h':Ck2 Bs Bn B C):Ck2 Bs Bn A C:=⟨Nat.le_trans h.size h'.size,h'.b0.trans h.b0,h'.b1.trans h.b1⟩
theorem Ck2.refl {Bs Bn:Nat}{A:World}:Ck2 Bs Bn A A:=⟨Nat.le_refl _,rfl,rfl⟩
theorem Ck2.drew {Bs Bn:Nat}{A B:World}(h:Ck2 Bs Bn A B):Ck2 Bs Bn A B.drew:=⟨h.size,h.b0,h.b1⟩
theorem Ck2.put {Bs Bn n₀:Nat}(h0:Bs<n₀)(h1:Bn<n₀)(W:World)(l:Nat)(o o':Obj)(hl:n₀≤l)(_:W.heap[l]? = some o)(_:o.isCells=false)(_:o.isWalk=false):Ck2 Bs Bn W (W.putObj l o'):=by
 have hb:=grownBy_putObj' W l o';have hz:(W.putObj l o').heap.size=W.heap.size:=by simp[World.putObj]
 refine⟨by omega,?_,?_⟩
 ·unfold World.putObj;simp only;rw[Array.getElem?_setIfInBounds_ne (by omega)]
 unfold World.putObj;simp only;rw[Array.getElem?_setIfInBounds_ne (by omega)]
theorem zed {A C:World}{b o:Nat}(h:C.heap[b]? = A.heap[b]?):C.cell? ⟨b,o,none⟩=A.cell? ⟨b,o,none⟩:=by simp[World.cell?,h]
def zmb {m:Nat} (gb o k:Nat) (i:Fin m):Array Value:=#[.slice (some ⟨gb,o+i.val * k,none⟩) k k]
theorem zss (F:Fence) (n:Nat) (h7:F.fn 211) (hro:F.round=none) (hn:1≤n) (l Bs Bn gb o cap k m:Nat) (hk:1≤k) (hk2:k≤1000) (hm:m≤1000000) (hcap:m * k≤cap) (hcm:cap≤maxLen) (hom:o≤maxLen) (J Jx:List (Fin m)→World→Prop)
 (hY:∀ pre x W,J pre W→pre.length<m→YieldAt F (n - 1) Tryz.prog l (zmb gb o k x) W fun e W' =>
   (e = .returned (.bool true)∧J (pre++[x]) W'∧Ck2 Bs Bn W W')∨(e = .returned (.bool false)∧Jx (pre++[x]) W'))
 (W:World) (hB0:W.cell? ⟨Bs,0,none⟩=some (.slice (some ⟨gb,o,none⟩) (m * k) cap)) (hB1:W.cell? ⟨Bn,0,none⟩=some (.int .i64 k)) (h0:J [] W) (hJ:AbidesFrom W.heap.size J) :
 CallsIn F n Tryz.prog 211 #[.func (.yield l) #[] #[],.pointer (some ⟨Bs,0,none⟩),.pointer (some ⟨Bn,0,none⟩)] W fun e W'=>(∃ v,e = .returned v) ∧
  ((∃ ys,ys=List.finRange m∧J ys W')∨(∃ pre,pre <+: List.finRange m∧Jx pre W')):=by
 refine callsIn_of_wp Tryz.func211 rfl h7 ?_ hro;simp only[Tryz.ntmps211,List.size_toArray,List.length_cons,List.length_nil,Nat.reduceAdd,Nat.reduceSub,Array.replicate_succ,Array.replicate_zero,List.push_toArray,List.append_toArray,List.nil_append,List.cons_append]
 gi_wp2
 gi_loopw [4] (fun i wr=>∃ j:Nat,j≤m∧i = .int .i64 ((j * k:Nat):Int)∧J ((List.finRange m).take j) wr∧Ck2 Bs Bn W wr∧W.heap.size≤wr.heap.size)
  (fun i _=>m * k - (intOf i).toNat)
 case atStart=>exact⟨0,Nat.zero_le _,by simp,h0,Ck2.refl,Nat.le_refl _⟩
 case round =>
  obtain⟨j,hj,rfl,hI,hF,hsz⟩:=hrel;have hT:=(zed (o:=0) hF.b0).trans hB0;have hq1:=(zed (o:=0) hF.b1).trans hB1;by_cases hG:j<m
  ·have hD:(j+1) * k≤m * k:=Nat.mul_le_mul_right _ hG;have hH:(j+1) * k=j * k+k:=by rw[Nat.add_mul];omega
   have hP:m * k≤1000000 * 1000:=Nat.mul_le_mul hm hk2;have hR:=hJ _ _ wr.drew none hI (zp2 Fr.refl.drew) (fun r e=>by cases e);obtain⟨fn,tmps,assign,body,hy,hQ⟩:=hY _ ⟨j,hG⟩ _ hR (by simp;omega);unfold zmb at hy
   have hB:(List.finRange m).take (j+1)=(List.finRange m).take j++[⟨j,hG⟩]:=by
    rw[List.take_add_one,List.getElem?_eq_getElem (by simpa using hG)];simp
   have Hrange:=zi hB;have Hnx:=zi hF;obtain⟨i0,hM⟩:∃ x,j * k=x:=⟨_,rfl⟩;obtain⟨L,hL⟩:∃ x,m * k=x:=⟨_,rfl⟩;rw[hM]at hy hH ⊢;have hU:L≤cap:=by rw[← hL];exact hcap
   rw[hL]at hD hP hT;rw[hH]at hD;have hX:=zi (And.intro hM hL);have hlt1:decide ((i0:Int)<(L:Int))=true:=decide_eq_true (by omega);clear hF hI hR hB hM hL;have hk0:(0:Int)≤(i0:Int):=by omega
   have hkL:(i0:Int)≤(L:Int):=by omega
   have hkc:(i0:Int)≤(cap:Int):=by omega
   have hmin:min (k:Int) ((L - i0:Nat):Int)=(k:Int):=by omega
   gi_wp2_with fail
   refine zen (S:=fun V=>V=wr.drew) (by kernel_rfl) (by kernel_rfl) rfl (fun hC=>?_);simp only[qV]
   iterate 7
    refine qt (v:=?_) rfl (Or.inl ⟨by rfl,?_⟩) hC ?_;rotate_left
    ·intro W hV;obtain rfl:=hV
     try simp only[qQ]
     go_simp
     try rw[if_neg (by omega)]
     try with_reducible rfl
    try simp only[Act.put,qP]
   refine wpAnyH_done (by kernel_rfl) ?_ _;clear hC;simp only[zbl];have hik:(i0:Int)+(k:Int)≤(cap:Int):=by omega
   have hik0:(0:Int)≤(k:Int):=by omega
   have hik9:(i0:Int)+(k:Int)≤1000000000:=by omega
   have hsub:i0+k - i0=k:=by omega
   have Hyy:=zi hy;have hZ:=zi hQ;have hE:=zi hH;clear hD hP hU hH hQ hY
   gi_wp2_with fail
   refine hZ.out.mono ?_;rintro e W3 (⟨rfl,hW,hK⟩ | ⟨rfl,hN⟩)
   ·have hO:Ck2 Bs Bn W W3:=(Hnx.out.drew).trans hK;have hS:=hK.size;have ha:=zi hO;have hq13:=(zed (o:=0) hO.b1).trans hB1;clear hO hK
    gi_wp2
    go_roundw
    case rel=>exact⟨j+1,by omega,by rw[hE.out];simp,by rw[Hrange.out];exact hW,ha.out,by simp at hS;omega⟩
    case measure=>have h1:=hE.out;have h2:=hX.out;simp[intOf]<;>omega
   gi_wp2
   refine bodyPost_ret (results_none rfl _ _ _) rfl ?_;exact⟨⟨_,rfl⟩,.inr ⟨_,by rw[← Hrange.out];exact List.take_prefix _ _,hN⟩⟩
  obtain rfl:j=m:=by omega
  rw[List.take_of_length_le (by simp)]at hI
  gi_wp2
  go_end0
  exact⟨⟨_,rfl⟩,.inl ⟨_,rfl,hI⟩⟩
theorem zsr (a:Option Addr)(n c:Nat)(k:Int)(hk:1≤k)(w:World) :
 Calls Tryz.prog 164 #[.slice a n c,.int .i64 k] w fun e w'=>e = .returned (.func (.func 211) #[] #[.pointer (some ⟨w.heap.size,0,none⟩),.pointer (some ⟨w.heap.size+1,0,none⟩)])∧w'=(w.alloc (.cells #[.slice a n c] 24)).alloc (.cells #[.int .i64 k] 3):=by
 have hk1:decide (k<1)=false:=decide_eq_false (by omega);clear hk;go_enter Tryz.func164,Tryz.ntmps164
 go_wp2_with fail
 go_ret;exact⟨rfl,rfl⟩
theorem zi3 (F:Fence)(n:Nat)(h7:F.fn 211)(hro:F.round=none)(hn:1≤n)(Bs Bn gb o cap k m:Nat)(hk:1≤k)(hk2:k≤1000)(hm:m≤1000000)(hcap:m * k≤cap)(hcm:cap≤maxLen)(hom:o≤maxLen)(w:World)(hBs:Bs<w.heap.size)(hBn:Bn<w.heap.size)
 (hB0:w.cell? ⟨Bs,0,none⟩=some (.slice (some ⟨gb,o,none⟩) (m * k) cap)) (hB1:w.cell? ⟨Bn,0,none⟩=some (.int .i64 k)) :
 SeqStopsK F n Tryz.prog 211 #[.pointer (some ⟨Bs,0,none⟩),.pointer (some ⟨Bn,0,none⟩)] (zmb gb o k) (Ck2 Bs Bn) (fun ys=>ys=List.finRange m) (fun pre=>pre <+: List.finRange m) m w:=fun l J Jx W hW hJ _ hY h0=>by
 exact zss F n h7 hro hn l Bs Bn gb o cap k m hk hk2 hm hcap hcm hom J Jx hY W ((hW.cell (p:=⟨Bs,0,none⟩) hBs).trans hB0) ((hW.cell (p:=⟨Bn,0,none⟩) hBn).trans hB1) h0 hJ
end
section
open Go.RowKit
def zo5 (md:Region.Mode) (ops:Array Oper) (z i:Nat):Bool:=match ops[z]? with
 | some o=>o.after.any fun e=>Region.binds md e&&e.on==i
 | none=>true
section
variable {P:Program} {ops:Array Oper} {Q:Exit→Act→World→Prop} {md:Region.Mode} {S:World→Prop} {z:Nat}
def zbm (P:Program) (md:Region.Mode) (ops:Array Oper) (Q:Exit→Act→World→Prop) (S:World→Prop) (z:Nat):Nat→Array Bool→Act→World→Prop
 | 0,listed,a,w=>Region.ready md ops listed=[]∧Q .normal a w
 | fuel+1,listed,a,w =>
   (Region.ready md ops listed=[]→Q .normal a w) ∧
   ∀ i∈Region.ready md ops listed,wpOp P ops Q i (fun a' w'=>(i≠z→S w')∧zbm P md ops Q S z fuel (listed.setIfInBounds i true) a' w') a w
theorem zjj:∀ (fuel:Nat) (listed:Array Bool) (a:Act) (w:World),zbm P md ops Q S z fuel listed a w→wpAny P md ops Q fuel listed a w
 | 0,_,_,_,h=>h
 | fuel+1,_,_,_,h=>⟨h.1,fun i hi=>wpOp_mono (fun a' w' h'=>zjj fuel _ a' w' h'.2) (h.2 i hi)⟩
theorem zor {i:Nat} {oi:Oper} {v:Value} (hi:ops[i]? = some oi) (hz:zo5 md ops z i=true) (hsel:∀ (j:Nat) (o:Oper) cs b,ops[j]? = some o→o.op ≠ .select cs b)
 (hQ:∀ c a w,Q (.panic c) (a.put oi.dst v) w→Q (.panic c) a w) (fuel:Nat):∀ (listed:Array Bool) (a:Act) (w:World),
   (∀ j oj,ops[j]? = some oj→j≠i→listed.getD j true=false→(∀ e∈oj.after,Region.binds md e=true→e.on≠i)→oi.apart ops oj=true) →
   i∈Region.ready md ops listed→YieldsIf P ops S oi v a→S w →
   zbm P md ops Q S z fuel (listed.setIfInBounds i true) (a.put oi.dst v) w→zbm P md ops Q S z (fuel+1) listed a w:=by
 induction fuel with
 | zero =>
   intro listed a w _ hr hy hS H;refine⟨fun h=>absurd (h▸hr) (by simp),fun j hj=>?_⟩;by_cases e:j=i
   ·rw[e];exact hy.wpOp hi hS ⟨fun _=>hS,H⟩
   exact absurd (H.1▸ready_mono hj e) (by simp)
 | succ fuel ih =>
   intro listed a w hB hr hy hS H;refine⟨fun h=>absurd (h▸hr) (by simp),fun j hj=>?_⟩;by_cases e:j=i
   ·rw[e];exact hy.wpOp hi hS ⟨fun _=>hS,H⟩
   obtain⟨hH,oj,hD,hG⟩:=mem_ready.1 hj;have hC:=(mem_ready.1 hr).1
   have hI:∀ x∈oj.after,Region.binds md x=true→x.on≠i:=fun x hx hb hL=>by
    have h1:=hG x hx hb;rw[hL]at h1;rcases Nat.lt_or_ge i listed.size with h | h
    ·simp[h]at hC h1;exact absurd (hC.symm.trans h1) (by decide)
    simp[Array.getElem?_eq_none h]at h1
   have hJ:j≠z:=fun h=>by
    unfold zo5 at hz;rw[← h,hD]at hz;simp only[Array.any_eq_true,Bool.and_eq_true,beq_iff_eq]at hz;obtain⟨k,hk,h1,h2⟩:=hz;exact hI _ (Array.getElem_mem hk) h1 h2
   refine wpOp_mono (fun a' w' h3=>⟨fun _=>h3.2.1 hJ,ih _ a' w' (fun k ok hk hM hE hF=>hB k ok hk hM ?_ hF) (ready_mono hr (Ne.symm e)) h3.1 (h3.2.1 hJ) ?_⟩) (wpOp_putIf hD (hB j oj hD e hH hI) (fun cs b=>hsel i oi cs b hi) (fun cs b=>hsel j oj cs b hD) hQ hy (H.2 j (ready_mono hj e)))
   ·by_cases hK:j=k
    ·rw[← hK];exact hH
    rwa [getD_set_ne true hK]at hE
   rw[Array.setIfInBounds_comm _ _ e];exact h3.2.2
theorem qtD {l:List Bool}{oi:Oper}{v:Value}{fuel:Nat}{a:Act}{w:World}(hi:opN l ops.toList=some oi)(hy:YieldsIf P ops S oi v a)(hS:S w)
 (h:zbm P md ops Q S z fuel (mk1 l).toArray (a.put oi.dst v) w) (hz:zo5 md ops z (nx l)=true:=by kernel_rfl) (hs:Region.noSelect ops=true:=by kernel_rfl) (hf:Region.free md ops l.toArray (nx l)=true:=by kernel_rfl) (hr:(Region.ready md ops l.toArray).contains (nx l)=true:=by kernel_rfl)
 (hQ:∀ c a w,Q (.panic c) (a.put oi.dst v) w→Q (.panic c) a w:=by exact fun _ _ _ h=>h):zbm P md ops Q S z (fuel+1) l.toArray a w :=
 zor (by rw[← Array.getElem?_toList];exact ziq l _ _ hi) hz (Region.noSelect_spec hs) hQ fuel _ a w (Region.free_spec (by rw[← Array.getElem?_toList];exact ziq l _ _ hi) hf) (by simpa using hr) hy hS (by rw[qS,zle];exact h)
theorem qiD {i:Nat}{oi:Oper}{v:Value}{fuel:Nat}{listed:Array Bool}{a:Act}{w:World}(hi:ops[i]? = some oi)(hy:YieldsIf P ops S oi v a)(hS:S w)
 (h:zbm P md ops Q S z fuel (listed.setIfInBounds i true) (a.put oi.dst v) w) (hz:zo5 md ops z i=true:=by kernel_rfl) (hs:Region.noSelect ops=true:=by kernel_rfl) (hf:Region.free md ops listed i=true:=by kernel_rfl) (hr:(Region.ready md ops listed).contains i=true:=by kernel_rfl)
 (hQ:∀ c a w,Q (.panic c) (a.put oi.dst v) w→Q (.panic c) a w:=by exact fun _ _ _ h=>h):zbm P md ops Q S z (fuel+1) listed a w :=
 zor hi hz (Region.noSelect_spec hs) hQ fuel _ a w (Region.free_spec hi hf) (by simpa using hr) hy hS h
theorem zu2 {rs:List Nat}{fuel:Nat}{listed:Array Bool}{a:Act}{w:World}(hr:Region.ready md ops listed=rs)(hne:rs≠[])
 (h:∀ i∈rs,wpOp P ops Q i (fun a' w'=>(i≠z→S w')∧zbm P md ops Q S z fuel (listed.setIfInBounds i true) a' w') a w):zbm P md ops Q S z (fuel+1) listed a w :=
 ⟨fun h0=>absurd (hr▸h0) hne,hr▸h⟩
theorem qrD {i:Nat} {o:Oper} {fuel:Nat} {listed:Array Bool} {a:Act} {w:World} (hr:Region.ready md ops listed=[i]) (ho:ops[i]? = some o)
 (h:∀ K':Act→World→Prop,Shut (∀ a w,S w→(S w→zbm P md ops Q S z fuel (listed.setIfInBounds i true) a w)→K' a w)→if Region.wanted o (yielded ops a.tmps)=true then Oper.wp P o a w K' Q else K' (a.put o.dst undef) w):zbm P md ops Q S z (fuel+1) listed a w :=
 zu2 hr (by simp) fun j hj=>by
  obtain rfl:j=i:=by simpa using hj
  exact wpOp_step ho (fun K' hK=>h K' (fun a w hS hW=>hK a w ⟨fun _=>hS,hW hS⟩))
theorem qzD {o:Oper} {fuel:Nat} {listed:Array Bool} {a:Act} {w:World} (hr:Region.ready md ops listed=[z]) (ho:ops[z]? = some o)
 (h:∀ K':Act→World→Prop,Shut (∀ a w,zbm P md ops Q S z fuel (listed.setIfInBounds z true) a w→K' a w)→if Region.wanted o (yielded ops a.tmps)=true then Oper.wp P o a w K' Q else K' (a.put o.dst undef) w):zbm P md ops Q S z (fuel+1) listed a w :=
 zu2 hr (by simp) fun j hj=>by
  obtain rfl:j=z:=by simpa using hj
  exact wpOp_step ho (fun K' hK=>h K' (fun a w hW=>hK a w ⟨fun e=>absurd rfl e,hW⟩))
theorem zd2 {listed:Array Bool}{a:Act}{w:World}(hr:Region.ready md ops listed=[])(h:Q .normal a w):∀ fuel,zbm P md ops Q S z fuel listed a w
 | 0=>⟨hr,h⟩
 | _+1=>⟨fun _=>h,by rw[hr];simp⟩
theorem zam {id:Nat}{a:Act}{w:World}(z:Nat)(hm:P.follows .mixedOrders=true)(hS:S w.drew)
 (h:S w.drew→zbm P .any ops (zbl Q) S z ops.size (Array.replicate ops.size false) a w.drew):(Code.region id ops true).wp P Q a w :=
 wp_mono (wp_region_any hm (zjj _ _ _ _ (h hS))) (fun e a w h=>by cases e<;>first | exact h | exact h.elim)
theorem zal {id:Nat}{a:Act}{w:World}(hm:P.follows .mixedOrders=true)(hS:S w.drew)
 (h:S w.drew→wpAnyH P .any ops (zbl Q) S ops.size (Array.replicate ops.size false) a w.drew):(Code.region id ops true).wp P Q a w :=
 wp_mono (wp_region_held_drew hm hS h) (fun e a w h=>by cases e<;>first | exact h | exact h.elim)
end
end
end Go.Proofs.YtffggpplnjibgaaGreatDoor
