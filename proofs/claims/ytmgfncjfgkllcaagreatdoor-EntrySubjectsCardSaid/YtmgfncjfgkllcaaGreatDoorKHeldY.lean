/-
 A region that draws its order and whose last operation stores to what the region has loaded: the condition on the world is not asked behind that operation.
-/
import Derived.Test.YtmgfncjfgkllcaaGreatDoorKChunkS
import Derived.RangeFuncCalls
namespace Go.Proofs.YtmgfncjfgkllcaaGreatDoor
set_option linter.unusedVariables false
set_option linter.unusedSimpArgs false
set_option linter.unusedSectionVars false
section
open Go.RowKit
def zme (md:Region.Mode) (ops:Array Oper) (z i:Nat):Bool:=match ops[z]? with
 | some o=>o.after.any fun e=>Region.binds md e&&e.on==i
 | none=>true
section
variable {P:Program} {ops:Array Oper} {Q:Exit→Act→World→Prop} {md:Region.Mode} {S:World→Prop} {z:Nat}
def zc2 (P:Program) (md:Region.Mode) (ops:Array Oper) (Q:Exit→Act→World→Prop) (S:World→Prop) (z:Nat):Nat→Array Bool→Act→World→Prop
 | 0,listed,a,w=>Region.ready md ops listed=[]∧Q .normal a w
 | fuel+1,listed,a,w =>
   (Region.ready md ops listed=[]→Q .normal a w) ∧
   ∀ i∈Region.ready md ops listed,wpOp P ops Q i (fun a' w'=>(i≠z→S w')∧zc2 P md ops Q S z fuel (listed.setIfInBounds i true) a' w') a w
theorem zkd:∀ (fuel:Nat) (listed:Array Bool) (a:Act) (w:World),zc2 P md ops Q S z fuel listed a w→wpAny P md ops Q fuel listed a w
 | 0,_,_,_,h=>h
 | fuel+1,_,_,_,h=>⟨h.1,fun i hi=>wpOp_mono (fun a' w' h'=>zkd fuel _ a' w' h'.2) (h.2 i hi)⟩
theorem zys {i:Nat} {oi:Oper} {v:Value} (hi:ops[i]? = some oi) (hz:zme md ops z i=true) (hsel:∀ (j:Nat) (o:Oper) cs b,ops[j]? = some o→o.op ≠ .select cs b)
 (hQ:∀ c a w,Q (.panic c) (a.put oi.dst v) w→Q (.panic c) a w) (fuel:Nat):∀ (listed:Array Bool) (a:Act) (w:World),
   (∀ j oj,ops[j]? = some oj→j≠i→listed.getD j true=false→(∀ e∈oj.after,Region.binds md e=true→e.on≠i)→oi.apart ops oj=true) →
   i∈Region.ready md ops listed→YieldsIf P ops S oi v a→S w →
   zc2 P md ops Q S z fuel (listed.setIfInBounds i true) (a.put oi.dst v) w→zc2 P md ops Q S z (fuel+1) listed a w:=by
 induction fuel with
 | zero =>
   intro listed a w _ hr hy hS H;refine⟨fun h=>absurd (h▸hr) (by simp),fun j hj=>?_⟩;by_cases e:j=i
   ·rw[e];exact hy.wpOp hi hS ⟨fun _=>hS,H⟩
   exact absurd (H.1▸ready_mono hj e) (by simp)
 | succ fuel ih =>
   intro listed a w hA hr hy hS H;refine⟨fun h=>absurd (h▸hr) (by simp),fun j hj=>?_⟩;by_cases e:j=i
   ·rw[e];exact hy.wpOp hi hS ⟨fun _=>hS,H⟩
   obtain⟨hG,oj,hC,hF⟩:=mem_ready.1 hj;have hB:=(mem_ready.1 hr).1
   have hH:∀ x∈oj.after,Region.binds md x=true→x.on≠i:=fun x hx hb hK=>by
    have h1:=hF x hx hb;rw[hK]at h1;rcases Nat.lt_or_ge i listed.size with h | h
    ·simp[h]at hB h1;exact absurd (hB.symm.trans h1) (by decide)
    simp[Array.getElem?_eq_none h]at h1
   have hI:j≠z:=fun h=>by
    unfold zme at hz;rw[← h,hC]at hz;simp only[Array.any_eq_true,Bool.and_eq_true,beq_iff_eq]at hz;obtain⟨k,hk,h1,h2⟩:=hz;exact hH _ (Array.getElem_mem hk) h1 h2
   refine wpOp_mono (fun a' w' h3=>⟨fun _=>h3.2.1 hI,ih _ a' w' (fun k ok hk hL hD hE=>hA k ok hk hL ?_ hE) (ready_mono hr (Ne.symm e)) h3.1 (h3.2.1 hI) ?_⟩) (wpOp_putIf hC (hA j oj hC e hG hH) (fun cs b=>hsel i oi cs b hi) (fun cs b=>hsel j oj cs b hC) hQ hy (H.2 j (ready_mono hj e)))
   ·by_cases hJ:j=k
    ·rw[← hJ];exact hG
    rwa [getD_set_ne true hJ]at hD
   rw[Array.setIfInBounds_comm _ _ e];exact h3.2.2
theorem qtD {l:List Bool}{oi:Oper}{v:Value}{fuel:Nat}{a:Act}{w:World}(hi:opN l ops.toList=some oi)(hy:YieldsIf P ops S oi v a)(hS:S w)
 (h:zc2 P md ops Q S z fuel (mk1 l).toArray (a.put oi.dst v) w) (hz:zme md ops z (nx l)=true:=by kernel_rfl) (hs:Region.noSelect ops=true:=by kernel_rfl) (hf:Region.free md ops l.toArray (nx l)=true:=by kernel_rfl) (hr:(Region.ready md ops l.toArray).contains (nx l)=true:=by kernel_rfl)
 (hQ:∀ c a w,Q (.panic c) (a.put oi.dst v) w→Q (.panic c) a w:=by exact fun _ _ _ h=>h):zc2 P md ops Q S z (fuel+1) l.toArray a w :=
 zys (by rw[← Array.getElem?_toList];exact zkr l _ _ hi) hz (Region.noSelect_spec hs) hQ fuel _ a w (Region.free_spec (by rw[← Array.getElem?_toList];exact zkr l _ _ hi) hf) (by simpa using hr) hy hS (by rw[qS,zp1];exact h)
theorem qiD {i:Nat}{oi:Oper}{v:Value}{fuel:Nat}{listed:Array Bool}{a:Act}{w:World}(hi:ops[i]? = some oi)(hy:YieldsIf P ops S oi v a)(hS:S w)
 (h:zc2 P md ops Q S z fuel (listed.setIfInBounds i true) (a.put oi.dst v) w) (hz:zme md ops z i=true:=by kernel_rfl) (hs:Region.noSelect ops=true:=by kernel_rfl) (hf:Region.free md ops listed i=true:=by kernel_rfl) (hr:(Region.ready md ops listed).contains i=true:=by kernel_rfl)
 (hQ:∀ c a w,Q (.panic c) (a.put oi.dst v) w→Q (.panic c) a w:=by exact fun _ _ _ h=>h):zc2 P md ops Q S z (fuel+1) listed a w :=
 zys hi hz (Region.noSelect_spec hs) hQ fuel _ a w (Region.free_spec hi hf) (by simpa using hr) hy hS h
theorem zyk {rs:List Nat}{fuel:Nat}{listed:Array Bool}{a:Act}{w:World}(hr:Region.ready md ops listed=rs)(hne:rs≠[])
 (h:∀ i∈rs,wpOp P ops Q i (fun a' w'=>(i≠z→S w')∧zc2 P md ops Q S z fuel (listed.setIfInBounds i true) a' w') a w):zc2 P md ops Q S z (fuel+1) listed a w :=
 ⟨fun h0=>absurd (hr▸h0) hne,hr▸h⟩
theorem qrD {i:Nat} {o:Oper} {fuel:Nat} {listed:Array Bool} {a:Act} {w:World} (hr:Region.ready md ops listed=[i]) (ho:ops[i]? = some o)
 (h:∀ K':Act→World→Prop,Shut (∀ a w,S w→(S w→zc2 P md ops Q S z fuel (listed.setIfInBounds i true) a w)→K' a w)→if Region.wanted o (yielded ops a.tmps)=true then Oper.wp P o a w K' Q else K' (a.put o.dst undef) w):zc2 P md ops Q S z (fuel+1) listed a w :=
 zyk hr (by simp) fun j hj=>by
  obtain rfl:j=i:=by simpa using hj
  exact wpOp_step ho (fun K' hK=>h K' (fun a w hS hW=>hK a w ⟨fun _=>hS,hW hS⟩))
theorem qzD {o:Oper} {fuel:Nat} {listed:Array Bool} {a:Act} {w:World} (hr:Region.ready md ops listed=[z]) (ho:ops[z]? = some o)
 (h:∀ K':Act→World→Prop,Shut (∀ a w,zc2 P md ops Q S z fuel (listed.setIfInBounds z true) a w→K' a w)→if Region.wanted o (yielded ops a.tmps)=true then Oper.wp P o a w K' Q else K' (a.put o.dst undef) w):zc2 P md ops Q S z (fuel+1) listed a w :=
 zyk hr (by simp) fun j hj=>by
  obtain rfl:j=z:=by simpa using hj
  exact wpOp_step ho (fun K' hK=>h K' (fun a w hW=>hK a w ⟨fun e=>absurd rfl e,hW⟩))
theorem ziw {listed:Array Bool}{a:Act}{w:World}(hr:Region.ready md ops listed=[])(h:Q .normal a w):∀ fuel,zc2 P md ops Q S z fuel listed a w
 | 0=>⟨hr,h⟩
 | _+1=>⟨fun _=>h,by rw[hr];simp⟩
theorem zc1 {id:Nat}{a:Act}{w:World}(z:Nat)(hm:P.follows .mixedOrders=true)(hS:S w.drew)
 (h:S w.drew→zc2 P .any ops (zbb Q) S z ops.size (Array.replicate ops.size false) a w.drew):(Code.region id ops true).wp P Q a w :=
 wp_mono (wp_region_any hm (zkd _ _ _ _ (h hS))) (fun e a w h=>by cases e<;>first | exact h | exact h.elim)
end
end
section
open Go.RowKit
def zoo:Op→Bool
 | .defer _=>true
 | _=>false
section
variable {n l:Nat} {P:Program} {ops:Array Oper} {Q:Exit→Act→World→Prop} {md:Region.Mode} {S:World→Prop}
theorem zra {o:Oper} (h:zoo o.op=false) {a:Act} {w:World} {K K':Act→World→Prop} (hK:∀ a w,K a w→K' a w) (hw:o.wp P a w K (zbb Q)):o.wpIn (Fence.wide.inRound l) n P a w K' Q:=by
 unfold Oper.wpIn;refine⟨fun f _=>trivial,?_⟩;rw[Oper.semAt_eq _ _ _ (fun c e=>by rw[e]at h;cases h)];unfold Oper.wp at hw
 have hA:∀ e w',(match e,w' with
  | Ending.returned v,w''=>K (a.put o.dst v) w''
  | .panicked chain,w''=>zbb Q (.panic chain) a w''
  | .outgrown,_=>LetsOut (zbb Q))→(match e,w' with
  | Ending.returned v,w''=>K' (a.put o.dst v) w''
  | .panicked chain,w''=>Q (.panic chain) a w''
  | .outgrown,_=>LetsOut Q):=by
  intro e w' h;cases e with
  | returned v=>exact hK _ _ h
  | panicked c=>exact h.elim
  | outgrown =>
    obtain⟨_,_,h⟩:=h;exact h.elim
 cases hr:(execOp a.eval o).run P w with
 | ok x w' =>
   rw[hr]at hw;cases x with
   | value v=>exact hK _ _ hw
   | skip=>exact hK _ _ hw
   | defer d=>exact hK _ _ hw
   | enter f args=>exact⟨fun h=>(by cases h),CallsIn.inRound l (callsIn_wide.2 (Calls.mono hw hA))⟩
   | row r args =>
     refine⟨fun h=>(by cases h),fun c cs _=>?_⟩;obtain⟨v,w2,r,s⟩:=hw c cs;exact⟨v,w2,hK _ _ r,stepsIn_wide.2 s⟩
   | round=>exact hw.elim
   | _=>exact hw.elim
 | halt x w' =>
   rw[hr]at hw;cases x<;>simp only[Oper.upon,zbb]at hw
theorem zcr (hp:∀ o∈ops,zoo o.op=false):∀ (fuel:Nat) (listed:Array Bool) (a:Act) (w:World),wpAny P md ops (zbb Q) fuel listed a w→wpAnyIn (Fence.wide.inRound l) n P md ops Q fuel listed a w
 | 0,_,_,_,h=>h
 | fuel+1,listed,a,w,h=>by
   refine⟨h.1,fun i hi=>?_⟩;have h1:=h.2 i hi;unfold wpOp at h1;unfold wpOpIn;cases ho:ops[i]? with
   | none =>
     rw[ho]at h1;exact zcr hp fuel _ a w h1
   | some o =>
     rw[ho]at h1;have hpo:=hp o (Array.mem_of_getElem? ho);simp only at h1 ⊢;split
     ·rename_i hw
      rw[if_pos hw]at h1;rcases h1 with h1 | ⟨-,a',w',h1⟩
      ·exact zra hpo (fun a w h=>zcr hp fuel _ a w h) h1
      exact h1.elim
     rename_i hw
     rw[if_neg hw]at h1;exact⟨fun f _=>trivial,zcr hp fuel _ _ w h1⟩
end
end
section
open Go.RowKit
section
variable {P:Program} {ops:Array Oper} {Q:Exit→Act→World→Prop} {md:Region.Mode} {S:World→Prop} {z:Nat}
def zb5 (P:Program) (md:Region.Mode) (ops:Array Oper) (Q:Exit→Act→World→Prop) (S:World→Prop) (z:Nat):Nat→Array Bool→Act→World→Prop
 | 0,listed,a,w=>Region.ready md ops listed=[]∧Q .normal a w
 | fuel+1,listed,a,w =>
   (Region.ready md ops listed=[]→Q .normal a w) ∧
   ∀ i∈Region.ready md ops listed,wpOp P ops Q i (fun a' w'=>(i≠z→listed.getD z true=false→S w')∧zb5 P md ops Q S z fuel (listed.setIfInBounds i true) a' w') a w
theorem zkc:∀ (fuel:Nat) (listed:Array Bool) (a:Act) (w:World),zb5 P md ops Q S z fuel listed a w→wpAny P md ops Q fuel listed a w
 | 0,_,_,_,h=>h
 | fuel+1,_,_,_,h=>⟨h.1,fun i hi=>wpOp_mono (fun a' w' h'=>zkc fuel _ a' w' h'.2) (h.2 i hi)⟩
theorem zyr {i:Nat} {oi:Oper} {v:Value} (hi:ops[i]? = some oi) (hiz:i≠z) (hz:zme md ops z i=true) (hsel:∀ (j:Nat) (o:Oper) cs b,ops[j]? = some o→o.op ≠ .select cs b)
 (hQ:∀ c a w,Q (.panic c) (a.put oi.dst v) w→Q (.panic c) a w) (fuel:Nat):∀ (listed:Array Bool) (a:Act) (w:World),listed.getD z true=false →
   (∀ j oj,ops[j]? = some oj→j≠i→listed.getD j true=false→(∀ e∈oj.after,Region.binds md e=true→e.on≠i)→oi.apart ops oj=true) →
   i∈Region.ready md ops listed→YieldsIf P ops S oi v a→S w →
   zb5 P md ops Q S z fuel (listed.setIfInBounds i true) (a.put oi.dst v) w→zb5 P md ops Q S z (fuel+1) listed a w:=by
 induction fuel with
 | zero =>
   intro listed a w hC _ hr hy hS H;refine⟨fun h=>absurd (h▸hr) (by simp),fun j hj=>?_⟩;by_cases e:j=i
   ·rw[e];exact hy.wpOp hi hS ⟨fun _ _=>hS,H⟩
   exact absurd (H.1▸ready_mono hj e) (by simp)
 | succ fuel ih =>
   intro listed a w hC hA hr hy hS H;refine⟨fun h=>absurd (h▸hr) (by simp),fun j hj=>?_⟩;by_cases e:j=i
   ·rw[e];exact hy.wpOp hi hS ⟨fun _ _=>hS,H⟩
   obtain⟨hI,oj,hD,hH⟩:=mem_ready.1 hj;have hB:=(mem_ready.1 hr).1
   have hJ:∀ x∈oj.after,Region.binds md x=true→x.on≠i:=fun x hx hb hL=>by
    have h1:=hH x hx hb;rw[hL]at h1;rcases Nat.lt_or_ge i listed.size with h | h
    ·simp[h]at hB h1;exact absurd (hB.symm.trans h1) (by decide)
    simp[Array.getElem?_eq_none h]at h1
   have hG:j≠z:=fun h=>by
    unfold zme at hz;rw[← h,hD]at hz;simp only[Array.any_eq_true,Bool.and_eq_true,beq_iff_eq]at hz;obtain⟨k,hk,h1,h2⟩:=hz;exact hJ _ (Array.getElem_mem hk) h1 h2
   refine wpOp_mono (fun a' w' h3=>⟨fun _ _=>h3.2.1 hG ((getD_set_ne true hiz).trans hC),ih _ a' w' ((getD_set_ne true hG).trans hC) (fun k ok hk hM hE hF=>hA k ok hk hM ?_ hF) (ready_mono hr (Ne.symm e)) h3.1 (h3.2.1 hG ((getD_set_ne true hiz).trans hC)) ?_⟩) (wpOp_putIf hD (hA j oj hD e hI hJ) (fun cs b=>hsel i oi cs b hi) (fun cs b=>hsel j oj cs b hD) hQ hy (H.2 j (ready_mono hj e)))
   ·by_cases hK:j=k
    ·rw[← hK];exact hI
    rwa [getD_set_ne true hK]at hE
   rw[Array.setIfInBounds_comm _ _ e];exact h3.2.2
theorem qtY {l:List Bool}{oi:Oper}{v:Value}{fuel:Nat}{a:Act}{w:World}(hi:opN l ops.toList=some oi)(hy:YieldsIf P ops S oi v a)(hS:S w)
 (h:zb5 P md ops Q S z fuel (mk1 l).toArray (a.put oi.dst v) w) (hz:zme md ops z (nx l)=true:=by kernel_rfl) (hiz:(nx l==z)=false:=by kernel_rfl) (hzu:l.toArray.getD z true=false:=by kernel_rfl) (hs:Region.noSelect ops=true:=by kernel_rfl) (hf:Region.free md ops l.toArray (nx l)=true:=by kernel_rfl) (hr:(Region.ready md ops l.toArray).contains (nx l)=true:=by kernel_rfl)
 (hQ:∀ c a w,Q (.panic c) (a.put oi.dst v) w→Q (.panic c) a w:=by exact fun _ _ _ h=>h):zb5 P md ops Q S z (fuel+1) l.toArray a w :=
 zyr (by rw[← Array.getElem?_toList];exact zkr l _ _ hi) (by simpa using hiz) hz (Region.noSelect_spec hs) hQ fuel _ a w hzu (Region.free_spec (by rw[← Array.getElem?_toList];exact zkr l _ _ hi) hf) (by simpa using hr) hy hS (by rw[qS,zp1];exact h)
theorem qiY {i:Nat}{oi:Oper}{v:Value}{fuel:Nat}{listed:Array Bool}{a:Act}{w:World}(hi:ops[i]? = some oi)(hy:YieldsIf P ops S oi v a)(hS:S w)
 (h:zb5 P md ops Q S z fuel (listed.setIfInBounds i true) (a.put oi.dst v) w) (hz:zme md ops z i=true:=by kernel_rfl) (hiz:(i==z)=false:=by kernel_rfl) (hzu:listed.getD z true=false:=by kernel_rfl) (hs:Region.noSelect ops=true:=by kernel_rfl) (hf:Region.free md ops listed i=true:=by kernel_rfl) (hr:(Region.ready md ops listed).contains i=true:=by kernel_rfl)
 (hQ:∀ c a w,Q (.panic c) (a.put oi.dst v) w→Q (.panic c) a w:=by exact fun _ _ _ h=>h):zb5 P md ops Q S z (fuel+1) listed a w :=
 zyr hi (by simpa using hiz) hz (Region.noSelect_spec hs) hQ fuel _ a w hzu (Region.free_spec hi hf) (by simpa using hr) hy hS h
theorem zt1 {rs:List Nat}{fuel:Nat}{listed:Array Bool}{a:Act}{w:World}(hr:Region.ready md ops listed=rs)(hne:rs≠[])
 (h:∀ i∈rs,wpOp P ops Q i (fun a' w'=>(i≠z→listed.getD z true=false→S w')∧zb5 P md ops Q S z fuel (listed.setIfInBounds i true) a' w') a w):zb5 P md ops Q S z (fuel+1) listed a w :=
 ⟨fun h0=>absurd (hr▸h0) hne,hr▸h⟩
theorem qrY {i:Nat} {o:Oper} {fuel:Nat} {listed:Array Bool} {a:Act} {w:World} (hr:Region.ready md ops listed=[i]) (ho:ops[i]? = some o)
 (h:∀ K':Act→World→Prop,Shut (∀ a w,S w→(S w→zb5 P md ops Q S z fuel (listed.setIfInBounds i true) a w)→K' a w)→if Region.wanted o (yielded ops a.tmps)=true then Oper.wp P o a w K' Q else K' (a.put o.dst undef) w):zb5 P md ops Q S z (fuel+1) listed a w :=
 zt1 hr (by simp) fun j hj=>by
  obtain rfl:j=i:=by simpa using hj
  exact wpOp_step ho (fun K' hK=>h K' (fun a w hS hW=>hK a w ⟨fun _ _=>hS,hW hS⟩))
theorem qzY {o:Oper} {fuel:Nat} {listed:Array Bool} {a:Act} {w:World} (hr:Region.ready md ops listed=[z]) (ho:ops[z]? = some o)
 (h:∀ K':Act→World→Prop,Shut (∀ a w,zb5 P md ops Q S z fuel (listed.setIfInBounds z true) a w→K' a w)→if Region.wanted o (yielded ops a.tmps)=true then Oper.wp P o a w K' Q else K' (a.put o.dst undef) w):zb5 P md ops Q S z (fuel+1) listed a w :=
 zt1 hr (by simp) fun j hj=>by
  obtain rfl:j=z:=by simpa using hj
  exact wpOp_step ho (fun K' hK=>h K' (fun a w hW=>hK a w ⟨fun e=>absurd rfl e,hW⟩))
theorem q2Y {i j:Nat} {oi oj:Oper} {fuel:Nat} {listed:Array Bool} {a:Act} {w:World} (hr:Region.ready md ops listed=[i,j]) (hoi:ops[i]? = some oi) (hoj:ops[j]? = some oj)
 (hi:∀ K':Act→World→Prop,Shut (∀ a w,S w→(S w→zb5 P md ops Q S z fuel (listed.setIfInBounds i true) a w)→K' a w)→if Region.wanted oi (yielded ops a.tmps)=true then Oper.wp P oi a w K' Q else K' (a.put oi.dst undef) w)
 (hj:∀ K':Act→World→Prop,Shut (∀ a w,S w→(S w→zb5 P md ops Q S z fuel (listed.setIfInBounds j true) a w)→K' a w)→if Region.wanted oj (yielded ops a.tmps)=true then Oper.wp P oj a w K' Q else K' (a.put oj.dst undef) w) :
 zb5 P md ops Q S z (fuel+1) listed a w :=
 zt1 hr (by simp) fun k hk=>by
  rcases(by simpa using hk:k=i∨k=j) with rfl | rfl
  ·exact wpOp_step hoi (fun K' hK=>hi K' (fun a w hS hW=>hK a w ⟨fun _ _=>hS,hW hS⟩))
  exact wpOp_step hoj (fun K' hK=>hj K' (fun a w hS hW=>hK a w ⟨fun _ _=>hS,hW hS⟩))
theorem q2H {i j:Nat}{oi oj:Oper}{fuel:Nat}{listed:Array Bool}{a:Act}{w:World}(hr:Region.ready md ops listed=[i,j])(hoi:ops[i]? = some oi)(hoj:ops[j]? = some oj)
 (hi:∀ K':Act→World→Prop,Shut (∀ a w,S w→(S w→wpAnyH P md ops Q S fuel (listed.setIfInBounds i true) a w)→K' a w)→if Region.wanted oi (yielded ops a.tmps)=true then Oper.wp P oi a w K' Q else K' (a.put oi.dst undef) w)
 (hj:∀ K':Act→World→Prop,Shut (∀ a w,S w→(S w→wpAnyH P md ops Q S fuel (listed.setIfInBounds j true) a w)→K' a w)→if Region.wanted oj (yielded ops a.tmps)=true then Oper.wp P oj a w K' Q else K' (a.put oj.dst undef) w) :
 wpAnyH P md ops Q S (fuel+1) listed a w :=
 wpAnyH_ready hr (by simp) (.cons hoi hi (.cons hoj hj .nil))
theorem zgf:∀ (fuel:Nat) (listed:Array Bool) (a:Act) (w:World),listed.getD z true=true→wpAny P md ops Q fuel listed a w→zb5 P md ops Q S z fuel listed a w
 | 0,_,_,_,_,h=>h
 | fuel+1,listed,a,w,hz,h=>⟨h.1,fun i hi=>wpOp_mono (fun a' w' h'=>⟨fun _ hf=>absurd (hz.symm.trans hf) (by decide),zgf fuel _ a' w' (by
    by_cases e:i=z
    ·subst e;rw[Array.getD_eq_getD_getElem?,Array.getElem?_setIfInBounds,if_pos rfl];split<;>rfl
    rw[getD_set_ne true e];exact hz) h'⟩) (h.2 i hi)⟩
theorem ziv {fuel:Nat}{listed:Array Bool}{a:Act}{w:World}(hz:listed.getD z true=true)(h:wpAnyH P md ops Q (fun _=>True) fuel listed a w):zb5 P md ops Q S z fuel listed a w :=
 zgf fuel listed a w hz (wpAny_of_held fuel listed a w h)
end
theorem ze0 {n l:Nat}{P:Program}{ops:Array Oper}{Q:Exit→Act→World→Prop}{S:World→Prop}{id:Nat}{a:Act}{w:World}(z:Nat)(hm:P.follows .mixedOrders=true)(hp:ops.all (fun o=>!zoo o.op)=true)(hS:S w.drew)
 (h:S w.drew→zb5 P .any ops (zbb Q) S z ops.size (Array.replicate ops.size false) a w.drew):(Code.region id ops true).wpIn (Fence.wide.inRound l) n P Q a w :=
 wpIn_region_any hm (zcr (fun o ho=>by have:=Array.all_eq_true_iff_forall_mem.1 hp o ho;simpa using this) _ _ _ _ (zkc _ _ _ _ (h hS)))
end
end Go.Proofs.YtmgfncjfgkllcaaGreatDoor
