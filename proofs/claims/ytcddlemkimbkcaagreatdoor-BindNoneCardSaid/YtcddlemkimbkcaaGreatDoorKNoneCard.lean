/-
 BindNone is true of every entry,signer and place: a nil table answers as the document says. No condition but the tables that start-up lays (the card ties them).
-/
import Derived.Test.YtcddlemkimbkcaaGreatDoorCards
import Derived.Test.YtcddlemkimbkcaaGreatDoorTie
import Derived.Test.YtcddlemkimbkcaaGreatDoorKRune
import Derived.Test.YtcddlemkimbkcaaGreatDoorKLawNone
import Derived.Test.YtcddlemkimbkcaaGreatDoorKReadCame
import Derived.Test.YtcddlemkimbkcaaGreatDoorKReadEn
import Derived.Carry
import Derived.WalkKit
import Derived.ProofKit
import Derived.OpenShut
import Derived.Deep.DeepHandedRow
import Derived.Lib.LaidTab
open Go.Proofs.Tryz renaming prog→ze
namespace Go.Proofs.YtcddlemkimbkcaaGreatDoor
set_option linter.unusedVariables false
set_option linter.unusedSimpArgs false
set_option linter.unusedSectionVars false
set_option maxRecDepth 100000
namespace bindNone
open Go.ChangeShapes Go.WideShapes Go.ChangeAt Go.RowKit Go.Proofs.YtcddlemkimbkcaaGreatDoor
open Go.ChangeMaps (open_string shut_string)

theorem zmp:laidOutB ze=true:=by kernel_rfl
theorem own:ownKnob Tryz.prog.godebug=none:=by kernel_rfl
theorem zn2 (H:Type)(enc:TypeId × Value→H)(W:World)(base:Nat)(args:Array Value)(ds gs:List (DataW H))(before:List MemPlace)
 (hval:∀ (j:Nat) t v,Tryz.f8.params[j]? = some t→args[j]? = some v→Value.okWide ze W .any base t v)
 (hW:DataW.Whole enc ze Tryz.f8.params.toList Rows.bindNoneSpec.vars false W args.toList ds gs before) (hL:laidMetH ze Rows.bindNoneRow.laid W) :
 Calls ze 8 args W fun e W'=>∃ v,e = .returned v∧Rows.bindNoneSpec.post enc ze Tryz.f8 false true false false W args v W':=by
 have hC:=hW;obtain⟨p,q,hD,hV,rfl,hfz,hnd⟩:=hW;have hA:DataW.TrodAll enc ze W 0 (fun _=>true) true Tryz.f8.params.toList args.toList ds p:=hD;rw[Tryz.params8]at hA hval;obtain⟨v0,vs0,d0,ds0,p0,q0,hargs,rfl,rfl,h0,r0⟩:=trodAll_cons hA;obtain⟨v1,vs1,d1,ds1,p1,q1,rfl,rfl,rfl,h1,r1⟩:=trodAll_cons r0;obtain⟨v2,vs2,d2,ds2,p2,q2,rfl,rfl,rfl,h2,r2⟩:=trodAll_cons r1;obtain⟨rfl,rfl,rfl⟩:=trodAll_nil r2;obtain rfl:args=#[v0,v1,v2]:=by cases args;simp_all
 obtain⟨rfl,rfl⟩:=trodVars_none hV
 letI:OldK:=⟨W.heap.size⟩
 obtain⟨e0,hH,hG,hN,rfl⟩:=zoq (Nat.le_refl _) (hval 0 39 v0 rfl rfl) h0;obtain⟨s1,hI,rfl⟩:=zse (hval 1 54 v1 rfl rfl) h1;obtain⟨l2,rfl,hl2⟩:=open_int Tryz.underlying3 (hval 2 3 v2 rfl rfl) h2;obtain⟨f0,hM⟩:=id h0;obtain⟨f1,hK⟩:=id h1;obtain⟨f2,hJ⟩:=id h2;clear hD;simp only[List.append_nil]at hC;have hB:=zv8 e0 hH hG s1 l2 W (zvu (show laidMet ze Rows.bindNoneRow.laid W from hL) (by simp[Rows.bindNoneRow]) (by simp[Rows.bindNoneRow])) hN hI;refine hB.mono fun e W' ⟨he,hF⟩=>?_
 subst he;have hb:Below W.heap.size W W':=hF.below (Nat.le_refl _) (fun _ _ _ h=>h.elim);have hQ:=Below.trod zmp (by kernel_rfl) (of_decide_eq_true (by kernel_rfl)) h0 hb (fun x hx=>DataW.trod_lt _ _ _ _ hM x hx);have hP:=Below.trod zmp (by kernel_rfl) (of_decide_eq_true (by kernel_rfl)) h1 hb (fun x hx=>DataW.trod_lt _ _ _ _ hK x hx);have hO:=Below.trod zmp (by kernel_rfl) (of_decide_eq_true (by kernel_rfl)) h2 hb (fun x hx=>DataW.trod_lt _ _ _ _ hJ x hx);have hE:=(trodAll_cons_mk hQ (trodAll_cons_mk hP (trodAll_cons_mk hO trodAll_mk0)));simp only[List.append_nil]at hE;exact⟨_,rfl,⟨_,_,_,[],p0++(p1++(p2)),[],hC,trodAll_cons_mk (shut_bool Tryz.underlying4 _) trodAll_mk0,hE,rfl,zs3 hF _,fun h=>by cases h⟩⟩
theorem zsw (os:Os):laidMet ze Rows.bindNoneRow.laid ((zgd os).forCall (fun _ _=>0) ⟨#[],#[zw2,zw1,.int .i64 0],[]⟩).memory :=
 laidMet_of_run' 8 (by kernel_rfl) (by kernel_rfl)
theorem reads (os:Os){H:Type}(enc:TypeId × Value→H):∃ places,DataW.whole enc ze ((zgd os).forCall (fun _ _=>0) ⟨#[],#[zw2,zw1,.int .i64 0],[]⟩).memory Tryz.f8.params.toList Rows.bindNoneSpec.vars false #[zw2,zw1,.int .i64 0].toList 8=some ([.agg [.lit (.int .i64 0),.agg (List.replicate 32 (.lit (.int .u8 0))),.lit (.string []),.nil,.lit (.int .i64 0),.lit (.string []),.agg (List.replicate 32 (.lit (.int .u8 0))),.nil],.agg [.lit (.string []),.agg (List.replicate 32 (.lit (.int .u8 0))),.agg (List.replicate 64 (.lit (.int .u8 0)))],.lit (.int .i64 0)],[],places) :=
 ⟨[],by kernel_rfl⟩
theorem zwc (os:Os) (started:os.Started) (H:Type) (enc:TypeId × Value→H) (F:Stop.Interp) :
 ReturnsInHanded {} Tryz.checked os 8 .any ((OpenSpec.ofChange Rows.bindNoneSpec).preRow enc ze Tryz.f8 Rows.bindNoneRow.domain false Rows.bindNoneRow.laid) (((OpenSpec.ofChange Rows.bindNoneSpec).at F).post enc ze Tryz.f8 false true false false):=by
 obtain⟨places,hx⟩:=reads os enc
 refine returnsInHanded_of_row (C:=Tryz.checked) (s:=OpenSpec.ofChange Rows.bindNoneSpec) own started (by kernel_rfl) Tryz.func8
  (witness_row_at (enc:=enc) (C:=Tryz.checked) false (zgd os) #[zw2,zw1,.int .i64 0] rfl (by kernel_rfl) (by kernel_rfl) (by kernel_rfl)
    (OpenSpec.preRow_of_cond 8 hx (by kernel_rfl) (fun k hk=>by cases hk) (by kernel_rfl) (zsw os))) ?_
 intro W hC hD ds gs hA hB hW _ _ _ hL _ _;exact zn2 H enc W hC hD ds gs hA hB hW hL
theorem cl1:(Rows.bindNoneRow.inPlace==Tryz.prog.inPlace 8)=true:=by kernel_rfl
theorem cl2:(Rows.bindNoneRow.unfollowed==Tryz.prog.unfollowed 8)=true:=by kernel_rfl
theorem cl3:(Rows.bindNoneRow.recurses==Tryz.prog.recurses 8)=true:=by kernel_rfl
theorem cl4:(Rows.bindNoneRow.named==Tryz.prog.varsNamed 8)=true:=by kernel_rfl
theorem zws:joinedFacts ze 8 Tryz.f8 (OpenSpec.ofChange Rows.bindNoneSpec).bare Rows.bindNoneRow=true:=by
 unfold joinedFacts;rw[cl1,cl2,cl3,cl4]
 kernel_rfl
theorem said:Rows.BindNoneSaid :=
 OpenClaim.holds_of_cond 8 Tryz.f8 rfl rfl rfl rfl rfl rfl rfl ⟨rfl,rfl,rfl,rfl,rfl⟩ rfl rfl rfl rfl rfl (by kernel_rfl) Tryz.func8 zws
  (of_decide_eq_true (by kernel_rfl)) (by unfold Func.isWrapper;first | (rw[if_pos (by decide +kernel)];kernel_rfl) | (rw[if_neg (by decide +kernel)];exact⟨rfl,rfl⟩))
  (fun os started H enc _ F=>by rw[OpenClaim.pre_eq_preRow];exact zwc os started H enc F)
theorem plain (f:FuncId)(fn:Func)(hf:Tryz.pinned.checked.prog.funcNamed "cachet/cachetlaw17.BindNone" = some f)(hfn:Tryz.pinned.checked.prog.funcs[f]? = some fn) :
 true=Tryz.pinned.checked.prog.looks []∧∀ (j:Nat) t,fn.params[j]? = some t→Tryz.pinned.checked.prog.wantsStandIn t=false:=by
 obtain rfl:f=8:=Option.some.inj ((show Tryz.prog.funcNamed "cachet/cachetlaw17.BindNone" = some 8 by kernel_rfl).symm.trans hf) |>.symm
 obtain rfl:fn=Tryz.f8:=(Option.some.inj (Tryz.func8.symm.trans hfn)).symm;refine⟨by kernel_rfl,fun j t ht=>?_⟩;rw[Tryz.params8]at ht;have hA:t=39∨t=54∨t=3:=by simpa using Array.mem_of_getElem? ht
 rcases hA with rfl | rfl | rfl
 ·exact(show Tryz.prog.wantsStandIn 39=false by kernel_rfl)
 ·exact(show Tryz.prog.wantsStandIn 54=false by kernel_rfl)
 exact(show Tryz.prog.wantsStandIn 3=false by kernel_rfl)
end bindNone

theorem bindNone_holds:Rows.BindNoneCardSaid :=
 Claim7.holds_tied_plain_at .later [] _ _ _ _ bindNone.said (fun _ h=>by cases h) (by kernel_rfl) (fun _ h=>by cases h) bindNone_row_tie rfl ⟨rfl,rfl⟩ (by kernel_rfl) rfl bindNone.plain (by kernel_rfl)
end Go.Proofs.YtcddlemkimbkcaaGreatDoor
