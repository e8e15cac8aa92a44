/-
 BindPlays is true of every list of entries and every place: a table stands as the document says. No condition but the tables that start-up lays (the card ties them).
-/
import Derived.Test.YtcddlemkimbkcaaGreatDoorCards
import Derived.Test.YtcddlemkimbkcaaGreatDoorTie
import Derived.Test.YtcddlemkimbkcaaGreatDoorKRune
import Derived.Test.YtcddlemkimbkcaaGreatDoorKLawPlays
import Derived.Test.YtcddlemkimbkcaaGreatDoorKReadCame
import Derived.Carry
import Derived.WalkKit
import Derived.ProofKit
import Derived.OpenShut
import Derived.Deep.DeepHandedRow
import Derived.Lib.LaidTab
open Go.Proofs.Tryz renaming prog→ze
namespace Go.Proofs.YtcddlemkimbkcaaGreatDoor
set_option linter.unusedVariables false
set_option linter.unusedSimpArgs false
set_option linter.unusedSectionVars false
set_option maxRecDepth 100000
namespace bindPlays
open Go.ChangeShapes Go.WideShapes Go.ChangeAt Go.RowKit Go.Proofs.YtcddlemkimbkcaaGreatDoor
open Go.ChangeMaps (open_string shut_string)

theorem zq8:laidOutB ze=true:=by kernel_rfl
theorem own:ownKnob Tryz.prog.godebug=none:=by kernel_rfl
theorem zol (H:Type)(enc:TypeId × Value→H)(W:World)(base:Nat)(args:Array Value)(ds gs:List (DataW H))(before:List MemPlace)
 (hval:∀ (j:Nat) t v,Tryz.f6.params[j]? = some t→args[j]? = some v→Value.okWide ze W .any base t v)
 (hW:DataW.Whole enc ze Tryz.f6.params.toList Rows.bindPlaysSpec.vars false W args.toList ds gs before) (hL:laidMetH ze Rows.bindPlaysRow.laid W) :
 Calls ze 6 args W fun e W'=>∃ v,e = .returned v∧Rows.bindPlaysSpec.post enc ze Tryz.f6 false true false false W args v W':=by
 have hC:=hW;obtain⟨p,q,hD,hV,rfl,hfz,hnd⟩:=hW;have hA:DataW.TrodAll enc ze W 0 (fun _=>true) true Tryz.f6.params.toList args.toList ds p:=hD;rw[Tryz.params6]at hA hval;obtain⟨v0,vs0,d0,ds0,p0,q0,hargs,rfl,rfl,h0,r0⟩:=trodAll_cons hA;obtain⟨v1,vs1,d1,ds1,p1,q1,rfl,rfl,rfl,h1,r1⟩:=trodAll_cons r0;obtain⟨rfl,rfl,rfl⟩:=trodAll_nil r1;obtain rfl:args=#[v0,v1]:=by cases args;simp_all
 obtain⟨rfl,rfl⟩:=trodVars_none hV
 letI:OldK:=⟨W.heap.size⟩
 obtain⟨l,hE⟩:=zmy (Nat.le_refl _) (hval 0 31 v0 rfl rfl) h0;obtain⟨pl,rfl,hpl⟩:=open_int Tryz.underlying3 (hval 1 3 v1 rfl rfl) h1;obtain⟨f0,hH⟩:=id h0;obtain⟨f1,hG⟩:=id h1;clear hD;simp only[List.append_nil]at hC;have hB:=zu7 l v0 pl W (zv8 (show laidMet ze Rows.bindPlaysRow.laid W from hL) (by simp[Rows.bindPlaysRow]) (by simp[Rows.bindPlaysRow])) hE;refine hB.mono fun e W' ⟨he,hF⟩=>?_
 subst he;have hb:Below W.heap.size W W':=hF.below (Nat.le_refl _) (fun _ _ _ h=>h.elim);have hJ:=Below.trod zq8 (by kernel_rfl) (of_decide_eq_true (by kernel_rfl)) h0 hb (fun x hx=>DataW.trod_lt _ _ _ _ hH x hx);have hI:=Below.trod zq8 (by kernel_rfl) (of_decide_eq_true (by kernel_rfl)) h1 hb (fun x hx=>DataW.trod_lt _ _ _ _ hG x hx);have h2:=trodAll_cons_mk hJ (trodAll_cons_mk hI trodAll_mk0);simp only[List.append_nil]at h2;exact⟨_,rfl,⟨_,_,_,[],p0++p1,[],hC,trodAll_cons_mk (shut_bool Tryz.underlying4 _) trodAll_mk0,h2,rfl,ztl hF _,fun h=>by cases h⟩⟩
theorem zte (os:Os):laidMet ze Rows.bindPlaysRow.laid ((zgr os).forCall (fun _ _=>0) ⟨#[],#[.slice none 0 0,.int .i64 0],[]⟩).memory :=
 laidMet_of_run' 8 (by kernel_rfl) (by kernel_rfl)
theorem reads (os:Os){H:Type}(enc:TypeId × Value→H):∃ places,DataW.whole enc ze ((zgr os).forCall (fun _ _=>0) ⟨#[],#[.slice none 0 0,.int .i64 0],[]⟩).memory Tryz.f6.params.toList Rows.bindPlaysSpec.vars false #[Value.slice none 0 0,.int .i64 0].toList 8=some ([.nil,.lit (.int .i64 0)],[],places) :=
 ⟨[],by kernel_rfl⟩
theorem zwt (os:Os) (started:os.Started) (H:Type) (enc:TypeId × Value→H) (F:Stop.Interp) :
 ReturnsInHanded {} Tryz.checked os 6 .any ((OpenSpec.ofChange Rows.bindPlaysSpec).preRow enc ze Tryz.f6 Rows.bindPlaysRow.domain false Rows.bindPlaysRow.laid) (((OpenSpec.ofChange Rows.bindPlaysSpec).at F).post enc ze Tryz.f6 false true false false):=by
 obtain⟨places,hx⟩:=reads os enc
 refine returnsInHanded_of_row (C:=Tryz.checked) (s:=OpenSpec.ofChange Rows.bindPlaysSpec) own started (by kernel_rfl) Tryz.func6
  (witness_row_at (enc:=enc) (C:=Tryz.checked) false (zgr os) #[.slice none 0 0,.int .i64 0] rfl (by kernel_rfl) (by kernel_rfl) (by kernel_rfl)
    (OpenSpec.preRow_of_cond 8 hx (by kernel_rfl) (fun k hk=>by cases hk) (by kernel_rfl) (zte os))) ?_
 intro W hC hD ds gs hA hB hW _ _ _ hL _ _;exact zol H enc W hC hD ds gs hA hB hW hL
theorem cl1:(Rows.bindPlaysRow.inPlace==Tryz.prog.inPlace 6)=true:=by kernel_rfl
theorem cl2:(Rows.bindPlaysRow.unfollowed==Tryz.prog.unfollowed 6)=true:=by kernel_rfl
theorem cl3:(Rows.bindPlaysRow.recurses==Tryz.prog.recurses 6)=true:=by kernel_rfl
theorem cl4:(Rows.bindPlaysRow.named==Tryz.prog.varsNamed 6)=true:=by kernel_rfl
theorem zw8:joinedFacts ze 6 Tryz.f6 (OpenSpec.ofChange Rows.bindPlaysSpec).bare Rows.bindPlaysRow=true:=by
 unfold joinedFacts;rw[cl1,cl2,cl3,cl4]
 kernel_rfl
theorem said:Rows.BindPlaysSaid :=
 OpenClaim.holds_of_cond 6 Tryz.f6 rfl rfl rfl rfl rfl rfl rfl ⟨rfl,rfl,rfl,rfl,rfl⟩ rfl rfl rfl rfl rfl (by kernel_rfl) Tryz.func6 zw8
  (of_decide_eq_true (by kernel_rfl)) (by unfold Func.isWrapper;first | (rw[if_pos (by decide +kernel)];kernel_rfl) | (rw[if_neg (by decide +kernel)];exact⟨rfl,rfl⟩))
  (fun os started H enc _ F=>by rw[OpenClaim.pre_eq_preRow];exact zwt os started H enc F)
theorem plain (f:FuncId)(fn:Func)(hf:Tryz.pinned.checked.prog.funcNamed "cachet/cachetlaw17.BindPlays" = some f)(hfn:Tryz.pinned.checked.prog.funcs[f]? = some fn) :
 true=Tryz.pinned.checked.prog.looks []∧∀ (j:Nat) t,fn.params[j]? = some t→Tryz.pinned.checked.prog.wantsStandIn t=false:=by
 obtain rfl:f=6:=Option.some.inj ((show Tryz.prog.funcNamed "cachet/cachetlaw17.BindPlays" = some 6 by kernel_rfl).symm.trans hf) |>.symm
 obtain rfl:fn=Tryz.f6:=(Option.some.inj (Tryz.func6.symm.trans hfn)).symm;refine⟨by kernel_rfl,fun j t ht=>?_⟩;rw[Tryz.params6]at ht;have hA:t=31∨t=3:=by simpa using Array.mem_of_getElem? ht
 rcases hA with rfl | rfl
 ·exact(show Tryz.prog.wantsStandIn 31=false by kernel_rfl)
 exact(show Tryz.prog.wantsStandIn 3=false by kernel_rfl)
end bindPlays

theorem bindPlays_holds:Rows.BindPlaysCardSaid :=
 Claim7.holds_tied_plain_at .later [] _ _ _ _ bindPlays.said (fun _ h=>by cases h) (by kernel_rfl) (fun _ h=>by cases h) bindPlays_row_tie rfl ⟨rfl,rfl⟩ (by kernel_rfl) rfl bindPlays.plain (by kernel_rfl)
end Go.Proofs.YtcddlemkimbkcaaGreatDoor
