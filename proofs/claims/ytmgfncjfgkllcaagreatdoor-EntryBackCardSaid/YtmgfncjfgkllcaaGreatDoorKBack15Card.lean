/-
 What is put is parsed to the same entry,and put to the same text: the card of EntryBack. No condition but the tables that start-up lays (the card ties them).
-/
import Derived.Test.YtmgfncjfgkllcaaGreatDoorCards
import Derived.Test.YtmgfncjfgkllcaaGreatDoorTie
import Derived.Test.YtmgfncjfgkllcaaGreatDoorKLawBack15
import Derived.Test.YtmgfncjfgkllcaaGreatDoorKReadEn
import Derived.Test.YtmgfncjfgkllcaaGreatDoorKStart5
import Derived.Carry
import Derived.WalkKit
import Derived.ProofKit
import Derived.OpenShut
import Derived.Deep.DeepHandedRow
import Derived.Lib.LaidTab
open Go.Proofs.Tryz renaming prog→ze
namespace Go.Proofs.YtmgfncjfgkllcaaGreatDoor
set_option linter.unusedVariables false
set_option linter.unusedSimpArgs false
set_option linter.unusedSectionVars false
set_option maxRecDepth 100000
namespace entryBack
open Go.ChangeShapes Go.WideShapes Go.ChangeAt Go.RowKit Go.Proofs.YtmgfncjfgkllcaaGreatDoor
open Go.ChangeMaps (open_string shut_string)

theorem zwd:laidOutB ze=true:=by kernel_rfl
theorem own:ownKnob Tryz.prog.godebug=none:=by kernel_rfl
theorem zol (H:Type)(enc:TypeId × Value→H)(W:World)(base:Nat)(args:Array Value)(ds gs:List (DataW H))(before:List MemPlace)
 (hval:∀ (j:Nat) t v,Tryz.f3.params[j]? = some t→args[j]? = some v→Value.okWide ze W .any base t v)
 (hW:DataW.Whole enc ze Tryz.f3.params.toList Rows.entryBackSpec.vars false W args.toList ds gs before) (hL:laidMetH ze Rows.entryBackRow.laid W) :
 Calls ze 3 args W fun e W'=>∃ v,e = .returned v∧Rows.entryBackSpec.post enc ze Tryz.f3 false true false false W args v W':=by
 have hC:=hW;obtain⟨p,q,hD,hV,rfl,hfz,hnd⟩:=hW;have hA:DataW.TrodAll enc ze W 0 (fun _=>true) true Tryz.f3.params.toList args.toList ds p:=hD;rw[Tryz.params3]at hA hval;obtain⟨v0,vs0,d0,ds0,p0,q0,hargs,rfl,rfl,h0,r0⟩:=trodAll_cons hA;obtain⟨rfl,rfl,rfl⟩:=trodAll_nil r0;obtain rfl:args=#[v0]:=by cases args;simp_all
 obtain⟨rfl,rfl⟩:=trodVars_none hV
 letI:OldK:=⟨W.heap.size⟩
 obtain⟨e0,hH,hG,hJ,rfl⟩:=zpo (Nat.le_refl _) (hval 0 28 v0 rfl rfl) h0;obtain⟨f0,hI⟩:=id h0;clear hD;simp only[List.append_nil]at hC;have hB:=zm2 e0 hH hG W (zw0 (show laidMet ze Rows.entryBackRow.laid W from hL) (by simp[Rows.entryBackRow]) (by simp[Rows.entryBackRow]) (by simp[Rows.entryBackRow]) (by simp[Rows.entryBackRow])) hJ;refine hB.mono fun e W' ⟨he,hF⟩=>?_
 subst he;have hb:Below W.heap.size W W':=hF.below (Nat.le_refl _) (fun _ _ _ h=>h.elim);have hK:=Below.trod zwd (by kernel_rfl) (of_decide_eq_true (by kernel_rfl)) h0 hb (fun x hx=>DataW.trod_lt _ _ _ _ hI x hx);have hE:=(trodAll_cons_mk hK trodAll_mk0);simp only[List.append_nil]at hE;exact⟨_,rfl,⟨_,_,_,[],p0,[],hC,trodAll_cons_mk (shut_bool Tryz.underlying4 _) trodAll_mk0,hE,rfl,zwh hF _,fun h=>by cases h⟩⟩
theorem zub (os:Os):laidMet ze Rows.entryBackRow.laid ((zhp os).forCall (fun _ _=>0) ⟨#[],#[zx3],[]⟩).memory :=
 laidMet_of_run' 8 (by kernel_rfl) (by kernel_rfl)
theorem reads (os:Os){H:Type}(enc:TypeId × Value→H):∃ places,DataW.whole enc ze ((zhp os).forCall (fun _ _=>0) ⟨#[],#[zx3],[]⟩).memory Tryz.f3.params.toList Rows.entryBackSpec.vars false #[zx3].toList 8=some ([.agg [.lit (.int .i64 0),.agg (List.replicate 32 (.lit (.int .u8 0))),.lit (.string []),.nil,.lit (.int .i64 0),.lit (.string []),.agg (List.replicate 32 (.lit (.int .u8 0))),.nil]],[],places) :=
 ⟨[],by kernel_rfl⟩
theorem zxg (os:Os) (started:os.Started) (H:Type) (enc:TypeId × Value→H) (F:Stop.Interp) :
 ReturnsInHanded {} Tryz.checked os 3 .any ((OpenSpec.ofChange Rows.entryBackSpec).preRow enc ze Tryz.f3 Rows.entryBackRow.domain false Rows.entryBackRow.laid) (((OpenSpec.ofChange Rows.entryBackSpec).at F).post enc ze Tryz.f3 false true false false):=by
 obtain⟨places,hx⟩:=reads os enc
 refine returnsInHanded_of_row (C:=Tryz.checked) (s:=OpenSpec.ofChange Rows.entryBackSpec) own started (by kernel_rfl) Tryz.func3
  (witness_row_at (enc:=enc) (C:=Tryz.checked) false (zhp os) #[zx3] rfl (by kernel_rfl) (by kernel_rfl) (by kernel_rfl)
    (OpenSpec.preRow_of_cond 8 hx (by kernel_rfl) (fun k hk=>by cases hk) (by kernel_rfl) (zub os))) ?_
 intro W hC hD ds gs hA hB hW _ _ _ hL _ _;exact zol H enc W hC hD ds gs hA hB hW hL
theorem cl1:(Rows.entryBackRow.inPlace==Tryz.prog.inPlace 3)=true:=by kernel_rfl
theorem cl2:(Rows.entryBackRow.unfollowed==Tryz.prog.unfollowed 3)=true:=by kernel_rfl
theorem cl3:(Rows.entryBackRow.recurses==Tryz.prog.recurses 3)=true:=by kernel_rfl
theorem cl4:(Rows.entryBackRow.named==Tryz.prog.varsNamed 3)=true:=by kernel_rfl
theorem zxs:joinedFacts ze 3 Tryz.f3 (OpenSpec.ofChange Rows.entryBackSpec).bare Rows.entryBackRow=true:=by
 unfold joinedFacts;rw[cl1,cl2,cl3,cl4]
 kernel_rfl
theorem said:Rows.EntryBackSaid :=
 OpenClaim.holds_of_cond 3 Tryz.f3 rfl rfl rfl rfl rfl rfl rfl ⟨rfl,rfl,rfl,rfl,rfl⟩ rfl rfl rfl rfl rfl (by kernel_rfl) Tryz.func3 zxs
  (of_decide_eq_true (by kernel_rfl)) (by unfold Func.isWrapper;first | (rw[if_pos (by decide +kernel)];kernel_rfl) | (rw[if_neg (by decide +kernel)];exact⟨rfl,rfl⟩))
  (fun os started H enc _ F=>by rw[OpenClaim.pre_eq_preRow];exact zxg os started H enc F)
theorem plain (f:FuncId)(fn:Func)(hf:Tryz.pinned.checked.prog.funcNamed "cachet/cachetlaw15.EntryBack" = some f)(hfn:Tryz.pinned.checked.prog.funcs[f]? = some fn) :
 true=Tryz.pinned.checked.prog.looks []∧∀ (j:Nat) t,fn.params[j]? = some t→Tryz.pinned.checked.prog.wantsStandIn t=false:=by
 obtain rfl:f=3:=Option.some.inj ((show Tryz.prog.funcNamed "cachet/cachetlaw15.EntryBack" = some 3 by kernel_rfl).symm.trans hf) |>.symm
 obtain rfl:fn=Tryz.f3:=(Option.some.inj (Tryz.func3.symm.trans hfn)).symm;refine⟨by kernel_rfl,fun j t ht=>?_⟩;rw[Tryz.params3]at ht;have hA:t=28:=by simpa using Array.mem_of_getElem? ht
 subst hA;exact(show Tryz.prog.wantsStandIn 28=false by kernel_rfl)
end entryBack

theorem entryBack.cl5:Rows.entryBackRow.wfByText (OpenSpec.ofChange Rows.entryBackSpec)=true:=by kernel_rfl
theorem entryBack.cl6:Tryz.pinned.checked.prog.mainIs=some (Rows.entryBackCard.stood.harness.1,Rows.entryBackCard.stood.harness.2.toList):=by kernel_rfl
theorem entryBack.cl7:false=Rows.entryBackRow.goesBy Tryz.pinned.checked.prog:=by kernel_rfl
theorem entryBack_holds:Rows.EntryBackCardSaid :=
 Claim7.holds_tied_plain_at .later [] _ _ _ _ entryBack.said (fun _ h=>by cases h) entryBack.cl5 (fun _ h=>by cases h) entryBack_row_tie rfl ⟨rfl,rfl⟩ entryBack.cl6 rfl entryBack.plain entryBack.cl7
end Go.Proofs.YtmgfncjfgkllcaaGreatDoor
