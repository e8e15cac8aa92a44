/-
 EntrySubjects is true of every payload: entry.Subjects finds the subjects that the reference finds,or says that it is no statement. No condition but the tables that start-up lays (the card ties them).
-/
import Derived.Test.YtmgfncjfgkllcaaGreatDoorCards
import Derived.Test.YtmgfncjfgkllcaaGreatDoorTie
import Derived.Test.YtmgfncjfgkllcaaGreatDoorKLawSubj
import Derived.Test.YtmgfncjfgkllcaaGreatDoorKReadB
import Derived.Test.YtmgfncjfgkllcaaGreatDoorKStart5
import Derived.Carry
import Derived.WalkKit
import Derived.ProofKit
import Derived.OpenShut
import Derived.Deep.DeepHandedRow
import Derived.Lib.LaidTab
open Go.Proofs.Tryz renaming prog→ze
namespace Go.Proofs.YtmgfncjfgkllcaaGreatDoor
set_option linter.unusedVariables false
set_option linter.unusedSimpArgs false
set_option linter.unusedSectionVars false
set_option maxRecDepth 100000
namespace entrySubjects
open Go.ChangeShapes Go.WideShapes Go.ChangeAt Go.RowKit Go.Proofs.YtmgfncjfgkllcaaGreatDoor
open Go.ChangeMaps (open_string shut_string)

theorem zz4:laidOutB ze=true:=by kernel_rfl
theorem own:ownKnob Tryz.prog.godebug=none:=by kernel_rfl
theorem zqw (H:Type)(enc:TypeId × Value→H)(W:World)(base:Nat)(args:Array Value)(ds gs:List (DataW H))(before:List MemPlace)
 (hval:∀ (j:Nat) t v,Tryz.f6.params[j]? = some t→args[j]? = some v→Value.okWide ze W .any base t v)
 (hW:DataW.Whole enc ze Tryz.f6.params.toList Rows.entrySubjectsSpec.vars false W args.toList ds gs before) (hL:laidMetH ze Rows.entrySubjectsRow.laid W) :
 Calls ze 6 args W fun e W'=>∃ v,e = .returned v∧Rows.entrySubjectsSpec.post enc ze Tryz.f6 false true false false W args v W':=by
 have hC:=hW;obtain⟨p,q,hD,hV,rfl,hfz,hnd⟩:=hW;have hA:DataW.TrodAll enc ze W 0 (fun _=>true) true Tryz.f6.params.toList args.toList ds p:=hD;rw[Tryz.params6]at hA hval;obtain⟨v0,vs0,d0,ds0,p0,q0,hargs,rfl,rfl,h0,r0⟩:=trodAll_cons hA;obtain⟨rfl,rfl,rfl⟩:=trodAll_nil r0;obtain rfl:args=#[v0]:=by cases args;simp_all
 obtain⟨rfl,rfl⟩:=trodVars_none hV
 letI:OldK:=⟨W.heap.size⟩
 obtain⟨l0,hG,-,-⟩:=zr5 (Nat.le_refl _) (hval 0 24 v0 rfl rfl) h0;obtain⟨f0,hH⟩:=id h0;clear hD;simp only[List.append_nil]at hC;have hB:=zjq l0 v0 W (z0s (show laidMet ze Rows.entrySubjectsRow.laid W from hL) (by simp[Rows.entrySubjectsRow]) (by simp[Rows.entrySubjectsRow]) (by simp[Rows.entrySubjectsRow]) (by simp[Rows.entrySubjectsRow])) hG;refine hB.mono fun e W' ⟨he,hF⟩=>?_
 subst he;have hb:Below W.heap.size W W':=hF.below (Nat.le_refl _) (fun _ _ _ h=>h.elim);have hI:=Below.trod zz4 (by kernel_rfl) (of_decide_eq_true (by kernel_rfl)) h0 hb (fun x hx=>DataW.trod_lt _ _ _ _ hH x hx);have hE:=(trodAll_cons_mk hI trodAll_mk0);simp only[List.append_nil]at hE;exact⟨_,rfl,⟨_,_,_,[],p0,[],hC,trodAll_cons_mk (shut_bool Tryz.underlying4 _) trodAll_mk0,hE,rfl,zz8 hF _,fun h=>by cases h⟩⟩
theorem zxf (os:Os):laidMet ze Rows.entrySubjectsRow.laid ((zjf os).forCall (fun _ _=>0) ⟨#[],#[.slice none 0 0],[]⟩).memory :=
 laidMet_of_run' 8 (by kernel_rfl) (by kernel_rfl)
theorem reads (os:Os){H:Type}(enc:TypeId × Value→H):∃ places,DataW.whole enc ze ((zjf os).forCall (fun _ _=>0) ⟨#[],#[.slice none 0 0],[]⟩).memory Tryz.f6.params.toList Rows.entrySubjectsSpec.vars false #[Value.slice none 0 0].toList 8=some ([.nil],[],places) :=
 ⟨[],by kernel_rfl⟩
theorem z09 (os:Os) (started:os.Started) (H:Type) (enc:TypeId × Value→H) (F:Stop.Interp) :
 ReturnsInHanded {} Tryz.checked os 6 .any ((OpenSpec.ofChange Rows.entrySubjectsSpec).preRow enc ze Tryz.f6 Rows.entrySubjectsRow.domain false Rows.entrySubjectsRow.laid) (((OpenSpec.ofChange Rows.entrySubjectsSpec).at F).post enc ze Tryz.f6 false true false false):=by
 obtain⟨places,hx⟩:=reads os enc
 refine returnsInHanded_of_row (C:=Tryz.checked) (s:=OpenSpec.ofChange Rows.entrySubjectsSpec) own started (by kernel_rfl) Tryz.func6
  (witness_row_at (enc:=enc) (C:=Tryz.checked) false (zjf os) #[.slice none 0 0] rfl (by kernel_rfl) (by kernel_rfl) (by kernel_rfl)
    (OpenSpec.preRow_of_cond 8 hx (by kernel_rfl) (fun k hk=>by cases hk) (by kernel_rfl) (zxf os))) ?_
 intro W hC hD ds gs hA hB hW _ _ _ hL _ _;exact zqw H enc W hC hD ds gs hA hB hW hL
theorem cl1:(Rows.entrySubjectsRow.inPlace==Tryz.prog.inPlace 6)=true:=by kernel_rfl
theorem cl2:(Rows.entrySubjectsRow.unfollowed==Tryz.prog.unfollowed 6)=true:=by kernel_rfl
theorem cl3:(Rows.entrySubjectsRow.recurses==Tryz.prog.recurses 6)=true:=by kernel_rfl
theorem cl4:(Rows.entrySubjectsRow.named==Tryz.prog.varsNamed 6)=true:=by kernel_rfl
theorem z1m:joinedFacts ze 6 Tryz.f6 (OpenSpec.ofChange Rows.entrySubjectsSpec).bare Rows.entrySubjectsRow=true:=by
 unfold joinedFacts;rw[cl1,cl2,cl3,cl4]
 kernel_rfl
theorem said:Rows.EntrySubjectsSaid :=
 OpenClaim.holds_of_cond 6 Tryz.f6 rfl rfl rfl rfl rfl rfl rfl ⟨rfl,rfl,rfl,rfl,rfl⟩ rfl rfl rfl rfl rfl (by kernel_rfl) Tryz.func6 z1m
  (of_decide_eq_true (by kernel_rfl)) (by unfold Func.isWrapper;first | (rw[if_pos (by decide +kernel)];kernel_rfl) | (rw[if_neg (by decide +kernel)];exact⟨rfl,rfl⟩))
  (fun os started H enc _ F=>by rw[OpenClaim.pre_eq_preRow];exact z09 os started H enc F)
theorem plain (f:FuncId)(fn:Func)(hf:Tryz.pinned.checked.prog.funcNamed "cachet/cachetlaw15.EntrySubjects" = some f)(hfn:Tryz.pinned.checked.prog.funcs[f]? = some fn) :
 true=Tryz.pinned.checked.prog.looks []∧∀ (j:Nat) t,fn.params[j]? = some t→Tryz.pinned.checked.prog.wantsStandIn t=false:=by
 obtain rfl:f=6:=Option.some.inj ((show Tryz.prog.funcNamed "cachet/cachetlaw15.EntrySubjects" = some 6 by kernel_rfl).symm.trans hf) |>.symm
 obtain rfl:fn=Tryz.f6:=(Option.some.inj (Tryz.func6.symm.trans hfn)).symm;refine⟨by kernel_rfl,fun j t ht=>?_⟩;rw[Tryz.params6]at ht;have hA:t=24:=by simpa using Array.mem_of_getElem? ht
 subst hA;exact(show Tryz.prog.wantsStandIn 24=false by kernel_rfl)
end entrySubjects

theorem entrySubjects.cl5:Rows.entrySubjectsRow.wfByText (OpenSpec.ofChange Rows.entrySubjectsSpec)=true:=by kernel_rfl
theorem entrySubjects.cl6:Tryz.pinned.checked.prog.mainIs=some (Rows.entrySubjectsCard.stood.harness.1,Rows.entrySubjectsCard.stood.harness.2.toList):=by kernel_rfl
theorem entrySubjects.cl7:false=Rows.entrySubjectsRow.goesBy Tryz.pinned.checked.prog:=by kernel_rfl
theorem entrySubjects_holds:Rows.EntrySubjectsCardSaid :=
 Claim7.holds_tied_plain_at .later [] _ _ _ _ entrySubjects.said (fun _ h=>by cases h) entrySubjects.cl5 (fun _ h=>by cases h) entrySubjects_row_tie rfl ⟨rfl,rfl⟩ entrySubjects.cl6 rfl entrySubjects.plain entrySubjects.cl7
end Go.Proofs.YtmgfncjfgkllcaaGreatDoor
