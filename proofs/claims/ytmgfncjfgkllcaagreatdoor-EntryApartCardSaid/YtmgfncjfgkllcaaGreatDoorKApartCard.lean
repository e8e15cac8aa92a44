/-
 What is signed of unlike types and payloads is unlike: the card of EntryApart. No condition but the tables that start-up lays (the card ties them).
-/
import Derived.Test.YtmgfncjfgkllcaaGreatDoorCards
import Derived.Test.YtmgfncjfgkllcaaGreatDoorTie
import Derived.Test.YtmgfncjfgkllcaaGreatDoorKLawApart
import Derived.Test.YtmgfncjfgkllcaaGreatDoorKReadTwo
import Derived.Test.YtmgfncjfgkllcaaGreatDoorKStart5
import Derived.Carry
import Derived.WalkKit
import Derived.ProofKit
import Derived.OpenShut
import Derived.Deep.DeepHandedRow
import Derived.Lib.LaidTab
open Go.Proofs.Tryz renaming prog→ze
namespace Go.Proofs.YtmgfncjfgkllcaaGreatDoor.entryApart
set_option linter.unusedVariables false
set_option linter.unusedSimpArgs false
set_option linter.unusedSectionVars false
set_option maxRecDepth 100000
open Go.ChangeShapes Go.WideShapes Go.ChangeAt Go.RowKit Go.Proofs.YtmgfncjfgkllcaaGreatDoor
open Go.ChangeMaps (open_string shut_string)

theorem zuy:laidOutB ze=true:=by kernel_rfl
theorem own:ownKnob Tryz.prog.godebug=none:=by kernel_rfl
theorem zta (H:Type)(enc:TypeId × Value→H)(W:World)(base:Nat)(args:Array Value)(ds gs:List (DataW H))(before:List MemPlace)
 (hval:∀ (j:Nat) t v,Tryz.f4.params[j]? = some t→args[j]? = some v→Value.okWide ze W .any base t v)
 (hW:DataW.Whole enc ze Tryz.f4.params.toList Rows.entryApartSpec.vars false W args.toList ds gs before) (hL:laidMetH ze Rows.entryApartRow.laid W) :
 Calls ze 4 args W fun e W'=>∃ v,e = .returned v∧Rows.entryApartSpec.post enc ze Tryz.f4 false true false false W args v W':=by
 have hC:=hW;obtain⟨p,q,hD,hV,rfl,hfz,hnd⟩:=hW;have hA:DataW.TrodAll enc ze W 0 (fun _=>true) true Tryz.f4.params.toList args.toList ds p:=hD;rw[Tryz.params4]at hA hval;obtain⟨v0,vs0,d0,ds0,p0,q0,hargs,rfl,rfl,h0,r0⟩:=trodAll_cons hA;obtain⟨rfl,rfl,rfl⟩:=trodAll_nil r0;obtain rfl:args=#[v0]:=by cases args;simp_all
 obtain⟨rfl,rfl⟩:=trodVars_none hV
 letI:OldK:=⟨W.heap.size⟩
 obtain⟨hJ,hI,hP,hH,hG,hO,hK,rfl⟩:=zsb (Nat.le_refl _) (hval 0 40 v0 rfl rfl) h0;obtain⟨f0,hM⟩:=id h0;clear hD;simp only[List.append_nil]at hC;have hB:=zj7 hJ hI hP hH hG hO W (zvm (show laidMet ze Rows.entryApartRow.laid W from hL) (by simp[Rows.entryApartRow]) (by simp[Rows.entryApartRow]) (by simp[Rows.entryApartRow]) (by simp[Rows.entryApartRow])) hK;refine hB.mono fun e W' ⟨he,hF⟩=>?_
 subst he;have hb:Below W.heap.size W W':=hF.below (Nat.le_refl _) (fun _ _ _ h=>h.elim);have hN:=Below.trod zuy (by kernel_rfl) (of_decide_eq_true (by kernel_rfl)) h0 hb (fun x hx=>DataW.trod_lt _ _ _ _ hM x hx);have hE:=(trodAll_cons_mk hN trodAll_mk0);simp only[List.append_nil]at hE;exact⟨_,rfl,⟨_,_,_,[],p0,[],hC,trodAll_cons_mk (shut_bool Tryz.underlying4 _) trodAll_mk0,hE,rfl,zu2 hF _,fun h=>by cases h⟩⟩
theorem zss (os:Os):laidMet ze Rows.entryApartRow.laid ((zgw os).forCall (fun _ _=>0) ⟨#[],#[.agg #[.string .empty,.slice none 0 0,.string .empty,.slice none 0 0]],[]⟩).memory :=
 laidMet_of_run' 8 (by kernel_rfl) (by kernel_rfl)
theorem reads (os:Os){H:Type}(enc:TypeId × Value→H):∃ places,DataW.whole enc ze ((zgw os).forCall (fun _ _=>0) ⟨#[],#[.agg #[.string .empty,.slice none 0 0,.string .empty,.slice none 0 0]],[]⟩).memory Tryz.f4.params.toList Rows.entryApartSpec.vars false #[Value.agg #[.string .empty,.slice none 0 0,.string .empty,.slice none 0 0]].toList 8=some ([.agg [.lit (.string []),.nil,.lit (.string []),.nil]],[],places) :=
 ⟨[],by kernel_rfl⟩
theorem zv2 (os:Os) (started:os.Started) (H:Type) (enc:TypeId × Value→H) (F:Stop.Interp) :
 ReturnsInHanded {} Tryz.checked os 4 .any ((OpenSpec.ofChange Rows.entryApartSpec).preRow enc ze Tryz.f4 Rows.entryApartRow.domain false Rows.entryApartRow.laid) (((OpenSpec.ofChange Rows.entryApartSpec).at F).post enc ze Tryz.f4 false true false false):=by
 obtain⟨places,hx⟩:=reads os enc
 refine returnsInHanded_of_row (C:=Tryz.checked) (s:=OpenSpec.ofChange Rows.entryApartSpec) own started (by kernel_rfl) Tryz.func4
  (witness_row_at (enc:=enc) (C:=Tryz.checked) false (zgw os) #[.agg #[.string .empty,.slice none 0 0,.string .empty,.slice none 0 0]] rfl (by kernel_rfl) (by kernel_rfl) (by kernel_rfl)
    (OpenSpec.preRow_of_cond 8 hx (by kernel_rfl) (fun k hk=>by cases hk) (by kernel_rfl) (zss os))) ?_
 intro W hC hD ds gs hA hB hW _ _ _ hL _ _;exact zta H enc W hC hD ds gs hA hB hW hL
theorem cl1:(Rows.entryApartRow.inPlace==Tryz.prog.inPlace 4)=true:=by kernel_rfl
theorem cl2:(Rows.entryApartRow.unfollowed==Tryz.prog.unfollowed 4)=true:=by kernel_rfl
theorem cl3:(Rows.entryApartRow.recurses==Tryz.prog.recurses 4)=true:=by kernel_rfl
theorem cl4:(Rows.entryApartRow.named==Tryz.prog.varsNamed 4)=true:=by kernel_rfl
theorem zwe:joinedFacts ze 4 Tryz.f4 (OpenSpec.ofChange Rows.entryApartSpec).bare Rows.entryApartRow=true:=by
 unfold joinedFacts;rw[cl1,cl2,cl3,cl4]
 kernel_rfl
theorem said:Rows.EntryApartSaid :=
 OpenClaim.holds_of_cond 4 Tryz.f4 rfl rfl rfl rfl rfl rfl rfl ⟨rfl,rfl,rfl,rfl,rfl⟩ rfl rfl rfl rfl rfl (by kernel_rfl) Tryz.func4 zwe
  (of_decide_eq_true (by kernel_rfl)) (by unfold Func.isWrapper;first | (rw[if_pos (by decide +kernel)];kernel_rfl) | (rw[if_neg (by decide +kernel)];exact⟨rfl,rfl⟩))
  (fun os started H enc _ F=>by rw[OpenClaim.pre_eq_preRow];exact zv2 os started H enc F)
theorem plain (f:FuncId)(fn:Func)(hf:Tryz.pinned.checked.prog.funcNamed "cachet/cachetlaw15.EntryApart" = some f)(hfn:Tryz.pinned.checked.prog.funcs[f]? = some fn) :
 true=Tryz.pinned.checked.prog.looks []∧∀ (j:Nat) t,fn.params[j]? = some t→Tryz.pinned.checked.prog.wantsStandIn t=false:=by
 obtain rfl:f=4:=Option.some.inj ((show Tryz.prog.funcNamed "cachet/cachetlaw15.EntryApart" = some 4 by kernel_rfl).symm.trans hf) |>.symm
 obtain rfl:fn=Tryz.f4:=(Option.some.inj (Tryz.func4.symm.trans hfn)).symm;refine⟨by kernel_rfl,fun j t ht=>?_⟩;rw[Tryz.params4]at ht;have hA:t=40:=by simpa using Array.mem_of_getElem? ht
 subst hA;exact(show Tryz.prog.wantsStandIn 40=false by kernel_rfl)
end Go.Proofs.YtmgfncjfgkllcaaGreatDoor.entryApart
namespace Go.Proofs.YtmgfncjfgkllcaaGreatDoor

theorem entryApart_holds:Rows.EntryApartCardSaid :=
 Claim7.holds_tied_plain_at .later [] _ _ _ _ entryApart.said (fun _ h=>by cases h) (by kernel_rfl) (fun _ h=>by cases h) entryApart_row_tie rfl ⟨rfl,rfl⟩ (by kernel_rfl) rfl entryApart.plain (by kernel_rfl)
end Go.Proofs.YtmgfncjfgkllcaaGreatDoor
