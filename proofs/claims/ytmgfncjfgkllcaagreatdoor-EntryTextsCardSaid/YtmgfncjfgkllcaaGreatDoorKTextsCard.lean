/-
 EntryTexts is true of every two texts: of texts that both are entries the same ones are put to the same text,and unlike ones to unlike texts. No condition but the tables that start-up lays (the card ties them).
-/
import Derived.Test.YtmgfncjfgkllcaaGreatDoorCards
import Derived.Test.YtmgfncjfgkllcaaGreatDoorTie
import Derived.Test.YtmgfncjfgkllcaaGreatDoorKLawTexts
import Derived.Test.YtmgfncjfgkllcaaGreatDoorKReadCame
import Derived.Test.YtmgfncjfgkllcaaGreatDoorKReadB
import Derived.Test.YtmgfncjfgkllcaaGreatDoorKStart5
import Derived.Carry
import Derived.WalkKit
import Derived.ProofKit
import Derived.OpenShut
import Derived.Deep.DeepHandedRow
import Derived.Lib.LaidTab
open Go.Proofs.Tryz renaming prog→ze
namespace Go.Proofs.YtmgfncjfgkllcaaGreatDoor
set_option linter.unusedVariables false
set_option linter.unusedSimpArgs false
set_option linter.unusedSectionVars false
set_option maxRecDepth 100000
namespace entryTexts
open Go.ChangeShapes Go.WideShapes Go.ChangeAt Go.RowKit Go.Proofs.YtmgfncjfgkllcaaGreatDoor
open Go.ChangeMaps (open_string shut_string)

theorem zvc:Tryz.prog.bytesOf 5=1:=by kernel_rfl
theorem zro:laidOutB ze=true:=by kernel_rfl
theorem own:ownKnob Tryz.prog.godebug=none:=by kernel_rfl
theorem zoh (H:Type) (enc:TypeId × Value→H) (W:World) (base:Nat) (args:Array Value) (ds gs:List (DataW H)) (before:List MemPlace)
 (hval:∀ (j:Nat) t v,Tryz.f5.params[j]? = some t→args[j]? = some v→Value.okWide ze W .any base t v)
 (hW:DataW.Whole enc ze Tryz.f5.params.toList Rows.entryTextsSpec.vars false W args.toList ds gs before) (hL:laidMetH ze Rows.entryTextsRow.laid W)
 (hsz:(DataW.weightsEach ze (Tryz.f5.params.toList++Rows.entryTextsSpec.plain.varTypes ze) (ds++gs)).all (· ≤ reachBytes)=true) :
 Calls ze 5 args W fun e W'=>∃ v,e = .returned v∧Rows.entryTextsSpec.post enc ze Tryz.f5 false true false false W args v W':=by
 have hG:=hW;obtain⟨p,q,hH,hV,rfl,hfz,hnd⟩:=hW;have hA:DataW.TrodAll enc ze W 0 (fun _=>true) true Tryz.f5.params.toList args.toList ds p:=hH;rw[Tryz.params5]at hA hval;obtain⟨v0,vs0,d0,ds0,p0,q0,hargs,rfl,rfl,h0,r0⟩:=trodAll_cons hA;obtain⟨v1,vs1,d1,ds1,p1,q1,rfl,rfl,rfl,h1,r1⟩:=trodAll_cons r0;obtain⟨rfl,rfl,rfl⟩:=trodAll_nil r1;obtain rfl:args=#[v0,v1]:=by cases args;simp_all
 obtain⟨rfl,rfl⟩:=trodVars_none hV
 letI:OldK:=⟨W.heap.size⟩
 obtain⟨l0,hM,-,hJ⟩:=zil (Nat.le_refl _) (hval 0 24 v0 rfl rfl) h0
 have hD:l0.length≤140737488351232:=by
  rcases hJ with rfl | ⟨es,sp,rfl,he⟩
  ·simp
  have hs:=sized_slice hsz (j:=0) (t:=24) rfl rfl Tryz.underlying24;rw[zvc]at hs;unfold reachBytes at hs;omega
 obtain⟨l1,hK,-,hI⟩:=zil (Nat.le_refl _) (hval 1 24 v1 rfl rfl) h1
 have hC:l1.length≤140737488351232:=by
  rcases hI with rfl | ⟨es,sp,rfl,he⟩
  ·simp
  have hs:=sized_slice hsz (j:=1) (t:=24) rfl rfl Tryz.underlying24;rw[zvc]at hs;unfold reachBytes at hs;omega
 obtain⟨f0,hO⟩:=id h0;obtain⟨f1,hN⟩:=id h1;clear hH;simp only[List.append_nil]at hG;have hB:=zky l0 v0 l1 v1 W (zwq (show laidMet ze Rows.entryTextsRow.laid W from hL) (by simp[Rows.entryTextsRow]) (by simp[Rows.entryTextsRow]) (by simp[Rows.entryTextsRow]) (by simp[Rows.entryTextsRow])) hM hK hD hC;refine hB.mono fun e W' ⟨he,hF⟩=>?_
 subst he;have hb:Below W.heap.size W W':=hF.below (Nat.le_refl _) (fun _ _ _ h=>h.elim);have hQ:=Below.trod zro (by kernel_rfl) (of_decide_eq_true (by kernel_rfl)) h0 hb (fun x hx=>DataW.trod_lt _ _ _ _ hO x hx);have hP:=Below.trod zro (by kernel_rfl) (of_decide_eq_true (by kernel_rfl)) h1 hb (fun x hx=>DataW.trod_lt _ _ _ _ hN x hx);have hE:=(trodAll_cons_mk hQ (trodAll_cons_mk hP trodAll_mk0));simp only[List.append_nil]at hE;exact⟨_,rfl,⟨_,_,_,[],p0++(p1),[],hG,trodAll_cons_mk (shut_bool Tryz.underlying4 _) trodAll_mk0,hE,rfl,zv6 hF _,fun h=>by cases h⟩⟩
theorem zt0 (os:Os):laidMet ze Rows.entryTextsRow.laid ((zhj os).forCall (fun _ _=>0) ⟨#[],#[.slice none 0 0,.slice none 0 0],[]⟩).memory :=
 laidMet_of_run' 8 (by kernel_rfl) (by kernel_rfl)
theorem reads (os:Os){H:Type}(enc:TypeId × Value→H):∃ places,DataW.whole enc ze ((zhj os).forCall (fun _ _=>0) ⟨#[],#[.slice none 0 0,.slice none 0 0],[]⟩).memory Tryz.f5.params.toList Rows.entryTextsSpec.vars false #[Value.slice none 0 0,.slice none 0 0].toList 8=some ([.nil,.nil],[],places) :=
 ⟨[],by kernel_rfl⟩
theorem zw6 (os:Os) (started:os.Started) (H:Type) (enc:TypeId × Value→H) (F:Stop.Interp) :
 ReturnsInHanded {} Tryz.checked os 5 .any ((OpenSpec.ofChange Rows.entryTextsSpec).preRow enc ze Tryz.f5 Rows.entryTextsRow.domain false Rows.entryTextsRow.laid) (((OpenSpec.ofChange Rows.entryTextsSpec).at F).post enc ze Tryz.f5 false true false false):=by
 obtain⟨places,hx⟩:=reads os enc
 refine returnsInHanded_of_row (C:=Tryz.checked) (s:=OpenSpec.ofChange Rows.entryTextsSpec) own started (by kernel_rfl) Tryz.func5
  (witness_row_at (enc:=enc) (C:=Tryz.checked) false (zhj os) #[.slice none 0 0,.slice none 0 0] rfl (by kernel_rfl) (by kernel_rfl) (by kernel_rfl)
    (OpenSpec.preRow_of_cond 8 hx (by kernel_rfl) (fun k hk=>by cases hk) (by kernel_rfl) (zt0 os))) ?_
 intro W hC hD ds gs hA hB hW _ _ hE hL _ _;exact zoh H enc W hC hD ds gs hA hB hW hL hE
theorem cl1:(Rows.entryTextsRow.inPlace==Tryz.prog.inPlace 5)=true:=by kernel_rfl
theorem cl2:(Rows.entryTextsRow.unfollowed==Tryz.prog.unfollowed 5)=true:=by kernel_rfl
theorem cl3:(Rows.entryTextsRow.recurses==Tryz.prog.recurses 5)=true:=by kernel_rfl
theorem cl4:(Rows.entryTextsRow.named==Tryz.prog.varsNamed 5)=true:=by kernel_rfl
theorem zxi:joinedFacts ze 5 Tryz.f5 (OpenSpec.ofChange Rows.entryTextsSpec).bare Rows.entryTextsRow=true:=by
 unfold joinedFacts;rw[cl1,cl2,cl3,cl4]
 kernel_rfl
theorem said:Rows.EntryTextsSaid :=
 OpenClaim.holds_of_cond 5 Tryz.f5 rfl rfl rfl rfl rfl rfl rfl ⟨rfl,rfl,rfl,rfl,rfl⟩ rfl rfl rfl rfl rfl (by kernel_rfl) Tryz.func5 zxi
  (of_decide_eq_true (by kernel_rfl)) (by unfold Func.isWrapper;first | (rw[if_pos (by decide +kernel)];kernel_rfl) | (rw[if_neg (by decide +kernel)];exact⟨rfl,rfl⟩))
  (fun os started H enc _ F=>by rw[OpenClaim.pre_eq_preRow];exact zw6 os started H enc F)
theorem plain (f:FuncId)(fn:Func)(hf:Tryz.pinned.checked.prog.funcNamed "cachet/cachetlaw15.EntryTexts" = some f)(hfn:Tryz.pinned.checked.prog.funcs[f]? = some fn) :
 true=Tryz.pinned.checked.prog.looks []∧∀ (j:Nat) t,fn.params[j]? = some t→Tryz.pinned.checked.prog.wantsStandIn t=false:=by
 obtain rfl:f=5:=Option.some.inj ((show Tryz.prog.funcNamed "cachet/cachetlaw15.EntryTexts" = some 5 by kernel_rfl).symm.trans hf) |>.symm
 obtain rfl:fn=Tryz.f5:=(Option.some.inj (Tryz.func5.symm.trans hfn)).symm;refine⟨by kernel_rfl,fun j t ht=>?_⟩;rw[Tryz.params5]at ht;have hA:t=24∨t=24:=by simpa using Array.mem_of_getElem? ht
 rcases hA with rfl | rfl
 ·exact(show Tryz.prog.wantsStandIn 24=false by kernel_rfl)
 exact(show Tryz.prog.wantsStandIn 24=false by kernel_rfl)
end entryTexts

theorem entryTexts.cl5:Rows.entryTextsRow.wfByText (OpenSpec.ofChange Rows.entryTextsSpec)=true:=by kernel_rfl
theorem entryTexts.cl6:Tryz.pinned.checked.prog.mainIs=some (Rows.entryTextsCard.stood.harness.1,Rows.entryTextsCard.stood.harness.2.toList):=by kernel_rfl
theorem entryTexts.cl7:false=Rows.entryTextsRow.goesBy Tryz.pinned.checked.prog:=by kernel_rfl
theorem entryTexts_holds:Rows.EntryTextsCardSaid :=
 Claim7.holds_tied_plain_at .later [] _ _ _ _ entryTexts.said (fun _ h=>by cases h) entryTexts.cl5 (fun _ h=>by cases h) entryTexts_row_tie rfl ⟨rfl,rfl⟩ entryTexts.cl6 rfl entryTexts.plain entryTexts.cl7
end Go.Proofs.YtmgfncjfgkllcaaGreatDoor
