/-
 Which entries have a key that is watched,as the document says: the card of KeysMeet. No condition but the tables that start-up lays (the card ties them).
-/
import Derived.Test.YtffggpplnjibgaaGreatDoorCards
import Derived.Test.YtffggpplnjibgaaGreatDoorTie
import Derived.Test.YtffggpplnjibgaaGreatDoorKReadStrs
import Derived.Test.YtffggpplnjibgaaGreatDoorKReadCame
import Derived.Test.YtffggpplnjibgaaGreatDoorKRune
import Derived.Carry
import Derived.WalkKit
import Derived.ProofKit
import Derived.OpenShut
import Derived.Deep.DeepHandedRow
import Derived.Lib.LaidTab
open Go.Proofs.Tryz renaming prog→zl
namespace Go.Proofs.YtffggpplnjibgaaGreatDoor
set_option linter.unusedVariables false
set_option linter.unusedSimpArgs false
set_option linter.unusedSectionVars false
set_option maxRecDepth 100000
namespace keysMeet
open Go.ChangeShapes Go.WideShapes Go.ChangeAt Go.RowKit Go.Proofs.YtffggpplnjibgaaGreatDoor
open Go.ChangeMaps (open_string shut_string)

theorem zr4:laidOutB zl=true:=by kernel_rfl
theorem own:ownKnob Tryz.prog.godebug=none:=by kernel_rfl
theorem zoy (H:Type)(enc:TypeId × Value→H)(W:World)(base:Nat)(args:Array Value)(ds gs:List (DataW H))(before:List MemPlace)
 (hval:∀ (j:Nat) t v,Tryz.f4.params[j]? = some t→args[j]? = some v→Value.okWide zl W .any base t v)
 (hW:DataW.Whole enc zl Tryz.f4.params.toList Rows.keysMeetSpec.vars false W args.toList ds gs before) (hL:laidMetH zl Rows.keysMeetRow.laid W) :
 Calls zl 4 args W fun e W'=>∃ v,e = .returned v∧Rows.keysMeetSpec.post enc zl Tryz.f4 false true false false W args v W':=by
 have hD:=hW;obtain⟨p,q,hG,hV,rfl,hfz,hnd⟩:=hW;have hA:DataW.TrodAll enc zl W 0 (fun _=>true) true Tryz.f4.params.toList args.toList ds p:=hG;rw[Tryz.params4]at hA hval;obtain⟨v0,vs0,d0,ds0,p0,q0,hargs,rfl,rfl,h0,r0⟩:=trodAll_cons hA;obtain⟨v1,vs1,d1,ds1,p1,q1,rfl,rfl,rfl,h1,r1⟩:=trodAll_cons r0;obtain⟨rfl,rfl,rfl⟩:=trodAll_nil r1;obtain rfl:args=#[v0,v1]:=by cases args;simp_all
 obtain⟨rfl,rfl⟩:=trodVars_none hV
 letI:OldK:=⟨W.heap.size⟩
 obtain⟨e0,hI,hH,hC,rfl⟩:=zm2 (Nat.le_refl _) (hval 0 28 v0 rfl rfl) h0;obtain⟨l1,hJ⟩:=zq6 (Nat.le_refl _) (hval 1 33 v1 rfl rfl) h1;obtain⟨f0,hM⟩:=id h0;obtain⟨f1,hK⟩:=id h1;clear hG;simp only[List.append_nil]at hD;have hB:=zp1 e0 hI hH l1 v1 W (zxc (show laidMet zl Rows.keysMeetRow.laid W from hL) (by simp[Rows.keysMeetRow]) (by simp[Rows.keysMeetRow])) hC.1 hC.2 hJ;refine hB.mono fun e W' ⟨he,hF⟩=>?_
 subst he;have hb:Below W.heap.size W W':=hF.below (Nat.le_refl _) (fun _ _ _ h=>h.elim);have hO:=Below.trod zr4 (by kernel_rfl) (of_decide_eq_true (by kernel_rfl)) h0 hb (fun x hx=>DataW.trod_lt _ _ _ _ hM x hx);have hN:=Below.trod zr4 (by kernel_rfl) (of_decide_eq_true (by kernel_rfl)) h1 hb (fun x hx=>DataW.trod_lt _ _ _ _ hK x hx);have hE:=(trodAll_cons_mk hO (trodAll_cons_mk hN trodAll_mk0));simp only[List.append_nil]at hE;exact⟨_,rfl,⟨_,_,_,[],p0++(p1),[],hD,trodAll_cons_mk (shut_bool Tryz.underlying4 _) trodAll_mk0,hE,rfl,zuj hF _,fun h=>by cases h⟩⟩
theorem zub (os:Os):laidMet zl Rows.keysMeetRow.laid ((zgz os).forCall (fun _ _=>0) ⟨#[],#[zyi,.slice none 0 0],[]⟩).memory :=
 laidMet_of_run' 8 (by kernel_rfl) (by kernel_rfl)
theorem reads (os:Os){H:Type}(enc:TypeId × Value→H):∃ places,DataW.whole enc zl ((zgz os).forCall (fun _ _=>0) ⟨#[],#[zyi,.slice none 0 0],[]⟩).memory Tryz.f4.params.toList Rows.keysMeetSpec.vars false #[zyi,.slice none 0 0].toList 8=some ([.agg [.lit (.int .i64 0),.agg (List.replicate 32 (.lit (.int .u8 0))),.lit (.string []),.nil,.lit (.int .i64 0),.lit (.string []),.agg (List.replicate 32 (.lit (.int .u8 0))),.nil],.nil],[],places) :=
 ⟨[],by kernel_rfl⟩
theorem zxu (os:Os) (started:os.Started) (H:Type) (enc:TypeId × Value→H) (F:Stop.Interp) :
 ReturnsInHanded {} Tryz.checked os 4 .any ((OpenSpec.ofChange Rows.keysMeetSpec).preRow enc zl Tryz.f4 Rows.keysMeetRow.domain false Rows.keysMeetRow.laid) (((OpenSpec.ofChange Rows.keysMeetSpec).at F).post enc zl Tryz.f4 false true false false):=by
 obtain⟨places,hx⟩:=reads os enc
 refine returnsInHanded_of_row (C:=Tryz.checked) (s:=OpenSpec.ofChange Rows.keysMeetSpec) own started (by kernel_rfl) Tryz.func4
  (witness_row_at (enc:=enc) (C:=Tryz.checked) false (zgz os) #[zyi,.slice none 0 0] rfl (by kernel_rfl) (by kernel_rfl) (by kernel_rfl)
    (OpenSpec.preRow_of_cond 8 hx (by kernel_rfl) (fun k hk=>by cases hk) (by kernel_rfl) (zub os))) ?_
 intro W hD hE ds gs hB hC hW _ _ _ hL _ _;exact zoy H enc W hD hE ds gs hB hC hW hL
theorem cl1:(Rows.keysMeetRow.inPlace==Tryz.prog.inPlace 4)=true:=by kernel_rfl
theorem cl2:(Rows.keysMeetRow.unfollowed==Tryz.prog.unfollowed 4)=true:=by kernel_rfl
theorem cl3:(Rows.keysMeetRow.recurses==Tryz.prog.recurses 4)=true:=by kernel_rfl
theorem cl4:(Rows.keysMeetRow.named==Tryz.prog.varsNamed 4)=true:=by kernel_rfl
theorem zyb:joinedFacts zl 4 Tryz.f4 (OpenSpec.ofChange Rows.keysMeetSpec).bare Rows.keysMeetRow=true:=by
 unfold joinedFacts;rw[cl1,cl2,cl3,cl4]
 kernel_rfl
theorem said:Rows.KeysMeetSaid :=
 OpenClaim.holds_of_cond 4 Tryz.f4 rfl rfl rfl rfl rfl rfl rfl ⟨rfl,rfl,rfl,rfl,rfl⟩ rfl rfl rfl rfl rfl (by kernel_rfl) Tryz.func4 zyb
  (of_decide_eq_true (by kernel_rfl)) (by unfold Func.isWrapper;first | (rw[if_pos (by decide +kernel)];kernel_rfl) | (rw[if_neg (by decide +kernel)];exact⟨rfl,rfl⟩))
  (fun os started H enc _ F=>by rw[OpenClaim.pre_eq_preRow];exact zxu os started H enc F)
theorem plain (f:FuncId)(fn:Func)(hf:Tryz.pinned.checked.prog.funcNamed "cachet/cachetlaw16.KeysMeet" = some f)(hfn:Tryz.pinned.checked.prog.funcs[f]? = some fn) :
 true=Tryz.pinned.checked.prog.looks []∧∀ (j:Nat) t,fn.params[j]? = some t→Tryz.pinned.checked.prog.wantsStandIn t=false:=by
 obtain rfl:f=4:=Option.some.inj ((show Tryz.prog.funcNamed "cachet/cachetlaw16.KeysMeet" = some 4 by kernel_rfl).symm.trans hf) |>.symm
 obtain rfl:fn=Tryz.f4:=(Option.some.inj (Tryz.func4.symm.trans hfn)).symm;refine⟨by kernel_rfl,fun j t ht=>?_⟩;rw[Tryz.params4]at ht;have hB:t=28∨t=33:=by simpa using Array.mem_of_getElem? ht
 rcases hB with rfl | rfl
 ·exact(show Tryz.prog.wantsStandIn 28=false by kernel_rfl)
 exact(show Tryz.prog.wantsStandIn 33=false by kernel_rfl)
end keysMeet

theorem keysMeet_holds:Rows.KeysMeetCardSaid :=
 Claim7.holds_tied_plain_at .later [] _ _ _ _ keysMeet.said (fun _ h=>by cases h) (by kernel_rfl) (fun _ h=>by cases h) keysMeet_row_tie rfl ⟨rfl,rfl⟩ (by kernel_rfl) rfl keysMeet.plain (by kernel_rfl)
end Go.Proofs.YtffggpplnjibgaaGreatDoor
