/-
 Which text any signer has,as the document says: the card of EntrySigners. No condition but the tables that start-up lays (the card ties them).
-/
import Derived.Test.YtffggpplnjibgaaGreatDoorCards
import Derived.Test.YtffggpplnjibgaaGreatDoorTie
import Derived.Test.YtffggpplnjibgaaGreatDoorKLawSigners
import Derived.Test.YtffggpplnjibgaaGreatDoorKReadEn
import Derived.Test.YtffggpplnjibgaaGreatDoorKStart5
import Derived.Carry
import Derived.WalkKit
import Derived.ProofKit
import Derived.OpenShut
import Derived.Deep.DeepHandedRow
import Derived.Lib.LaidTab
open Go.Proofs.Tryz renaming prog→ze
namespace Go.Proofs.YtffggpplnjibgaaGreatDoor
set_option linter.unusedVariables false
set_option linter.unusedSimpArgs false
set_option linter.unusedSectionVars false
set_option maxRecDepth 100000
namespace entrySigners
open Go.ChangeShapes Go.WideShapes Go.ChangeAt Go.RowKit Go.Proofs.YtffggpplnjibgaaGreatDoor
open Go.ChangeMaps (open_string shut_string)

theorem zvz:laidOutB ze=true:=by kernel_rfl
theorem own:ownKnob Tryz.prog.godebug=none:=by kernel_rfl
theorem zn9 (H:Type)(enc:TypeId × Value→H)(W:World)(base:Nat)(args:Array Value)(ds gs:List (DataW H))(before:List MemPlace)
 (hval:∀ (j:Nat) t v,Tryz.f12.params[j]? = some t→args[j]? = some v→Value.okWide ze W .any base t v)
 (hW:DataW.Whole enc ze Tryz.f12.params.toList Rows.entrySignersSpec.vars false W args.toList ds gs before) (hL:laidMetH ze Rows.entrySignersRow.laid W) :
 Calls ze 12 args W fun e W'=>∃ v,e = .returned v∧Rows.entrySignersSpec.post enc ze Tryz.f12 false true false false W args v W':=by
 have hC:=hW;obtain⟨p,q,hD,hV,rfl,hfz,hnd⟩:=hW;have hA:DataW.TrodAll enc ze W 0 (fun _=>true) true Tryz.f12.params.toList args.toList ds p:=hD;rw[Tryz.params12]at hA hval;obtain⟨v0,vs0,d0,ds0,p0,q0,hargs,rfl,rfl,h0,r0⟩:=trodAll_cons hA;obtain⟨rfl,rfl,rfl⟩:=trodAll_nil r0;obtain rfl:args=#[v0]:=by cases args;simp_all
 obtain⟨rfl,rfl⟩:=trodVars_none hV
 letI:OldK:=⟨W.heap.size⟩
 obtain⟨s0,hG,rfl⟩:=ztf (hval 0 40 v0 rfl rfl) h0;obtain⟨f0,hH⟩:=id h0;clear hD;simp only[List.append_nil]at hC;have hB:=zh2 s0 W (zwm (show laidMet ze Rows.entrySignersRow.laid W from hL) (by simp[Rows.entrySignersRow]) (by simp[Rows.entrySignersRow]) (by simp[Rows.entrySignersRow]) (by simp[Rows.entrySignersRow])) hG;refine hB.mono fun e W' ⟨he,hF⟩=>?_
 subst he;have hb:Below W.heap.size W W':=hF.below (Nat.le_refl _) (fun _ _ _ h=>h.elim);have hI:=Below.trod zvz (by kernel_rfl) (of_decide_eq_true (by kernel_rfl)) h0 hb (fun x hx=>DataW.trod_lt _ _ _ _ hH x hx);have hE:=(trodAll_cons_mk hI trodAll_mk0);simp only[List.append_nil]at hE;exact⟨_,rfl,⟨_,_,_,[],p0,[],hC,trodAll_cons_mk (shut_bool Tryz.underlying4 _) trodAll_mk0,hE,rfl,zv3 hF _,fun h=>by cases h⟩⟩
theorem ztw (os:Os):laidMet ze Rows.entrySignersRow.laid ((zhf os).forCall (fun _ _=>0) ⟨#[],#[zxp],[]⟩).memory :=
 laidMet_of_run' 8 (by kernel_rfl) (by kernel_rfl)
theorem reads (os:Os){H:Type}(enc:TypeId × Value→H):∃ places,DataW.whole enc ze ((zhf os).forCall (fun _ _=>0) ⟨#[],#[zxp],[]⟩).memory Tryz.f12.params.toList Rows.entrySignersSpec.vars false #[zxp].toList 8=some ([.agg [.lit (.string []),.agg (List.replicate 32 (.lit (.int .u8 0))),.agg (List.replicate 64 (.lit (.int .u8 0)))]],[],places) :=
 ⟨[],by kernel_rfl⟩
theorem zw2 (os:Os) (started:os.Started) (H:Type) (enc:TypeId × Value→H) (F:Stop.Interp) :
 ReturnsInHanded {} Tryz.checked os 12 .any ((OpenSpec.ofChange Rows.entrySignersSpec).preRow enc ze Tryz.f12 Rows.entrySignersRow.domain false Rows.entrySignersRow.laid) (((OpenSpec.ofChange Rows.entrySignersSpec).at F).post enc ze Tryz.f12 false true false false):=by
 obtain⟨places,hx⟩:=reads os enc
 refine returnsInHanded_of_row (C:=Tryz.checked) (s:=OpenSpec.ofChange Rows.entrySignersSpec) own started (by kernel_rfl) Tryz.func12
  (witness_row_at (enc:=enc) (C:=Tryz.checked) false (zhf os) #[zxp] rfl (by kernel_rfl) (by kernel_rfl) (by kernel_rfl)
    (OpenSpec.preRow_of_cond 8 hx (by kernel_rfl) (fun k hk=>by cases hk) (by kernel_rfl) (ztw os))) ?_
 intro W hC hD ds gs hA hB hW _ _ _ hL _ _;exact zn9 H enc W hC hD ds gs hA hB hW hL
theorem cl1:(Rows.entrySignersRow.inPlace==Tryz.prog.inPlace 12)=true:=by kernel_rfl
theorem cl2:(Rows.entrySignersRow.unfollowed==Tryz.prog.unfollowed 12)=true:=by kernel_rfl
theorem cl3:(Rows.entrySignersRow.recurses==Tryz.prog.recurses 12)=true:=by kernel_rfl
theorem cl4:(Rows.entrySignersRow.named==Tryz.prog.varsNamed 12)=true:=by kernel_rfl
theorem zxe:joinedFacts ze 12 Tryz.f12 (OpenSpec.ofChange Rows.entrySignersSpec).bare Rows.entrySignersRow=true:=by
 unfold joinedFacts;rw[cl1,cl2,cl3,cl4]
 kernel_rfl
theorem said:Rows.EntrySignersSaid :=
 OpenClaim.holds_of_cond 12 Tryz.f12 rfl rfl rfl rfl rfl rfl rfl ⟨rfl,rfl,rfl,rfl,rfl⟩ rfl rfl rfl rfl rfl (by kernel_rfl) Tryz.func12 zxe
  (of_decide_eq_true (by kernel_rfl)) (by unfold Func.isWrapper;first | (rw[if_pos (by decide +kernel)];kernel_rfl) | (rw[if_neg (by decide +kernel)];exact⟨rfl,rfl⟩))
  (fun os started H enc _ F=>by rw[OpenClaim.pre_eq_preRow];exact zw2 os started H enc F)
theorem plain (f:FuncId)(fn:Func)(hf:Tryz.pinned.checked.prog.funcNamed "cachet/cachetlaw15.EntrySigners" = some f)(hfn:Tryz.pinned.checked.prog.funcs[f]? = some fn) :
 true=Tryz.pinned.checked.prog.looks []∧∀ (j:Nat) t,fn.params[j]? = some t→Tryz.pinned.checked.prog.wantsStandIn t=false:=by
 obtain rfl:f=12:=Option.some.inj ((show Tryz.prog.funcNamed "cachet/cachetlaw15.EntrySigners" = some 12 by kernel_rfl).symm.trans hf) |>.symm
 obtain rfl:fn=Tryz.f12:=(Option.some.inj (Tryz.func12.symm.trans hfn)).symm;refine⟨by kernel_rfl,fun j t ht=>?_⟩;rw[Tryz.params12]at ht;have hA:t=40:=by simpa using Array.mem_of_getElem? ht
 subst hA;exact(show Tryz.prog.wantsStandIn 40=false by kernel_rfl)
end entrySigners

theorem entrySigners_holds:Rows.EntrySignersCardSaid :=
 Claim7.holds_tied_plain_at .later [] _ _ _ _ entrySigners.said (fun _ h=>by cases h) (by kernel_rfl) (fun _ h=>by cases h) entrySigners_row_tie rfl ⟨rfl,rfl⟩ (by kernel_rfl) rfl entrySigners.plain (by kernel_rfl)
end Go.Proofs.YtffggpplnjibgaaGreatDoor
