/-
 How a table of identities' keys (package bind) lies in memory.
-/
import Derived.Test.YtmgfncjfgkllcaaGreatDoorKSpecBind
import Derived.Test.YtmgfncjfgkllcaaGreatDoorKConcat
import Derived.Test.YtmgfncjfgkllcaaGreatDoorKSigEq
namespace Go.Proofs.YtmgfncjfgkllcaaGreatDoor
set_option linter.unusedVariables false
set_option linter.unusedSimpArgs false
set_option linter.unusedSectionVars false
open Go.RowKit
variable [OldK]
def Chg.cells (c:Chg):List Value:=[.int .i64 c.pos,.bool c.has]++Lib.byteCells c.key
def Chg.ok (c:Chg):Prop:=c.key.length=32
theorem Chg.size {c:Chg}(h:c.ok):c.cells.length=34:=by simp[Chg.cells,Lib.byteCells,h.symm▸(rfl:c.key.length=c.key.length),show c.key.length=32 from h]
theorem Chg.one (c:Chg):c.cells.toArray.all (·.oneCell')=true:=by
 refine all_oneCell_toArray (fun v hv=>?_);unfold Chg.cells at hv;simp only[List.mem_append,List.mem_cons,List.not_mem_nil,or_false]at hv;rcases hv with(rfl | rfl) | hv
 all_goals first | rfl | exact zaw _ _ hv
theorem zfe {M:Nat→Obj→Prop}{base e size n:Nat}{v:Value}{xs:List Value}{w w':World}(h:w.ownsRow base e size v n xs)(hF:Fr M w w')(hM:∀ k o,base≤k→zas e o→¬ M k o):w'.ownsRow base e size v n xs:=by
 refine⟨h.1,h.2.imp id ?_⟩;rintro⟨g,hB,hA,h1,h2,h3,h4⟩;exact⟨g,hB,hA,h1,h2,hF.block _ _ h3 (hM _ _ h2 ⟨_,_,rfl⟩),h4⟩
theorem MapB.fr {M:Nat→Obj→Prop}{k:TypeId}{K:KeyB Tryz.prog k}{w w':World}{b n:Nat}{m:Bs→Option Value}(h:MapB K w b n m)(hF:Fr M w w')(hM:∀ o,¬ M b o):MapB K w' b n m:=by
 obtain⟨D,⟨es,hA,h0,h1⟩,h2⟩:=h;exact⟨D,⟨es,hA,hF.block _ _ h0 (hM _),h1⟩,h2⟩
end Go.Proofs.YtmgfncjfgkllcaaGreatDoor
