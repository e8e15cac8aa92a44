/-
 How a table of identities' keys (package bind) lies in memory.
-/
import Derived.Test.YtmgfncjfgkllcaaGreatDoorKSpecBind
import Derived.Test.YtmgfncjfgkllcaaGreatDoorKEnAt
import Derived.Test.YtmgfncjfgkllcaaGreatDoorKSigEq
import Derived.OrdersHeld
import Derived.Deep.RegionHeld3
import Derived.LoopN
import Derived.Shelf.Lay
namespace Go.Proofs.YtmgfncjfgkllcaaGreatDoor
set_option linter.unusedVariables false
set_option linter.unusedSimpArgs false
set_option linter.unusedSectionVars false
section
open Go.RowKit
variable [OldK]
def Chg.cells (c:Chg):List Value:=[.int .i64 c.pos,.bool c.has]++Lib.byteCells c.key
def Chg.ok (c:Chg):Prop:=c.key.length=32
theorem Chg.size {c:Chg}(h:c.ok):c.cells.length=34:=by simp[Chg.cells,Lib.byteCells,h.symm▸(rfl:c.key.length=c.key.length),show c.key.length=32 from h]
theorem Chg.one (c:Chg):c.cells.toArray.all (·.oneCell')=true:=by
 refine all_oneCell_toArray (fun v hv=>?_);unfold Chg.cells at hv;simp only[List.mem_append,List.mem_cons,List.not_mem_nil,or_false]at hv;rcases hv with(rfl | rfl) | hv
 all_goals first | rfl | exact zau _ _ hv
theorem zfr {M:Nat→Obj→Prop}{base e size n:Nat}{v:Value}{xs:List Value}{w w':World}(h:w.ownsRow base e size v n xs)(hF:Fr M w w')(hM:∀ k o,base≤k→zbq e o→¬ M k o):w'.ownsRow base e size v n xs:=by
 refine⟨h.1,h.2.imp id ?_⟩;rintro⟨g,hB,hA,h1,h2,h3,h4⟩;exact⟨g,hB,hA,h1,h2,hF.block _ _ h3 (hM _ _ h2 ⟨_,_,rfl⟩),h4⟩
theorem MapB.fr {M:Nat→Obj→Prop}{k:TypeId}{K:KeyB Tryz.prog k}{w w':World}{b n:Nat}{m:Bs→Option Value}(h:MapB K w b n m)(hF:Fr M w w')(hM:∀ o,¬ M b o):MapB K w' b n m:=by
 obtain⟨D,⟨es,hA,h0,h1⟩,h2⟩:=h;exact⟨D,⟨es,hA,hF.block _ _ h0 (hM _),h1⟩,h2⟩
end
section
open Go.RowKit
variable [OldK]
end
section
open Go.RowKit
variable [OldK]
structure SR2 (gb:Nat) (a b:Sg) (w:World):Prop where
 one:w.rangeAt gb 0 a.cells.toList
 two:w.rangeAt gb 97 b.cells.toList
 there:w.there gb 0 194
theorem SR2.fr {M:Nat→Obj→Prop}{gb:Nat}{a b:Sg}{w w':World}(h:SR2 gb a b w)(hb:gb<w.heap.size)(hF:Fr M w w')(hM:∀ o,¬ M gb o):SR2 gb a b w' :=
 ⟨ji h.one hF hb hM,ji h.two hF hb hM,zfm h.there hF hb hM⟩
theorem zkh {w:World}{b n:Nat}(h:w.there b 0 n)(o m:Nat)(hm:o+m≤n):w.there b o m:=fun j hj=>by
 have:=h (o+j) (by omega)
 rwa [Nat.zero_add]at this
theorem SR2.swap {gb:Nat}{a b:Sg}{w:World}(h:SR2 gb a b w)(ha:a.ok)(hb:b.ok):SR2 gb b a ((w.setCells gb 97 a.cells.toList).setCells gb 0 b.cells.toList):=by
 have la:a.cells.toList.length=97:=by rw[Array.length_toList,Sg.size ha]
 have lb:b.cells.toList.length=97:=by rw[Array.length_toList,Sg.size hb]
 refine⟨World.rangeAt_setCells_same _ gb 0 _ (by rw[lb];exact zkh (World.there_setCells h.there _ _ _) 0 97 (by omega)),?_,World.there_setCells (World.there_setCells h.there _ _ _) _ _ _⟩;exact World.rangeAt_setCells_apart (World.rangeAt_setCells_same w gb 97 _ (by rw[la];exact zkh h.there 97 97 (by omega))) _ _ _ (.inr (.inr (by omega)))
end
end Go.Proofs.YtmgfncjfgkllcaaGreatDoor
