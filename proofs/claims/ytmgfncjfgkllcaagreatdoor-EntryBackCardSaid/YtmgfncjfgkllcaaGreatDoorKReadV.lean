/-
 From a value that can be read as data to a value of package api: a tree.
-/
import Derived.Test.YtmgfncjfgkllcaaGreatDoorKCellRows
import Derived.Test.YtmgfncjfgkllcaaGreatDoorKFits
import Derived.Lib.LaidU8
import Derived.ProofKit
import Derived.Deep.MidRow
namespace Go.Proofs.YtmgfncjfgkllcaaGreatDoor
set_option linter.unusedVariables false
set_option linter.unusedSimpArgs false
set_option linter.unusedSectionVars false
open Go.RowKit
variable [OldK]

theorem zh5:Tryz.prog.cellsOf 3=1:=by kernel_rfl
theorem zes:Tryz.prog.cellsOf 9=1:=by kernel_rfl
theorem zyq {cs:List Value}(h:cs.length=5):∃ c0 c1 c2 c3 c4,cs=[c0,c1,c2,c3,c4]:=by
 match cs,h with
 | [c0,c1,c2,c3,c4],_=>exact⟨c0,c1,c2,c3,c4,rfl⟩
theorem six {cs:List Value}(h:cs.length=6):∃ c0 c1 c2 c3 c4 c5,cs=[c0,c1,c2,c3,c4,c5]:=by
 match cs,h with
 | [c0,c1,c2,c3,c4,c5],_=>exact⟨c0,c1,c2,c3,c4,c5,rfl⟩
theorem ziz {w:World}{base n:Nat}{a:Addr}{cs:List Value}(h:w.cells? base a n=some cs):cs.length=n∧∀ i,i<n→w.cell? (a.add i)=cs[i]? :=
 (World.cells?_some h).2
theorem zsw {w:World} {a:Addr} {n k:Nat} (hn:0<n) (hk:0<k) {G:Nat→List Value} (h:∀ i,i<n→w.cells? 0 (a.add (i * k)) k=some (G i)) :
 ∃ b o C T f,a=⟨b,o,none⟩∧w.heap[b]? = some (.cells C T f)∧∀ i,i<n→(C.toList.drop (o+i * k)).take k=G i:=by
 obtain⟨b,o,sp⟩:=a;obtain⟨hl0,hB⟩:=ziz (h 0 hn);have hA:=hB 0 hk;have e0:((⟨b,o,sp⟩:Addr).add (0 * k)).add 0=⟨b,o,sp⟩:=by simp[Addr.add]
 rw[e0,List.getElem?_eq_getElem (by omega)]at hA;obtain rfl:=Go.Proofs.cell_spot hA;unfold World.cell? at hA;split at hA
 ·rename_i C T f hb
  refine⟨b,o,C,T,f,rfl,hb,fun i hi=>?_⟩;obtain⟨hl,hg⟩:=ziz (h i hi);apply List.ext_getElem?;intro j;rw[List.getElem?_take];split
  ·rename_i hj
   have:=hg j hj;rw[Addr.add_mid,Addr.add_mid]at this;rw[List.getElem?_drop,← this];simp[World.cell?,hb]
  rw[List.getElem?_eq_none (by omega)]
 all_goals simp at hA
section
variable {H:Type} {enc:TypeId × Value→H} {sp:Nat→Bool} {held:Bool} {w:World}
theorem bind_some {α β:Type}{o:Option α}{f:α→Option β}{y:β}(h:o.bind f=some y):∃ x,o=some x∧f x=some y:=by
 cases o with
 | none=>simp at h
 | some x=>exact⟨x,rfl,by simpa using h⟩
end
end Go.Proofs.YtmgfncjfgkllcaaGreatDoor
