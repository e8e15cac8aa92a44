/-
 What the row's list gives where only the tables of unicode/utf8 are laid.
-/
import Derived.Test.YtffggpplnjibgaaGreatDoorRows
import Derived.Test.YtffggpplnjibgaaGreatDoorKReader
import Derived.Lib.LaidU8
import Derived.ProofKit
import Derived.OpenShut
import Derived.Deep.DeepHandedRow
import Derived.Test.YtffggpplnjibgaaGreatDoorKReadCame
open Go.Proofs.Tryz renaming prog→zl
open Option.some renaming inj→je
open Go.Value renaming int→jf
open Go.IntKind renaming u8→jg
namespace Go.Proofs.YtffggpplnjibgaaGreatDoor
set_option linter.unusedVariables false
set_option linter.unusedSimpArgs false
set_option linter.unusedSectionVars false
set_option maxRecDepth 100000
section
open Go.RowKit
theorem Tryz.typ0b:(Tryz.prog.globals[0]?).map (·.type)=some 262:=by kernel_rfl
theorem Tryz.typ1b:(Tryz.prog.globals[1]?).map (·.type)=some 265:=by kernel_rfl
theorem Tryz.name0b:Tryz.prog.globalNamed "unicode/utf8.first" = some 0:=by kernel_rfl
theorem Tryz.name1b:Tryz.prog.globalNamed "unicode/utf8.acceptRanges" = some 1:=by kernel_rfl
theorem zin:Tryz.prog.cellsOf 262=256:=by kernel_rfl
theorem zct:Tryz.prog.cellsOf 5=1:=by kernel_rfl
theorem zeo:Tryz.prog.cellsOf 264=2:=by kernel_rfl
theorem zf1 {w:World} (h3:Lib.VarReads zl w "unicode/utf8.first" Lib.firstData) (h4:Lib.VarReads zl w "unicode/utf8.acceptRanges" Lib.acceptData) :
 Lib.Utf8Tabs 0 1 w:=by
 refine⟨fun c hc=>?_,fun i hi=>?_⟩
 ·obtain⟨g,t,cs,hD,p,hg,hC,hA,hd⟩:=h3;obtain rfl:=je (Tryz.name0b.symm.trans hg);obtain rfl:=je (Tryz.typ0b.symm.trans hC);have hB:=Lib.cells_of_tab Tryz.underlying262 Tryz.underlying5 zct zin hd;rw[World.var?_cell hg hA c,← Array.getElem?_toList,hB];simp[Lib.firstTab,hc]
 obtain⟨g,t,cs,hD,p,hg,hC,hA,hd⟩:=h4;obtain rfl:=je (Tryz.name1b.symm.trans hg);obtain rfl:=je (Tryz.typ1b.symm.trans hC);obtain⟨fuel',d,q,hE,he⟩:=Lib.array_elem Tryz.underlying265 hd i hi;simp only[List.getElem?_map,List.getElem?_range hi,Option.map_some,Option.some.injEq]at hE;subst hE;rw[zeo]at he
 have hB:=Lib.ints_of_struct Tryz.underlying264 (fun j f hj=>by
  match j,hj with
  | 0,hj=>simp at hj;subst hj;exact⟨Tryz.underlying5,rfl,zct⟩
  | 1,hj=>simp at hj;subst hj;exact⟨Tryz.underlying5,rfl,zct⟩
  | j+2,hj=>simp at hj) (by rw[zeo];rfl) he
 have e0:=congrArg (·[0]?) hB;have e1:=congrArg (·[1]?) hB;simp only[List.getElem?_take,List.getElem?_drop]at e0 e1;constructor
 ·rw[World.var?_cell hg hA (2 * i),← Array.getElem?_toList];simpa[Nat.mul_comm] using e0
 rw[World.var?_cell hg hA (2 * i+1),← Array.getElem?_toList];simpa[Nat.mul_comm] using e1
theorem zqp {L:List (String × DataW Unit)} {W:World} (h:laidMet zl L W) (h1:("unicode/utf8.first", Rows.laid_unicode_utf8_first)∈L) (h2:("unicode/utf8.acceptRanges", Rows.laid_unicode_utf8_acceptRanges)∈L):@Gl ⟨W.heap.size⟩ W:=by
 letI:OldK:=⟨W.heap.size⟩
 have h':=h
 have r1:Lib.VarReads zl W "unicode/utf8.first" Lib.firstData:=Lib.laidMet.reads h' (by
  rw[show Lib.firstData=Rows.laid_unicode_utf8_first by kernel_rfl]
  exact h1)
 have r2:Lib.VarReads zl W "unicode/utf8.acceptRanges" Lib.acceptData:=Lib.laidMet.reads h' (by
  rw[show Lib.acceptData=Rows.laid_unicode_utf8_acceptRanges by kernel_rfl]
  exact h2)
 refine Gl.of ⟨?_,zf1 r1 r2⟩ (Nat.le_refl _);obtain⟨g,t,cs,fuel,p,hg,hty,hA,hd⟩:=r2;obtain rfl:=je (Tryz.name1b.symm.trans hg);unfold World.var? at hA;rw[Tryz.name1b]at hA;simp only[Option.bind_some]at hA;rcases Nat.lt_or_ge 1 W.heap.size with hlt | hge
 ·exact hlt
 rw[Array.getElem?_eq_none hge]at hA;simp at hA
end
section
open Go.ChangeShapes Go.WideShapes Go.ChangeAt Go.RowKit
def zrj:Value := .agg #[.int .i64 0,jf jg 0,jf jg 0,jf jg 0,jf jg 0,jf jg 0,jf jg 0,jf jg 0,jf jg 0,jf jg 0,jf jg 0,jf jg 0,jf jg 0,jf jg 0,jf jg 0,jf jg 0,jf jg 0,jf jg 0,jf jg 0,jf jg 0,jf jg 0,jf jg 0,jf jg 0,jf jg 0,jf jg 0,jf jg 0,jf jg 0,jf jg 0,jf jg 0,jf jg 0,jf jg 0,jf jg 0,jf jg 0,.string ⟨#[]⟩,.slice none 0 0,.int .i64 0,.string ⟨#[]⟩,jf jg 0,jf jg 0,jf jg 0,jf jg 0,jf jg 0,jf jg 0,jf jg 0,jf jg 0,jf jg 0,jf jg 0,jf jg 0,jf jg 0,jf jg 0,jf jg 0,jf jg 0,jf jg 0,jf jg 0,jf jg 0,jf jg 0,jf jg 0,jf jg 0,jf jg 0,jf jg 0,jf jg 0,jf jg 0,jf jg 0,jf jg 0,jf jg 0,jf jg 0,jf jg 0,jf jg 0,jf jg 0,.slice none 0 0]
def zri:Value := .agg #[jf jg 0,jf jg 0,jf jg 0,jf jg 0,jf jg 0,jf jg 0,jf jg 0,jf jg 0,jf jg 0,jf jg 0,jf jg 0,jf jg 0,jf jg 0,jf jg 0,jf jg 0,jf jg 0,jf jg 0,jf jg 0,jf jg 0,jf jg 0,jf jg 0,jf jg 0,jf jg 0,jf jg 0,jf jg 0,jf jg 0,jf jg 0,jf jg 0,jf jg 0,jf jg 0,jf jg 0,jf jg 0,jf jg 0,jf jg 0,jf jg 0,jf jg 0,jf jg 0,jf jg 0,jf jg 0,jf jg 0,jf jg 0,jf jg 0,jf jg 0,jf jg 0,jf jg 0,jf jg 0,jf jg 0,jf jg 0,jf jg 0,jf jg 0,jf jg 0,jf jg 0,jf jg 0,jf jg 0,jf jg 0,jf jg 0,jf jg 0,jf jg 0,jf jg 0,jf jg 0,jf jg 0,jf jg 0,jf jg 0,jf jg 0]
variable [OldK]
section
variable {H:Type} {enc:TypeId × Value→H} {w:World}
def zrk (pv:Value):Prop:=∀ n c,pv = .slice none n c→c=0
theorem zl8 {fuel:Nat}{cs:List Value}{x:DataW H × List MemPlace}(h:DataW.trod enc zl w 0 (fun _=>true) true fuel 24 cs=some x){pv:Value}(hp:cs=[pv]):zrk pv:=by
 rintro n c rfl;rcases open_ints Tryz.underlying24 Tryz.underlying5 zcs h with⟨hcs,hx⟩ | ⟨a,len,cap,zs,hcs,_,hl,hm,hz,hx,hcell,hwz⟩
 ·rw[hp]at hcs;simp at hcs;exact hcs.2
 rw[hp]at hcs;simp at hcs
theorem zl7 {fuel:Nat} {e:En} {pv sv:Value} {x:DataW H × List MemPlace} (he:e.ok) (h:DataW.trod enc zl w 0 (fun _=>true) true fuel 28 (e.cells pv sv)=some x):zrk pv:=by
 obtain⟨xs,n,rfl,hx,hl,hA,hf⟩:=DataW.trod_struct Tryz.underlying28 h;have f3:DataW.trod enc zl w 0 (fun _=>true) true n 24 (((e.cells pv sv).drop 34).take (Tryz.prog.cellsOf 24))=xs[3]?:=hf 3 _ rfl;rw[zen,List.getElem?_eq_getElem (by rw[hA];decide)]at f3;refine zl8 f3 ?_;have hd:(Lib.byteCells e.digest).length=32:=by simp[Lib.byteCells,he.1]
 have e1:∀ (a:Value) (D L:List Value),D.length=32→(([a]++(D++L)).drop 34).take 1=(L.drop 1).take 1:=by
  intro a D L h;simp[List.drop_append,h,List.drop_eq_nil_of_le]
 unfold En.cells;rw[e1 _ _ _ hd];rfl
theorem ziz (hK:w.heap.size≤OldK.k){base:Nat}{v:Value}{d:DataW H}{p:List MemPlace}(hval:Value.okWide zl w .any base 28 v)(h:DataW.Trod enc zl w 0 (fun _=>true) true 28 v d p):∃ (e:En) (pv sv:Value),(EnIn w e pv sv∧zrk pv)∧v = .agg (e.cells pv sv).toArray:=by
 obtain⟨cs,rfl,hsz⟩:=okWide_struct Tryz.underlying28 hval;obtain⟨fuel,hf⟩:=h;obtain⟨e,pv,sv,he,hc⟩:=zgx hK hf;have hA:cs.toList=e.cells pv sv:=by rw[← hc];simp[Value.cells]
 refine⟨e,pv,sv,⟨he,zl7 (enc:=enc) (w:=w) he.1 (by rw[← hc];exact hf)⟩,by rw[← hA]⟩
end
end
end Go.Proofs.YtffggpplnjibgaaGreatDoor
