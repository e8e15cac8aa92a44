/-
 What the row's list gives where only the tables of unicode/utf8 are laid.
-/
import Derived.Test.YtffggpplnjibgaaGreatDoorRows
import Derived.Test.YtffggpplnjibgaaGreatDoorKReader
import Derived.Lib.LaidU8
import Derived.ProofKit
import Derived.OpenShut
import Derived.Deep.DeepHandedRow
import Derived.Test.YtffggpplnjibgaaGreatDoorKUnhex
import Derived.Deep.MidRow
import Derived.Deep.WholeRow
import Derived.Test.YtffggpplnjibgaaGreatDoorKSpecEntry
import Derived.Laws.Runes
import Derived.StillTactics
import Derived.WalkMore
import Derived.Deep.LoopGhost
import Derived.StillTailTactics
open Go.Lib renaming hid→zi,byteCells→zj
open Go.Proofs.Tryz renaming prog→zl
open Nat renaming le_refl→ja
open Option.some renaming inj→je
open Go.Value renaming int→jf
open Go.IntKind renaming u8→jg
namespace Go.Proofs.YtffggpplnjibgaaGreatDoor
set_option linter.unusedVariables false
set_option linter.unusedSimpArgs false
set_option linter.unusedSectionVars false
set_option maxRecDepth 100000
set_option maxHeartbeats 1000000
section
open Go.RowKit
theorem Tryz.typ0b:(Tryz.prog.globals[0]?).map (·.type)=some 262:=by kernel_rfl
theorem Tryz.typ1b:(Tryz.prog.globals[1]?).map (·.type)=some 265:=by kernel_rfl
theorem Tryz.name0b:Tryz.prog.globalNamed "unicode/utf8.first" = some 0:=by kernel_rfl
theorem Tryz.name1b:Tryz.prog.globalNamed "unicode/utf8.acceptRanges" = some 1:=by kernel_rfl
theorem zmv:Tryz.prog.cellsOf 262=256:=by kernel_rfl
theorem ze0:Tryz.prog.cellsOf 5=1:=by kernel_rfl
theorem zhg:Tryz.prog.cellsOf 264=2:=by kernel_rfl
theorem zja {w:World} (h3:Lib.VarReads zl w "unicode/utf8.first" Lib.firstData) (h4:Lib.VarReads zl w "unicode/utf8.acceptRanges" Lib.acceptData) :
 Lib.Utf8Tabs 0 1 w:=by
 refine⟨fun c hc=>?_,fun i hi=>?_⟩
 ·obtain⟨g,t,cs,hE,p,hg,hD,hB,hd⟩:=h3;obtain rfl:=je (Tryz.name0b.symm.trans hg);obtain rfl:=je (Tryz.typ0b.symm.trans hD);have hC:=Lib.cells_of_tab Tryz.underlying262 Tryz.underlying5 ze0 zmv hd;rw[World.var?_cell hg hB c,← Array.getElem?_toList,hC];simp[Lib.firstTab,hc]
 obtain⟨g,t,cs,hE,p,hg,hD,hB,hd⟩:=h4;obtain rfl:=je (Tryz.name1b.symm.trans hg);obtain rfl:=je (Tryz.typ1b.symm.trans hD);obtain⟨fuel',d,q,hF,he⟩:=Lib.array_elem Tryz.underlying265 hd i hi;simp only[List.getElem?_map,List.getElem?_range hi,Option.map_some,Option.some.injEq]at hF;subst hF;rw[zhg]at he
 have hC:=Lib.ints_of_struct Tryz.underlying264 (fun j f hj=>by
  match j,hj with
  | 0,hj=>simp at hj;subst hj;exact⟨Tryz.underlying5,rfl,ze0⟩
  | 1,hj=>simp at hj;subst hj;exact⟨Tryz.underlying5,rfl,ze0⟩
  | j+2,hj=>simp at hj) (by rw[zhg];rfl) he
 have e0:=congrArg (·[0]?) hC;have e1:=congrArg (·[1]?) hC;simp only[List.getElem?_take,List.getElem?_drop]at e0 e1;constructor
 ·rw[World.var?_cell hg hB (2 * i),← Array.getElem?_toList];simpa[Nat.mul_comm] using e0
 rw[World.var?_cell hg hB (2 * i+1),← Array.getElem?_toList];simpa[Nat.mul_comm] using e1
theorem zxc {L:List (String × DataW Unit)} {W:World} (h:laidMet zl L W) (h1:("unicode/utf8.first", Rows.laid_unicode_utf8_first)∈L) (h2:("unicode/utf8.acceptRanges", Rows.laid_unicode_utf8_acceptRanges)∈L):@Gl ⟨W.heap.size⟩ W:=by
 letI:OldK:=⟨W.heap.size⟩
 have h':=h
 have r1:Lib.VarReads zl W "unicode/utf8.first" Lib.firstData:=Lib.laidMet.reads h' (by
  rw[show Lib.firstData=Rows.laid_unicode_utf8_first by kernel_rfl]
  exact h1)
 have r2:Lib.VarReads zl W "unicode/utf8.acceptRanges" Lib.acceptData:=Lib.laidMet.reads h' (by
  rw[show Lib.acceptData=Rows.laid_unicode_utf8_acceptRanges by kernel_rfl]
  exact h2)
 refine Gl.of ⟨?_,zja r1 r2⟩ (ja _);obtain⟨g,t,cs,fuel,p,hg,hty,hB,hd⟩:=r2;obtain rfl:=je (Tryz.name1b.symm.trans hg);unfold World.var? at hB;rw[Tryz.name1b]at hB;simp only[Option.bind_some]at hB;rcases Nat.lt_or_ge 1 W.heap.size with hlt | hge
 ·exact hlt
 rw[Array.getElem?_eq_none hge]at hB;simp at hB
end
section
open Go.RowKit
variable [OldK]
theorem zvp (s:Bs) (w:World) (hlen:s.length≤1000000) :
 Calls zl 123 #[.string ⟨s.toArray⟩] w fun e w'=>zs2 w.heap.size (zep s) e w'∧Fr NoB w w':=by
 have hc:=fun W=>zup hexes 4 (.inl rfl) rfl s W hlen
 unfold zep;obtain⟨X,hX⟩:∃ X:Bs,X=hexes:=⟨_,rfl⟩;have hh:=zr9 w;rw[← hX]at hc hh ⊢;obtain⟨R,hR⟩:∃ R,zec X 4 0 0 [] s=R:=⟨_,rfl⟩;rw[hR]at hc ⊢;have Hc:=zi hc;have Hh:=zi hh;clear hc hh hX hR;cases R with
 | none =>
   go_enter Tryz.func123,Tryz.ntmps123
   go_wp2_with fail
   refine Hh.out.mono ?_;rintro e w1 ⟨rfl,hB⟩;have hC:=zi hB;clear hB
   go_wp2_with fail
   refine(Hc.out _).mono ?_;rintro e w2 ⟨hp,hD⟩;obtain rfl:e=_:=hp
   go_wp2_with fail
   go_ret2;exact⟨rfl,hC.out.trans' hD⟩
 | some b =>
   go_enter Tryz.func123,Tryz.ntmps123
   go_wp2_with fail
   refine Hh.out.mono ?_;rintro e w1 ⟨rfl,hB⟩;have hC:=zi hB;clear hB
   go_wp2_with fail
   refine(Hc.out _).mono ?_;rintro e w2 ⟨⟨a,c,rfl,hE⟩,hD⟩
   go_wp2_with fail
   go_ret2;exact⟨⟨a,c,rfl,hE.kp (fun k o hk ho _=>⟨by have:=hC.out.size;omega,ho⟩)⟩,hC.out.trans' hD⟩
theorem zyc (ad:Addr)(n c:Nat)(w:World)(h:n≤c) :
 Calls zl 178 #[.slice (some ad) n c] w fun e w'=>e = .returned (.slice (some ad) n n)∧w=w':=by
 have h1:(n:Int)≤(c:Int):=by omega
 go_enter Tryz.func178,Tryz.ntmps178
 go_wp2_with fail
 go_ret;exact⟨rfl,rfl⟩
def zs0 (B:Nat) (r:Option Bs) (e:Ending) (w':World):Prop :=
 match r with
 | some b=>∃ a,e = .returned (.tuple #[.slice a b.length b.length,.nilIface])∧SB (fun k=>B≤k) b (.slice a b.length b.length) w'
 | none=>e = .returned (.tuple #[.slice none 0 0,.iface 52 (.int .i64 1)])
theorem zma (s:Bs) (w:World) (hlen:s.length≤1000000) :
 Calls zl 122 #[.func (.func 123) #[] #[],.string ⟨s.toArray⟩,.int .i64 32] w fun e w'=>zs0 w.heap.size (zkb s) e w'∧Fr NoB w w':=by
 have hc:=zvp s w hlen;unfold zkb;obtain⟨R,hR⟩:∃ R,zep s=R:=⟨_,rfl⟩;rw[hR]at hc ⊢;have Hc:=zi hc;clear hc hR;have hent:∀ hD w,(callFunc 123 hD).run zl w = .ok (.enter 123 hD) w:=fun hD w=>by simp[go_sem]
 cases R with
 | none =>
   go_enter Tryz.func122,Tryz.ntmps122
   go_wp2_with fail
   refine Hc.out.mono ?_;rintro e w2 ⟨hp,hC⟩;obtain rfl:e=_:=hp
   go_wp2_with fail
   go_ret2;exact⟨rfl,hC⟩
 | some b =>
   simp only;by_cases hB:b.length=32
   ·rw[if_pos hB];have hG:=Hc;clear Hc;go_enter Tryz.func122,Tryz.ntmps122
    go_wp2_with fail
    refine hG.out.mono ?_;rintro e w2 ⟨⟨a,c,rfl,hE⟩,hC⟩;obtain⟨g,o,c',e1,hI,-,-,-⟩:=hE.cellsAt (by intro h;rw[h]at hB;simp at hB);obtain⟨rfl,rfl⟩:a=some ⟨g,o,none⟩∧c=c':=by simpa using e1
    have hl:=hE;have Hsb:=zi hE;have hH:=zi hC;rw[hB]at hI;have hF:((b.length:Int) != 32)=false:=by rw[hB];rfl
    have Hcl:=zi (zyc ⟨g,o,none⟩ b.length c w2 (by omega));have H32:=zi hB;clear e1 hl hE hC hB
    go_wp2_with fail
    refine Hcl.out.mono ?_;rintro e w3 ⟨rfl,rfl⟩
    go_wp2_with fail
    go_ret2;refine⟨⟨_,rfl,?_⟩,hH.out⟩;obtain⟨a',cp,hv,hcp,hx⟩:=Hsb.out;simp only[Value.slice.injEq]at hv;obtain⟨rfl,-,-⟩:=hv;exact⟨_,_,rfl,ja _,hx⟩
   rw[if_neg hB];have hG:=Hc;clear Hc;go_enter Tryz.func122,Tryz.ntmps122
   go_wp2_with fail
   refine hG.out.mono ?_;rintro e w2 ⟨⟨a,c,rfl,hE⟩,hC⟩;have hH:=zi hC;have hF:((b.length:Int) != 32)=true:=by simp;omega
   have h32n:(b.length != 32)=true:=by simp;omega
   clear hE hC
   go_wp2_with fail
   go_ret2;exact⟨rfl,hH.out⟩
def zw3 (r:Option Bs) (e:Ending):Prop :=
 match r with
 | some b=>e = .returned (.tuple #[.agg (zj b).toArray,.nilIface])
 | none=>e = .returned (.tuple #[.agg #[jf jg 0,jf jg 0,jf jg 0,jf jg 0,jf jg 0,jf jg 0,jf jg 0,jf jg 0,jf jg 0,jf jg 0,jf jg 0,jf jg 0,jf jg 0,jf jg 0,jf jg 0,jf jg 0,jf jg 0,jf jg 0,jf jg 0,jf jg 0,jf jg 0,jf jg 0,jf jg 0,jf jg 0,jf jg 0,jf jg 0,jf jg 0,jf jg 0,jf jg 0,jf jg 0,jf jg 0,jf jg 0],.iface 52 (.int .i64 1)])
theorem j3:(Tryz.prog.info? 23).map (·.size)=some 32:=by kernel_rfl
theorem ji:Tryz.prog.underlying 23=some (.array 32 5):=by kernel_rfl
theorem j8 {w:World}{b:Nat}{cs:Array Value}{T:TypeId}{f:Nat × Nat}(h:w.heap[b]? = some (.cells cs T f)):w.rangeAt b 0 cs.toList:=by
 intro j v hv;rw[Array.getElem?_toList]at hv;simp[World.cell?,h,hv]
theorem qa {w:World} {b n:Nat} {cs:Array Value} {T:TypeId} (h:w.heap[b]? = some (.cells cs T (0,0))) (hn:n≤cs.size):w.there b 0 n:=by
 intro j hj;have hB:j<cs.size:=by omega
 have:cs[0+j]? = some cs[j]:=by rw[Nat.zero_add];exact Array.getElem?_eq_getElem hB
 have hc:w.cell? ⟨b,0+j,none⟩=some cs[j]:=by
  simp only[World.cell?,h];exact this
 exact⟨by rw[hc];rfl,by simp[World.frozen?,h]⟩
theorem jr (b:Nat):∀ (vs:List Value) (o:Nat) (w:World),Fr (fun k _=>k=b) w (w.setCells b o vs)
 | [],_,_=>Fr.refl
 | v :: r,o,w=>by
   rw[World.setCells];exact(Fr.refl.setCell ⟨b,o,none⟩ v (fun _ _=>rfl)).trans' (jr b r (o+1) _)
theorem zyl (s:Bs) (w:World) (hlen:s.length≤1000000) :
 Calls zl 60 #[.string ⟨s.toArray⟩] w fun e w'=>zw3 (zkb s) e∧Fr NoB w w':=by
 have hc:=fun W=>zma s W hlen
 have hl:=fun b h=>(zhv s b).1 h
 obtain⟨R,hR⟩:∃ R,zkb s=R:=⟨_,rfl⟩;rw[hR]at hc hl ⊢;have Hc:=zi hc;clear hc hR;cases R with
 | none =>
   clear hl;go_enter Tryz.func60,Tryz.ntmps60
   go_wp2_with fail
   obtain⟨w1,hE⟩:∃ w1,w.alloc (.cells #[jf jg 0,jf jg 0,jf jg 0,jf jg 0,jf jg 0,jf jg 0,jf jg 0,jf jg 0,jf jg 0,jf jg 0,jf jg 0,jf jg 0,jf jg 0,jf jg 0,jf jg 0,jf jg 0,jf jg 0,jf jg 0,jf jg 0,jf jg 0,jf jg 0,jf jg 0,jf jg 0,jf jg 0,jf jg 0,jf jg 0,jf jg 0,jf jg 0,jf jg 0,jf jg 0,jf jg 0,jf jg 0] 23)=w1:=⟨_,rfl⟩;have hA:=heap_alloc_new w (.cells #[jf jg 0,jf jg 0,jf jg 0,jf jg 0,jf jg 0,jf jg 0,jf jg 0,jf jg 0,jf jg 0,jf jg 0,jf jg 0,jf jg 0,jf jg 0,jf jg 0,jf jg 0,jf jg 0,jf jg 0,jf jg 0,jf jg 0,jf jg 0,jf jg 0,jf jg 0,jf jg 0,jf jg 0,jf jg 0,jf jg 0,jf jg 0,jf jg 0,jf jg 0,jf jg 0,jf jg 0,jf jg 0] 23);have hF:=(Fr.refl (M:=NoB)).alloc (w:=w) (.cells #[jf jg 0,jf jg 0,jf jg 0,jf jg 0,jf jg 0,jf jg 0,jf jg 0,jf jg 0,jf jg 0,jf jg 0,jf jg 0,jf jg 0,jf jg 0,jf jg 0,jf jg 0,jf jg 0,jf jg 0,jf jg 0,jf jg 0,jf jg 0,jf jg 0,jf jg 0,jf jg 0,jf jg 0,jf jg 0,jf jg 0,jf jg 0,jf jg 0,jf jg 0,jf jg 0,jf jg 0,jf jg 0] 23);rw[hE]at hA hF ⊢;clear hE;refine(Hc.out _).mono ?_;rintro e w2 ⟨hp,hC⟩;obtain rfl:e=_:=hp;have hD:=hC.block _ _ hA (fun h=>h);have HT:=zi (qa hD (n:=32) (by simp));have H1:=zi (show((#[jf jg 0,jf jg 0,jf jg 0,jf jg 0,jf jg 0,jf jg 0,jf jg 0,jf jg 0,jf jg 0,jf jg 0,jf jg 0,jf jg 0,jf jg 0,jf jg 0,jf jg 0,jf jg 0,jf jg 0,jf jg 0,jf jg 0,jf jg 0,jf jg 0,jf jg 0,jf jg 0,jf jg 0,jf jg 0,jf jg 0,jf jg 0,jf jg 0,jf jg 0,jf jg 0,jf jg 0,jf jg 0]:Array Value).all (·.oneCell'))=true by simp[Value.oneCell']);have HA2:=zi hD;have HF:=zi (hF.trans' hC);clear hA hF hC hD
   go_wp2_with(refine wpList_store_mid rfl 23 _ _ rfl w.heap.size 0 #[jf jg 0,jf jg 0,jf jg 0,jf jg 0,jf jg 0,jf jg 0,jf jg 0,jf jg 0,jf jg 0,jf jg 0,jf jg 0,jf jg 0,jf jg 0,jf jg 0,jf jg 0,jf jg 0,jf jg 0,jf jg 0,jf jg 0,jf jg 0,jf jg 0,jf jg 0,jf jg 0,jf jg 0,jf jg 0,jf jg 0,jf jg 0,jf jg 0,jf jg 0,jf jg 0,jf jg 0,jf jg 0] rfl rfl HT.out j3 H1.out ?_)
   have hH:=run_loadVar_mid (P:=zl) _ w.heap.size 0 23 (#[jf jg 0,jf jg 0,jf jg 0,jf jg 0,jf jg 0,jf jg 0,jf jg 0,jf jg 0,jf jg 0,jf jg 0,jf jg 0,jf jg 0,jf jg 0,jf jg 0,jf jg 0,jf jg 0,jf jg 0,jf jg 0,jf jg 0,jf jg 0,jf jg 0,jf jg 0,jf jg 0,jf jg 0,jf jg 0,jf jg 0,jf jg 0,jf jg 0,jf jg 0,jf jg 0,jf jg 0,jf jg 0]:Array Value).toList (.array 32 5) (World.rangeAt_setCells_same w2 w.heap.size 0 (#[jf jg 0,jf jg 0,jf jg 0,jf jg 0,jf jg 0,jf jg 0,jf jg 0,jf jg 0,jf jg 0,jf jg 0,jf jg 0,jf jg 0,jf jg 0,jf jg 0,jf jg 0,jf jg 0,jf jg 0,jf jg 0,jf jg 0,jf jg 0,jf jg 0,jf jg 0,jf jg 0,jf jg 0,jf jg 0,jf jg 0,jf jg 0,jf jg 0,jf jg 0,jf jg 0,jf jg 0,jf jg 0]:Array Value).toList HT.out) ji rfl j3;refine bodyPost_ret (v := .tuple #[.agg #[jf jg 0,jf jg 0,jf jg 0,jf jg 0,jf jg 0,jf jg 0,jf jg 0,jf jg 0,jf jg 0,jf jg 0,jf jg 0,jf jg 0,jf jg 0,jf jg 0,jf jg 0,jf jg 0,jf jg 0,jf jg 0,jf jg 0,jf jg 0,jf jg 0,jf jg 0,jf jg 0,jf jg 0,jf jg 0,jf jg 0,jf jg 0,jf jg 0,jf jg 0,jf jg 0,jf jg 0,jf jg 0],.iface 52 (.int .i64 1)]) ?_ rfl ⟨rfl,HF.out.trans (jr _ _ _ _) (fun k _ hm => .inr (by omega))⟩;rw[results_cell_tmp rfl];simp only[Array.toArray_toList]at hH;simp[asAddr,Result.andThen,hH]
 | some b =>
   obtain⟨-,hI⟩:=hl b rfl;clear hl;go_enter Tryz.func60,Tryz.ntmps60
   go_wp2_with fail
   obtain⟨w1,hE⟩:∃ w1,w.alloc (.cells #[jf jg 0,jf jg 0,jf jg 0,jf jg 0,jf jg 0,jf jg 0,jf jg 0,jf jg 0,jf jg 0,jf jg 0,jf jg 0,jf jg 0,jf jg 0,jf jg 0,jf jg 0,jf jg 0,jf jg 0,jf jg 0,jf jg 0,jf jg 0,jf jg 0,jf jg 0,jf jg 0,jf jg 0,jf jg 0,jf jg 0,jf jg 0,jf jg 0,jf jg 0,jf jg 0,jf jg 0,jf jg 0] 23)=w1:=⟨_,rfl⟩;have hA:=heap_alloc_new w (.cells #[jf jg 0,jf jg 0,jf jg 0,jf jg 0,jf jg 0,jf jg 0,jf jg 0,jf jg 0,jf jg 0,jf jg 0,jf jg 0,jf jg 0,jf jg 0,jf jg 0,jf jg 0,jf jg 0,jf jg 0,jf jg 0,jf jg 0,jf jg 0,jf jg 0,jf jg 0,jf jg 0,jf jg 0,jf jg 0,jf jg 0,jf jg 0,jf jg 0,jf jg 0,jf jg 0,jf jg 0,jf jg 0] 23);have hF:=(Fr.refl (M:=NoB)).alloc (w:=w) (.cells #[jf jg 0,jf jg 0,jf jg 0,jf jg 0,jf jg 0,jf jg 0,jf jg 0,jf jg 0,jf jg 0,jf jg 0,jf jg 0,jf jg 0,jf jg 0,jf jg 0,jf jg 0,jf jg 0,jf jg 0,jf jg 0,jf jg 0,jf jg 0,jf jg 0,jf jg 0,jf jg 0,jf jg 0,jf jg 0,jf jg 0,jf jg 0,jf jg 0,jf jg 0,jf jg 0,jf jg 0,jf jg 0] 23);rw[hE]at hA hF ⊢;clear hE;refine(Hc.out _).mono ?_;rintro e w2 ⟨⟨a,rfl,hJ⟩,hC⟩;have hD:=hC.block _ _ hA (fun h=>h);obtain⟨g,o,c',e1,-,-,-,hB⟩:=hJ.cellsAt (by intro h;rw[h]at hI;simp at hI);obtain⟨rfl,-⟩:a=some ⟨g,o,none⟩∧b.length=c':=by simpa using e1
   have hG:(zj b).length=32:=by simp[zj,hI]
   have hM:=zi (show w2.rangeAt g o (zj b) from fun j v hv=>by
    unfold zj at hv;rw[List.getElem?_map]at hv;cases hx:b[j]? with
    | none=>rw[hx]at hv;simp at hv
    | some x =>
      rw[hx]at hv;obtain rfl:v = .int .u8 x.toNat:=by simpa using hv.symm
      exact hB j x hx)
   have HT:=zi (qa hD (n:=(zj b).toArray.size) (by simp[hG]))
   have H1:=zi (show((zj b).toArray.all (·.oneCell'))=true from all_oneCell_toArray (fun v hv=>by
    unfold zj at hv;rw[List.mem_map]at hv;obtain⟨x,_,rfl⟩:=hv
    rfl))
   have hK:=zi (show(Tryz.prog.info? 23).map (·.size)=some (zj b).length by rw[j3,hG]);have hL:=zi (show(Tryz.prog.info? 23).map (·.size)=some (zj b).toArray.size by rw[j3];simp[hG]);have HF:=zi (hF.trans' hC);have Hbl:=zi hG;clear hA hF hC hD hJ hB e1 hG;have hat:∀ W,(Instr.arrayAt 23 (.slice (some ⟨g,o,none⟩) 32 32)).run zl W = .ok (.pointer (some ⟨g,o,none⟩)) W:=fun W=>run_arrayAt W 23 5 32 _ 32 32 ji (ja _)
   go_wp2_with(first | (refine wpList_load_mid rfl 23 _ rfl g o rfl (zj b) (.array 32 5) hM.out ji rfl hK.out ?_) | (refine wpList_store_mid rfl 23 _ _ rfl w.heap.size 0 (zj b).toArray rfl rfl HT.out hL.out H1.out ?_))
   have hH:=run_loadVar_mid (P:=zl) _ w.heap.size 0 23 (zj b) (.array 32 5) (World.rangeAt_setCells_same w2 w.heap.size 0 (zj b) (by simpa using HT.out)) ji rfl hK.out;refine bodyPost_ret (v := .tuple #[.agg (zj b).toArray,.nilIface]) ?_ rfl ⟨rfl,HF.out.trans (jr _ _ _ _) (fun k _ hm => .inr (by omega))⟩;rw[results_cell_tmp rfl];simp[asAddr,Result.andThen,hH]
end
section
open Go.RowKit
variable [OldK]
theorem zta (n:Nat) (W:World) (hn:n≤1114111) :
 Calls zl 152 #[.int .i32 n] W fun e w'=>e = .returned (.bool (!zf0 n))∧∃ q,w'=W.drewN q:=by
 have hB:(!zf0 n)=(decide ((n:Int)<33)||decide ((126:Int)<n)):=by
  unfold zf0;by_cases h1:n<33<;>by_cases h2:126<n
  all_goals (first | (have e1:((n:Int)<33):=by omega) | (have e1:¬ ((n:Int)<33):=by omega))
  all_goals (first | (have e2:((126:Int)<n):=by omega) | (have e2:¬ ((126:Int)<n):=by omega))
  all_goals simp[e1,e2]
  all_goals omega
 rw[hB];obtain⟨b1,hD⟩:∃ b1,decide ((n:Int)<33)=b1:=⟨_,rfl⟩;obtain⟨b2,hC⟩:∃ b2,decide ((126:Int)<n)=b2:=⟨_,rfl⟩;rw[hD,hC];clear hB;cases b1<;>cases b2
 all_goals
  go_enter Tryz.func152,Tryz.ntmps152
  go_wp2_with fail
  go_ret;exact⟨rfl,0,rfl⟩
theorem zn3 (s:Bs):s.any (fun c=>!zf0 c.toNat) = !s.all (fun c=>zf0 c.toNat):=by
 induction s with
 | nil=>rfl
 | cons c s ih=>simp[ih]
theorem zqv (s:Bs):(ByteArray.mk s.toArray).size=s.length:=rfl
theorem zql (s:Bs) (w:World) (hlen:s.length≤1000000000000) :
 Calls zl 103 #[.string ⟨s.toArray⟩] w fun e w'=>e = .returned (.bool (zci s))∧Fr NoB w w':=by
 have hH:∀ args w,(callFunc 152 args).run zl w = .ok (.enter 152 args) w:=enters_of Tryz.func152 (by kernel_rfl) rfl
 have hD:=fun W:World=>Tryz.strings_ContainsFunc_runes 152 #[] hH (fun n=>!zf0 n) ⟨s.toArray⟩ W (fun W' x hx _=>by
  have:=zta x W' hx
  exact this)
 have hG:=fun W:World=>Tryz.strings_HasPrefix ⟨s.toArray⟩ ⟨sReserved.toArray⟩ W
 rw[zr8 (fun n=>!zf0 n) (fun r hr=>by simp[zf0];omega) s,zn3 s]at hD;obtain⟨P,hP⟩:∃ P,zci s=P:=⟨_,rfl⟩;rw[hP];unfold zci at hP;obtain⟨b3,hI⟩:∃ b3,s.all (fun c=>zf0 c.toNat)=b3:=⟨_,rfl⟩;obtain⟨b4,hE⟩:∃ b4,Lib.hasPrefix s sReserved=b4:=⟨_,rfl⟩;rw[hI]at hD hP;rw[hE]at hP
 have hC:∀ W,Calls zl 154 #[.string ⟨s.toArray⟩,.string ⟨sReserved.toArray⟩] W fun e w'=>e = .returned (.bool b4)∧w'=W:=fun W=>by
  have:=hG W;rw[show(ByteArray.mk s.toArray).data.toList=s from by simp,show(ByteArray.mk sReserved.toArray).data.toList=sReserved from by simp,hE]at this;exact this
 have Hcf:=zi hD;have Hpf:=zi hC;have hK:=zqv s;clear hD hG hC hI hE hH;cases s with
 | nil =>
   obtain rfl:false=P:=hP;go_enter Tryz.func103,Tryz.ntmps103
   go_wp2_with fail
   go_ret;exact⟨rfl,Fr.refl⟩
 | cons c r =>
   have hL:(c :: r:Bs).isEmpty=false:=rfl;rw[List.isEmpty_cons]at hP;obtain⟨l,hl⟩:∃ l,(c :: r:Bs)=l:=⟨_,rfl⟩;rw[hl]at hP Hcf Hpf hK hL hlen ⊢;clear hl;by_cases hJ:l.length≤64
   ·have hF:decide ((l.length:Int)≤64)=true:=by simp;omega
    have hB:decide (l.length≤64)=true:=by simp;omega
    rw[hB]at hP;clear hJ;cases b3 with
    | false =>
      obtain rfl:false=P:=by simpa using hP
      clear hP;go_enter Tryz.func103,Tryz.ntmps103
      go_wp2_with fail
      refine(Hcf.out _).mono ?_;rintro e w1 ⟨rfl,hb⟩;have HF:=zi (Fr.ofBelow hb);clear hb
      go_wp2_with fail
      go_ret;exact⟨rfl,HF.out⟩
    | true =>
      obtain rfl:(!b4)=P:=by simpa using hP
      clear hP;go_enter Tryz.func103,Tryz.ntmps103
      go_wp2_with fail
      refine(Hcf.out _).mono ?_;rintro e w1 ⟨rfl,hb⟩;have HF:=zi (Fr.ofBelow hb);clear hb
      go_wp2_with fail
      refine(Hpf.out _).mono ?_;rintro e w2 ⟨rfl,rfl⟩
      go_wp2_with fail
      go_ret;exact⟨rfl,HF.out⟩
   have hF:decide ((l.length:Int)≤64)=false:=by simp;omega
   have hB:decide (l.length≤64)=false:=by simp;omega
   rw[hB]at hP;obtain rfl:false=P:=by simpa using hP
   clear hJ hP;go_enter Tryz.func103,Tryz.ntmps103
   go_wp2_with fail
   go_ret;exact⟨rfl,Fr.refl⟩
end
section
open Go.RowKit
variable [OldK]
def zo1 (g:Nat) (p:Nat→Bool):Prop :=
 ∀ (W:World) (x:Nat),x≤1114111→Calls zl g #[.int .i32 (x:Int)] W fun e w'=>e = .returned (.bool (p x))∧Below W.heap.size W w'
theorem zuc (g:Nat) (eg:∀ args w,(callFunc g args).run zl w = .ok (.enter g args) w) (p:Nat→Bool) (s:ByteArray) (w:World) (hp:zo1 g p) :
 Calls zl 247 #[.string s,.func (.func g) #[] #[],.bool true] w fun e w'=>e = .returned (.int .i64 (Lib.idxFunc p true s))∧Below w.heap.size w w':=by
 go_enter Tryz.func247,Tryz.ntmps247
 go_wp2_with fail
 go_loopg [] s.size (fun gf wx=>∃ i:Nat,wx.heap[w.heap.size]? = some (.stringIter s i)∧Below w.heap.size w wx∧Lib.idxFuncFrom p true s gf i=Lib.idxFunc p true s∧s.size≤i+gf)
 case atStart=>exact⟨0,World.iter_heap w s 0,(Below.refl _ w).alloc (ja _) _,rfl,by omega⟩
 case round =>
  obtain⟨i,hE,hB,hG,hf⟩:=hrel;by_cases hi:i<s.size
  ·obtain ⟨h,rfl⟩:∃ h,gk=h+1:=⟨gk - 1,by omega⟩;have hn:∀ ty,(Instr.next (.pointer (some ⟨w.heap.size,0,none⟩)) true ty).run zl wr=_:=fun ty=>Lib.run_next_any_at wr w.heap.size s i ty hE hi
   have hw:=Lib.width_pos s i;have hr:=Lib.rune_le s i;rw[Lib.idxFuncFrom,if_pos hi]at hG;obtain⟨R,hR⟩:∃ R,(Utf8.decode s i).1=R:=⟨_,rfl⟩;obtain⟨L,hL⟩:∃ L,(Utf8.decode s i).2=L:=⟨_,rfl⟩;rw[hR,hL]at hG hn;rw[hR]at hr;rw[hL]at hw;have hC:=Lib.iterAt_heap wr w.heap.size s i (i+L) hE;have hD:=Lib.below_iterAt hB (k:=w.heap.size) (ja _) s (i+L);obtain⟨W,hW⟩:∃ W,wr.iterAt w.heap.size s (i+L)=W:=⟨_,rfl⟩;rw[hW]at hn hC hD;have hc:=hp W R hr;clear hp hE hB hR hL hr hW;cases hx:p R with
   | true =>
     rw[hx]at hc;rw[hx,if_pos rfl]at hG
     go_wp2_with(go_at_fn g;refine hc.mono ?_;rintro e W' ⟨rfl,hF⟩)
     go_ret;exact⟨by rw[← hG]<;>rfl,hD.trans (hF.mono hD.size)⟩
   | false =>
     rw[hx]at hc;rw[hx,if_neg (by simp)]at hG
     go_wp2_with(go_at_fn g;refine hc.mono ?_;rintro e W' ⟨rfl,hF⟩)
     go_roundg h
     case measure=>omega
     case rel=>exact⟨i+L,by rw[hF.block _ (ju hC)];exact hC,hD.trans (hF.mono hD.size),hG,by omega⟩
  have hn:∀ ty,(Instr.next (.pointer (some ⟨w.heap.size,0,none⟩)) true ty).run zl wr=_:=fun ty=>Lib.run_next_end_at wr w.heap.size s i ty hE hi
  rw[Lib.idxFuncFrom_end p true s gk i hi]at hG
  go_wp2_with fail
  go_ret;exact⟨by rw[← hG]<;>rfl,hB⟩
theorem znx (g:Nat) (eg:∀ args w,(callFunc g args).run zl w = .ok (.enter g args) w) (p:Nat→Bool) (s:ByteArray) (w:World) (hp:zo1 g p) :
 Calls zl 153 #[.string s,.func (.func g) #[] #[]] w fun e w'=>e = .returned (.bool (decide (0≤Lib.idxFunc p true s)))∧Below w.heap.size w w':=by
 have Hc:=zi (zuc g eg p s w hp)
 have hi:Calls zl 206 #[.string s,.func (.func g) #[] #[]] w fun e w'=>e = .returned (.int .i64 (Lib.idxFunc p true s))∧Below w.heap.size w w':=by
  go_enter Tryz.func206,Tryz.ntmps206
  go_wp2_with fail
  refine Hc.out.mono ?_;rintro e W' ⟨rfl,hB⟩
  go_wp2_with fail
  go_ret;exact⟨rfl,hB⟩
 have Hi:=zi hi;clear hi Hc;go_enter Tryz.func153,Tryz.ntmps153
 go_wp2_with fail
 refine Hi.out.mono ?_;rintro e W' ⟨rfl,hB⟩
 go_wp2_with fail
 go_ret;exact⟨rfl,hB⟩
end
section
open Go.RowKit
variable [OldK]
theorem zsj (n:Nat) (h1:128≤n) (h2:n≤1114111) (hv:Lib.validRune (n:Int)=true) :
 (∃ a b:UInt8,Utf8.encode (n:Int)=⟨#[a,b]⟩∧128≤b.toNat)∨(∃ a b c:UInt8,Utf8.encode (n:Int)=⟨#[a,b,c]⟩∧128≤c.toNat)∨(∃ a b c d:UInt8,Utf8.encode (n:Int)=⟨#[a,b,c,d]⟩∧128≤d.toNat):=by
 have hx:Utf8.valid (n:Int)=true:=by
  unfold Lib.validRune at hv;unfold Utf8.valid;simp only[Bool.or_eq_true,Bool.and_eq_true,decide_eq_true_eq]at hv ⊢;omega
 unfold Utf8.encode;simp only[hx,if_true,Int.toNat_natCast,if_neg (show ¬ n<128 from by omega)];split
 ·exact .inl ⟨_,_,rfl,by simp;omega⟩
 split
 ·exact .inr (.inl ⟨_,_,_,rfl,by simp;omega⟩)
 exact .inr (.inr ⟨_,_,_,_,rfl,by simp;omega⟩)
theorem ztp (n:Nat)(w:World)(h1:128≤n)(h2:n≤1114111)(h3:n≠65533)(hv:Lib.validRune (n:Int)=false) :
 Calls zl 240 #[.string ⟨#[46,45,95,64]⟩,.int .i32 n] w fun e w'=>e = .returned (.int .i64 (-1))∧Below w.heap.size w w':=by
 have e1:decide ((0:Int)≤n)=true:=decide_eq_true (by omega);have e2:decide ((n:Int)<128)=false:=by simp;omega
 have e3:((n:Int)==65533)=false:=by simp;omega
 have hc:=fun W=>Tryz.utf8_ValidRune (n:Int) W
 rw[hv]at hc;have Hc:=zi hc;clear hc h1 h2 h3 hv;go_enter Tryz.func240,Tryz.ntmps240
 go_wp2_with fail
 refine(Hc.out _).mono ?_;rintro e w2 ⟨rfl,rfl⟩
 go_wp2_with fail
 go_ret;exact⟨rfl,Below.refl _ _⟩
theorem zkp (x:UInt8) (hx:128≤x.toNat):∀ l:Bs,(∀ y∈l,y.toNat<128)→Lib.indexByte l x = -1
 | [],_=>rfl
 | y :: l,h=>by
   have h1:=zkp x hx l (fun z hz=>h z (List.mem_cons_of_mem _ hz));have h2:=h y List.mem_cons_self
   have hne:(y==x)=false:=by
    rw[beq_eq_false_iff_ne];rintro rfl;omega
   unfold Lib.indexByte;rw[hne,h1];rfl
theorem zi5 (x:UInt8):((x.toNat:Int)).toNat.toUInt8=x:=by
 rw[Int.toNat_natCast];simp
theorem zwz (i:Nat)(hi:i<4):Utf8.decode ⟨#[46,45,95,64]⟩ i=(([46,45,95,64]:List Nat).getD i 0,1):=by
 rcases(by omega:i=0∨i=1∨i=2∨i=3) with rfl | rfl | rfl | rfl<;>rfl
theorem zto (w:World) :
 Calls zl 240 #[.string ⟨#[46,45,95,64]⟩,.int .i32 65533] w fun e w'=>e = .returned (.int .i64 (-1))∧Below w.heap.size w w':=by
 obtain⟨s,hs⟩:∃ s:ByteArray,s=⟨#[46,45,95,64]⟩:=⟨_,rfl⟩;have h4:s.size=4:=by rw[hs];rfl
 have hd:∀ i,i<4→Utf8.decode s i=(([46,45,95,64]:List Nat).getD i 0,1):=by rw[hs];exact zwz
 rw[← hs];clear hs;go_enter Tryz.func240,Tryz.ntmps240
 go_wp2_with fail
 go_loopg [] 4 (fun gf wx=>∃ i:Nat,wx.heap[w.heap.size]? = some (.stringIter s i)∧Below w.heap.size w wx∧4≤i+gf)
 case atStart=>exact⟨0,World.iter_heap w s 0,(Below.refl _ w).alloc (ja _) _,by omega⟩
 case round =>
  obtain⟨i,hD,hB,hf⟩:=hrel;by_cases hi:i<4
  ·obtain ⟨h,rfl⟩:∃ h,gk=h+1:=⟨gk - 1,by omega⟩;have hn:∀ ty,(Instr.next (.pointer (some ⟨w.heap.size,0,none⟩)) true ty).run zl wr=_:=fun ty=>Lib.run_next_any_at wr w.heap.size s i ty hD (by omega)
   rw[hd i hi]at hn;obtain⟨R,hR⟩:∃ R,([46,45,95,64]:List Nat).getD i 0=R:=⟨_,rfl⟩
   have hne:((R:Int)==65533)=false:=by
    have:R<128:=by
     rw[← hR];rcases(by omega:i=0∨i=1∨i=2∨i=3) with rfl | rfl | rfl | rfl<;>decide
    simp;omega
   rw[hR]at hn;have hC:=Lib.iterAt_heap wr w.heap.size s i (i+1) hD;have hE:=Lib.below_iterAt hB (k:=w.heap.size) (ja _) s (i+1);obtain⟨W,hW⟩:∃ W,wr.iterAt w.heap.size s (i+1)=W:=⟨_,rfl⟩;rw[hW]at hC hE;simp only[hW]at hn;clear hD hB hR hW hd h4 hi
   go_wp2_with fail
   go_roundg h
   case measure=>omega
   case rel=>exact⟨i+1,hC,hE,by omega⟩
  have hn:∀ ty,(Instr.next (.pointer (some ⟨w.heap.size,0,none⟩)) true ty).run zl wr=_:=fun ty=>Lib.run_next_end_at wr w.heap.size s i ty hD (by omega)
  clear hd h4 hi
  go_wp2_with fail
  go_ret;exact⟨rfl,hB⟩
theorem zpk (n:Nat) (a b:UInt8) (w:World) (h1:128≤n) (h2:n≤1114111) (h3:n≠65533) (hv:Lib.validRune (n:Int)=true) (hE:Utf8.encode (n:Int)=⟨#[a,b]⟩) (hl:128≤b.toNat) :
 Calls zl 240 #[.string ⟨#[46,45,95,64]⟩,.int .i32 n] w fun e w'=>e = .returned (.int .i64 (-1))∧Below w.heap.size w w':=by
 have e1:decide ((0:Int)≤n)=true:=decide_eq_true (by omega);have e2:decide ((n:Int)<128)=false:=by simp;omega
 have e3:((n:Int)==65533)=false:=by simp;omega
 have hc:=fun W=>Tryz.utf8_ValidRune (n:Int) W
 rw[hv]at hc;have Hc:=zi hc
 have hcv:∀ W,(convert 21 9 (.int .i32 (n:Int))).run zl W = .ok (.string ⟨#[a,b]⟩) W:=fun W=>by
  rw[← hE];exact run_convert_int_string W _ _ .i32 n (by kernel_rfl) (by kernel_rfl)
 clear hc h1 h2 h3 hv hE;go_enter Tryz.func240,Tryz.ntmps240
 go_wp2_with fail
 refine(Hc.out _).mono ?_;rintro e w2 ⟨rfl,rfl⟩
 go_wp2_with fail
 go_step3
 go_wp2_with fail
 go_loopg [9] 1 (fun gf vi wx=>vi = .int .i64 1∧wx=w2)
 case atStart=>exact⟨rfl,rfl⟩
 case round =>
  obtain⟨rfl,rfl⟩:=hrel;have hH:(((45:Nat):Int) != b.toNat)=true:=by simp;omega
  have hC:((45:Int) != b.toNat)=true:=by simp;omega
  go_wp2_with fail
  go_step3
  go_wp2_with fail
  go_still (by kernel_rfl)
  have hV:((((ByteArray.mk #[46,45,95,64])[1]'(by decide)).toNat:Int) != ((ByteArray.mk #[a,b])[1]'(show 1<2 by decide)).toNat)=true:=hC;have hB:Below wr.heap.size wr wr.drew:=(Below.refl _ _).drew;generalize hW:({ heap:=wr.heap,tape:=wr.tape,drawn:=wr.drawn+1,os:=wr.os,output:=wr.output }:World)=W1;have hD:wr.drew=W1:=hW;rw[hD]at hB;rw[hV];clear hW hD hH hC;have hG:IntKind.i64.wrap 2=2:=by decide
  go_wp2_with fail
  go_still_tail 7,(by kernel_rfl)
  change wpList _ _ _ _ _ W1.drew;have hF:=hB.drew;obtain⟨W2,hW⟩:∃ W2,W1.drew=W2:=⟨_,rfl⟩;rw[hW]at hF ⊢
  have hx:∀ W,Calls zl 194 #[.string ((ByteArray.mk #[46,45,95,64]).extract 2 4),.int .u8 (((ByteArray.mk #[a,b])[1]'(show 1<2 by decide)).toNat:Int)] W fun e w'=>e = .returned (.int .i64 (-1))∧w'=W:=fun W=>by
   have h:=Tryz.strings_IndexByte ((ByteArray.mk #[46,45,95,64]).extract 2 4) (((ByteArray.mk #[a,b])[1]'(show 1<2 by decide)).toNat:Int) W;have hi:Lib.indexByte ((ByteArray.mk #[46,45,95,64]).extract 2 4).data.toList ((ByteArray.mk #[a,b])[1]'(show 1<2 by decide)) = -1:=zkp b hl _ (by decide);rw[zi5,hi]at h;exact h
  clear hW hB hG
  go_wp2_with fail
  refine(hx _).mono ?_;rintro e W3 ⟨rfl,rfl⟩;clear hx hV
  go_wp2_with fail
  rw[Exit.noGoto_ret];go_simp;show bodyPost _ _ _ Exit.ret _ _;go_ret;exact⟨rfl,hF⟩
theorem zpj (n:Nat) (a b c:UInt8) (w:World) (h1:128≤n) (h2:n≤1114111) (h3:n≠65533) (hv:Lib.validRune (n:Int)=true) (hE:Utf8.encode (n:Int)=⟨#[a,b,c]⟩) (hl:128≤c.toNat) :
 Calls zl 240 #[.string ⟨#[46,45,95,64]⟩,.int .i32 n] w fun e w'=>e = .returned (.int .i64 (-1))∧Below w.heap.size w w':=by
 have e1:decide ((0:Int)≤n)=true:=decide_eq_true (by omega);have e2:decide ((n:Int)<128)=false:=by simp;omega
 have e3:((n:Int)==65533)=false:=by simp;omega
 have hc:=fun W=>Tryz.utf8_ValidRune (n:Int) W
 rw[hv]at hc;have Hc:=zi hc
 have hcv:∀ W,(convert 21 9 (.int .i32 (n:Int))).run zl W = .ok (.string ⟨#[a,b,c]⟩) W:=fun W=>by
  rw[← hE];exact run_convert_int_string W _ _ .i32 n (by kernel_rfl) (by kernel_rfl)
 clear hc h1 h2 h3 hv hE;go_enter Tryz.func240,Tryz.ntmps240
 go_wp2_with fail
 refine(Hc.out _).mono ?_;rintro e w2 ⟨rfl,rfl⟩
 go_wp2_with fail
 go_step3
 go_wp2_with fail
 go_loopg [9] 1 (fun gf vi wx=>vi = .int .i64 2∧wx=w2)
 case atStart=>exact⟨rfl,rfl⟩
 case round =>
  obtain⟨rfl,rfl⟩:=hrel;have hH:(((95:Nat):Int) != c.toNat)=true:=by simp;omega
  have hC:((95:Int) != c.toNat)=true:=by simp;omega
  go_wp2_with fail
  go_step3
  go_wp2_with fail
  go_still (by kernel_rfl)
  have hV:((((ByteArray.mk #[46,45,95,64])[2]'(by decide)).toNat:Int) != ((ByteArray.mk #[a,b,c])[2]'(show 2<3 by decide)).toNat)=true:=hC;have hB:Below wr.heap.size wr wr.drew:=(Below.refl _ _).drew;generalize hW:({ heap:=wr.heap,tape:=wr.tape,drawn:=wr.drawn+1,os:=wr.os,output:=wr.output }:World)=W1;have hD:wr.drew=W1:=hW;rw[hD]at hB;rw[hV];clear hW hD hH hC;have hG:IntKind.i64.wrap 3=3:=by decide
  go_wp2_with fail
  go_still_tail 7,(by kernel_rfl)
  change wpList _ _ _ _ _ W1.drew;have hF:=hB.drew;obtain⟨W2,hW⟩:∃ W2,W1.drew=W2:=⟨_,rfl⟩;rw[hW]at hF ⊢
  have hx:∀ W,Calls zl 194 #[.string ((ByteArray.mk #[46,45,95,64]).extract 3 4),.int .u8 (((ByteArray.mk #[a,b,c])[2]'(show 2<3 by decide)).toNat:Int)] W fun e w'=>e = .returned (.int .i64 (-1))∧w'=W:=fun W=>by
   have h:=Tryz.strings_IndexByte ((ByteArray.mk #[46,45,95,64]).extract 3 4) (((ByteArray.mk #[a,b,c])[2]'(show 2<3 by decide)).toNat:Int) W;have hi:Lib.indexByte ((ByteArray.mk #[46,45,95,64]).extract 3 4).data.toList ((ByteArray.mk #[a,b,c])[2]'(show 2<3 by decide)) = -1:=zkp c hl _ (by decide);rw[zi5,hi]at h;exact h
  clear hW hB hG
  go_wp2_with fail
  refine(hx _).mono ?_;rintro e W3 ⟨rfl,rfl⟩;clear hx hV
  go_wp2_with fail
  rw[Exit.noGoto_ret];go_simp;show bodyPost _ _ _ Exit.ret _ _;go_ret;exact⟨rfl,hF⟩
theorem zpi (n:Nat) (a b c d:UInt8) (w:World) (h1:128≤n) (h2:n≤1114111) (h3:n≠65533) (hv:Lib.validRune (n:Int)=true) (hE:Utf8.encode (n:Int)=⟨#[a,b,c,d]⟩) (hl:128≤d.toNat) :
 Calls zl 240 #[.string ⟨#[46,45,95,64]⟩,.int .i32 n] w fun e w'=>e = .returned (.int .i64 (-1))∧Below w.heap.size w w':=by
 have e1:decide ((0:Int)≤n)=true:=decide_eq_true (by omega);have e2:decide ((n:Int)<128)=false:=by simp;omega
 have e3:((n:Int)==65533)=false:=by simp;omega
 have hc:=fun W=>Tryz.utf8_ValidRune (n:Int) W
 rw[hv]at hc;have Hc:=zi hc
 have hcv:∀ W,(convert 21 9 (.int .i32 (n:Int))).run zl W = .ok (.string ⟨#[a,b,c,d]⟩) W:=fun W=>by
  rw[← hE];exact run_convert_int_string W _ _ .i32 n (by kernel_rfl) (by kernel_rfl)
 clear hc h1 h2 h3 hv hE;go_enter Tryz.func240,Tryz.ntmps240
 go_wp2_with fail
 refine(Hc.out _).mono ?_;rintro e w2 ⟨rfl,rfl⟩
 go_wp2_with fail
 go_step3
 go_wp2_with fail
 go_loopg [9] 1 (fun gf vi wx=>vi = .int .i64 3∧wx=w2)
 case atStart=>exact⟨rfl,rfl⟩
 case round =>
  obtain⟨rfl,rfl⟩:=hrel;have hH:(((64:Nat):Int) != d.toNat)=true:=by simp;omega
  have hC:((64:Int) != d.toNat)=true:=by simp;omega
  go_wp2_with fail
  go_step3
  go_wp2_with fail
  go_still (by kernel_rfl)
  have hV:((((ByteArray.mk #[46,45,95,64])[3]'(by decide)).toNat:Int) != ((ByteArray.mk #[a,b,c,d])[3]'(show 3<4 by decide)).toNat)=true:=hC;have hB:Below wr.heap.size wr wr.drew:=(Below.refl _ _).drew;generalize hW:({ heap:=wr.heap,tape:=wr.tape,drawn:=wr.drawn+1,os:=wr.os,output:=wr.output }:World)=W1;have hD:wr.drew=W1:=hW;rw[hD]at hB;rw[hV];clear hW hD hH hC;have hG:IntKind.i64.wrap 4=4:=by decide
  go_wp2_with fail
  go_still_tail 7,(by kernel_rfl)
  change wpList _ _ _ _ _ W1.drew;have hF:=hB.drew;obtain⟨W2,hW⟩:∃ W2,W1.drew=W2:=⟨_,rfl⟩;rw[hW]at hF ⊢
  have hx:∀ W,Calls zl 194 #[.string ((ByteArray.mk #[46,45,95,64]).extract 4 4),.int .u8 (((ByteArray.mk #[a,b,c,d])[3]'(show 3<4 by decide)).toNat:Int)] W fun e w'=>e = .returned (.int .i64 (-1))∧w'=W:=fun W=>by
   have h:=Tryz.strings_IndexByte ((ByteArray.mk #[46,45,95,64]).extract 4 4) (((ByteArray.mk #[a,b,c,d])[3]'(show 3<4 by decide)).toNat:Int) W;have hi:Lib.indexByte ((ByteArray.mk #[46,45,95,64]).extract 4 4).data.toList ((ByteArray.mk #[a,b,c,d])[3]'(show 3<4 by decide)) = -1:=zkp d hl _ (by decide);rw[zi5,hi]at h;exact h
  clear hW hB hG
  go_wp2_with fail
  refine(hx _).mono ?_;rintro e W3 ⟨rfl,rfl⟩;clear hx hV
  go_wp2_with fail
  rw[Exit.noGoto_ret];go_simp;show bodyPost _ _ _ Exit.ret _ _;go_ret;exact⟨rfl,hF⟩
theorem zxh (n:Nat) (w:World) (h1:128≤n) (h2:n≤1114111) :
 Calls zl 240 #[.string ⟨#[46,45,95,64]⟩,.int .i32 n] w fun e w'=>e = .returned (.int .i64 (-1))∧Below w.heap.size w w':=by
 by_cases h3:n=65533
 ·subst h3;exact zto w
 cases hv:Lib.validRune (n:Int) with
 | false=>exact ztp n w h1 h2 h3 hv
 | true =>
   rcases zsj n h1 h2 hv with⟨a,b,hE,hl⟩ | ⟨a,b,c,hE,hl⟩ | ⟨a,b,c,d,hE,hl⟩
   ·exact zpk n a b w h1 h2 h3 hv hE hl
   ·exact zpj n a b c w h1 h2 h3 hv hE hl
   exact zpi n a b c d w h1 h2 h3 hv hE hl
theorem zw0 (n:Nat)(w:World)(h1:128≤n)(h2:n≤1114111) :
 Calls zl 197 #[.string ⟨#[46,45,95,64]⟩,.int .i32 n] w fun e w'=>e = .returned (.bool false)∧Below w.heap.size w w':=by
 have Hc:=zi (zxh n w h1 h2);clear h1 h2;go_enter Tryz.func197,Tryz.ntmps197
 go_wp2_with fail
 refine Hc.out.mono ?_;rintro e W' ⟨rfl,hB⟩
 go_wp2_with fail
 go_ret;exact⟨rfl,hB⟩
end
end Go.Proofs.YtffggpplnjibgaaGreatDoor
