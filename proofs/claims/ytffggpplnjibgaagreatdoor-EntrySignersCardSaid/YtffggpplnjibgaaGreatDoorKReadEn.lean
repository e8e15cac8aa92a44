/-
 From an array of bytes that can be read as data to bytes;a world in which the tables lie;what a walk keeps.
-/
import Derived.Test.YtffggpplnjibgaaGreatDoorKConcat
import Derived.Test.YtffggpplnjibgaaGreatDoorRows
import Derived.Lib.LaidU8
import Derived.ProofKit
import Derived.OpenShut
import Derived.Deep.DeepHandedRow
import Derived.Test.YtffggpplnjibgaaGreatDoorKSpecBind
import Derived.Test.YtffggpplnjibgaaGreatDoorKGet
import Derived.Test.YtffggpplnjibgaaGreatDoorKReadV
import Derived.Test.YtffggpplnjibgaaGreatDoorKB64
import Derived.Test.YtffggpplnjibgaaGreatDoorKSubjects
open Go.Proofs.Tryz renaming prog→ze
open List renaming length_drop→zr
open Go.Value renaming int→zy
open Go.IntKind renaming u8→z6
namespace Go.Proofs.YtffggpplnjibgaaGreatDoor
set_option linter.unusedVariables false
set_option linter.unusedSimpArgs false
set_option linter.unusedSectionVars false
set_option maxRecDepth 100000
section
open Go.ChangeShapes Go.WideShapes Go.ChangeAt Go.RowKit
section
variable {H:Type} {enc:TypeId × Value→H}
theorem zln:Tryz.prog.cellsOf 5=1:=by kernel_rfl
theorem zjx:Tryz.prog.cellsOf 25=32:=by kernel_rfl
theorem zh5:Tryz.prog.cellsOf 30=64:=by kernel_rfl
theorem zef {W:World} {base:Nat} {sp:Nat→Bool} {held:Bool} {T n fuel:Nat} (hT:Tryz.prog.underlying T=some (.array n 5)) {cs:List Value} {x:DataW H × List MemPlace} (hl:cs.length=n)
 (h:DataW.trod enc ze W base sp held fuel T cs=some x):∃ l:Bs,l.length=n∧cs=Lib.byteCells l:=by
 obtain⟨xs,m,rfl,rfl,-,hxl,hx⟩:=DataW.trod_array hT h
 have hc:∀ i,i<n→∃ a:Int,cs[i]? = some (.int .u8 a)∧0≤a∧a≤255:=fun i hi=>by
  have h1:=hx i hi;rw[zln,Nat.mul_one,List.getElem?_eq_getElem (by omega)]at h1;obtain⟨a,ea,-,wa⟩:=DataW.trod_int Tryz.underlying5 h1;have h0:=congrArg (·[0]?) ea;simp only[List.getElem?_take,List.getElem?_drop,List.getElem?_cons_zero,Nat.add_zero,Nat.zero_lt_one,if_true]at h0;exact⟨a,h0,bounds_u8 wa⟩
 refine⟨cs.map (fun c=>match c with | .int _ z=>UInt8.ofNat z.toNat | _=>0),by simpa using hl,?_⟩;apply List.ext_getElem?;intro i;unfold Lib.byteCells;rw[List.getElem?_map,List.getElem?_map];rcases Nat.lt_or_ge i n with hi | hi
 ·obtain ⟨a,ha,h0,h1⟩:=hc i hi
  have e:((UInt8.ofNat a.toNat).toNat:Int)=a:=by
   have h2:(UInt8.ofNat a.toNat).toNat=a.toNat % 256:=by simp
   omega
  rw[ha,Option.map_some,Option.map_some];show some (Value.int .u8 a)=some (Value.int .u8 ((UInt8.ofNat a.toNat).toNat:Int));rw[e]
 rw[List.getElem?_eq_none (by omega)];rfl
end
end
section
open Go.ChangeShapes Go.WideShapes Go.ChangeAt Go.RowKit
variable [OldK]
def Old:Nat→Prop:=fun k=>k<OldK.k
def EnIn (w:World) (e:En) (pv sv:Value):Prop:=e.ok∧SB Old e.payload pv w∧GS Old e.sigs sv w
theorem EnIn.fr {M:Nat→Obj→Prop}{w w':World}{e:En}{pv sv:Value}(h:EnIn w e pv sv)(hF:Fr M w w')(hM:∀ k o,k<OldK.k→¬ M k o):EnIn w' e pv sv :=
 ⟨h.1,h.2.1.fr hF (fun b o hs _=>hM b o hs),h.2.2.fr hF hM⟩
theorem zio {α:Type}(l:List α)(a n:Nat):l.drop a=(l.drop a).take n++l.drop (a+n):=by
 rw[← List.drop_drop,List.take_append_drop]
section
variable {H:Type} {enc:TypeId × Value→H} {sp:Nat→Bool} {held:Bool} {w:World} {fuel:Nat}
theorem zlo:Tryz.prog.cellsOf 40=97:=by kernel_rfl
theorem zmc {cs:List Value} {x:DataW H × List MemPlace} (h:DataW.trod enc ze w 0 (fun _=>true) true fuel 40 cs=some x):∃ s:Sg,s.ok∧cs=s.cells.toList:=by
 obtain⟨xs,n,rfl,hx,hl,hE,hf⟩:=DataW.trod_struct Tryz.underlying40 h;rw[zlo]at hl;have hA:∀ i,i<3→∃ y,xs[i]? = some y:=fun i hi=>⟨_,List.getElem?_eq_getElem (by rw[hE];exact hi)⟩
 obtain⟨y0,hD⟩:=hA 0 (by decide);obtain⟨y1,hC⟩:=hA 1 (by decide);obtain⟨y2,hB⟩:=hA 2 (by decide);have f0:DataW.trod enc ze w 0 (fun _=>true) true n 9 ((cs.drop 0).take (Tryz.prog.cellsOf 9))=xs[0]?:=hf 0 _ rfl;have f1:DataW.trod enc ze w 0 (fun _=>true) true n 25 ((cs.drop 1).take (Tryz.prog.cellsOf 25))=xs[1]?:=hf 1 _ rfl;have f2:DataW.trod enc ze w 0 (fun _=>true) true n 30 ((cs.drop 33).take (Tryz.prog.cellsOf 30))=xs[2]?:=hf 2 _ rfl;rw[hD,zm5]at f0;rw[hC,zjx]at f1;rw[hB,zh5]at f2;obtain⟨s,e0,_,_⟩:=DataW.trod_string Tryz.underlying9 f0;obtain⟨k,hk,e1⟩:=zef qd (by rw[List.length_take,zr];omega) f1;obtain⟨g,hg,e2⟩:=zef zbp (by rw[List.length_take,zr];omega) f2;have hs:s=⟨s.data.toList.toArray⟩:=by simp
 refine⟨⟨s.data.toList,k,g⟩,⟨hk,hg⟩,?_⟩
 have h1:cs=(cs.drop 0).take 1++((cs.drop 1).take 32++(cs.drop 33).take 64):=by
  have e3:(cs.drop 33).take 64=cs.drop 33:=List.take_of_length_le (by rw[zr];omega);rw[e3,← zio cs 1 32,← zio cs 0 1];rfl
 rw[h1,e0,e1,e2,hs];unfold Sg.cells;simp
end
end
section
open Go.RowKit Go.Shelf
variable [OldK]
theorem ztp {α:Type} {n:Nat} (f:α→List Value) (l:List α) (hk:∀ c∈l,(f c).length=n):∀ i c,l[i]? = some c→∀ j v,(f c)[j]? = some v→(l.flatMap f)[i * n+j]? = some v:=by
 induction l with
 | nil=>intro i c hi;cases hi
 | cons x l ih =>
   intro i c hi j v hv;have hx:=hk x (by simp);rw[List.flatMap_cons];cases i with
   | zero =>
     obtain rfl:x=c:=by simpa using hi
     rw[Nat.zero_mul,Nat.zero_add,List.getElem?_append_left (List.getElem?_eq_some_iff.1 hv).1];exact hv
   | succ i =>
     have hm:(i+1) * n=i * n+n:=Nat.succ_mul i n;rw[List.getElem?_append_right (by omega),hx,show(i+1) * n+j - n=i * n+j by omega];exact ih (fun c hc=>hk c (by simp[hc])) i c (by simpa using hi) j v hv
theorem zmi {α:Type}{w:World}{base e n:Nat}{a:Option Addr}{cp:Nat}{l:List α}{f:α→List Value}(h:w.ownsRow base e n (.slice a l.length cp) l.length (l.flatMap f))(hk:∀ c∈l,(f c).length=n){i:Nat}{x:α}(hi:l[i]? = some x) :
 ∃ g,a=some ⟨g,0,none⟩∧base≤g∧g<w.heap.size∧w.rangeAt g (i * n) (f x):=by
 rcases h.2 with⟨h1,h2⟩ | ⟨g,cap,cur,h1,h2,h3,-⟩
 ·obtain rfl:l=[]:=List.length_eq_zero_iff.1 h2;cases hi
 obtain⟨rfl,-,rfl⟩:a=some ⟨g,0,none⟩∧l.length=l.length∧cp=cap:=by simpa using h1
 refine⟨g,rfl,h2,jc h3,fun j v hv=>?_⟩;have:=h.cells (g:=g) rfl (i * n+j) v (ztp f l hk i x hi j v hv);rw[Addr.add_lit,Nat.zero_add]at this;exact this
theorem GS.ofOwn {B:Nat}{l:List Sg}{v:Value}{w:World}(h:w.ownsRow B 40 97 v l.length (l.flatMap fun s=>s.cells.toList))(hok:∀ s∈l,s.ok):GS (fun k=>B≤k) l v w:=by
 have h0:=h;rcases h.2 with⟨rfl,hn⟩ | ⟨g,cap,cur,rfl,hb,hg,hn,hrest⟩
 ·exact⟨none,0,by rw[hn],by omega,.inl (List.length_eq_zero_iff.1 hn)⟩
 refine⟨some ⟨g,0,none⟩,cap,rfl,hn,.inr ⟨g,0,rfl,hb,jc hg,fun i hi=>?_⟩⟩;obtain⟨g',e,-,-,hr⟩:=zmi (f:=fun s:Sg=>s.cells.toList) h0 (fun c hc=>by rw[Array.length_toList];exact Sg.size (hok c hc)) (List.getElem?_eq_getElem hi);obtain rfl:g=g':=by simpa using e
 rw[Nat.zero_add];exact hr
end
section
open Go.ChangeShapes Go.WideShapes Go.ChangeAt Go.RowKit
def zxp:Value := .agg #[.string ⟨#[]⟩,zy z6 0,zy z6 0,zy z6 0,zy z6 0,zy z6 0,zy z6 0,zy z6 0,zy z6 0,zy z6 0,zy z6 0,zy z6 0,zy z6 0,zy z6 0,zy z6 0,zy z6 0,zy z6 0,zy z6 0,zy z6 0,zy z6 0,zy z6 0,zy z6 0,zy z6 0,zy z6 0,zy z6 0,zy z6 0,zy z6 0,zy z6 0,zy z6 0,zy z6 0,zy z6 0,zy z6 0,zy z6 0,zy z6 0,zy z6 0,zy z6 0,zy z6 0,zy z6 0,zy z6 0,zy z6 0,zy z6 0,zy z6 0,zy z6 0,zy z6 0,zy z6 0,zy z6 0,zy z6 0,zy z6 0,zy z6 0,zy z6 0,zy z6 0,zy z6 0,zy z6 0,zy z6 0,zy z6 0,zy z6 0,zy z6 0,zy z6 0,zy z6 0,zy z6 0,zy z6 0,zy z6 0,zy z6 0,zy z6 0,zy z6 0,zy z6 0,zy z6 0,zy z6 0,zy z6 0,zy z6 0,zy z6 0,zy z6 0,zy z6 0,zy z6 0,zy z6 0,zy z6 0,zy z6 0,zy z6 0,zy z6 0,zy z6 0,zy z6 0,zy z6 0,zy z6 0,zy z6 0,zy z6 0,zy z6 0,zy z6 0,zy z6 0,zy z6 0,zy z6 0,zy z6 0,zy z6 0,zy z6 0,zy z6 0,zy z6 0,zy z6 0,zy z6 0]
variable [OldK]
section
variable {H:Type} {enc:TypeId × Value→H} {w:World}
theorem ztf {base:Nat}{v:Value}{d:DataW H}{p:List MemPlace}(hval:Value.okWide ze w .any base 40 v)(h:DataW.Trod enc ze w 0 (fun _=>true) true 40 v d p):∃ s:Sg,s.ok∧v = .agg s.cells:=by
 obtain⟨cs,rfl,hsz⟩:=okWide_struct Tryz.underlying40 hval;obtain⟨fuel,hf⟩:=h;obtain⟨s,hs,hc⟩:=zmc hf;exact⟨s,hs,by rw[show s.cells=s.cells.toList.toArray by simp,← hc];simp[Value.cells]⟩
end
end
end Go.Proofs.YtffggpplnjibgaaGreatDoor
