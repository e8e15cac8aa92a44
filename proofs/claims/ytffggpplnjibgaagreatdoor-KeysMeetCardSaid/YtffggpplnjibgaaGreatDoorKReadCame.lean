/-
 From an array of bytes that can be read as data to bytes;a world in which the tables lie;what a walk keeps.
-/
import Derived.Test.YtffggpplnjibgaaGreatDoorKConcat
import Derived.Test.YtffggpplnjibgaaGreatDoorRows
import Derived.Lib.LaidU8
import Derived.ProofKit
import Derived.OpenShut
import Derived.Deep.DeepHandedRow
import Derived.Test.YtffggpplnjibgaaGreatDoorKSpecBind
import Derived.Test.YtffggpplnjibgaaGreatDoorKGet
import Derived.Test.YtffggpplnjibgaaGreatDoorKKeysS
open Go.Proofs.Tryz renaming prog→zl
open List renaming length_drop→z8
open Nat renaming lt_of_lt_of_le→jb
namespace Go.Proofs.YtffggpplnjibgaaGreatDoor
set_option linter.unusedVariables false
set_option linter.unusedSimpArgs false
set_option linter.unusedSectionVars false
set_option maxRecDepth 100000
section
open Go.ChangeShapes Go.WideShapes Go.ChangeAt Go.RowKit
section
variable {H:Type} {enc:TypeId × Value→H}
theorem zez:Tryz.prog.cellsOf 5=1:=by kernel_rfl
theorem zk0:Tryz.prog.cellsOf 23=32:=by kernel_rfl
theorem zgq:Tryz.prog.cellsOf 25=32:=by kernel_rfl
theorem zji:Tryz.prog.cellsOf 30=64:=by kernel_rfl
theorem zb7 {W:World} {base:Nat} {sp:Nat→Bool} {held:Bool} {T n fuel:Nat} (hT:Tryz.prog.underlying T=some (.array n 5)) {cs:List Value} {x:DataW H × List MemPlace} (hl:cs.length=n)
 (h:DataW.trod enc zl W base sp held fuel T cs=some x):∃ l:Bs,l.length=n∧cs=Lib.byteCells l:=by
 obtain⟨xs,m,rfl,rfl,-,hxl,hx⟩:=DataW.trod_array hT h
 have hc:∀ i,i<n→∃ a:Int,cs[i]? = some (.int .u8 a)∧0≤a∧a≤255:=fun i hi=>by
  have h1:=hx i hi;rw[zez,Nat.mul_one,List.getElem?_eq_getElem (by omega)]at h1;obtain⟨a,ea,-,wa⟩:=DataW.trod_int Tryz.underlying5 h1;have h0:=congrArg (·[0]?) ea;simp only[List.getElem?_take,List.getElem?_drop,List.getElem?_cons_zero,Nat.add_zero,Nat.zero_lt_one,if_true]at h0;exact⟨a,h0,bounds_u8 wa⟩
 refine⟨cs.map (fun c=>match c with | .int _ z=>UInt8.ofNat z.toNat | _=>0),by simpa using hl,?_⟩;apply List.ext_getElem?;intro i;unfold Lib.byteCells;rw[List.getElem?_map,List.getElem?_map];rcases Nat.lt_or_ge i n with hi | hi
 ·obtain ⟨a,ha,h0,h1⟩:=hc i hi
  have e:((UInt8.ofNat a.toNat).toNat:Int)=a:=by
   have h2:(UInt8.ofNat a.toNat).toNat=a.toNat % 256:=by simp
   omega
  rw[ha,Option.map_some,Option.map_some];show some (Value.int .u8 a)=some (Value.int .u8 ((UInt8.ofNat a.toNat).toNat:Int));rw[e]
 rw[List.getElem?_eq_none (by omega)];rfl
end
theorem zuj {w w':World}(h:Fr NoB w w')(may:MemPlace→Prop):w.keptBut w' may:=by
 refine⟨h.os,h.output,fun i hi=>?_⟩;obtain⟨o,ho⟩:=zd8 hi;rw[ho,h.block i o ho (fun h=>h)];cases o<;>simp
def zu0 (cs:Array Value):Obj→Obj
 | .cells _ t f => .cells cs t f
 | o=>o
def zyz (zs:List Int):Array Value:=(zs.map fun z=>Value.int .u8 z).toArray
def zmf:Array Value:=((List.range 16).flatMap fun i=>[Value.int .u8 (Lib.accLo i:Int),Value.int .u8 (Lib.accHi i:Int)]).toArray
noncomputable def zgz (os:Os):World :=
 { World.holding zl os ⟨#[],#[],[]⟩ with heap:=(((World.holding zl os ⟨#[],#[],[]⟩).heap.modify 0 (zu0 (zyz Lib.firstTab))).modify 1 (zu0 zmf)) }
end
section
open Go.ChangeShapes Go.WideShapes Go.ChangeAt Go.RowKit
variable [OldK]
def Old:Nat→Prop:=fun k=>k<OldK.k
def EnIn (w:World) (e:En) (pv sv:Value):Prop:=e.ok∧SB Old e.payload pv w∧GS Old e.sigs sv w
theorem EnIn.fr {M:Nat→Obj→Prop}{w w':World}{e:En}{pv sv:Value}(h:EnIn w e pv sv)(hF:Fr M w w')(hM:∀ k o,k<OldK.k→¬ M k o):EnIn w' e pv sv :=
 ⟨h.1,h.2.1.fr hF (fun b o hs _=>hM b o hs),h.2.2.fr hF hM⟩
theorem za8 {α:Type}(l:List α)(a n:Nat):l.drop a=(l.drop a).take n++l.drop (a+n):=by
 rw[← List.drop_drop,List.take_append_drop]
section
variable {H:Type} {enc:TypeId × Value→H} {sp:Nat→Bool} {held:Bool} {w:World} {fuel:Nat}
theorem zmu:Tryz.prog.cellsOf 28=70:=by kernel_rfl
theorem zhe:Tryz.prog.cellsOf 40=97:=by kernel_rfl
theorem zhf:Tryz.prog.cellsOf 24=1:=by kernel_rfl
theorem zmt:Tryz.prog.cellsOf 26=1:=by kernel_rfl
theorem zkk (hK:w.heap.size≤OldK.k) {cs:List Value} {x:DataW H × List MemPlace} (h:DataW.trod enc zl w 0 (fun _=>true) true fuel 24 cs=some x):∃ (l:Bs) (v:Value),cs=[v]∧SB Old l v w:=by
 rcases open_ints Tryz.underlying24 Tryz.underlying5 zez h with⟨hcs,hx⟩ | ⟨a,len,cap,zs,hcs,_,hl,hm,hz,hx,hcell,hwz⟩
 ·exact⟨[],.slice none 0 0,hcs,SB.nil _ _ _⟩
 simp only[if_true]at hz;rcases Nat.eq_zero_or_pos len with rfl | hpos
 ·exact⟨[],_,hcs,⟨some a,cap,rfl,Nat.zero_le _,.inl rfl⟩⟩
 have hB:((zs.take len).map fun n=>UInt8.ofNat n.toNat).length=len:=by simp;omega
 obtain⟨b,o,hC⟩:=a;have h0:=hcell 0 (by omega);have e0:(⟨b,o,hC⟩:Addr).add 0=⟨b,o,hC⟩:=by simp[Addr.add]
 rw[e0]at h0;obtain rfl:=Go.Proofs.cell_spot h0;have hE:=h0
 obtain ⟨C,T,f,hb⟩:∃ C T f,w.heap[b]? = some (.cells C T f):=by
  unfold World.cell? at hE;split at hE
  ·rename_i C T f hb
   exact⟨_,_,_,hb⟩
  all_goals simp at hE
 refine⟨(zs.take len).map fun n=>UInt8.ofNat n.toNat,_,hcs,⟨some ⟨b,o,none⟩,cap,by rw[hB],by rw[hB];exact hl,.inr ⟨b,o,C,T,f,rfl,jb (ju hb) hK,⟨hb,.inr (jb (ju hb) hK)⟩,fun j hj=>?_⟩⟩⟩;rw[hB]at hj;have hF:=hcell j (by omega);rw[Addr.add_lit]at hF
 have hD:C[o+j]? = some (.int .u8 (zs.getD j 0)):=by
  have h:=hF;simp only[World.cell?,hb]at h;exact h
 rw[hD];have hr:=range_u8 hwz j;simp only[List.getElem_map,List.getElem_take];have e:zs.getD j 0=zs[j]'(by omega):=by simp[List.getD,List.getElem?_eq_getElem (show j<zs.length by omega)]
 rw[List.getD_eq_getElem?_getD]at e;rw[e]at hr;rw[List.getD_eq_getElem?_getD,e]
 congr 2
 simp only[UInt8.toNat_ofNat'];omega
theorem zm1 {cs:List Value} {x:DataW H × List MemPlace} (h:DataW.trod enc zl w 0 (fun _=>true) true fuel 40 cs=some x):∃ s:Sg,s.ok∧cs=s.cells.toList:=by
 obtain⟨xs,n,rfl,hx,hl,hF,hf⟩:=DataW.trod_struct Tryz.underlying40 h;rw[zhe]at hl;have hB:∀ i,i<3→∃ y,xs[i]? = some y:=fun i hi=>⟨_,List.getElem?_eq_getElem (by rw[hF];exact hi)⟩
 obtain⟨y0,hE⟩:=hB 0 (by decide);obtain⟨y1,hD⟩:=hB 1 (by decide);obtain⟨y2,hC⟩:=hB 2 (by decide);have f0:DataW.trod enc zl w 0 (fun _=>true) true n 9 ((cs.drop 0).take (Tryz.prog.cellsOf 9))=xs[0]?:=hf 0 _ rfl;have f1:DataW.trod enc zl w 0 (fun _=>true) true n 25 ((cs.drop 1).take (Tryz.prog.cellsOf 25))=xs[1]?:=hf 1 _ rfl;have f2:DataW.trod enc zl w 0 (fun _=>true) true n 30 ((cs.drop 33).take (Tryz.prog.cellsOf 30))=xs[2]?:=hf 2 _ rfl;rw[hE,zfz]at f0;rw[hD,zgq]at f1;rw[hC,zji]at f2;obtain⟨s,e0,_,_⟩:=DataW.trod_string Tryz.underlying9 f0;obtain⟨k,hk,e1⟩:=zb7 jo (by rw[List.length_take,z8];omega) f1;obtain⟨g,hg,e2⟩:=zb7 zca (by rw[List.length_take,z8];omega) f2;have hs:s=⟨s.data.toList.toArray⟩:=by simp
 refine⟨⟨s.data.toList,k,g⟩,⟨hk,hg⟩,?_⟩
 have h1:cs=(cs.drop 0).take 1++((cs.drop 1).take 32++(cs.drop 33).take 64):=by
  have e3:(cs.drop 33).take 64=cs.drop 33:=List.take_of_length_le (by rw[z8];omega);rw[e3,← za8 cs 1 32,← za8 cs 0 1];rfl
 rw[h1,e0,e1,e2,hs];unfold Sg.cells;simp
theorem zli (hK:w.heap.size≤OldK.k) {cs:List Value} {x:DataW H × List MemPlace} (h:DataW.trod enc zl w 0 (fun _=>true) true fuel 26 cs=some x):∃ (l:List Sg) (v:Value),cs=[v]∧GS Old l v w∧∀ s∈l,s.ok:=by
 rcases DataW.trod_slice Tryz.underlying26 h with⟨e3,_⟩ | ⟨a,len,cap,elems,rest,m,hm,e3,_,_,hlc,_,hel,hE,_,_⟩
 ·exact⟨[],_,e3,⟨none,0,rfl,Nat.zero_le _,.inl rfl⟩,fun s hs=>by cases hs⟩
 rcases Nat.eq_zero_or_pos len with rfl | hpos
 ·exact⟨[],_,e3,⟨some a,cap,rfl,Nat.zero_le _,.inl rfl⟩,fun s hs=>by cases hs⟩
 have hB:∀ i,i<len→∃ g,w.cells? 0 (a.add (i * 97)) 97=some g∧∃ s:Sg,s.ok∧g=s.cells.toList:=by
  intro i hi;have h1:=hE i hi;rw[List.getElem?_eq_getElem (by omega),zhe]at h1;obtain⟨g,hg,h2⟩:=bind_some h1;exact⟨g,hg,zm1 h2⟩
 let G:Nat→List Value:=fun i=>if hi:i<len then (hB i hi).choose else []
 have hG:∀ i,i<len→w.cells? 0 (a.add (i * 97)) 97=some (G i):=fun i hi=>by
  simp only[G,dif_pos hi];exact(hB i hi).choose_spec.1
 obtain⟨b,o,C,T,f,rfl,hb,hC⟩:=zmc hpos (by decide) hG
 obtain ⟨l,hD,hx⟩:=zfu (fun i (s:Sg)=>s.ok∧(C.toList.drop (o+i * 97)).take 97=s.cells.toList) len (fun i hi=>by
  obtain⟨s,hs,e⟩:=(hB i hi).choose_spec.2;refine⟨s,hs,?_⟩;rw[hC i hi];simp only[G,dif_pos hi]
  exact e)
 refine⟨l,_,e3,⟨some ⟨b,o,none⟩,cap,by rw[hD],by rw[hD];exact hlc,.inr ⟨b,o,rfl,jb (ju hb) hK,ju hb,fun i hi=>?_⟩⟩,fun s hs=>?_⟩
 ·obtain⟨-,he⟩:=hx i _ (List.getElem?_eq_getElem hi);intro j v hv;rw[← he,List.getElem?_take]at hv;split at hv
  ·rw[List.getElem?_drop,Array.getElem?_toList]at hv;simp[World.cell?,hb,hv]
  cases hv
 obtain⟨i,hi⟩:=List.getElem?_of_mem hs;exact(hx i s hi).1
theorem zkj (hK:w.heap.size≤OldK.k) {cs:List Value} {x:DataW H × List MemPlace} (h:DataW.trod enc zl w 0 (fun _=>true) true fuel 28 cs=some x):∃ (e:En) (pv sv:Value),EnIn w e pv sv∧cs=e.cells pv sv:=by
 obtain⟨xs,n,rfl,hx,hl,hM,hf⟩:=DataW.trod_struct Tryz.underlying28 h;rw[zmu]at hl;have hB:∀ i,i<8→∃ y,xs[i]? = some y:=fun i hi=>⟨_,List.getElem?_eq_getElem (by rw[hM];exact hi)⟩
 obtain⟨y0,hL⟩:=hB 0 (by decide);obtain⟨y1,hJ⟩:=hB 1 (by decide);obtain⟨y2,hI⟩:=hB 2 (by decide);obtain⟨y3,hH⟩:=hB 3 (by decide);obtain⟨y4,hG⟩:=hB 4 (by decide);obtain⟨y5,hF⟩:=hB 5 (by decide);obtain⟨y6,hE⟩:=hB 6 (by decide);obtain⟨y7,hD⟩:=hB 7 (by decide);have f0:DataW.trod enc zl w 0 (fun _=>true) true n 3 ((cs.drop 0).take (Tryz.prog.cellsOf 3))=xs[0]?:=hf 0 _ rfl;have f1:DataW.trod enc zl w 0 (fun _=>true) true n 23 ((cs.drop 1).take (Tryz.prog.cellsOf 23))=xs[1]?:=hf 1 _ rfl;have f2:DataW.trod enc zl w 0 (fun _=>true) true n 9 ((cs.drop 33).take (Tryz.prog.cellsOf 9))=xs[2]?:=hf 2 _ rfl;have f3:DataW.trod enc zl w 0 (fun _=>true) true n 24 ((cs.drop 34).take (Tryz.prog.cellsOf 24))=xs[3]?:=hf 3 _ rfl;have f4:DataW.trod enc zl w 0 (fun _=>true) true n 3 ((cs.drop 35).take (Tryz.prog.cellsOf 3))=xs[4]?:=hf 4 _ rfl;have f5:DataW.trod enc zl w 0 (fun _=>true) true n 9 ((cs.drop 36).take (Tryz.prog.cellsOf 9))=xs[5]?:=hf 5 _ rfl;have f6:DataW.trod enc zl w 0 (fun _=>true) true n 25 ((cs.drop 37).take (Tryz.prog.cellsOf 25))=xs[6]?:=hf 6 _ rfl;have f7:DataW.trod enc zl w 0 (fun _=>true) true n 26 ((cs.drop 69).take (Tryz.prog.cellsOf 26))=xs[7]?:=hf 7 _ rfl;rw[hL,zi9]at f0;rw[hJ,zk0]at f1;rw[hI,zfz]at f2;rw[hH,zhf]at f3;rw[hG,zi9]at f4;rw[hF,zfz]at f5;rw[hE,zgq]at f6;rw[hD,zmt]at f7;obtain⟨k,e0,_,_⟩:=DataW.trod_int Tryz.underlying3 f0;obtain⟨d,hd,e1⟩:=zb7 ji (by rw[List.length_take,z8];omega) f1;obtain⟨ty,e2,_,_⟩:=DataW.trod_string Tryz.underlying9 f2;obtain⟨p,pv,e3,hp⟩:=zkk hK f3;obtain⟨op,e4,_,_⟩:=DataW.trod_int Tryz.underlying3 f4;obtain⟨hC,e5,_,_⟩:=DataW.trod_string Tryz.underlying9 f5;obtain⟨ky,hP,e6⟩:=zb7 jo (by rw[List.length_take,z8];omega) f6;obtain⟨l,sv,e7,hO,hN⟩:=zli hK f7;have hty:ty=⟨ty.data.toList.toArray⟩:=by simp
 have hid:hC=⟨hC.data.toList.toArray⟩:=by simp
 refine⟨⟨k,d,ty.data.toList,p,op,hC.data.toList,ky,l⟩,pv,sv,⟨⟨hd,hP,hN⟩,hp,hO⟩,?_⟩
 have h1:cs=(cs.drop 0).take 1++((cs.drop 1).take 32++((cs.drop 33).take 1++((cs.drop 34).take 1++((cs.drop 35).take 1++((cs.drop 36).take 1++((cs.drop 37).take 32++(cs.drop 69).take 1)))))):=by
  have e8:(cs.drop 69).take 1=cs.drop 69:=List.take_of_length_le (by rw[z8];omega);rw[e8,← za8 cs 37 32,← za8 cs 36 1,← za8 cs 35 1,← za8 cs 34 1,← za8 cs 33 1,← za8 cs 1 32,← za8 cs 0 1];rfl
 rw[h1,e0,e1,e2,e3,e4,e5,e6,e7];unfold En.cells;simp only[List.cons_append,List.nil_append]
end
end
end Go.Proofs.YtffggpplnjibgaaGreatDoor
