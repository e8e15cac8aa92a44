/-
 From an array of bytes that can be read as data to bytes;a world in which the tables lie;what a walk keeps.
-/
import Derived.Test.YtmgfncjfgkllcaaGreatDoorKRefHex
import Derived.Test.YtmgfncjfgkllcaaGreatDoorRows
import Derived.Lib.LaidU8
import Derived.ProofKit
import Derived.OpenShut
import Derived.Deep.DeepHandedRow
import Derived.Test.YtmgfncjfgkllcaaGreatDoorKSpecBind
import Derived.Test.YtmgfncjfgkllcaaGreatDoorKGet
import Derived.Test.YtmgfncjfgkllcaaGreatDoorKReadV
import Derived.Test.YtmgfncjfgkllcaaGreatDoorKB64
import Derived.Test.YtmgfncjfgkllcaaGreatDoorKSubjects
open Go.Proofs.Tryz renaming prog→ze
open List renaming length_drop→zr
open Nat renaming lt_of_lt_of_le→zu
open Go.Value renaming int→zy
open Go.IntKind renaming u8→z6
namespace Go.Proofs.YtmgfncjfgkllcaaGreatDoor
set_option linter.unusedVariables false
set_option linter.unusedSimpArgs false
set_option linter.unusedSectionVars false
set_option maxRecDepth 100000
section
open Go.ChangeShapes Go.WideShapes Go.ChangeAt Go.RowKit
section
variable {H:Type} {enc:TypeId × Value→H}
theorem zgb:Tryz.prog.cellsOf 5=1:=by kernel_rfl
theorem zj6:Tryz.prog.cellsOf 23=32:=by kernel_rfl
theorem zfj:Tryz.prog.cellsOf 25=32:=by kernel_rfl
theorem zig:Tryz.prog.cellsOf 113=64:=by kernel_rfl
theorem zbn {W:World} {base:Nat} {sp:Nat→Bool} {held:Bool} {T n fuel:Nat} (hT:Tryz.prog.underlying T=some (.array n 5)) {cs:List Value} {x:DataW H × List MemPlace} (hl:cs.length=n)
 (h:DataW.trod enc ze W base sp held fuel T cs=some x):∃ l:Bs,l.length=n∧cs=Lib.byteCells l:=by
 obtain⟨xs,m,rfl,rfl,-,hxl,hx⟩:=DataW.trod_array hT h
 have hc:∀ i,i<n→∃ a:Int,cs[i]? = some (.int .u8 a)∧0≤a∧a≤255:=fun i hi=>by
  have h1:=hx i hi;rw[zgb,Nat.mul_one,List.getElem?_eq_getElem (by omega)]at h1;obtain⟨a,ea,-,wa⟩:=DataW.trod_int Tryz.underlying5 h1;have h0:=congrArg (·[0]?) ea;simp only[List.getElem?_take,List.getElem?_drop,List.getElem?_cons_zero,Nat.add_zero,Nat.zero_lt_one,if_true]at h0;exact⟨a,h0,bounds_u8 wa⟩
 refine⟨cs.map (fun c=>match c with | .int _ z=>UInt8.ofNat z.toNat | _=>0),by simpa using hl,?_⟩;apply List.ext_getElem?;intro i;unfold Lib.byteCells;rw[List.getElem?_map,List.getElem?_map];rcases Nat.lt_or_ge i n with hi | hi
 ·obtain ⟨a,ha,h0,h1⟩:=hc i hi
  have e:((UInt8.ofNat a.toNat).toNat:Int)=a:=by
   have h2:(UInt8.ofNat a.toNat).toNat=a.toNat % 256:=by simp
   omega
  rw[ha,Option.map_some,Option.map_some];show some (Value.int .u8 a)=some (Value.int .u8 ((UInt8.ofNat a.toNat).toNat:Int));rw[e]
 rw[List.getElem?_eq_none (by omega)];rfl
end
end
section
open Go.ChangeShapes Go.WideShapes Go.ChangeAt Go.RowKit
variable [OldK]
def Old:Nat→Prop:=fun k=>k<OldK.k
def EnIn (w:World) (e:En) (pv sv:Value):Prop:=e.ok∧SB Old e.payload pv w∧GS Old e.sigs sv w
theorem EnIn.fr {M:Nat→Obj→Prop}{w w':World}{e:En}{pv sv:Value}(h:EnIn w e pv sv)(hF:Fr M w w')(hM:∀ k o,k<OldK.k→¬ M k o):EnIn w' e pv sv :=
 ⟨h.1,h.2.1.fr hF (fun b o hs _=>hM b o hs),h.2.2.fr hF hM⟩
theorem zas {α:Type}(l:List α)(a n:Nat):l.drop a=(l.drop a).take n++l.drop (a+n):=by
 rw[← List.drop_drop,List.take_append_drop]
section
variable {H:Type} {enc:TypeId × Value→H} {sp:Nat→Bool} {held:Bool} {w:World} {fuel:Nat}
theorem zl1:Tryz.prog.cellsOf 28=70:=by kernel_rfl
theorem zgc:Tryz.prog.cellsOf 115=97:=by kernel_rfl
theorem zl0:Tryz.prog.cellsOf 24=1:=by kernel_rfl
theorem zlz:Tryz.prog.cellsOf 26=1:=by kernel_rfl
theorem zjg (hK:w.heap.size≤OldK.k) {cs:List Value} {x:DataW H × List MemPlace} (h:DataW.trod enc ze w 0 (fun _=>true) true fuel 24 cs=some x):∃ (l:Bs) (v:Value),cs=[v]∧SB Old l v w:=by
 rcases open_ints Tryz.underlying24 Tryz.underlying5 zgb h with⟨hcs,hx⟩ | ⟨a,len,cap,zs,hcs,_,hl,hm,hz,hx,hcell,hwz⟩
 ·exact⟨[],.slice none 0 0,hcs,SB.nil _ _ _⟩
 simp only[if_true]at hz;rcases Nat.eq_zero_or_pos len with rfl | hpos
 ·exact⟨[],_,hcs,⟨some a,cap,rfl,Nat.zero_le _,.inl rfl⟩⟩
 have hA:((zs.take len).map fun n=>UInt8.ofNat n.toNat).length=len:=by simp;omega
 obtain⟨b,o,hB⟩:=a;have h0:=hcell 0 (by omega);have e0:(⟨b,o,hB⟩:Addr).add 0=⟨b,o,hB⟩:=by simp[Addr.add]
 rw[e0]at h0;obtain rfl:=Go.Proofs.cell_spot h0;have hD:=h0
 obtain ⟨C,T,f,hb⟩:∃ C T f,w.heap[b]? = some (.cells C T f):=by
  unfold World.cell? at hD;split at hD
  ·rename_i C T f hb
   exact⟨_,_,_,hb⟩
  all_goals simp at hD
 refine⟨(zs.take len).map fun n=>UInt8.ofNat n.toNat,_,hcs,⟨some ⟨b,o,none⟩,cap,by rw[hA],by rw[hA];exact hl,.inr ⟨b,o,C,T,f,rfl,zu (jb hb) hK,⟨hb,.inr (zu (jb hb) hK)⟩,fun j hj=>?_⟩⟩⟩;rw[hA]at hj;have hE:=hcell j (by omega);rw[Addr.add_lit]at hE
 have hC:C[o+j]? = some (.int .u8 (zs.getD j 0)):=by
  have h:=hE;simp only[World.cell?,hb]at h;exact h
 rw[hC];have hr:=range_u8 hwz j;simp only[List.getElem_map,List.getElem_take];have e:zs.getD j 0=zs[j]'(by omega):=by simp[List.getD,List.getElem?_eq_getElem (show j<zs.length by omega)]
 rw[List.getD_eq_getElem?_getD]at e;rw[e]at hr;rw[List.getD_eq_getElem?_getD,e]
 congr 2
 simp only[UInt8.toNat_ofNat'];omega
theorem zmm {cs:List Value} {x:DataW H × List MemPlace} (h:DataW.trod enc ze w 0 (fun _=>true) true fuel 115 cs=some x):∃ s:Sg,s.ok∧cs=s.cells.toList:=by
 obtain⟨xs,n,rfl,hx,hl,hE,hf⟩:=DataW.trod_struct Tryz.underlying115 h;rw[zgc]at hl;have hA:∀ i,i<3→∃ y,xs[i]? = some y:=fun i hi=>⟨_,List.getElem?_eq_getElem (by rw[hE];exact hi)⟩
 obtain⟨y0,hD⟩:=hA 0 (by decide);obtain⟨y1,hC⟩:=hA 1 (by decide);obtain⟨y2,hB⟩:=hA 2 (by decide);have f0:DataW.trod enc ze w 0 (fun _=>true) true n 9 ((cs.drop 0).take (Tryz.prog.cellsOf 9))=xs[0]?:=hf 0 _ rfl;have f1:DataW.trod enc ze w 0 (fun _=>true) true n 25 ((cs.drop 1).take (Tryz.prog.cellsOf 25))=xs[1]?:=hf 1 _ rfl;have f2:DataW.trod enc ze w 0 (fun _=>true) true n 113 ((cs.drop 33).take (Tryz.prog.cellsOf 113))=xs[2]?:=hf 2 _ rfl;rw[hD,zes]at f0;rw[hC,zfj]at f1;rw[hB,zig]at f2;obtain⟨s,e0,_,_⟩:=DataW.trod_string Tryz.underlying9 f0;obtain⟨k,hk,e1⟩:=zbn j8 (by rw[List.length_take,zr];omega) f1;obtain⟨g,hg,e2⟩:=zbn zbs (by rw[List.length_take,zr];omega) f2;have hs:s=⟨s.data.toList.toArray⟩:=by simp
 refine⟨⟨s.data.toList,k,g⟩,⟨hk,hg⟩,?_⟩
 have h1:cs=(cs.drop 0).take 1++((cs.drop 1).take 32++(cs.drop 33).take 64):=by
  have e3:(cs.drop 33).take 64=cs.drop 33:=List.take_of_length_le (by rw[zr];omega);rw[e3,← zas cs 1 32,← zas cs 0 1];rfl
 rw[h1,e0,e1,e2,hs];unfold Sg.cells;simp
theorem zkp (hK:w.heap.size≤OldK.k) {cs:List Value} {x:DataW H × List MemPlace} (h:DataW.trod enc ze w 0 (fun _=>true) true fuel 26 cs=some x):∃ (l:List Sg) (v:Value),cs=[v]∧GS Old l v w∧∀ s∈l,s.ok:=by
 rcases DataW.trod_slice Tryz.underlying26 h with⟨e3,_⟩ | ⟨a,len,cap,elems,rest,m,hm,e3,_,_,hlc,_,hel,hE,_,_⟩
 ·exact⟨[],_,e3,⟨none,0,rfl,Nat.zero_le _,.inl rfl⟩,fun s hs=>by cases hs⟩
 rcases Nat.eq_zero_or_pos len with rfl | hpos
 ·exact⟨[],_,e3,⟨some a,cap,rfl,Nat.zero_le _,.inl rfl⟩,fun s hs=>by cases hs⟩
 have hA:∀ i,i<len→∃ g,w.cells? 0 (a.add (i * 97)) 97=some g∧∃ s:Sg,s.ok∧g=s.cells.toList:=by
  intro i hi;have h1:=hE i hi;rw[List.getElem?_eq_getElem (by omega),zgc]at h1;obtain⟨g,hg,h2⟩:=bind_some h1;exact⟨g,hg,zmm h2⟩
 let G:Nat→List Value:=fun i=>if hi:i<len then (hA i hi).choose else []
 have hG:∀ i,i<len→w.cells? 0 (a.add (i * 97)) 97=some (G i):=fun i hi=>by
  simp only[G,dif_pos hi];exact(hA i hi).choose_spec.1
 obtain⟨b,o,C,T,f,rfl,hb,hC⟩:=zsw hpos (by decide) hG
 obtain ⟨l,hB,hx⟩:=zho (fun i (s:Sg)=>s.ok∧(C.toList.drop (o+i * 97)).take 97=s.cells.toList) len (fun i hi=>by
  obtain⟨s,hs,e⟩:=(hA i hi).choose_spec.2;refine⟨s,hs,?_⟩;rw[hC i hi];simp only[G,dif_pos hi]
  exact e)
 refine⟨l,_,e3,⟨some ⟨b,o,none⟩,cap,by rw[hB],by rw[hB];exact hlc,.inr ⟨b,o,rfl,zu (jb hb) hK,jb hb,fun i hi=>?_⟩⟩,fun s hs=>?_⟩
 ·obtain⟨-,he⟩:=hx i _ (List.getElem?_eq_getElem hi);intro j v hv;rw[← he,List.getElem?_take]at hv;split at hv
  ·rw[List.getElem?_drop,Array.getElem?_toList]at hv;simp[World.cell?,hb,hv]
  cases hv
 obtain⟨i,hi⟩:=List.getElem?_of_mem hs;exact(hx i s hi).1
theorem zjf (hK:w.heap.size≤OldK.k) {cs:List Value} {x:DataW H × List MemPlace} (h:DataW.trod enc ze w 0 (fun _=>true) true fuel 28 cs=some x):∃ (e:En) (pv sv:Value),EnIn w e pv sv∧cs=e.cells pv sv:=by
 obtain⟨xs,n,rfl,hx,hl,hL,hf⟩:=DataW.trod_struct Tryz.underlying28 h;rw[zl1]at hl;have hA:∀ i,i<8→∃ y,xs[i]? = some y:=fun i hi=>⟨_,List.getElem?_eq_getElem (by rw[hL];exact hi)⟩
 obtain⟨y0,hJ⟩:=hA 0 (by decide);obtain⟨y1,hI⟩:=hA 1 (by decide);obtain⟨y2,hH⟩:=hA 2 (by decide);obtain⟨y3,hG⟩:=hA 3 (by decide);obtain⟨y4,hF⟩:=hA 4 (by decide);obtain⟨y5,hE⟩:=hA 5 (by decide);obtain⟨y6,hD⟩:=hA 6 (by decide);obtain⟨y7,hC⟩:=hA 7 (by decide);have f0:DataW.trod enc ze w 0 (fun _=>true) true n 3 ((cs.drop 0).take (Tryz.prog.cellsOf 3))=xs[0]?:=hf 0 _ rfl;have f1:DataW.trod enc ze w 0 (fun _=>true) true n 23 ((cs.drop 1).take (Tryz.prog.cellsOf 23))=xs[1]?:=hf 1 _ rfl;have f2:DataW.trod enc ze w 0 (fun _=>true) true n 9 ((cs.drop 33).take (Tryz.prog.cellsOf 9))=xs[2]?:=hf 2 _ rfl;have f3:DataW.trod enc ze w 0 (fun _=>true) true n 24 ((cs.drop 34).take (Tryz.prog.cellsOf 24))=xs[3]?:=hf 3 _ rfl;have f4:DataW.trod enc ze w 0 (fun _=>true) true n 3 ((cs.drop 35).take (Tryz.prog.cellsOf 3))=xs[4]?:=hf 4 _ rfl;have f5:DataW.trod enc ze w 0 (fun _=>true) true n 9 ((cs.drop 36).take (Tryz.prog.cellsOf 9))=xs[5]?:=hf 5 _ rfl;have f6:DataW.trod enc ze w 0 (fun _=>true) true n 25 ((cs.drop 37).take (Tryz.prog.cellsOf 25))=xs[6]?:=hf 6 _ rfl;have f7:DataW.trod enc ze w 0 (fun _=>true) true n 26 ((cs.drop 69).take (Tryz.prog.cellsOf 26))=xs[7]?:=hf 7 _ rfl;rw[hJ,zh5]at f0;rw[hI,zj6]at f1;rw[hH,zes]at f2;rw[hG,zl0]at f3;rw[hF,zh5]at f4;rw[hE,zes]at f5;rw[hD,zfj]at f6;rw[hC,zlz]at f7;obtain⟨k,e0,_,_⟩:=DataW.trod_int Tryz.underlying3 f0;obtain⟨d,hd,e1⟩:=zbn jv (by rw[List.length_take,zr];omega) f1;obtain⟨ty,e2,_,_⟩:=DataW.trod_string Tryz.underlying9 f2;obtain⟨p,pv,e3,hp⟩:=zjg hK f3;obtain⟨op,e4,_,_⟩:=DataW.trod_int Tryz.underlying3 f4;obtain⟨hB,e5,_,_⟩:=DataW.trod_string Tryz.underlying9 f5;obtain⟨ky,hO,e6⟩:=zbn j8 (by rw[List.length_take,zr];omega) f6;obtain⟨l,sv,e7,hN,hM⟩:=zkp hK f7;have hty:ty=⟨ty.data.toList.toArray⟩:=by simp
 have hid:hB=⟨hB.data.toList.toArray⟩:=by simp
 refine⟨⟨k,d,ty.data.toList,p,op,hB.data.toList,ky,l⟩,pv,sv,⟨⟨hd,hO,hM⟩,hp,hN⟩,?_⟩
 have h1:cs=(cs.drop 0).take 1++((cs.drop 1).take 32++((cs.drop 33).take 1++((cs.drop 34).take 1++((cs.drop 35).take 1++((cs.drop 36).take 1++((cs.drop 37).take 32++(cs.drop 69).take 1)))))):=by
  have e8:(cs.drop 69).take 1=cs.drop 69:=List.take_of_length_le (by rw[zr];omega);rw[e8,← zas cs 37 32,← zas cs 36 1,← zas cs 35 1,← zas cs 34 1,← zas cs 33 1,← zas cs 1 32,← zas cs 0 1];rfl
 rw[h1,e0,e1,e2,e3,e4,e5,e6,e7];unfold En.cells;simp only[List.cons_append,List.nil_append]
end
end
section
open Go.RowKit Go.Shelf
variable [OldK]
theorem zt4 {α:Type} {n:Nat} (f:α→List Value) (l:List α) (hk:∀ c∈l,(f c).length=n):∀ i c,l[i]? = some c→∀ j v,(f c)[j]? = some v→(l.flatMap f)[i * n+j]? = some v:=by
 induction l with
 | nil=>intro i c hi;cases hi
 | cons x l ih =>
   intro i c hi j v hv;have hx:=hk x (by simp);rw[List.flatMap_cons];cases i with
   | zero =>
     obtain rfl:x=c:=by simpa using hi
     rw[Nat.zero_mul,Nat.zero_add,List.getElem?_append_left (List.getElem?_eq_some_iff.1 hv).1];exact hv
   | succ i =>
     have hm:(i+1) * n=i * n+n:=Nat.succ_mul i n;rw[List.getElem?_append_right (by omega),hx,show(i+1) * n+j - n=i * n+j by omega];exact ih (fun c hc=>hk c (by simp[hc])) i c (by simpa using hi) j v hv
theorem zms {α:Type}{w:World}{base e n:Nat}{a:Option Addr}{cp:Nat}{l:List α}{f:α→List Value}(h:w.ownsRow base e n (.slice a l.length cp) l.length (l.flatMap f))(hk:∀ c∈l,(f c).length=n){i:Nat}{x:α}(hi:l[i]? = some x) :
 ∃ g,a=some ⟨g,0,none⟩∧base≤g∧g<w.heap.size∧w.rangeAt g (i * n) (f x):=by
 rcases h.2 with⟨h1,h2⟩ | ⟨g,cap,cur,h1,h2,h3,-⟩
 ·obtain rfl:l=[]:=List.length_eq_zero_iff.1 h2;cases hi
 obtain⟨rfl,-,rfl⟩:a=some ⟨g,0,none⟩∧l.length=l.length∧cp=cap:=by simpa using h1
 refine⟨g,rfl,h2,jb h3,fun j v hv=>?_⟩;have:=h.cells (g:=g) rfl (i * n+j) v (zt4 f l hk i x hi j v hv);rw[Addr.add_lit,Nat.zero_add]at this;exact this
theorem GS.ofOwn {B:Nat}{l:List Sg}{v:Value}{w:World}(h:w.ownsRow B 115 97 v l.length (l.flatMap fun s=>s.cells.toList))(hok:∀ s∈l,s.ok):GS (fun k=>B≤k) l v w:=by
 have h0:=h;rcases h.2 with⟨rfl,hn⟩ | ⟨g,cap,cur,rfl,hb,hg,hn,hrest⟩
 ·exact⟨none,0,by rw[hn],by omega,.inl (List.length_eq_zero_iff.1 hn)⟩
 refine⟨some ⟨g,0,none⟩,cap,rfl,hn,.inr ⟨g,0,rfl,hb,jb hg,fun i hi=>?_⟩⟩;obtain⟨g',e,-,-,hr⟩:=zms (f:=fun s:Sg=>s.cells.toList) h0 (fun c hc=>by rw[Array.length_toList];exact Sg.size (hok c hc)) (List.getElem?_eq_getElem hi);obtain rfl:g=g':=by simpa using e
 rw[Nat.zero_add];exact hr
end
section
open Go.ChangeShapes Go.WideShapes Go.ChangeAt Go.RowKit
def zx3:Value := .agg #[.int .i64 0,zy z6 0,zy z6 0,zy z6 0,zy z6 0,zy z6 0,zy z6 0,zy z6 0,zy z6 0,zy z6 0,zy z6 0,zy z6 0,zy z6 0,zy z6 0,zy z6 0,zy z6 0,zy z6 0,zy z6 0,zy z6 0,zy z6 0,zy z6 0,zy z6 0,zy z6 0,zy z6 0,zy z6 0,zy z6 0,zy z6 0,zy z6 0,zy z6 0,zy z6 0,zy z6 0,zy z6 0,zy z6 0,.string ⟨#[]⟩,.slice none 0 0,.int .i64 0,.string ⟨#[]⟩,zy z6 0,zy z6 0,zy z6 0,zy z6 0,zy z6 0,zy z6 0,zy z6 0,zy z6 0,zy z6 0,zy z6 0,zy z6 0,zy z6 0,zy z6 0,zy z6 0,zy z6 0,zy z6 0,zy z6 0,zy z6 0,zy z6 0,zy z6 0,zy z6 0,zy z6 0,zy z6 0,zy z6 0,zy z6 0,zy z6 0,zy z6 0,zy z6 0,zy z6 0,zy z6 0,zy z6 0,zy z6 0,.slice none 0 0]
variable [OldK]
section
variable {H:Type} {enc:TypeId × Value→H} {w:World}
theorem zpo (hK:w.heap.size≤OldK.k){base:Nat}{v:Value}{d:DataW H}{p:List MemPlace}(hval:Value.okWide ze w .any base 28 v)(h:DataW.Trod enc ze w 0 (fun _=>true) true 28 v d p):∃ (e:En) (pv sv:Value),EnIn w e pv sv∧v = .agg (e.cells pv sv).toArray:=by
 obtain⟨cs,rfl,hsz⟩:=okWide_struct Tryz.underlying28 hval;obtain⟨fuel,hf⟩:=h;obtain⟨e,pv,sv,he,hc⟩:=zjf hK hf;exact⟨e,pv,sv,he,by rw[← hc];simp[Value.cells]⟩
end
end
end Go.Proofs.YtmgfncjfgkllcaaGreatDoor
