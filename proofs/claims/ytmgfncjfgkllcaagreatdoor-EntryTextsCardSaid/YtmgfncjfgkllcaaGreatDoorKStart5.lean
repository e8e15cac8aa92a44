/-
 Canonical texts,as plain data.
-/
import Derived.Test.YtmgfncjfgkllcaaGreatDoorKSpecSound
import Derived.Test.YtmgfncjfgkllcaaGreatDoorKSeen
import Derived.Test.YtmgfncjfgkllcaaGreatDoorKReader10
import Derived.Deep.QuietTactic
import Derived.Deep.LoopGhost
import Derived.Test.YtmgfncjfgkllcaaGreatDoorRows
import Derived.Test.YtmgfncjfgkllcaaGreatDoorKReader
import Derived.Lib.LaidU8
import Derived.ProofKit
import Derived.OpenShut
import Derived.Deep.DeepHandedRow
open Go.Proofs.Tryz renaming prog→ze
open Nat renaming le_refl→zt
open Option.some renaming inj→zx
namespace Go.Proofs.YtmgfncjfgkllcaaGreatDoor
set_option linter.unusedVariables false
set_option linter.unusedSimpArgs false
set_option linter.unusedSectionVars false
set_option maxRecDepth 100000
set_option maxHeartbeats 1000000
section

def fig (n:Nat):UInt8:=UInt8.ofNat (if n<10 then 48+n else 87+n)
def zj3 (c:UInt8):Bs :=
 if c=34 then [92,34] else if c=92 then [92,92] else if c=8 then [92,98] else if c=9 then [92,116] else if c=10 then [92,110]
 else if c=12 then [92,102] else if c=13 then [92,114] else if c.toNat<32 then [92,117,48,48,fig (c.toNat / 16),fig (c.toNat % 16)] else []
def zbt:Bs→Bs
 | []=>[]
 | c :: l=>(if zj3 c=[] then [c] else zj3 c)++zbt l
def zax (s:Bs):Bs:=34 :: zbt s++[34]
end
section
theorem zkj (s:Bs):(zax s).length≤6 * s.length+2:=by
 have h:(zbt s).length≤6 * s.length:=by
  induction s with
  | nil=>simp[zbt]
  | cons c s ih =>
    rw[zbt,List.length_append,List.length_cons]
    have:(if zj3 c=[] then [c] else zj3 c).length≤6:=by
     split
     ·simp
     unfold zj3
     repeat' split
     all_goals simp
    omega
 unfold zax;simp;omega
end
section
open Go.RowKit

theorem zr9 (c:UInt8) (w:World) :
 Calls ze 249 #[.int .u8 c.toNat] w fun e w'=>e = .returned (.string ⟨(zj3 c).toArray⟩)∧∃ q,w'=w.drewN q:=by
 by_cases h:c.toNat<32∨c.toNat=34∨c.toNat=92
 ·have hc:c=UInt8.ofNat c.toNat:=by simp
  have hn:c.toNat<93:=by omega
  generalize c.toNat=n at *;subst hc;have h1:n=34∨n=92∨n=0∨n=1∨n=2∨n=3∨n=4∨n=5∨n=6∨n=7∨n=8∨n=9∨n=10∨n=11∨n=12∨n=13∨n=14∨n=15∨n=16∨n=17∨n=18∨n=19∨n=20∨n=21∨n=22∨n=23∨n=24∨n=25∨n=26∨n=27∨n=28∨n=29∨n=30∨n=31:=by omega
  clear h hn;rcases h1 with rfl | rfl | rfl | rfl | rfl | rfl | rfl | rfl | rfl | rfl | rfl | rfl | rfl | rfl | rfl | rfl | rfl | rfl | rfl | rfl | rfl | rfl | rfl | rfl | rfl | rfl | rfl | rfl | rfl | rfl | rfl | rfl | rfl | rfl
  all_goals
   go_enter Tryz.func249,Tryz.ntmps249
   go_wp2_with fail
   all_goals first
    | (go_ret
       exact⟨by kernel_rfl,0,(World.drewN_zero _).symm⟩)
    | (go_quiet (fail)
       go_wp2_with fail
       go_ret
       exact⟨by kernel_rfl,_,rfl⟩)
 have hlt:decide ((c.toNat:Int)<32)=false:=by rw[decide_eq_false_iff_not];omega
 have g1:∀ n:Nat,n<32∨n=34∨n=92→((c.toNat:Int)==(n:Int))=false:=fun n hn=>by
  rw[Bool.eq_false_iff];intro e;rw[beq_iff_eq]at e;omega
 have e1:((c.toNat:Int)==34)=false:=g1 34 (by omega);have e2:((c.toNat:Int)==92)=false:=g1 92 (by omega);have e3:((c.toNat:Int)==8)=false:=g1 8 (by omega);have e4:((c.toNat:Int)==9)=false:=g1 9 (by omega);have e5:((c.toNat:Int)==10)=false:=g1 10 (by omega);have e6:((c.toNat:Int)==12)=false:=g1 12 (by omega);have e7:((c.toNat:Int)==13)=false:=g1 13 (by omega)
 have hA:∀ n:Nat,n<32∨n=34∨n=92→¬ c=UInt8.ofNat n:=fun n hn e=>by
  rw[e]at h;simp at h;omega
 have hp:zj3 c=[]:=by
  unfold zj3;rw[if_neg (show ¬ c=34 from hA 34 (by omega)),if_neg (show ¬ c=92 from hA 92 (by omega)),if_neg (show ¬ c=8 from hA 8 (by omega)),if_neg (show ¬ c=9 from hA 9 (by omega)),if_neg (show ¬ c=10 from hA 10 (by omega)),if_neg (show ¬ c=12 from hA 12 (by omega)),if_neg (show ¬ c=13 from hA 13 (by omega)),if_neg (by omega)]
 rw[hp];clear hp hA g1 h;go_enter Tryz.func249,Tryz.ntmps249
 go_wp2_with fail
 go_ret;exact⟨rfl,0,(World.drewN_zero _).symm⟩
theorem ze2 {B b:Nat}{w w1 w2:World}(h:Fr NoB w w1)(hF:Fr (MB B b) w1 w2)(hB:w.heap.size≤B):Fr NoB w w2 :=
 h.trans hF (fun k _ hm => .inr (Nat.le_trans hB hm.1))
theorem zv7 (c:UInt8):(zj3 c).length≤6:=by
 unfold zj3
 repeat' split
 all_goals simp
theorem zq2 (s:Bs) (w:World) (hlen:s.length≤67108864) :
 Calls ze 198 #[.string ⟨s.toArray⟩] w fun e w'=>e = .returned (.string ⟨(zax s).toArray⟩)∧Fr NoB w w':=by
 generalize hG:zax s=G;have hV:=Bld.fresh w;have hsz:(ByteArray.mk s.toArray).size=s.length:=rfl;have HG:Hid ([34]++zbt (s.drop 0)++[34]=G):=hG;clear hG;go_enter Tryz.func198,Tryz.ntmps198
 go_wp2_with fail
 refine(qw _ _ [] 34 _ hV (by decide)).mono ?_;rintro e w1 ⟨rfl,hU,hT⟩;have hJ:=ze2 ((Fr.refl (M:=NoB)).alloc (w:=w) (.cells #[.pointer none,.slice none 0 0] 198)) hT (zt _)
 go_wp2_with fail
 go_loopg [9] (s.length+1) (fun g vi wr=>∃ (i:Nat) (out:Bs),vi = .int .i64 i∧i≤s.length∧i+g=s.length+1∧out.length≤1+6 * i∧Bld w.heap.size w.heap.size out wr∧Fr NoB w wr∧Hid (out++zbt (s.drop i)++[34]=G))
 case atStart=>exact⟨0,_,rfl,by omega,by omega,by simp,hU,hJ,HG⟩
 case round =>
  obtain⟨i,out,rfl,hi,hgk,hol,hB,hF,hS⟩:=hrel;rcases Nat.lt_or_ge i s.length with hlt | hge
  ·obtain ⟨c,hc⟩:∃ c,s[i]? = some c:=⟨_,List.getElem?_eq_getElem hlt⟩
   have hI:∀ h,(ByteArray.mk s.toArray)[i]'h=c:=by
    intro h;obtain⟨h1,h2⟩:=List.getElem?_eq_some_iff.1 hc;exact h2
   have hA:=hS.out
   have hd:s.drop i=c :: s.drop (i+1):=by
    obtain⟨hN,he⟩:=List.getElem?_eq_some_iff.1 hc;rw[← he];exact List.drop_eq_getElem_cons hN
   rw[hd,zbt]at hA;have hO:=zv7 c;have hC:=fun W=>zr9 c W
   generalize zj3 c=E at *;cases E with
   | nil =>
     rw[if_pos rfl]at hA;have hM:=Lib.hid hA;clear hA hS hd
     go_wp2_with fail
     try simp only[hI]
     refine(hC wr).mono ?_;rintro e w2 ⟨rfl,q,rfl⟩;have hL:=hB.fr (zbl wr q) (fun _ _ _ _ _ h=>h);have hK:=hF.trans' (zbl wr q)
     go_wp2_with fail
     try simp only[hI]
     refine(qw _ _ out c _ hL (by omega)).mono ?_;rintro e w3 ⟨rfl,hH,hE⟩;have hD:=ze2 hK hE (zt _)
     go_wp2_with fail
     go_roundg (gk - 1)
     case measure=>omega
     case rel=>exact⟨i+1,out++[c],by simp,by omega,by omega,by simp;omega,hH,hD,by have:=hM.out;simpa using Lib.hid this⟩
   | cons x E =>
     rw[if_neg (by simp)]at hA;have hM:=Lib.hid hA;clear hA hS hd
     go_wp2_with fail
     try simp only[hI]
     refine(hC wr).mono ?_;rintro e w2 ⟨rfl,q,rfl⟩;have hL:=hB.fr (zbl wr q) (fun _ _ _ _ _ h=>h);have hK:=hF.trans' (zbl wr q)
     go_wp2_with fail
     refine(zap _ _ out (x :: E) _ hL (by omega)).mono ?_;rintro e w3 ⟨rfl,hH,hE⟩;have hD:=ze2 hK hE (zt _)
     go_wp2_with fail
     go_roundg (gk - 1)
     case measure=>omega
     case rel=>exact⟨i+1,out++x :: E,by simp,by omega,by omega,by simp at hO ⊢;omega,hH,hD,by have:=hM.out;simpa using Lib.hid this⟩
  obtain rfl:i=s.length:=by omega
  have hR:=hS.out;rw[List.drop_length]at hR;have HR:=Lib.hid hR;clear hS hR
  go_wp2_with fail
  refine(qw _ _ out 34 _ hB (by omega)).mono ?_;rintro e w3 ⟨rfl,hH,hE⟩;have hD:=ze2 hF hE (zt _)
  go_wp2_with fail
  refine(zex _ _ _ _ hH).mono ?_;rintro e w4 ⟨rfl,hQ⟩;have hP:=ze2 hD hQ (zt _)
  go_wp2_with fail
  go_ret;have h:out++zbt []++[34]=G:=HR.out;simp only[zbt,List.append_nil]at h;rw[h];exact⟨rfl,hP⟩
end
section
attribute [local instance] zbb
open Go.RowKit

theorem Tryz.typ0:(Tryz.prog.globals[0]?).map (·.type)=some 327:=by kernel_rfl
theorem Tryz.typ1:(Tryz.prog.globals[1]?).map (·.type)=some 330:=by kernel_rfl
theorem Tryz.typ2:(Tryz.prog.globals[3]?).map (·.type)=some 365:=by kernel_rfl
theorem Tryz.name0:Tryz.prog.globalNamed "unicode/utf8.first" = some 0:=by kernel_rfl
theorem Tryz.name1:Tryz.prog.globalNamed "unicode/utf8.acceptRanges" = some 1:=by kernel_rfl
theorem znc:Tryz.prog.cellsOf 327=256:=by kernel_rfl
theorem zes:Tryz.prog.cellsOf 5=1:=by kernel_rfl
theorem zhz:Tryz.prog.cellsOf 329=2:=by kernel_rfl
theorem zna:Tryz.prog.cellsOf 340=1:=by kernel_rfl
theorem znb:Tryz.prog.cellsOf 365=20:=by kernel_rfl
theorem zix {w:World} (h3:Lib.VarReads ze w "unicode/utf8.first" Lib.firstData) (h4:Lib.VarReads ze w "unicode/utf8.acceptRanges" Lib.acceptData) :
 Lib.Utf8Tabs 0 1 w:=by
 refine⟨fun c hc=>?_,fun i hi=>?_⟩
 ·obtain⟨g,t,cs,hD,p,hg,hC,hA,hd⟩:=h3;obtain rfl:=zx (Tryz.name0.symm.trans hg);obtain rfl:=zx (Tryz.typ0.symm.trans hC);have hB:=Lib.cells_of_tab Tryz.underlying327 Tryz.underlying5 zes znc hd;rw[World.var?_cell hg hA c,← Array.getElem?_toList,hB];simp[Lib.firstTab,hc]
 obtain⟨g,t,cs,hD,p,hg,hC,hA,hd⟩:=h4;obtain rfl:=zx (Tryz.name1.symm.trans hg);obtain rfl:=zx (Tryz.typ1.symm.trans hC);obtain⟨fuel',d,q,hE,he⟩:=Lib.array_elem Tryz.underlying330 hd i hi;simp only[List.getElem?_map,List.getElem?_range hi,Option.map_some,Option.some.injEq]at hE;subst hE;rw[zhz]at he
 have hB:=Lib.ints_of_struct Tryz.underlying329 (fun j f hj=>by
  match j,hj with
  | 0,hj=>simp at hj;subst hj;exact⟨Tryz.underlying5,rfl,zes⟩
  | 1,hj=>simp at hj;subst hj;exact⟨Tryz.underlying5,rfl,zes⟩
  | j+2,hj=>simp at hj) (by rw[zhz];rfl) he
 have e0:=congrArg (·[0]?) hB;have e1:=congrArg (·[1]?) hB;simp only[List.getElem?_take,List.getElem?_drop]at e0 e1;constructor
 ·rw[World.var?_cell hg hA (2 * i),← Array.getElem?_toList];simpa[Nat.mul_comm] using e0
 rw[World.var?_cell hg hA (2 * i+1),← Array.getElem?_toList];simpa[Nat.mul_comm] using e1
theorem zh3 {w:World}(h:Lib.VarReads ze w "internal/strconv.uint64pow10" (Lib.tabData .u64 Lib.pow10Tab)):Lib.TabIs ze w "internal/strconv.uint64pow10" .u64 Lib.pow10Tab:=by
 obtain⟨g,t,cs,fuel,p,hg,hB,hA,hd⟩:=h;obtain rfl:=zx (Tryz.pow10At.symm.trans hg);obtain rfl:=zx (Tryz.typ2.symm.trans hB);unfold Lib.TabIs;rw[hA,← Lib.cells_of_tab Tryz.underlying365 Tryz.underlying340 zna znb hd]
theorem zv6 {w w':World}(h:Fr NoB w w')(may:MemPlace→Prop):w.keptBut w' may:=by
 refine⟨h.os,h.output,fun i hi=>?_⟩;obtain⟨o,ho⟩:=ze7 hi;rw[ho,h.block i o ho (fun h=>h)];cases o<;>simp
def zqz (cs:Array Value):Obj→Obj
 | .cells _ t f => .cells cs t f
 | o=>o
def u8s (zs:List Int):Array Value:=(zs.map fun z=>Value.int .u8 z).toArray
def zm7:Array Value:=((List.range 16).flatMap fun i=>[Value.int .u8 (Lib.accLo i:Int),Value.int .u8 (Lib.accHi i:Int)]).toArray
def zwo:DataW Unit→List Int
 | .agg l=>l.map fun d=>match d with | .lit (.int _ z)=>z | _=>0
 | _=>[]
noncomputable def zhj (os:Os):World :=
 { World.holding ze os ⟨#[],#[],[]⟩ with heap:=(((((World.holding ze os ⟨#[],#[],[]⟩).heap.modify 0 (zqz (u8s Lib.firstTab))).modify 1 (zqz zm7)).modify 3 (zqz (Lib.pow10Tab.map fun z=>Value.int .u64 z).toArray)).modify 4 (zqz (u8s (zwo Rows.laid_math_bits_deBruijn32tab)))).modify 5 (zqz (u8s (zwo Rows.laid_math_bits_deBruijn64tab))) }
end
section
open Go.RowKit
theorem Tryz.name5b:Tryz.prog.globalNamed "math/bits.deBruijn64tab" = some 5:=by kernel_rfl
theorem zwq {L:List (String × DataW Unit)} {W:World} (h:laidMet ze L W) (h1:("unicode/utf8.first", Rows.laid_unicode_utf8_first)∈L) (h2:("unicode/utf8.acceptRanges", Rows.laid_unicode_utf8_acceptRanges)∈L)
 (h3:("internal/strconv.uint64pow10", Rows.laid_internal_strconv_uint64pow10)∈L) (h4:("math/bits.deBruijn64tab", Rows.laid_math_bits_deBruijn64tab)∈L):@Gl ⟨W.heap.size⟩ W:=by
 letI:OldK:=⟨W.heap.size⟩
 have hs:6≤W.heap.size:=by
  obtain⟨g,t,cs,fuel,p,hg,hty,hA,hd⟩:=Lib.laidMet.reads h h4;obtain rfl:=zx (Tryz.name5b.symm.trans hg);unfold World.var? at hA;rw[Tryz.name5b]at hA;simp only[Option.bind_some]at hA;rcases Nat.lt_or_ge 5 W.heap.size with hlt | hge
  ·exact hlt
  rw[Array.getElem?_eq_none hge]at hA;simp at hA
 refine Gl.of ⟨hs,zix (Lib.laidMet.reads h (d:=Lib.firstData) ?_) (Lib.laidMet.reads h (d:=Lib.acceptData) ?_),zh3 (Lib.laidMet.reads h (d:=Lib.tabData .u64 Lib.pow10Tab) ?_)⟩ (zt _)
 ·rw[show Lib.firstData=Rows.laid_unicode_utf8_first by kernel_rfl];exact h1
 ·rw[show Lib.acceptData=Rows.laid_unicode_utf8_acceptRanges by kernel_rfl];exact h2
 rw[show Lib.tabData .u64 Lib.pow10Tab=Rows.laid_internal_strconv_uint64pow10 by kernel_rfl];exact h3
end
end Go.Proofs.YtmgfncjfgkllcaaGreatDoor
