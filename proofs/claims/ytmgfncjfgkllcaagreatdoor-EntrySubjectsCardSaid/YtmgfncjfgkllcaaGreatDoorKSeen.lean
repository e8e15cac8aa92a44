/-
 Frames of worlds,and small laws that the walks of this seat use. Nothing here speaks of the program.
-/
import Derived.Test.YtmgfncjfgkllcaaGreatDoorChecked
import Derived.WalkKit
import Derived.WalkSpells
import Derived.WalkLawsBesides
import Derived.Lib.Hide
import Derived.Lib.OthersKept
import Derived.Deep.RegionHeld
import Derived.Test.YtmgfncjfgkllcaaGreatDoorKShelf
import Derived.Lib.FrozenHead2
import Derived.Maps.Views
import Derived.Maps.Keyed
import Derived.Maps.Own
import Derived.Carry
open Go.Lib renaming byteCells→zb,encodeRune→zc
open Go.Proofs.Tryz renaming prog→ze
namespace Go.Proofs.YtmgfncjfgkllcaaGreatDoor
set_option linter.unusedVariables false
set_option linter.unusedSimpArgs false
set_option linter.unusedSectionVars false
set_option maxRecDepth 100000
set_option maxHeartbeats 400000
section
open Go.RowKit
class OldK where
 k:Nat
@[reducible] def zch:OldK:=⟨0⟩
section
variable {P:Program} {ops:Array Oper} {Q:Exit→Act→World→Prop} {md:Region.Mode} {S:World→Prop}
theorem qS {α:Type}(l:List α)(i:Nat)(a:α):l.toArray.setIfInBounds i a=(l.set i a).toArray:=List.setIfInBounds_toArray l i a
theorem qS0 {α:Type}{a b:α}{l:List α}:(a :: l).set 0 b=b :: l:=rfl
theorem qS1 {α:Type}{a b:α}{l:List α}{n:Nat}:(a :: l).set (n+1) b=a :: l.set n b:=rfl
theorem qG {α:Type}{l:List α}{i:Nat}(h:i<l.toArray.size):l.toArray[i]=l[i]'(by simpa using h):=rfl
theorem qG0 {α:Type}{a:α}{l:List α}{h:0<(a :: l).length}:(a :: l)[0]=a:=rfl
theorem qG1 {α:Type}{a:α}{l:List α}{i:Nat}{h:i+1<(a :: l).length}:(a :: l)[i+1]=l[i]'(Nat.lt_of_succ_lt_succ h):=rfl
theorem qL {α:Type}(l:List α):l.toArray.size=l.length:=List.size_toArray
theorem qL0 {α:Type}:([]:List α).length=0:=rfl
theorem qL1 {α:Type}{a:α}{l:List α}:(a :: l).length=l.length+1:=rfl
theorem qR {α:Type}(n:Nat)(a:α):Array.replicate n a=(List.replicate n a).toArray:=rfl
theorem qR0 {α:Type}(a:α):List.replicate 0 a=[]:=rfl
theorem qR1 {α:Type}(n:Nat)(a:α):List.replicate (n+1) a=a :: List.replicate n a:=rfl
def nx:List Bool→Nat
 | []=>0
 | false :: _=>0
 | true :: l=>nx l+1
def mk1:List Bool→List Bool
 | []=>[]
 | false :: l=>true :: l
 | true :: l=>true :: mk1 l
theorem qM0 {l:List Bool}:mk1 (false :: l)=true :: l:=rfl
theorem qM1 {l:List Bool}:mk1 (true :: l)=true :: mk1 l:=rfl
theorem qQ:type_of% @qG∧type_of% @qG0∧type_of% @qG1:=⟨@qG,@qG0,@qG1⟩
theorem qP:type_of% @qS∧type_of% @qS0∧type_of% @qS1∧type_of% @qQ∧type_of% @qM0∧type_of% @qM1:=⟨@qS,@qS0,@qS1,qQ,@qM0,@qM1⟩
theorem qV:type_of% @qL∧type_of% @qL0∧type_of% @qL1∧type_of% @qR∧type_of% @qR0∧type_of% @qR1:=⟨@qL,@qL0,@qL1,@qR,@qR0,@qR1⟩
theorem zp1:∀ l:List Bool,l.set (nx l) true=mk1 l
 | []=>rfl
 | false :: _=>rfl
 | true :: l=>congrArg (true :: ·) (zp1 l)
def opN:List Bool→List Oper→Option Oper
 | false :: _,o :: _=>some o
 | true :: l,_ :: os=>opN l os
 | _,_=>none
theorem zkr:∀ (l:List Bool) (os:List Oper) (o:Oper),opN l os=some o→os[nx l]? = some o
 | [],_,_,h=>by cases h
 | false :: _,[],_,h=>by cases h
 | false :: _,o' :: _,o,h=>h
 | true :: _,[],_,h=>by cases h
 | true :: l,_ :: os,o,h=>zkr l os o h
theorem qi {i:Nat}{oi:Oper}{v:Value}{fuel:Nat}{listed:Array Bool}{a:Act}{w:World}(hi:ops[i]? = some oi)(hy:YieldsIf P ops S oi v a)(hS:S w)
 (h:wpAnyH P md ops Q S fuel (listed.setIfInBounds i true) (a.put oi.dst v) w) (hs:Region.noSelect ops=true:=by kernel_rfl) (hf:Region.free md ops listed i=true:=by kernel_rfl) (hr:(Region.ready md ops listed).contains i=true:=by kernel_rfl)
 (hQ:∀ c a w,Q (.panic c) (a.put oi.dst v) w→Q (.panic c) a w:=by exact fun _ _ _ h=>h):wpAnyH P md ops Q S (fuel+1) listed a w :=
 wpAnyH_take hi hs hf hr hQ hy hS h
theorem qt {l:List Bool}{oi:Oper}{v:Value}{fuel:Nat}{a:Act}{w:World}(hi:opN l ops.toList=some oi)(hy:YieldsIf P ops S oi v a)(hS:S w)
 (h:wpAnyH P md ops Q S fuel (mk1 l).toArray (a.put oi.dst v) w) (hs:Region.noSelect ops=true:=by kernel_rfl) (hf:Region.free md ops l.toArray (nx l)=true:=by kernel_rfl) (hr:(Region.ready md ops l.toArray).contains (nx l)=true:=by kernel_rfl)
 (hQ:∀ c a w,Q (.panic c) (a.put oi.dst v) w→Q (.panic c) a w:=by exact fun _ _ _ h=>h):wpAnyH P md ops Q S (fuel+1) l.toArray a w :=
 wpAnyH_take (by rw[← Array.getElem?_toList];exact zkr l _ _ hi) hs hf hr hQ hy hS (by rw[qS,zp1];exact h)
theorem qr {i:Nat}{o:Oper}{fuel:Nat}{listed:Array Bool}{a:Act}{w:World}(hr:Region.ready md ops listed=[i])(ho:ops[i]? = some o)
 (h:∀ K':Act→World→Prop,Shut (∀ a w,S w→(S w→wpAnyH P md ops Q S fuel (listed.setIfInBounds i true) a w)→K' a w)→if Region.wanted o (yielded ops a.tmps)=true then Oper.wp P o a w K' Q else K' (a.put o.dst undef) w):wpAnyH P md ops Q S (fuel+1) listed a w :=
 wpAnyH_ready hr (by simp) (.cons ho h .nil)
end

structure Fr (M:Nat→Obj→Prop) (w w':World):Prop where
 os:w'.os=w.os
 tape:w'.tape=w.tape
 output:w'.output=w.output
 size:w.heap.size≤w'.heap.size
 block:∀ k o,w.heap[k]? = some o→¬ M k o→w'.heap[k]? = some o
def NoB:Nat→Obj→Prop:=fun _ _=>False
def zbq (T:TypeId) (o:Obj):Prop:=∃ c f,o = .cells c T f
def One (r:Nat) (T:TypeId):Nat→Obj→Prop:=fun k o=>k=r∧zbq T o
theorem jb {w:World}{k:Nat}{o:Obj}(h:w.heap[k]? = some o):k<w.heap.size:=by
 rcases Nat.lt_or_ge k w.heap.size with h' | h'
 ·exact h'
 simp[Array.getElem?_eq_none h']at h
theorem zg0 {w:World}{k:Nat}(h:k<w.heap.size):∃ o,w.heap[k]? = some o:=⟨_,Array.getElem?_eq_getElem h⟩
section
variable {M M':Nat→Obj→Prop} {w w1 w2 w':World}
theorem Fr.refl:Fr M w w:=⟨rfl,rfl,rfl,Nat.le_refl _,fun _ _ h _=>h⟩
theorem Fr.mono (h:Fr M w w')(hM:∀ k o,M k o→M' k o):Fr M' w w' :=
 ⟨h.os,h.tape,h.output,h.size,fun k o hk hn=>h.block k o hk (fun hm=>hn (hM k o hm))⟩
theorem Fr.trans (h:Fr M w w1) (h':Fr M' w1 w2) (hM:∀ k o,M' k o→M k o∨w.heap.size≤k):Fr M w w2 :=
 ⟨h'.os.trans h.os,h'.tape.trans h.tape,h'.output.trans h.output,Nat.le_trans h.size h'.size,fun k o hk hn =>
  h'.block k o (h.block k o hk hn) (fun hm=>(hM k o hm).elim hn (fun hs=>by have:=jb hk;omega))⟩
theorem Fr.trans' (h:Fr M w w1)(h':Fr M w1 w2):Fr M w w2:=h.trans h' (fun _ _ x => .inl x)
theorem Fr.drew (h:Fr M w w1):Fr M w w1.drew:=⟨h.os,h.tape,h.output,h.size,h.block⟩
theorem Fr.alloc (h:Fr M w w1) (o:Obj):Fr M w (w1.alloc o) :=
 ⟨h.os,h.tape,h.output,by have:=h.size;simp;omega,fun k x hk hn=>by
  have hk1:=h.block k x hk hn
  rw[Below.heap_alloc _ _ _ (jb hk1)];exact hk1⟩
theorem Fr.setCell (h:Fr M w w1) (a:Addr) (v:Value) (ha:(∀ o,w.heap[a.block]? = some o→M a.block o)):Fr M w (w1.setCell a v) :=
 ⟨h.os,h.tape,h.output,by have:=h.size;simp;omega,fun k x hk hn=>by
  have hk1:=h.block k x hk hn
  rw[Below.heap_setCell _ _ _ _ (fun e=>hn (by subst e;exact ha x hk))];exact hk1⟩
theorem Fr.setNew (h:Fr M w w1)(a:Addr)(v:Value)(ha:w.heap.size≤a.block):Fr M w (w1.setCell a v) :=
 h.setCell a v (fun o ho=>by have:=jb ho;omega)
theorem Fr.ofBelow (h:Below w.heap.size w w'):Fr NoB w w' :=
 ⟨h.os,h.tape,h.output,h.size,fun k o hk _=>by rw[h.block k (jb hk)];exact hk⟩
theorem Fr.ofGrown {row:Option Nat}(h:w.grownBy w' row):Fr (fun k _=>some k=row) w w' :=
 ⟨h.os,h.tape,h.output,h.size,fun k o hk hn=>by rw[h.block k (jb hk) hn];exact hk⟩
theorem Fr.below (h:Fr M w w') {B:Nat} (hB:B≤w.heap.size) (hM:∀ k o,w.heap[k]? = some o→M k o→B≤k):Below B w w' :=
 ⟨h.os,h.tape,h.output,h.size,fun k hk=>by
  obtain⟨o,ho⟩:=zg0 (w:=w) (k:=k) (by omega)
  rw[ho];exact h.block k o ho (fun hm=>by have:=hM k o ho hm;omega)⟩
end

theorem zct (w:World)(q:Nat):Fr NoB w (w.drewN q):=by
 refine⟨rfl,rfl,rfl,Nat.le_refl _,fun k o h _=>h⟩
theorem zdj {α:Type}{l:List α}{i:Nat}{x:α}(h:l[i]? = some x):l.drop i=x :: l.drop (i+1):=by
 obtain⟨hi,rfl⟩:=List.getElem?_eq_some_iff.1 h;exact List.drop_eq_getElem_cons hi
theorem zdc {P:Program}{f:FuncId}{args:Array Value}{w:World}{v:Value}(T:World→Prop)(hc:Calls P f args w fun e w'=>e = .returned v∧w=w')(hT:T w) :
 Calls P f args w fun e w'=>e = .returned v∧T w':=hc.mono fun _ _ h=>⟨h.1,h.2▸hT⟩
theorem jy {a b:Bool}(h:a=b):Ending.returned (.bool a) = .returned (.bool b):=by rw[h]
theorem zb2 {k:IntKind}{a b:Int}(h:a=b):Ending.returned (.int k a) = .returned (.int k b):=by rw[h]
theorem zhk {a b:ByteArray}(h:a=b):Ending.returned (.string a) = .returned (.string b):=by rw[h]
end
section
open Go.RowKit

def MB (B b:Nat):Nat→Obj→Prop:=fun k o=>B≤k∧(k=b∨zbq 5 o)
def Bld (B b:Nat) (l:List UInt8) (w:World):Prop:=Lib.IsBuilder 198 5 B b (zb l) w
theorem Fr.ofOwn {w w':World} {B:Nat} {e:TypeId} {size:Nat} {v:Value} {n:Nat} {xs:List Value} (h:w.ownsRow B e size v n xs) (hg:w.grownBy w' v.ownBlock) :
 Fr (fun k o=>B≤k∧zbq e o) w w' :=
 ⟨hg.os,hg.tape,hg.output,hg.size,fun k o hk hn=>by
  rw[hg.block k (jb hk) ?_];exact hk;intro e1;rcases h.2 with⟨rfl,_⟩ | ⟨g,cap,cur,rfl,hB,hgg,_⟩
  ·simp[Value.ownBlock]at e1
  simp only[Value.ownBlock,Option.some.injEq]at e1;subst e1;rw[hgg]at hk
  exact hn ⟨hB,_,_,(Option.some.inj hk).symm⟩⟩
theorem Bld.lt {B b:Nat}{l:List UInt8}{w:World}(h:Bld B b l w):b<w.heap.size:=by
 rcases h with h | h<;>exact h.lt
theorem Bld.base {B b:Nat}{l:List UInt8}{w:World}(h:Bld B b l w):B≤b:=by
 rcases h with h | h<;>exact h.1
theorem Bld.fresh (w:World):Bld w.heap.size w.heap.size [] (w.alloc (.cells #[.pointer none,.slice none 0 0] 198)):=Lib.fresh_isBuilder _ _ _
theorem Bld.ty {B b:Nat}{l:List UInt8}{w:World}(h:Bld B b l w):∃ o,w.heap[b]? = some o∧zbq 198 o:=by
 rcases h with⟨_,v,hb,_⟩ | ⟨_,v,hb,_⟩<;>exact⟨_,hb,_,_,rfl⟩
theorem Bld.fr {M:Nat→Obj→Prop} {B b:Nat} {l:List UInt8} {w w':World} (h:Bld B b l w) (hF:Fr M w w')
 (hM:∀ k o,w.heap[k]? = some o→B≤k→(k=b∨zbq 5 o)→¬ M k o):Bld B b l w':=by
 have go:∀ p,Lib.BuilderAt 198 5 B b p (zb l) w→Lib.BuilderAt 198 5 B b p (zb l) w':=by
  rintro p ⟨hB,v,hb,hA,hC⟩;refine⟨hB,v,hF.block _ _ hb (hM _ _ hb hB (.inl rfl)),⟨hA.1,?_⟩,hC⟩;rcases hA.2 with h1 | ⟨g,cap,cur,rfl,hbg,hg,rest⟩
  ·exact .inl h1
  exact .inr ⟨g,cap,cur,rfl,hbg,hF.block _ _ hg (hM _ _ hg hbg (.inr ⟨_,_,rfl⟩)),rest⟩
 exact h.imp (go _) (go _)
theorem zew:(Tryz.prog.info? 198).map (·.size)=some 2:=by kernel_rfl
theorem zh3:liesAt ze Tryz.prog.depth 198 (2 / Tryz.prog.cellsOf 198) 0 198 1=true:=by kernel_rfl
theorem zbp:(Tryz.prog.info? 5).map (fun i=>(i.zero,i.size,i.bytes))=some (some (.int .u8 0),1,1):=by kernel_rfl
theorem zgc (B b:Nat) (bs:List Value) (w:World) (h:Lib.IsBuilder 198 5 B b bs w) :
 Calls ze 227 #[.pointer (some ⟨b,0,none⟩)] w fun e w'=>e = .returned (.tuple #[])∧Lib.BuilderAt 198 5 B b (.pointer (some ⟨b,0,none⟩)) bs w'∧Fr (MB B b) w w':=by
 rcases h with h | h
 ·have c0:=h.cell0;have f0:=h.frozen0;have hA:=h.shape;go_enter Tryz.func227,Tryz.ntmps227;obtain⟨j,hj,hB⟩:=Option.map_eq_some_iff.1 zew
  go_wp2
  rw[Lib.run_to_unsafe w ⟨b,0,none⟩ Tryz.underlying196 Tryz.underlying337 hj (by rw[hB];decide) hA (Nat.zero_lt_succ 1)];simp only[Result.andThen];rw[Oper.upon_value]
  go_wp2
  rw[run_callFunc_extern Tryz.func274 (by kernel_rfl) (by kernel_rfl) (by kernel_rfl) (e:=Extern.AbiNoEscape.same) (by kernel_rfl)];rw[Lib.run_noEscape];simp only[Result.andThen];rw[Oper.upon_value]
  go_wp2
  rw[Lib.run_from_unsafe w ⟨b,0,none⟩ Tryz.underlying337 Tryz.underlying196 hj hA zh3];simp only[Result.andThen];rw[Oper.upon_value]
  go_wp2
  go_end0
  exact⟨rfl,h.used _,Fr.refl.setCell _ _ (fun _ _=>⟨h.1,.inl rfl⟩)⟩
 have c0:=h.cell0;go_enter Tryz.func227,Tryz.ntmps227;obtain⟨j,hj,_⟩:=Option.map_eq_some_iff.1 zew
 go_wp2
 rw[Lib.run_neq_ptr_same w _ Tryz.underlying196 hj]
 go_wp2
 go_end0
 exact⟨rfl,h,Fr.refl⟩
theorem zaw (B b:Nat) (l:List UInt8) (c:UInt8) (w:World) (h:Bld B b l w) (hlen:l.length+1≤140737488355328) :
 Calls ze 200 #[.pointer (some ⟨b,0,none⟩),.int .u8 c.toNat] w fun e w'=>e = .returned .nilIface∧Bld B b (l++[c]) w'∧Fr (MB B b) w w':=by
 obtain⟨i0,hi,hJ,hI,hH⟩:=info_parts zbp;go_enter Tryz.func200,Tryz.ntmps200
 go_wp2_with fail
 refine(zgc B b _ _ h).mono ?_;rintro e w1 ⟨rfl,h1,hN⟩;have hBb:=h1.1;obtain⟨hB,v,hE,hD,hK⟩:=h1;have c0:w1.cell? ⟨b,0,none⟩=some (.pointer (some ⟨b,0,none⟩)):=by rw[Lib.cell_of_heap hE];rfl
 have c1:w1.cell? ⟨b,1,none⟩=some v:=by rw[Lib.cell_of_heap hE];rfl
 have hL:b<w1.heap.size:=jb hE
 go_wp2_with(at_builtin;refine wpList_append_own _ rfl _ _ 24 rfl B 5 i0 (.int .u8 0) 1 1 Tryz.underlying24 hi hJ hI hH rfl (by decide) _ _ _ rfl (hD.alloc _) ⟨w1.heap.size,0,none⟩ 1 1 [.int .u8 c.toNat] rfl rfl ?c1 ?c2 ?c3 ?c4 ?c5 ?_)
 case c1=>exact cell_one_new _ _ _
 case c2=>intro u hu;simp at hu;subst hu;rfl
 case c3=>unfold maxLen;rw[Lib.byteCells_length];omega
 case c4=>rw[Lib.byteCells_length];omega
 case c5=>simp;omega
 intro v' w2 hA hC _;have hM:Fr (MB B b) w w2:=(hN.alloc (.cells #[.int .u8 c.toNat] 5)).trans (Fr.ofOwn (hD.alloc _) hC) (fun k o hk => .inl ⟨hk.1,.inr hk.2⟩)
 have hF:w2.heap[b]? = some (.cells #[.pointer (some ⟨b,0,none⟩),v] 198 (0,0)):=by
  rw[hC.block b (by simp;omega) (fun e=>hK e.symm),Lib.alloc_old w1 _ b hL];exact hE
 have d1:w2.cell? ⟨b,1,none⟩=some v:=by rw[Lib.cell_of_heap hF];rfl
 have f1:w2.frozen? ⟨b,1,none⟩=false:=Lib.frozen_of_heap hF 1
 obtain ⟨ao,n',hG,rfl⟩:∃ ao n' hG,v' = .slice ao n' hG:=by
  rcases hA.2 with⟨hv,_⟩ | ⟨g,hG,cur,hv,_⟩
  ·exact⟨_,_,_,hv⟩
  exact⟨_,_,_,hv⟩
 go_wp2
 go_ret;refine⟨rfl,.inr ?_,hM.setCell _ _ (fun _ _=>⟨hB,.inl rfl⟩)⟩;have hx:zb (l++[c])=zb l++[.int .u8 c.toNat]:=by rw[Lib.byteCells_append];rfl
 rw[hx];exact Lib.BuilderAt.put hB hF (by simpa using hA) (by decide)
theorem zbj (B b:Nat) (l s:List UInt8) (w:World) (h:Bld B b l w) (hlen:l.length+s.length≤140737488355328) :
 Calls ze 158 #[.pointer (some ⟨b,0,none⟩),.string ⟨s.toArray⟩] w fun e w'=>e = .returned (.tuple #[.int .i64 s.length,.nilIface])∧Bld B b (l++s) w'∧Fr (MB B b) w w':=by
 obtain⟨i0,hi,hK,hJ,hI⟩:=info_parts zbp;go_enter Tryz.func158,Tryz.ntmps158
 go_wp2_with fail
 refine(zgc B b _ _ h).mono ?_;rintro e w1 ⟨rfl,h1,hO⟩;have hBb:=h1.1;obtain⟨hB,v,hE,hD,hL⟩:=h1;have c0:w1.cell? ⟨b,0,none⟩=some (.pointer (some ⟨b,0,none⟩)):=by rw[Lib.cell_of_heap hE];rfl
 have c1:w1.cell? ⟨b,1,none⟩=some v:=by rw[Lib.cell_of_heap hE];rfl
 have hM:b<w1.heap.size:=jb hE;have hF:(ByteArray.mk s.toArray).size=s.length:=rfl
 go_wp2_with(at_builtin;refine Lib.wpList_append_own_string _ rfl _ _ 24 9 rfl B 5 i0 Tryz.underlying24 Tryz.underlying9 hi hK hJ hI _ _ _ rfl hD ⟨s.toArray⟩ rfl ?c3 ?c4 ?c5 ?_)
 case c3=>unfold maxLen;rw[Lib.byteCells_length,hF];omega
 case c4=>rw[Lib.byteCells_length,hF];omega
 case c5=>omega
 intro v' w2 hA hC _;have hN:Fr (MB B b) w w2:=hO.trans (Fr.ofOwn hD hC) (fun k o hk => .inl ⟨hk.1,.inr hk.2⟩)
 have hG:w2.heap[b]? = some (.cells #[.pointer (some ⟨b,0,none⟩),v] 198 (0,0)):=by
  rw[hC.block b hM (fun e=>hL e.symm)];exact hE
 have d1:w2.cell? ⟨b,1,none⟩=some v:=by rw[Lib.cell_of_heap hG];rfl
 have f1:w2.frozen? ⟨b,1,none⟩=false:=Lib.frozen_of_heap hG 1
 obtain ⟨ao,n',hH,rfl⟩:∃ ao n' hH,v' = .slice ao n' hH:=by
  rcases hA.2 with⟨hv,_⟩ | ⟨g,hH,cur,hv,_⟩
  ·exact⟨_,_,_,hv⟩
  exact⟨_,_,_,hv⟩
 clear hF
 go_wp2
 go_ret2;refine⟨rfl,.inr ?_,hN.setCell _ _ (fun _ _=>⟨hB,.inl rfl⟩)⟩;rw[Lib.byteCells_append];exact Lib.BuilderAt.put hB hG (by simpa[Lib.strCells_eq,Lib.byteCells_length] using hA) (by decide)
theorem zi6 (r:Int) (h0 : -2147483648≤r) (h1:r≤2147483647):Lib.runeCells r=zb (zc r):=by
 unfold Lib.runeCells zb zc;rw[List.map_map];apply List.map_congr_left;intro x hx
 have hx':0≤x∧x<256:=by
  unfold Lib.encodeRuneZ at hx;split at hx
  ·simp at hx;omega
  split at hx
  ·simp at hx;omega
  split at hx
  ·simp at hx;omega
  split at hx
  ·simp at hx;omega
  simp at hx;omega
 simp;omega
theorem zcm (B b:Nat) (l:List UInt8) (r:Int) (h0 : -2147483648≤r) (h1:r≤2147483647) (w:World) (h:Bld B b l w) (hlen:l.length+4≤140737488355328) :
 Calls ze 199 #[.pointer (some ⟨b,0,none⟩),.int .i32 r] w fun e w'=>e = .returned (.tuple #[.int .i64 (zc r).length,.nilIface])∧Bld B b (l++zc r) w'∧Fr (MB B b) w w':=by
 have hI:=Lib.hid (zi6 r h0 h1);go_enter Tryz.func199,Tryz.ntmps199
 go_wp2_with fail
 refine(zgc B b _ _ h).mono ?_;rintro e w1 ⟨rfl,hK,hP⟩;have hBb:=hK.1;obtain⟨hB,v,hE,hA,hM⟩:=hK;have c0:w1.cell? ⟨b,0,none⟩=some (.pointer (some ⟨b,0,none⟩)):=by rw[Lib.cell_of_heap hE];rfl
 have hN:b<w1.heap.size:=jb hE
 obtain ⟨ao,hH,hv⟩:∃ ao hH,v = .slice ao (zb l).length hH:=by
  rcases hA.2 with⟨hv,h0'⟩ | ⟨g,hH,cur,hv,_⟩
  ·exact⟨_,_,hv.trans (by rw[h0'])⟩
  exact⟨_,_,hv⟩
 have c1:w1.cell? ⟨b,1,none⟩=some (.slice ao (zb l).length hH):=by rw[Lib.cell_of_heap hE,hv];rfl
 have Hv:=Lib.hid hv;clear hv
 go_wp2_with fail
 rw[← Hv.out];refine(Go.Proofs.Tryz.utf8_AppendRune_plain B v _ _ r h0 h1 _ hA (by rw[Lib.byteCells_length];omega) (by omega)).mono ?_;rintro e w2 ⟨v',rfl,hC,o,hD⟩;have hO:Fr (MB B b) w w2:=(hP.alloc o).trans (Fr.ofOwn (hA.alloc _) hD) (fun k o hk => .inl ⟨hk.1,.inr hk.2⟩)
 have hF:w2.heap[b]? = some (.cells #[.pointer (some ⟨b,0,none⟩),v] 198 (0,0)):=by
  rw[hD.block b (by simp;omega) (fun e=>hM e.symm),Lib.alloc_old w1 _ b hN];exact hE
 have d0:w2.cell? ⟨b,0,none⟩=some (.pointer (some ⟨b,0,none⟩)):=by rw[Lib.cell_of_heap hF];rfl
 have d1:w2.cell? ⟨b,1,none⟩=some v:=by rw[Lib.cell_of_heap hF];rfl
 have f1:w2.frozen? ⟨b,1,none⟩=false:=Lib.frozen_of_heap hF 1
 obtain ⟨hL,hG,rfl⟩:∃ hL hG,v' = .slice hL ((zb l).length+(Lib.runeCells r).length) hG:=by
  rcases hC.2 with⟨hv,h0'⟩ | ⟨g,hH,cur,hv,_⟩
  ·exact⟨_,_,hv.trans (by rw[h0'])⟩
  exact⟨_,_,hv⟩
 have hJ:(zb l).length=l.length:=Lib.byteCells_length l
 have hL2:(Lib.runeCells r).length≤4:=by
  rw[hI.out,Lib.byteCells_length];unfold zc;rw[List.length_map];unfold Lib.encodeRuneZ;repeat' split
  all_goals simp
 generalize hq:(zb l).length=q at *;generalize hp:(Lib.runeCells r).length=p at *;have Hq:=Lib.hid hq;have Hp:=Lib.hid hp;have HL:=Lib.hid hJ;have hQ:=Lib.hid hF;clear hq hp hJ hA h hE hF;have hql:q≤140737488355328:=by have:=HL.out;omega
 go_wp2
 go_ret2;have hq:=Hq.out;have hp:=Hp.out;have hx:((q:Int)+p - q)=((zc r).length:Int):=by rw[← hp,hI.out,Lib.byteCells_length];omega
 refine⟨by simp[hx],.inr ?_,hO.setCell _ _ (fun _ _=>⟨hB,.inl rfl⟩)⟩;rw[Lib.byteCells_append,← hI.out];refine Lib.BuilderAt.put hB hQ.out (by rw[List.length_append,hq,hp];exact hC) (by decide)
theorem zgj (B b:Nat)(l:List UInt8)(w:World)(h:Bld B b l w) :
 Calls ze 129 #[.pointer (some ⟨b,0,none⟩)] w fun e w'=>e = .returned (.string ⟨l.toArray⟩)∧Fr (MB B b) w w':=by
 refine(Go.Proofs.Tryz.Builder_String_any_k B b l w (Lib.IsBuilderF.of h) (Nat.le_trans h.base (Nat.le_of_lt h.lt))).mono ?_;rintro e w' ⟨rfl,_,hb,ho⟩;refine⟨rfl,hb.os,hb.tape,hb.output,hb.size,fun k o hk hn=>?_⟩;rcases Nat.lt_or_ge k B with h1 | h1
 ·rw[hb.block k h1];exact hk
 refine ho k o hk (fun e=>hn ⟨h1,.inl (by simpa using e)⟩) (fun c fz e=>hn ⟨h1,.inr ⟨c,fz,e⟩⟩)
theorem z1a (B b:Nat)(l:List UInt8)(w:World)(h:Bld B b l w) :
 Calls ze 128 #[.pointer (some ⟨b,0,none⟩)] w fun e w'=>e = .returned (.int .i64 l.length)∧w=w':=by
 refine(Go.Proofs.Tryz.Builder_Len B b _ w h).mono ?_;rintro e w' ⟨rfl,rfl⟩;exact⟨by rw[Lib.byteCells_length],rfl⟩
end
section
open Go.RowKit

def Seen (mb n:Nat) (names:List (List UInt8)) (w:World):Prop :=
 ∃ D:DataW Unit,w.ownsMap ze 9 (plainElem ze 4) mb n D∧Maps.IsMap D ∧
  ∀ nm,D.atKey (.string nm) (.lit (.bool false)) = .lit (.bool (names.contains nm))
theorem Seen.lt {mb n:Nat}{names:List (List UInt8)}{w:World}(h:Seen mb n names w):mb<w.heap.size:=by obtain⟨D,h,_⟩:=h;exact h.lt
theorem Seen.made (w:World):Seen w.heap.size 0 [] (w.alloc (.map #[] 0)) :=
 ⟨.map [],World.ownsMap_made w _ _ _,⟨_,rfl⟩,fun _=>rfl⟩
theorem Seen.same {mb n:Nat}{names:List (List UInt8)}{w w':World}(h:Seen mb n names w)(hb:w'.heap[mb]? = w.heap[mb]?):Seen mb n names w':=by
 obtain⟨D,⟨es,hA,h1,F,h2,h3⟩,hm,ha⟩:=h;exact⟨D,⟨es,hA,hb.trans h1,F,h2,h3⟩,hm,ha⟩
def zfh (o:Obj):Prop:=∃ es c,o = .map es c
theorem Seen.fr {M:Nat→Obj→Prop}{mb n:Nat}{names:List (List UInt8)}{w w':World}(h:Seen mb n names w)(hF:Fr M w w')(hM:∀ o,zfh o→¬ M mb o):Seen mb n names w':=by
 refine h.same ?_;obtain⟨D,⟨es,clock,h1,_⟩,_⟩:=h;rw[h1];exact hF.block _ _ h1 (hM _ ⟨_,_,rfl⟩)
theorem zv7:∀ w,(zeroValue 4).run ze w = .ok (.bool false) w:=fun w=>by kernel_rfl
theorem zyo (nm:List UInt8)(hnm:nm.length≤maxLen):keyOf ze 9 (.string ⟨nm.toArray⟩)=some (.string nm):=by
 rw[keyOf_string Tryz.underlying9];have:(ByteArray.mk nm.toArray).size≤maxLen:=hnm;simp[mapKey,Tryz.underlying9,this]
theorem Seen.look {mb n:Nat}{names:List (List UInt8)}{w:World}(h:Seen mb n names w)(nm:List UInt8)(hnm:nm.length≤maxLen) :
 (Instr.lookup 280 (.map (some mb)) (.string ⟨nm.toArray⟩) false).run ze w = .ok (.bool (names.contains nm)) w:=by
 obtain⟨D,hB,hm,ha⟩:=h;obtain⟨v,ps,hA,hv⟩:=hB.lookup (Maps.string_keyed Tryz.underlying9) Tryz.underlying280 (zv7 w) (plainElem_bool Tryz.underlying4 false) (zyo nm hnm);rw[ha nm]at hv;rw[hA];cases v<;>simp[plainElem,Tryz.underlying4]at hv;rw[hv.1];simp
theorem Seen.put {mb n:Nat} {names:List (List UInt8)} {w:World} (h:Seen mb n names w) (nm:List UInt8) (hnm:nm.length≤maxLen) (hn:n<maxLen) :
 ∃ w',(Instr.mapUpdate 280 (.map (some mb)) (.string ⟨nm.toArray⟩) (.bool true)).run ze w = .ok () w'∧Seen mb (n+1) (names++[nm]) w'∧w.grownBy w' (some mb)∧(∃ o,w.heap[mb]? = some o∧zfh o):=by
 obtain⟨D,hB,hm,ha⟩:=h
 have hD:∃ o,w.heap[mb]? = some o∧zfh o:=by
  obtain⟨es,clock,h1,_⟩:=hB;exact⟨_,h1,_,_,rfl⟩
 obtain⟨w',hC,hA,hg⟩:=hB.update (Maps.string_keyed Tryz.underlying9) Tryz.underlying280 hn (zyo nm hnm) (plainElem_bool Tryz.underlying4 true);refine⟨w',hC,⟨_,hA,?_,fun x=>?_⟩,hg,hD⟩
 ·obtain⟨es,rfl⟩:=hm;exact⟨_,rfl⟩
 by_cases hx:x=nm
 ·subst hx;rw[Maps.atKey_put_same hm (by simp[WideAt.IsKeyLit])];simp
 rw[Maps.atKey_put_other (by simpa using hx),ha x];simp[hx]
end
end Go.Proofs.YtmgfncjfgkllcaaGreatDoor
