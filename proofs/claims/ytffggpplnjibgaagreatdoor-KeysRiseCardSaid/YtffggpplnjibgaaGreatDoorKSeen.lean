/-
 Frames of worlds,and small laws that the walks of this seat use. Nothing here speaks of the program.
-/
import Derived.Test.YtffggpplnjibgaaGreatDoorChecked
import Derived.WalkKit
import Derived.WalkSpells
import Derived.WalkLawsBesides
import Derived.Lib.Hide
import Derived.Lib.OthersKept
import Derived.Deep.RegionHeld
import Derived.Maps.Views
import Derived.Maps.Keyed
import Derived.Maps.Own
import Derived.Carry
namespace Go.Proofs.YtffggpplnjibgaaGreatDoor
set_option linter.unusedVariables false
set_option linter.unusedSimpArgs false
set_option linter.unusedSectionVars false
section
open Go.RowKit
class OldK where
 k:Nat
@[reducible] def zaj:OldK:=⟨0⟩
section
variable {P:Program} {ops:Array Oper} {Q:Exit→Act→World→Prop} {md:Region.Mode} {S:World→Prop}
theorem qS {α:Type}(l:List α)(i:Nat)(a:α):l.toArray.setIfInBounds i a=(l.set i a).toArray:=List.setIfInBounds_toArray l i a
theorem qS0 {α:Type}{a b:α}{l:List α}:(a :: l).set 0 b=b :: l:=rfl
theorem qS1 {α:Type}{a b:α}{l:List α}{n:Nat}:(a :: l).set (n+1) b=a :: l.set n b:=rfl
theorem qG {α:Type}{l:List α}{i:Nat}(h:i<l.toArray.size):l.toArray[i]=l[i]'(by simpa using h):=rfl
theorem qG0 {α:Type}{a:α}{l:List α}{h:0<(a :: l).length}:(a :: l)[0]=a:=rfl
theorem qG1 {α:Type}{a:α}{l:List α}{i:Nat}{h:i+1<(a :: l).length}:(a :: l)[i+1]=l[i]'(Nat.lt_of_succ_lt_succ h):=rfl
theorem qL {α:Type}(l:List α):l.toArray.size=l.length:=List.size_toArray
theorem qL0 {α:Type}:([]:List α).length=0:=rfl
theorem qL1 {α:Type}{a:α}{l:List α}:(a :: l).length=l.length+1:=rfl
theorem qR {α:Type}(n:Nat)(a:α):Array.replicate n a=(List.replicate n a).toArray:=rfl
theorem qR0 {α:Type}(a:α):List.replicate 0 a=[]:=rfl
theorem qR1 {α:Type}(n:Nat)(a:α):List.replicate (n+1) a=a :: List.replicate n a:=rfl
def nx:List Bool→Nat
 | []=>0
 | false :: _=>0
 | true :: l=>nx l+1
def mk1:List Bool→List Bool
 | []=>[]
 | false :: l=>true :: l
 | true :: l=>true :: mk1 l
theorem qM0 {l:List Bool}:mk1 (false :: l)=true :: l:=rfl
theorem qM1 {l:List Bool}:mk1 (true :: l)=true :: mk1 l:=rfl
theorem qQ:type_of% @qG∧type_of% @qG0∧type_of% @qG1:=⟨@qG,@qG0,@qG1⟩
theorem qP:type_of% @qS∧type_of% @qS0∧type_of% @qS1∧type_of% @qQ∧type_of% @qM0∧type_of% @qM1:=⟨@qS,@qS0,@qS1,qQ,@qM0,@qM1⟩
theorem qV:type_of% @qL∧type_of% @qL0∧type_of% @qL1∧type_of% @qR∧type_of% @qR0∧type_of% @qR1:=⟨@qL,@qL0,@qL1,@qR,@qR0,@qR1⟩
theorem zlq:∀ l:List Bool,l.set (nx l) true=mk1 l
 | []=>rfl
 | false :: _=>rfl
 | true :: l=>congrArg (true :: ·) (zlq l)
def opN:List Bool→List Oper→Option Oper
 | false :: _,o :: _=>some o
 | true :: l,_ :: os=>opN l os
 | _,_=>none
theorem zju:∀ (l:List Bool) (os:List Oper) (o:Oper),opN l os=some o→os[nx l]? = some o
 | [],_,_,h=>by cases h
 | false :: _,[],_,h=>by cases h
 | false :: _,o' :: _,o,h=>h
 | true :: _,[],_,h=>by cases h
 | true :: l,_ :: os,o,h=>zju l os o h
theorem qi {i:Nat}{oi:Oper}{v:Value}{fuel:Nat}{listed:Array Bool}{a:Act}{w:World}(hi:ops[i]? = some oi)(hy:YieldsIf P ops S oi v a)(hS:S w)
 (h:wpAnyH P md ops Q S fuel (listed.setIfInBounds i true) (a.put oi.dst v) w) (hs:Region.noSelect ops=true:=by kernel_rfl) (hf:Region.free md ops listed i=true:=by kernel_rfl) (hr:(Region.ready md ops listed).contains i=true:=by kernel_rfl)
 (hQ:∀ c a w,Q (.panic c) (a.put oi.dst v) w→Q (.panic c) a w:=by exact fun _ _ _ h=>h):wpAnyH P md ops Q S (fuel+1) listed a w :=
 wpAnyH_take hi hs hf hr hQ hy hS h
theorem qt {l:List Bool}{oi:Oper}{v:Value}{fuel:Nat}{a:Act}{w:World}(hi:opN l ops.toList=some oi)(hy:YieldsIf P ops S oi v a)(hS:S w)
 (h:wpAnyH P md ops Q S fuel (mk1 l).toArray (a.put oi.dst v) w) (hs:Region.noSelect ops=true:=by kernel_rfl) (hf:Region.free md ops l.toArray (nx l)=true:=by kernel_rfl) (hr:(Region.ready md ops l.toArray).contains (nx l)=true:=by kernel_rfl)
 (hQ:∀ c a w,Q (.panic c) (a.put oi.dst v) w→Q (.panic c) a w:=by exact fun _ _ _ h=>h):wpAnyH P md ops Q S (fuel+1) l.toArray a w :=
 wpAnyH_take (by rw[← Array.getElem?_toList];exact zju l _ _ hi) hs hf hr hQ hy hS (by rw[qS,zlq];exact h)
theorem qr {i:Nat}{o:Oper}{fuel:Nat}{listed:Array Bool}{a:Act}{w:World}(hr:Region.ready md ops listed=[i])(ho:ops[i]? = some o)
 (h:∀ K':Act→World→Prop,Shut (∀ a w,S w→(S w→wpAnyH P md ops Q S fuel (listed.setIfInBounds i true) a w)→K' a w)→if Region.wanted o (yielded ops a.tmps)=true then Oper.wp P o a w K' Q else K' (a.put o.dst undef) w):wpAnyH P md ops Q S (fuel+1) listed a w :=
 wpAnyH_ready hr (by simp) (.cons ho h .nil)
end

structure Fr (M:Nat→Obj→Prop) (w w':World):Prop where
 os:w'.os=w.os
 tape:w'.tape=w.tape
 output:w'.output=w.output
 size:w.heap.size≤w'.heap.size
 block:∀ k o,w.heap[k]? = some o→¬ M k o→w'.heap[k]? = some o
def NoB:Nat→Obj→Prop:=fun _ _=>False
def OfTy (T:TypeId) (o:Obj):Prop:=∃ c f,o = .cells c T f
def One (r:Nat) (T:TypeId):Nat→Obj→Prop:=fun k o=>k=r∧OfTy T o
theorem jq {w:World}{k:Nat}{o:Obj}(h:w.heap[k]? = some o):k<w.heap.size:=by
 rcases Nat.lt_or_ge k w.heap.size with h' | h'
 ·exact h'
 simp[Array.getElem?_eq_none h']at h
theorem zb2 {w:World}{k:Nat}(h:k<w.heap.size):∃ o,w.heap[k]? = some o:=⟨_,Array.getElem?_eq_getElem h⟩
section
variable {M M':Nat→Obj→Prop} {w w1 w2 w':World}
theorem Fr.refl:Fr M w w:=⟨rfl,rfl,rfl,Nat.le_refl _,fun _ _ h _=>h⟩
theorem Fr.mono (h:Fr M w w')(hM:∀ k o,M k o→M' k o):Fr M' w w' :=
 ⟨h.os,h.tape,h.output,h.size,fun k o hk hn=>h.block k o hk (fun hm=>hn (hM k o hm))⟩
theorem Fr.trans (h:Fr M w w1) (h':Fr M' w1 w2) (hM:∀ k o,M' k o→M k o∨w.heap.size≤k):Fr M w w2 :=
 ⟨h'.os.trans h.os,h'.tape.trans h.tape,h'.output.trans h.output,Nat.le_trans h.size h'.size,fun k o hk hn =>
  h'.block k o (h.block k o hk hn) (fun hm=>(hM k o hm).elim hn (fun hs=>by have:=jq hk;omega))⟩
theorem Fr.trans' (h:Fr M w w1)(h':Fr M w1 w2):Fr M w w2:=h.trans h' (fun _ _ x => .inl x)
theorem Fr.drew (h:Fr M w w1):Fr M w w1.drew:=⟨h.os,h.tape,h.output,h.size,h.block⟩
theorem Fr.alloc (h:Fr M w w1) (o:Obj):Fr M w (w1.alloc o) :=
 ⟨h.os,h.tape,h.output,by have:=h.size;simp;omega,fun k x hk hn=>by
  have hk1:=h.block k x hk hn
  rw[Below.heap_alloc _ _ _ (jq hk1)];exact hk1⟩
theorem Fr.setCell (h:Fr M w w1) (a:Addr) (v:Value) (ha:(∀ o,w.heap[a.block]? = some o→M a.block o)):Fr M w (w1.setCell a v) :=
 ⟨h.os,h.tape,h.output,by have:=h.size;simp;omega,fun k x hk hn=>by
  have hk1:=h.block k x hk hn
  rw[Below.heap_setCell _ _ _ _ (fun e=>hn (by subst e;exact ha x hk))];exact hk1⟩
theorem Fr.setNew (h:Fr M w w1)(a:Addr)(v:Value)(ha:w.heap.size≤a.block):Fr M w (w1.setCell a v) :=
 h.setCell a v (fun o ho=>by have:=jq ho;omega)
theorem Fr.ofBelow (h:Below w.heap.size w w'):Fr NoB w w' :=
 ⟨h.os,h.tape,h.output,h.size,fun k o hk _=>by rw[h.block k (jq hk)];exact hk⟩
theorem Fr.ofGrown {row:Option Nat}(h:w.grownBy w' row):Fr (fun k _=>some k=row) w w' :=
 ⟨h.os,h.tape,h.output,h.size,fun k o hk hn=>by rw[h.block k (jq hk) hn];exact hk⟩
theorem Fr.below (h:Fr M w w') {B:Nat} (hB:B≤w.heap.size) (hM:∀ k o,w.heap[k]? = some o→M k o→B≤k):Below B w w' :=
 ⟨h.os,h.tape,h.output,h.size,fun k hk=>by
  obtain⟨o,ho⟩:=zb2 (w:=w) (k:=k) (by omega)
  rw[ho];exact h.block k o ho (fun hm=>by have:=hM k o ho hm;omega)⟩
end

theorem ze3 (w:World)(q:Nat):Fr NoB w (w.drewN q):=by
 refine⟨rfl,rfl,rfl,Nat.le_refl _,fun k o h _=>h⟩
theorem zm0 {α:Type}{l:List α}{i:Nat}{x:α}(h:l[i]? = some x):l.drop i=x :: l.drop (i+1):=by
 obtain⟨hi,rfl⟩:=List.getElem?_eq_some_iff.1 h;exact List.drop_eq_getElem_cons hi
theorem za3 {P:Program}{f:FuncId}{args:Array Value}{w:World}{v:Value}(T:World→Prop)(hc:Calls P f args w fun e w'=>e = .returned v∧w=w')(hT:T w) :
 Calls P f args w fun e w'=>e = .returned v∧T w':=hc.mono fun _ _ h=>⟨h.1,h.2▸hT⟩
theorem ju {a b:Bool}(h:a=b):Ending.returned (.bool a) = .returned (.bool b):=by rw[h]
theorem zpq {k:IntKind}{a b:Int}(h:a=b):Ending.returned (.int k a) = .returned (.int k b):=by rw[h]
theorem zlv {a b:ByteArray}(h:a=b):Ending.returned (.string a) = .returned (.string b):=by rw[h]
end
section
open Go.RowKit

def Seen (mb n:Nat) (names:List (List UInt8)) (w:World):Prop :=
 ∃ D:DataW Unit,w.ownsMap Tryz.prog 9 (plainElem Tryz.prog 4) mb n D∧Maps.IsMap D ∧
  ∀ nm,D.atKey (.string nm) (.lit (.bool false)) = .lit (.bool (names.contains nm))
theorem Seen.lt {mb n:Nat}{names:List (List UInt8)}{w:World}(h:Seen mb n names w):mb<w.heap.size:=by obtain⟨D,h,_⟩:=h;exact h.lt
theorem Seen.made (w:World):Seen w.heap.size 0 [] (w.alloc (.map #[] 0)) :=
 ⟨.map [],World.ownsMap_made w _ _ _,⟨_,rfl⟩,fun _=>rfl⟩
theorem Seen.same {mb n:Nat}{names:List (List UInt8)}{w w':World}(h:Seen mb n names w)(hb:w'.heap[mb]? = w.heap[mb]?):Seen mb n names w':=by
 obtain⟨D,⟨es,hA,h1,F,h2,h3⟩,hm,ha⟩:=h;exact⟨D,⟨es,hA,hb.trans h1,F,h2,h3⟩,hm,ha⟩
def zcp (o:Obj):Prop:=∃ es c,o = .map es c
theorem Seen.fr {M:Nat→Obj→Prop}{mb n:Nat}{names:List (List UInt8)}{w w':World}(h:Seen mb n names w)(hF:Fr M w w')(hM:∀ o,zcp o→¬ M mb o):Seen mb n names w':=by
 refine h.same ?_;obtain⟨D,⟨es,clock,h1,_⟩,_⟩:=h;rw[h1];exact hF.block _ _ h1 (hM _ ⟨_,_,rfl⟩)
theorem znf:∀ w,(zeroValue 4).run Tryz.prog w = .ok (.bool false) w:=fun w=>by kernel_rfl
theorem zo9 (nm:List UInt8)(hnm:nm.length≤maxLen):keyOf Tryz.prog 9 (.string ⟨nm.toArray⟩)=some (.string nm):=by
 rw[keyOf_string Tryz.underlying9];have:(ByteArray.mk nm.toArray).size≤maxLen:=hnm;simp[mapKey,Tryz.underlying9,this]
theorem Seen.look {mb n:Nat}{names:List (List UInt8)}{w:World}(h:Seen mb n names w)(nm:List UInt8)(hnm:nm.length≤maxLen) :
 (Instr.lookup 225 (.map (some mb)) (.string ⟨nm.toArray⟩) false).run Tryz.prog w = .ok (.bool (names.contains nm)) w:=by
 obtain⟨D,hB,hm,ha⟩:=h;obtain⟨v,ps,hA,hv⟩:=hB.lookup (Maps.string_keyed Tryz.underlying9) Tryz.underlying225 (znf w) (plainElem_bool Tryz.underlying4 false) (zo9 nm hnm);rw[ha nm]at hv;rw[hA];cases v<;>simp[plainElem,Tryz.underlying4]at hv;rw[hv.1];simp
theorem Seen.put {mb n:Nat} {names:List (List UInt8)} {w:World} (h:Seen mb n names w) (nm:List UInt8) (hnm:nm.length≤maxLen) (hn:n<maxLen) :
 ∃ w',(Instr.mapUpdate 225 (.map (some mb)) (.string ⟨nm.toArray⟩) (.bool true)).run Tryz.prog w = .ok () w'∧Seen mb (n+1) (names++[nm]) w'∧w.grownBy w' (some mb)∧(∃ o,w.heap[mb]? = some o∧zcp o):=by
 obtain⟨D,hB,hm,ha⟩:=h
 have hD:∃ o,w.heap[mb]? = some o∧zcp o:=by
  obtain⟨es,clock,h1,_⟩:=hB;exact⟨_,h1,_,_,rfl⟩
 obtain⟨w',hC,hA,hg⟩:=hB.update (Maps.string_keyed Tryz.underlying9) Tryz.underlying225 hn (zo9 nm hnm) (plainElem_bool Tryz.underlying4 true);refine⟨w',hC,⟨_,hA,?_,fun x=>?_⟩,hg,hD⟩
 ·obtain⟨es,rfl⟩:=hm;exact⟨_,rfl⟩
 by_cases hx:x=nm
 ·subst hx;rw[Maps.atKey_put_same hm (by simp[WideAt.IsKeyLit])];simp
 rw[Maps.atKey_put_other (by simpa using hx),ha x];simp[hx]
end
end Go.Proofs.YtffggpplnjibgaaGreatDoor
