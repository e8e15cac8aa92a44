/-
 The walk of entry.named.
-/
import Derived.Test.YtffggpplnjibgaaGreatDoorKRune
import Derived.Test.YtffggpplnjibgaaGreatDoorKUnhex
import Derived.Maps.RangeWalk
import Derived.Maps.OwnSet
import Derived.Maps.OwnOps
import Derived.DeepKeys4
import Derived.Test.YtffggpplnjibgaaGreatDoorKSpecEntry
import Derived.Lib.UnsafeStr
open Go.Lib renaming byteCells→zj
namespace Go.Proofs.YtffggpplnjibgaaGreatDoor
set_option linter.unusedVariables false
set_option linter.unusedSimpArgs false
set_option linter.unusedSectionVars false
set_option maxRecDepth 100000
set_option maxHeartbeats 1000000
section
open Go.RowKit
variable [OldK]
def zne (n:Nat):Bool:=n==46||(n==45||(n==95||n==64))
theorem zxq:∀ n:Nat,n<128→decide (0≤Lib.indexByte ([46,45,95,64]:Bs) n.toUInt8)=zne n:=by decide
theorem zyq (n:Nat)(w:World)(hn:n≤1114111) :
 Calls Tryz.prog 197 #[.string ⟨#[46,45,95,64]⟩,.int .i32 n] w fun e w'=>e = .returned (.bool (zne n))∧Below w.heap.size w w':=by
 by_cases h:n<128
 ·refine(Tryz.strings_ContainsRune_ascii ⟨#[46,45,95,64]⟩ (n:Int) w (by omega) (by omega)).mono ?_;rintro e w' ⟨rfl,rfl⟩;refine⟨?_,Below.refl _ _⟩;rw[← zxq n h,Int.toNat_natCast]
 have:zne n=false:=by unfold zne;simp;omega
 rw[this];exact zw0 n w (by omega) hn
theorem zt6 (n:Nat) (W:World) (hn:n≤1114111) :
 Calls Tryz.prog 196 #[.int .i32 n] W fun e w'=>e = .returned (.bool (!zdd n))∧Below W.heap.size W w':=by
 have hc:=fun V=>zyq n V hn
 have hD:(!zdd n)=((decide ((n:Int)<97)||decide ((122:Int)<n))&&((decide ((n:Int)<48)||decide ((57:Int)<n)) && !zne n)):=by
  unfold zdd zne;generalize (n==46||(n==45||(n==95||n==64)))=C;have a1:decide ((n:Int)<97) = !decide (97≤n):=by by_cases h:97≤n<;>simp[h]<;>omega
  have a2:decide ((122:Int)<n) = !decide (n≤122):=by by_cases h:n≤122<;>simp[h]<;>omega
  have a3:decide ((n:Int)<48) = !decide (48≤n):=by by_cases h:48≤n<;>simp[h]<;>omega
  have a4:decide ((57:Int)<n) = !decide (n≤57):=by by_cases h:n≤57<;>simp[h]<;>omega
  rw[a1,a2,a3,a4];cases decide (97≤n)<;>cases decide (n≤122)<;>cases decide (48≤n)<;>cases decide (n≤57)<;>cases C<;>rfl
 rw[hD];obtain⟨b1,hH⟩:∃ b1,decide ((n:Int)<97)=b1:=⟨_,rfl⟩;obtain⟨b2,hG⟩:∃ b2,decide ((122:Int)<n)=b2:=⟨_,rfl⟩;obtain⟨b3,hF⟩:∃ b3,decide ((n:Int)<48)=b3:=⟨_,rfl⟩;obtain⟨b4,hE⟩:∃ b4,decide ((57:Int)<n)=b4:=⟨_,rfl⟩;obtain⟨C,hC⟩:∃ C,zne n=C:=⟨_,rfl⟩;rw[hC]at hc ⊢;rw[hH,hG,hF,hE];have Hc:=Lib.hid hc;clear hD hn hC hc;cases b1<;>cases b2<;>cases b3<;>cases b4
 all_goals
  go_enter Tryz.func196,Tryz.ntmps196
  go_wp2_with fail
  first
  | (go_ret;exact⟨rfl,Below.refl _ _⟩)
  | (refine(Hc.out _).mono ?_
     rintro e w' ⟨rfl,hB⟩
     go_wp2_with fail
     go_ret
     exact⟨rfl,hB⟩)
theorem zme (s:Bs):s.any (fun c=>!zdd c.toNat) = !s.all (fun c=>zdd c.toNat):=by
 induction s with
 | nil=>rfl
 | cons c s ih=>simp[ih]
theorem zrv (s:Bs) (w:World) (hlen:s.length≤1000000000000) :
 Calls Tryz.prog 139 #[.string ⟨s.toArray⟩] w fun e w'=>e = .returned (.bool (zcn s))∧Fr NoB w w':=by
 have hE:∀ args w,(callFunc 196 args).run Tryz.prog w = .ok (.enter 196 args) w:=enters_of Tryz.func196 (by kernel_rfl) rfl;have hC:=fun W:World=>znx 196 hE (fun n=>!zdd n) ⟨s.toArray⟩ W (fun W' x hx=>zt6 x W' hx)
 rw[zr8 (fun n=>!zdd n) (fun r hr=>by simp[zdd];omega) s,zme s]at hC;obtain⟨P,hP⟩:∃ P,zcn s=P:=⟨_,rfl⟩;rw[hP];unfold zcn at hP;obtain⟨b3,hF⟩:∃ b3,s.all (fun c=>zdd c.toNat)=b3:=⟨_,rfl⟩;rw[hF]at hC hP;have Hcf:=Lib.hid hC;have hH:=zqv s;clear hC hF hE;cases s with
 | nil =>
   obtain rfl:false=P:=hP;go_enter Tryz.func139,Tryz.ntmps139
   go_wp2_with fail
   go_ret;exact⟨rfl,Fr.refl⟩
 | cons c r =>
   have hI:(c :: r:Bs).isEmpty=false:=rfl;rw[List.isEmpty_cons]at hP;obtain⟨l,hl⟩:∃ l,(c :: r:Bs)=l:=⟨_,rfl⟩;rw[hl]at hP Hcf hH hI hlen ⊢;clear hl;by_cases hG:l.length≤64
   ·have hD:decide ((l.length:Int)≤64)=true:=by simp;omega
    have hB:decide (l.length≤64)=true:=by simp;omega
    rw[hB]at hP;obtain rfl:b3=P:=by simpa using hP
    clear hG hP;go_enter Tryz.func139,Tryz.ntmps139
    go_wp2_with fail
    refine(Hcf.out _).mono ?_;rintro e w1 ⟨rfl,hb⟩;have HF:=Lib.hid (Fr.ofBelow hb);clear hb
    go_wp2_with fail
    go_ret;exact⟨by simp,HF.out⟩
   have hD:decide ((l.length:Int)≤64)=false:=by simp;omega
   have hB:decide (l.length≤64)=false:=by simp;omega
   rw[hB]at hP;obtain rfl:false=P:=by simpa using hP
   clear hG hP;go_enter Tryz.func139,Tryz.ntmps139
   go_wp2_with fail
   go_ret;exact⟨rfl,Fr.refl⟩
end
section
open Go.RowKit
variable [OldK]
def Sg.cells (s:Sg):Array Value:=#[.string ⟨s.id.toArray⟩]++((zj s.key).toArray++(zj s.sig).toArray)
theorem Sg.size {s:Sg}(h:s.ok):s.cells.size=97:=by
 obtain⟨h1,h2⟩:=h;simp[Sg.cells,zj,h1,h2]
theorem Sg.cell0 (s:Sg):s.cells[0]? = some (.string ⟨s.id.toArray⟩):=by
 simp[Sg.cells]
theorem Sg.cellK {s:Sg} (j:Nat) (x:UInt8) (h:s.key[j]? = some x):s.cells[1+j]? = some (.int .u8 x.toNat):=by
 have hj:j<s.key.length:=by
  rcases Nat.lt_or_ge j s.key.length with h1 | h1
  ·exact h1
  rw[List.getElem?_eq_none h1]at h;simp at h
 unfold Sg.cells;rw[Array.getElem?_append_right (by simp),Array.getElem?_append_left (by simp[zj];omega)];simp[zj,h]
theorem zac:(Tryz.prog.info? 40).map (·.size)=some 97:=by kernel_rfl
theorem ztf (s:Sg) (w:World) (hok:s.ok) (hlen:s.id.length≤1000000) :
 Calls Tryz.prog 43 #[.agg s.cells] w fun e w'=>e = .returned (.string ⟨(j5 s).toArray⟩)∧Fr NoB w w':=by
 have hI:=Sg.size hok;have h0:=Sg.cell0 s;have hk:∀ j x,s.key[j]? = some x→s.cells[1+j]? = some (.int .u8 x.toNat):=Sg.cellK;have hC:=hok.1;obtain⟨cs,hD⟩:∃ cs,s.cells=cs:=⟨_,rfl⟩;rw[hD]at hI h0 hk ⊢
 have hG:∀ h,cs[0]'h = .string ⟨s.id.toArray⟩:=fun h=>by
  rw[Array.getElem?_eq_getElem h]at h0;exact Option.some.inj h0
 clear h0 hD hok;obtain⟨id,hid⟩:∃ id,s.id=id:=⟨_,rfl⟩;unfold j5;rw[hid]at hG hlen ⊢;obtain⟨key,hB⟩:∃ key,s.key=key:=⟨_,rfl⟩;rw[hB]at hk hC ⊢;clear hid hB;have hF:=(Fr.refl (M:=NoB)).alloc (w:=w) (.cells cs 40);have HF:=Lib.hid hF;clear hF;cases id with
 | cons c r =>
   have hJ:(c :: r:Bs).isEmpty=false:=rfl;rw[if_neg (by simp)];obtain⟨l,hl⟩:∃ l,(c :: r:Bs)=l:=⟨_,rfl⟩;rw[hl]at hG hJ hlen ⊢;clear hl;go_enter Tryz.func43,Tryz.ntmps43
   go_wp2_with fail
   go_ret;exact⟨rfl,HF.out⟩
 | nil =>
   rw[if_pos rfl];go_enter Tryz.func43,Tryz.ntmps43
   go_wp2_with fail
   have hx:=@zg1 ⟨w.heap.size+1⟩ (fun _=>True) key (.slice (some ⟨w.heap.size,1,none⟩) 32 32) (w.alloc (.cells cs 40)) ⟨some ⟨w.heap.size,1,none⟩,32,by rw[hC],by omega,.inr ⟨w.heap.size,1,cs,_,_,rfl,trivial,⟨heap_alloc_new w _,.inr (Nat.lt_succ_self _)⟩,fun j hj=>hk j _ (List.getElem?_eq_getElem hj)⟩⟩ (by omega);refine hx.mono ?_;rintro e w2 ⟨rfl,hE⟩;have hK:=Lib.hid (HF.out.trans' hE);have hH:(zat key).length≤100:=by rw[zfa];omega
   obtain⟨X,hX⟩:∃ X,zat key=X:=⟨_,rfl⟩;rw[hX]at hH ⊢;have HX:=Lib.hid hX;clear hE hx hX hk hC
   go_wp2_with fail
   go_ret;refine⟨?_,hK.out⟩
   have hs:(ByteArray.mk #[107,101,121,58])++(ByteArray.mk X.toArray)=⟨(zhw++X).toArray⟩:=by
    apply ByteArray.ext;simp[zhw]
   simp[hs,HX.out]
end
section
open Go.RowKit
def jz:Bs:=List.replicate 32 0
def zq1 (last:Bs) (s:Sg):Bool:=(Op.bytesLess (j5 s) last||j5 s==last)||(!s.id.isEmpty&&(!zcn s.id||s.key != jz))
def za4 (last:Bs):List Sg→Bool
 | []=>true
 | s :: r=>if zq1 last s then false else za4 (j5 s) r
def zb0 (l:List Sg):Bool:=za4 [] l&&(decide (1≤l.length)&&decide (l.length≤8))
def GS (S:Nat→Prop) (l:List Sg) (v:Value) (w:World):Prop:=∃ a cap,v = .slice a l.length cap∧l.length≤cap ∧
 (l=[]∨∃ b o,a=some ⟨b,o,none⟩∧S b∧b<w.heap.size∧∀ i (hi:i<l.length),w.rangeAt b (o+i * 97) l[i].cells.toList)
theorem GS.fr {S:Nat→Prop}{M:Nat→Obj→Prop}{l:List Sg}{v:Value}{w w':World}(h:GS S l v w)(hF:Fr M w w')(hM:∀ k o,S k→¬ M k o):GS S l v w':=by
 obtain⟨a,hD,hv,hc,h | ⟨b,o,ha,hS,hb,hr⟩⟩:=h
 ·exact⟨a,hD,hv,hc,.inl h⟩
 obtain⟨ob,hC⟩:∃ ob,w.heap[b]? = some ob:=⟨_,Array.getElem?_eq_getElem hb⟩;have hB:=hF.block _ _ hC (hM _ _ hS);refine⟨a,hD,hv,hc,.inr ⟨b,o,ha,hS,ju hB,fun i hi j x hx=>?_⟩⟩;have:=hr i hi j x hx;simp only[World.cell?,hC]at this;simp only[World.cell?,hB];exact this
end
section
open Go.RowKit
def zv2 (a b:Sg):Bool:=a.id==b.id&&(a.key==b.key&&a.sig==b.sig)
def zfl:List Sg→List Sg→Bool
 | [],[]=>true
 | a :: l,b :: m=>zv2 a b&&zfl l m
 | _,_=>false
theorem zq0 (a:Sg):zv2 a a=true:=by simp[zv2]
theorem zcr:∀ l:List Sg,zfl l l=true
 | []=>rfl
 | a :: l=>by rw[zfl,zq0,zcr l];rfl
theorem zld:∀ (l m:List Sg),l.length≠m.length→zfl l m=false
 | [],[],h=>absurd rfl h
 | [],_ :: _,_=>rfl
 | _ :: _,[],_=>rfl
 | a :: l,b :: m,h=>by
   rw[zfl,zld l m (by intro h2;exact h (by simp[h2])),Bool.and_false]
theorem ztm:∀ (l m:List Sg),l.length=m.length→∀ i (h:i<l.length) (h2:i<m.length),zfl (l.drop i) (m.drop i)=(zv2 l[i] m[i]&&zfl (l.drop (i+1)) (m.drop (i+1))):=by
 intro l m hl i h h2;rw[List.drop_eq_getElem_cons h,List.drop_eq_getElem_cons h2,zfl]
def zp5 (a b:En):Bool:=decide (a.kind=b.kind)&&(a.digest==b.digest&&(a.typ==b.typ&&(a.payload==b.payload&&(decide (a.op=b.op)&&(a.ident==b.ident&&(a.key==b.key&&zfl a.sigs b.sigs))))))
def zav (e:En):En :=
 if e.kind=1 then { e with digest:=jz }
 else if e.kind=2 then { e with typ:=[],payload:=[] }
 else if e.kind=3 then { e with payload:=[] }
 else if e.kind=4 then { e with key:=if e.op=3 then e.key else jz,op:=0,ident:=[] }
 else e
def zdz (k:Int) (l:List Sg):En:=⟨k,jz,[],[],0,[],jz,l⟩
def zju (sub:Bs→Bool) (e:En):Bool :=
 if e.kind=1 then true
 else if e.kind=2 then zci e.typ&&decide (e.payload.length≤2048)
 else if e.kind=3 then sub e.payload
 else if e.kind=4 then decide (1≤e.op)&&(decide (e.op≤3)&&zcn e.ident)
 else false
def zau (sub:Bs→Bool) (e:En):Bool:=zju sub e&&(zb0 e.sigs&&zp5 (zav e) (zdz e.kind e.sigs))
def En.cells (e:En) (pv sv:Value):List Value :=
 [.int .i64 e.kind]++(zj e.digest++([.string ⟨e.typ.toArray⟩,pv,.int .i64 e.op,.string ⟨e.ident.toArray⟩]++(zj e.key++[sv])))
theorem En.size {e:En}(h:e.ok)(pv sv:Value):(e.cells pv sv).length=70:=by
 obtain⟨h1,h2,-⟩:=h;simp[En.cells,zj,h1,h2]
theorem zlu {e:En}(h:e.ok):(zav e).ok:=by
 obtain⟨h1,h2,h3⟩:=h;unfold zav
 repeat' split
 all_goals refine⟨?_,?_,h3⟩
 all_goals first | exact h1 | exact h2 | rfl | (simp only;split<;>first | exact h2 | rfl)
theorem zsk {k:Int}{l:List Sg}(h:∀ s∈l,s.ok):(zdz k l).ok:=⟨rfl,rfl,h⟩
end
section
open Go.Maps (Keyed IsMap)
def zsc (v:Value):Option (DataW Value × List MemPlace):=some (.held v,[])
theorem zl0 {v:Value}{d:DataW Value}{ps:List MemPlace}(h:zsc v=some (d,ps)):d = .held v∧ps=[]:=by
 unfold zsc at h;simp only[Option.some.injEq,Prod.mk.injEq]at h;exact⟨h.1.symm,h.2.symm⟩
def upd {α:Type} (f:Bs→α) (x:Bs) (v:α):Bs→α:=fun y=>if y=x then v else f y
theorem zc5 {α:Type}(f:Bs→α)(x:Bs)(v:α):upd f x v x=v:=if_pos rfl
theorem zan {α:Type}(f:Bs→α){x y:Bs}(v:α)(h:y≠x):upd f x v y=f y:=if_neg h
structure KeyB (P:Program) (k:TypeId) where
 kv:Bs→Value
 dom:Bs→Prop
 law:Keyed P k
 key:∀ x,dom x→keyOf P k (kv x)=some (.string x)
structure DM {P:Program} {k:TypeId} (K:KeyB P k) (D:DataW Value) (M:Bs→Option Value):Prop where
 isMap:IsMap D
 has:∀ x,K.dom x→Maps.has D (.string x)=(M x).isSome
 at':∀ x z,K.dom x→D.atKey (.string x) (.held z) = .held ((M x).getD z)
 dom:∀ l,Maps.has D l=true→∃ x,K.dom x∧l = .string x
section
variable {P:Program} {k:TypeId} {K:KeyB P k} {D:DataW Value} {M:Bs→Option Value}
theorem DM.empty:DM K (.map []) (fun _=>none) where
 isMap:=Maps.isMap_empty
 has _ _:=rfl
 at' _ _ _:=rfl
 dom l h:=by cases h
theorem DM.put (h:DM K D M) {x:Bs} (hx:K.dom x) (v:Value):DM K (D.put (.string x) (.held v)) (upd M x (some v)) where
 isMap:=h.isMap.put _ _
 has y hy:=by
  by_cases e:y=x
  ·subst e;rw[Maps.has_put_same h.isMap (K.law.key (K.key y hx)),zc5];rfl
  rw[Maps.has_put_other (fun e'=>e (by injection e')),zan _ _ e];exact h.has y hy
 at' y z hy:=by
  by_cases e:y=x
  ·subst e;rw[Maps.atKey_put_same h.isMap (K.law.key (K.key y hx)),zc5];rfl
  rw[Maps.atKey_put_other (fun e'=>e (by injection e')),zan _ _ e];exact h.at' y z hy
 dom l hl:=by
  by_cases e:l = .string x
  ·exact⟨x,hx,e⟩
  rw[Maps.has_put_other e]at hl;exact h.dom l hl
end
def MapB {P:Program} {k:TypeId} (K:KeyB P k) (w:World) (b n:Nat) (M:Bs→Option Value):Prop:=∃ D,w.ownsMap P k zsc b n D∧DM K D M
section
variable {P:Program} {k t e:TypeId} {K:KeyB P k} {w:World} {b n:Nat} {M:Bs→Option Value}
theorem MapB.made (w:World):MapB K (w.alloc (.map #[] 0)) w.heap.size 0 (fun _=>none):=⟨_,World.ownsMap_made w P k zsc,DM.empty⟩
theorem MapB.mono (h:MapB K w b n M){n':Nat}(hn:n≤n'):MapB K w b n' M:=by
 obtain⟨D,h1,h2⟩:=h;exact⟨D,h1.mono hn,h2⟩
theorem MapB.lt (h:MapB K w b n M):b<w.heap.size:=by
 obtain⟨D,h1,h2⟩:=h;exact h1.lt
theorem MapB.same {w':World}(h:MapB K w b n M)(hb:w'.heap[b]? = w.heap[b]?):MapB K w' b n M:=by
 obtain⟨D,⟨es,hB,h0,h1⟩,h2⟩:=h;exact⟨D,⟨es,hB,hb.trans h0,h1⟩,h2⟩
theorem MapB.look (h:MapB K w b n M)(ht:P.underlying t=some (.map k e)){z:Value}(hz:(zeroValue e).run P w = .ok z w){x:Bs}(hx:K.dom x) :
 (Instr.lookup t (.map (some b)) (K.kv x) false).run P w = .ok ((M x).getD z) w:=by
 obtain⟨D,h1,h2⟩:=h;obtain⟨v,ps,hr,hv⟩:=h1.lookup K.law ht hz (zd := .held z) (zp:=[]) rfl (K.key x hx);obtain⟨hd,-⟩:=zl0 hv;rw[h2.at' x z hx]at hd
 injection hd with hd
 rw[hr,← hd]
theorem MapB.store (h:MapB K w b n M)(ht:P.underlying t=some (.map k e))(hn:n<maxLen){x:Bs}(hx:K.dom x)(v:Value) :
 ∃ w',(Instr.mapUpdate t (.map (some b)) (K.kv x) v).run P w = .ok () w'∧MapB K w' b (n+1) (upd M x (some v))∧w.grownBy w' (some b):=by
 obtain⟨D,h1,h2⟩:=h;obtain⟨w',hr,ho,hg⟩:=h1.update K.law ht hn (K.key x hx) (val:=v) (d := .held v) (ps:=[]) rfl;exact⟨w',hr,⟨_,ho,h2.put hx v⟩,hg⟩
end
def RangeB {P:Program} {k:TypeId} (K:KeyB P k) (w:World) (b r n:Nat) (M:Bs→Option Value) (left:Bs→Bool) (cnt:Nat):Prop :=
 ∃ D lf,w.ranges P k zsc b r n D lf cnt∧DM K D M∧(∀ x,K.dom x→lf (.string x)=left x)∧∀ l,lf l=true→∃ x,K.dom x∧l = .string x
section
variable {P:Program} {k t e:TypeId} {K:KeyB P k} {w:World} {b r n:Nat} {M:Bs→Option Value} {left:Bs→Bool} {cnt:Nat}
theorem RangeB.map (h:RangeB K w b r n M left cnt):MapB K w b n M:=by
 obtain⟨D,lf,h1,h2,-⟩:=h;exact⟨D,h1.owns,h2⟩
theorem RangeB.lt (h:RangeB K w b r n M left cnt):r<w.heap.size:=by
 obtain⟨D,lf,h1,-⟩:=h;exact h1.lt
theorem RangeB.same {w':World}(h:RangeB K w b r n M left cnt)(hb:w'.heap[b]? = w.heap[b]?)(hr:w'.heap[r]? = w.heap[r]?):RangeB K w' b r n M left cnt:=by
 obtain⟨D,lf,⟨es,hC,hB,hD,c0,h0,h1,h2,h3,h4,h5⟩,h6⟩:=h;exact⟨D,lf,⟨es,hC,hB,hD,c0,hb.trans h0,h1,h2,h3,hr.trans h4,h5⟩,h6⟩
theorem MapB.range (h:MapB K w b n M)(ht:P.underlying t=some (.map k e)) :
 ∃ w',(Instr.range t (.map (some b))).run P w = .ok (.pointer (some ⟨w.heap.size,0,none⟩)) w'∧(∃ cnt,RangeB K w' b w.heap.size n M (fun x=>(M x).isSome) cnt)∧w.grownBy w' none∧w'.heap.size=w.heap.size+1:=by
 obtain⟨D,h1,h2⟩:=h;obtain⟨w',hr,hg,h3,h4⟩:=h1.range K.law ht;exact⟨w',hr,⟨_,D,_,hg,h2,h2.has,h2.dom⟩,h3,h4⟩
theorem RangeB.next (h:RangeB K w b r n M left cnt) (ty:TypeId) :
 (cnt=0∧(∀ x,K.dom x→left x=false)∧(Instr.next (.pointer (some ⟨r,0,none⟩)) false ty).run P w = .ok (.tuple #[.bool false]) w) ∨
 ∃ x v w' cnt',K.dom x∧left x=true∧M x=some v∧(Instr.next (.pointer (some ⟨r,0,none⟩)) false ty).run P w = .ok (.tuple #[.bool true,K.kv x,v]) w' ∧
  RangeB K w' b r n M (upd left x false) cnt'∧cnt'<cnt∧w.grownBy w' (some r)∧w'.heap.size=w.heap.size∧(Instr.entry (.pointer (some ⟨r,0,none⟩))).run P w' = .ok (.tuple #[K.kv x,v]) w':=by
 obtain⟨D,lf,h1,h2,h3,h4⟩:=h;rcases h1.next K.law ty with⟨h0,hl,hrun⟩ | ⟨key,v,kl,y,w',cnt',hkey,hlk,hv,hat,hrun,hrg,hlt,hgr,hsz,hen⟩
 ·exact .inl ⟨h0,fun x hx=>by rw[← h3 x hx];exact hl _,hrun⟩
 obtain⟨x,hx,rfl⟩:=h4 kl hlk;obtain rfl:=K.law.inj hkey (K.key x hx);have hh:Maps.has D (.string x)=true:=Maps.has_true_of_atKey hat
 have hm:M x=some v:=by
  have e1:=h2.has x hx;rw[hh]at e1;obtain⟨u,hu⟩:=Option.isSome_iff_exists.1 e1.symm;have e2:=h2.at' x v hx;rw[hat,hu]at e2;obtain⟨hd,-⟩:=zl0 (v:=v) (d:=y.1) (ps:=y.2) (by simpa using hv);rw[hd]at e2
  injection e2 with e2
  rw[hu,e2];rfl
 refine .inr ⟨x,v,w',cnt',hx,by rw[← h3 x hx];exact hlk,hm,hrun,⟨D,_,hrg,h2,fun z hz=>?_,fun l hl=>?_⟩,hlt,hgr,hsz,hen⟩
 ·by_cases e:z=x
  ·subst e;simp only[zc5];rw[WideAt.sameKey_self (K.law.key (K.key z hx))];simp
  rw[zan _ _ e];show(lf (.string z) && !(Lit.string z).sameKey (.string x))=left z;rw[Maps.sameKey_ne (fun e'=>e (by injection e')),h3 z hz];simp
 simp only[Bool.and_eq_true]at hl;exact h4 l hl.1
end
end
section
structure Chg where
 pos:Int
 has:Bool
 key:Bs
def Chg.zero:Chg:=⟨0,false,jz⟩
structure Tb where
 hist:Bs→List Chg
 life:Bs→Int
def Tb.new:Tb:=⟨fun _=>[],fun _=>0⟩
def zws (l:List Chg):Chg:=l.getLast?.getD Chg.zero
def Tb.last (t:Tb) (n:Bs):Chg:=zws (t.hist n)
def zuw:Bs:=List.replicate 64 0
def zuz (e:En):Sg:=⟨e.ident,jz,zuw⟩
def zxf (e:En):Sg:=⟨[],e.key,zuw⟩
def zyn (e:En):List Sg:=if e.op=1 then [zxf e] else if e.op=2 then [zuz e,zxf e] else [zuz e]
def zym:List Sg→List Sg
 | [a,b]=>if Op.bytesLess (j5 b) (j5 a) then [b,a] else [a,b]
 | l=>l
def zu1:List Sg→List Sg→Bool
 | [],[]=>true
 | a :: l,b :: m=>j5 a==j5 b&&zu1 l m
 | _,_=>false
def pBy (e:En) (want:List Sg):Bool:=zu1 e.sigs (zym want)
def zpy (sub:Bs→Bool) (t:Tb) (e:En):Nat :=
 if zau sub e=false∨e.kind≠4 then 11
 else if (t.last e.ident).has≠decide (e.op≠1)∨(e.op≠3∧t.life e.key≠0)∨pBy e (zyn e)=false then 8 else 0
def zpz (e:En) (p:Int):Chg:=if e.op=3 then ⟨p,false,jz⟩ else ⟨p,true,e.key⟩
def Tb.came (t:Tb) (e:En) (p:Int):Tb :=
 let l1:=if (t.last e.ident).has then upd t.life (t.last e.ident).key 2 else t.life
 ⟨upd t.hist e.ident (t.hist e.ident++[zpz e p]),if e.op=3 then l1 else upd l1 e.key 1⟩
def Tb.take (sub:Bs→Bool) (t:Tb) (e:En) (p:Int):Tb:=if zpy sub t e=0 then t.came e p else t
def Tb.right (t:Tb):Prop:=∀ n,(t.last n).has=true→t.life (t.last n).key≠0
theorem zjv {sub:Bs→Bool}{t:Tb}{e:En}(h:zpy sub t e=0):e.kind=4∧(t.last e.ident).has=decide (e.op≠1)∧(e.op≠3→t.life e.key=0):=by
 unfold zpy at h;split at h
 ·cases h
 rename_i h1
 split at h
 ·cases h
 rename_i h2
 refine⟨Decidable.byContradiction fun hk=>h1 (.inr hk),Decidable.byContradiction fun hk=>h2 (.inl hk),fun h3=>Decidable.byContradiction fun hk=>h2 (.inr (.inl ⟨h3,hk⟩))⟩
theorem zst {sub:Bs→Bool} {t:Tb} {e:En} (h:zpy sub t e=0) (hr:t.right) (p:Int) :
 (e.op≠3→(t.came e p).life e.key=1)∧((t.last e.ident).has=true→(t.came e p).life (t.last e.ident).key=2) ∧
 (∀ k,t.life k=2→(t.came e p).life k=2)∧(∀ k,t.life k≠0→(t.came e p).life k≠0):=by
 obtain⟨-,hh,hf⟩:=zjv h;have hB:=hr e.ident;refine⟨fun h3=>?_,fun h1=>?_,fun k hk=>?_,fun k hk=>?_⟩
 ·simp only[Tb.came,if_neg h3,zc5]
 ·simp only[Tb.came,h1,if_true];split
  ·rw[zc5]
  rename_i h3
  rw[zan _ _ (fun e'=>hB h1 (by rw[e'];exact hf h3)),zc5]
 ·simp only [Tb.came]
  have h2:(if (t.last e.ident).has=true then upd t.life (t.last e.ident).key 2 else t.life) k=2:=by
   split
   ·unfold upd;split
    ·rfl
    exact hk
   exact hk
  split
  ·exact h2
  rename_i h3
  rw[zan _ _ (fun e'=>by have:=hf h3;rw[← e',hk]at this;cases this)];exact h2
 simp only[Tb.came]
 have h2:(if (t.last e.ident).has=true then upd t.life (t.last e.ident).key 2 else t.life) k≠0:=by
  split
  ·unfold upd;split
   ·decide
   exact hk
  exact hk
 split
 ·exact h2
 rename_i h3
 unfold upd at h2 ⊢;split
 ·decide
 exact h2
structure OnceSt where
 t:Tb
 times:Bs→Int
 gone:Bs→Bool
def OnceSt.new:OnceSt:=⟨Tb.new,fun _=>0,fun _=>false⟩
def OnceSt.ok (s:OnceSt):Prop:=s.t.right∧(∀ k,s.t.life k=0→s.times k=0)∧∀ k,s.gone k=true→s.t.life k=2
def OnceSt.step (sub:Bs→Bool) (s:OnceSt) (e:En) (p:Int):OnceSt :=
 if zpy sub s.t e=0 then ⟨s.t.came e p,if e.op=3 then s.times else upd s.times e.key (s.times e.key+1),if (s.t.last e.ident).has then upd s.gone (s.t.last e.ident).key true else s.gone⟩ else s
end
end Go.Proofs.YtffggpplnjibgaaGreatDoor
