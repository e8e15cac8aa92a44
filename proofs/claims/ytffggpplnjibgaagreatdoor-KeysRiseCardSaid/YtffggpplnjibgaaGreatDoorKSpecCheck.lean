/-
 The walk of entry.named.
-/
import Derived.Test.YtffggpplnjibgaaGreatDoorKRune
import Derived.Test.YtffggpplnjibgaaGreatDoorKUnhex
open Go.Lib renaming byteCells→zj
namespace Go.Proofs.YtffggpplnjibgaaGreatDoor
set_option linter.unusedVariables false
set_option linter.unusedSimpArgs false
set_option linter.unusedSectionVars false
set_option maxRecDepth 100000
set_option maxHeartbeats 1000000
section
open Go.RowKit
variable [OldK]
def zi4 (n:Nat):Bool:=n==46||(n==45||(n==95||n==64))
theorem zqx:∀ n:Nat,n<128→decide (0≤Lib.indexByte ([46,45,95,64]:Bs) n.toUInt8)=zi4 n:=by decide
theorem zrq (n:Nat)(w:World)(hn:n≤1114111) :
 Calls Tryz.prog 197 #[.string ⟨#[46,45,95,64]⟩,.int .i32 n] w fun e w'=>e = .returned (.bool (zi4 n))∧Below w.heap.size w w':=by
 by_cases h:n<128
 ·refine(Tryz.strings_ContainsRune_ascii ⟨#[46,45,95,64]⟩ (n:Int) w (by omega) (by omega)).mono ?_;rintro e w' ⟨rfl,rfl⟩;refine⟨?_,Below.refl _ _⟩;rw[← zqx n h,Int.toNat_natCast]
 have:zi4 n=false:=by unfold zi4;simp;omega
 rw[this];exact zqe n w (by omega) hn
theorem zn8 (n:Nat) (W:World) (hn:n≤1114111) :
 Calls Tryz.prog 196 #[.int .i32 n] W fun e w'=>e = .returned (.bool (!zc8 n))∧Below W.heap.size W w':=by
 have hc:=fun V=>zrq n V hn
 have hA:(!zc8 n)=((decide ((n:Int)<97)||decide ((122:Int)<n))&&((decide ((n:Int)<48)||decide ((57:Int)<n)) && !zi4 n)):=by
  unfold zc8 zi4;generalize (n==46||(n==45||(n==95||n==64)))=C;have a1:decide ((n:Int)<97) = !decide (97≤n):=by by_cases h:97≤n<;>simp[h]<;>omega
  have a2:decide ((122:Int)<n) = !decide (n≤122):=by by_cases h:n≤122<;>simp[h]<;>omega
  have a3:decide ((n:Int)<48) = !decide (48≤n):=by by_cases h:48≤n<;>simp[h]<;>omega
  have a4:decide ((57:Int)<n) = !decide (n≤57):=by by_cases h:n≤57<;>simp[h]<;>omega
  rw[a1,a2,a3,a4];cases decide (97≤n)<;>cases decide (n≤122)<;>cases decide (48≤n)<;>cases decide (n≤57)<;>cases C<;>rfl
 rw[hA];obtain⟨b1,hG⟩:∃ b1,decide ((n:Int)<97)=b1:=⟨_,rfl⟩;obtain⟨b2,hF⟩:∃ b2,decide ((122:Int)<n)=b2:=⟨_,rfl⟩;obtain⟨b3,hE⟩:∃ b3,decide ((n:Int)<48)=b3:=⟨_,rfl⟩;obtain⟨b4,hD⟩:∃ b4,decide ((57:Int)<n)=b4:=⟨_,rfl⟩;obtain⟨C,hC⟩:∃ C,zi4 n=C:=⟨_,rfl⟩;rw[hC]at hc ⊢;rw[hG,hF,hE,hD];have Hc:=Lib.hid hc;clear hA hn hC hc;cases b1<;>cases b2<;>cases b3<;>cases b4
 all_goals
  go_enter Tryz.func196,Tryz.ntmps196
  go_wp2_with fail
  first
  | (go_ret;exact⟨rfl,Below.refl _ _⟩)
  | (refine(Hc.out _).mono ?_
     rintro e w' ⟨rfl,hB⟩
     go_wp2_with fail
     go_ret
     exact⟨rfl,hB⟩)
theorem zh5 (s:Bs):s.any (fun c=>!zc8 c.toNat) = !s.all (fun c=>zc8 c.toNat):=by
 induction s with
 | nil=>rfl
 | cons c s ih=>simp[ih]
theorem zma (s:Bs) (w:World) (hlen:s.length≤1000000000000) :
 Calls Tryz.prog 139 #[.string ⟨s.toArray⟩] w fun e w'=>e = .returned (.bool (zbh s))∧Fr NoB w w':=by
 have hD:∀ args w,(callFunc 196 args).run Tryz.prog w = .ok (.enter 196 args) w:=enters_of Tryz.func196 (by kernel_rfl) rfl;have hB:=fun W:World=>zjf 196 hD (fun n=>!zc8 n) ⟨s.toArray⟩ W (fun W' x hx=>zn8 x W' hx)
 rw[zmm (fun n=>!zc8 n) (fun r hr=>by simp[zc8];omega) s,zh5 s]at hB;obtain⟨P,hP⟩:∃ P,zbh s=P:=⟨_,rfl⟩;rw[hP];unfold zbh at hP;obtain⟨b3,hE⟩:∃ b3,s.all (fun c=>zc8 c.toNat)=b3:=⟨_,rfl⟩;rw[hE]at hB hP;have Hcf:=Lib.hid hB;have hG:=zll s;clear hB hE hD;cases s with
 | nil =>
   obtain rfl:false=P:=hP;go_enter Tryz.func139,Tryz.ntmps139
   go_wp2_with fail
   go_ret;exact⟨rfl,Fr.refl⟩
 | cons c r =>
   have hH:(c :: r:Bs).isEmpty=false:=rfl;rw[List.isEmpty_cons]at hP;obtain⟨l,hl⟩:∃ l,(c :: r:Bs)=l:=⟨_,rfl⟩;rw[hl]at hP Hcf hG hH hlen ⊢;clear hl;by_cases hF:l.length≤64
   ·have hC:decide ((l.length:Int)≤64)=true:=by simp;omega
    have hA:decide (l.length≤64)=true:=by simp;omega
    rw[hA]at hP;obtain rfl:b3=P:=by simpa using hP
    clear hF hP;go_enter Tryz.func139,Tryz.ntmps139
    go_wp2_with fail
    refine(Hcf.out _).mono ?_;rintro e w1 ⟨rfl,hb⟩;have HF:=Lib.hid (Fr.ofBelow hb);clear hb
    go_wp2_with fail
    go_ret;exact⟨by simp,HF.out⟩
   have hC:decide ((l.length:Int)≤64)=false:=by simp;omega
   have hA:decide (l.length≤64)=false:=by simp;omega
   rw[hA]at hP;obtain rfl:false=P:=by simpa using hP
   clear hF hP;go_enter Tryz.func139,Tryz.ntmps139
   go_wp2_with fail
   go_ret;exact⟨rfl,Fr.refl⟩
end
section
open Go.RowKit
variable [OldK]
def Sg.cells (s:Sg):Array Value:=#[.string ⟨s.id.toArray⟩]++((zj s.key).toArray++(zj s.sig).toArray)
theorem Sg.size {s:Sg}(h:s.ok):s.cells.size=97:=by
 obtain⟨h1,h2⟩:=h;simp[Sg.cells,zj,h1,h2]
theorem Sg.cell0 (s:Sg):s.cells[0]? = some (.string ⟨s.id.toArray⟩):=by
 simp[Sg.cells]
theorem Sg.cellK {s:Sg} (j:Nat) (x:UInt8) (h:s.key[j]? = some x):s.cells[1+j]? = some (.int .u8 x.toNat):=by
 have hj:j<s.key.length:=by
  rcases Nat.lt_or_ge j s.key.length with h1 | h1
  ·exact h1
  rw[List.getElem?_eq_none h1]at h;simp at h
 unfold Sg.cells;rw[Array.getElem?_append_right (by simp),Array.getElem?_append_left (by simp[zj];omega)];simp[zj,h]
theorem qk:(Tryz.prog.info? 40).map (·.size)=some 97:=by kernel_rfl
theorem znm (s:Sg) (w:World) (hok:s.ok) (hlen:s.id.length≤1000000) :
 Calls Tryz.prog 43 #[.agg s.cells] w fun e w'=>e = .returned (.string ⟨(zai s).toArray⟩)∧Fr NoB w w':=by
 have hH:=Sg.size hok;have h0:=Sg.cell0 s;have hk:∀ j x,s.key[j]? = some x→s.cells[1+j]? = some (.int .u8 x.toNat):=Sg.cellK;have hB:=hok.1;obtain⟨cs,hC⟩:∃ cs,s.cells=cs:=⟨_,rfl⟩;rw[hC]at hH h0 hk ⊢
 have hE:∀ h,cs[0]'h = .string ⟨s.id.toArray⟩:=fun h=>by
  rw[Array.getElem?_eq_getElem h]at h0;exact Option.some.inj h0
 clear h0 hC hok;obtain⟨id,hid⟩:∃ id,s.id=id:=⟨_,rfl⟩;unfold zai;rw[hid]at hE hlen ⊢;obtain⟨key,hA⟩:∃ key,s.key=key:=⟨_,rfl⟩;rw[hA]at hk hB ⊢;clear hid hA;have hF:=(Fr.refl (M:=NoB)).alloc (w:=w) (.cells cs 40);have HF:=Lib.hid hF;clear hF;cases id with
 | cons c r =>
   have hI:(c :: r:Bs).isEmpty=false:=rfl;rw[if_neg (by simp)];obtain⟨l,hl⟩:∃ l,(c :: r:Bs)=l:=⟨_,rfl⟩;rw[hl]at hE hI hlen ⊢;clear hl;go_enter Tryz.func43,Tryz.ntmps43
   go_wp2_with fail
   go_ret;exact⟨rfl,HF.out⟩
 | nil =>
   rw[if_pos rfl];go_enter Tryz.func43,Tryz.ntmps43
   go_wp2_with fail
   have hx:=@zed ⟨w.heap.size+1⟩ (fun _=>True) key (.slice (some ⟨w.heap.size,1,none⟩) 32 32) (w.alloc (.cells cs 40)) ⟨some ⟨w.heap.size,1,none⟩,32,by rw[hB],by omega,.inr ⟨w.heap.size,1,cs,_,_,rfl,trivial,⟨heap_alloc_new w _,.inr (Nat.lt_succ_self _)⟩,fun j hj=>hk j _ (List.getElem?_eq_getElem hj)⟩⟩ (by omega);refine hx.mono ?_;rintro e w2 ⟨rfl,hD⟩;have hJ:=Lib.hid (HF.out.trans' hD);have hG:(za9 key).length≤100:=by rw[ze1];omega
   obtain⟨X,hX⟩:∃ X,za9 key=X:=⟨_,rfl⟩;rw[hX]at hG ⊢;have HX:=Lib.hid hX;clear hD hx hX hk hB
   go_wp2_with fail
   go_ret;refine⟨?_,hJ.out⟩
   have hs:(ByteArray.mk #[107,101,121,58])++(ByteArray.mk X.toArray)=⟨(sKey++X).toArray⟩:=by
    apply ByteArray.ext;simp[sKey]
   simp[hs,HX.out]
end
section
open Go.RowKit
def j0:Bs:=List.replicate 32 0
def zix (last:Bs) (s:Sg):Bool:=(Op.bytesLess (zai s) last||zai s==last)||(!s.id.isEmpty&&(!zbh s.id||s.key != j0))
def qh (last:Bs):List Sg→Bool
 | []=>true
 | s :: r=>if zix last s then false else qh (zai s) r
def qw (l:List Sg):Bool:=qh [] l&&(decide (1≤l.length)&&decide (l.length≤8))
def GS (S:Nat→Prop) (l:List Sg) (v:Value) (w:World):Prop:=∃ a cap,v = .slice a l.length cap∧l.length≤cap ∧
 (l=[]∨∃ b o,a=some ⟨b,o,none⟩∧S b∧b<w.heap.size∧∀ i (hi:i<l.length),w.rangeAt b (o+i * 97) l[i].cells.toList)
theorem GS.fr {S:Nat→Prop}{M:Nat→Obj→Prop}{l:List Sg}{v:Value}{w w':World}(h:GS S l v w)(hF:Fr M w w')(hM:∀ k o,S k→¬ M k o):GS S l v w':=by
 obtain⟨a,hC,hv,hc,h | ⟨b,o,ha,hS,hb,hr⟩⟩:=h
 ·exact⟨a,hC,hv,hc,.inl h⟩
 obtain⟨ob,hB⟩:∃ ob,w.heap[b]? = some ob:=⟨_,Array.getElem?_eq_getElem hb⟩;have hA:=hF.block _ _ hB (hM _ _ hS);refine⟨a,hC,hv,hc,.inr ⟨b,o,ha,hS,jq hA,fun i hi j x hx=>?_⟩⟩;have:=hr i hi j x hx;simp only[World.cell?,hB]at this;simp only[World.cell?,hA];exact this
end
section
open Go.RowKit
def zpo (a b:Sg):Bool:=a.id==b.id&&(a.key==b.key&&a.sig==b.sig)
def zc3:List Sg→List Sg→Bool
 | [],[]=>true
 | a :: l,b :: m=>zpo a b&&zc3 l m
 | _,_=>false
theorem zlp (a:Sg):zpo a a=true:=by simp[zpo]
theorem zcw:∀ l:List Sg,zc3 l l=true
 | []=>rfl
 | a :: l=>by rw[zc3,zlp,zcw l];rfl
theorem zhk:∀ (l m:List Sg),l.length≠m.length→zc3 l m=false
 | [],[],h=>absurd rfl h
 | [],_ :: _,_=>rfl
 | _ :: _,[],_=>rfl
 | a :: l,b :: m,h=>by
   rw[zc3,zhk l m (by intro h2;exact h (by simp[h2])),Bool.and_false]
theorem znr:∀ (l m:List Sg),l.length=m.length→∀ i (h:i<l.length) (h2:i<m.length),zc3 (l.drop i) (m.drop i)=(zpo l[i] m[i]&&zc3 (l.drop (i+1)) (m.drop (i+1))):=by
 intro l m hl i h h2;rw[List.drop_eq_getElem_cons h,List.drop_eq_getElem_cons h2,zc3]
def zjc (a b:En):Bool:=decide (a.kind=b.kind)&&(a.digest==b.digest&&(a.typ==b.typ&&(a.payload==b.payload&&(decide (a.op=b.op)&&(a.ident==b.ident&&(a.key==b.key&&zc3 a.sigs b.sigs))))))
def qj (e:En):En :=
 if e.kind=1 then { e with digest:=j0 }
 else if e.kind=2 then { e with typ:=[],payload:=[] }
 else if e.kind=3 then { e with payload:=[] }
 else if e.kind=4 then { e with key:=if e.op=3 then e.key else j0,op:=0,ident:=[] }
 else e
def za7 (k:Int) (l:List Sg):En:=⟨k,j0,[],[],0,[],j0,l⟩
def zip (sub:Bs→Bool) (e:En):Bool :=
 if e.kind=1 then true
 else if e.kind=2 then zfh e.typ&&decide (e.payload.length≤2048)
 else if e.kind=3 then sub e.payload
 else if e.kind=4 then decide (1≤e.op)&&(decide (e.op≤3)&&zbh e.ident)
 else false
def zae (sub:Bs→Bool) (e:En):Bool:=zip sub e&&(qw e.sigs&&zjc (qj e) (za7 e.kind e.sigs))
def En.cells (e:En) (pv sv:Value):List Value :=
 [.int .i64 e.kind]++(zj e.digest++([.string ⟨e.typ.toArray⟩,pv,.int .i64 e.op,.string ⟨e.ident.toArray⟩]++(zj e.key++[sv])))
theorem En.size {e:En}(h:e.ok)(pv sv:Value):(e.cells pv sv).length=70:=by
 obtain⟨h1,h2,-⟩:=h;simp[En.cells,zj,h1,h2]
theorem zhq {e:En}(h:e.ok):(qj e).ok:=by
 obtain⟨h1,h2,h3⟩:=h;unfold qj
 repeat' split
 all_goals refine⟨?_,?_,h3⟩
 all_goals first | exact h1 | exact h2 | rfl | (simp only;split<;>first | exact h2 | rfl)
theorem zmv {k:Int}{l:List Sg}(h:∀ s∈l,s.ok):(za7 k l).ok:=⟨rfl,rfl,h⟩
end
end Go.Proofs.YtffggpplnjibgaaGreatDoor
