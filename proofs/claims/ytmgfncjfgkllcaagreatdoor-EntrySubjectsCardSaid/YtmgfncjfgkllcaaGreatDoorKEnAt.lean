/-
 The walk of entry.named.
-/
import Derived.Test.YtmgfncjfgkllcaaGreatDoorKRune
import Derived.Test.YtmgfncjfgkllcaaGreatDoorKUnhex
import Derived.Stop.BytesEq
open Go.Lib renaming byteCells→zb
open Go.Proofs.Tryz renaming prog→ze
open List renaming length_cons→zo,length_append→zq
open Go.Value renaming int→zy
open Go.IntKind renaming u8→z6
namespace Go.Proofs.YtmgfncjfgkllcaaGreatDoor
set_option linter.unusedVariables false
set_option linter.unusedSimpArgs false
set_option linter.unusedSectionVars false
set_option maxRecDepth 100000
set_option maxHeartbeats 1000000
section
open Go.RowKit
variable [OldK]
def zow (n:Nat):Bool:=n==46||(n==45||(n==95||n==64))
theorem z06:∀ n:Nat,n<128→decide (0≤Lib.indexByte ([46,45,95,64]:Bs) n.toUInt8)=zow n:=by decide
theorem z19 (n:Nat)(w:World)(hn:n≤1114111) :
 Calls ze 224 #[.string ⟨#[46,45,95,64]⟩,.int .i32 n] w fun e w'=>e = .returned (.bool (zow n))∧Below w.heap.size w w':=by
 by_cases h:n<128
 ·refine(Tryz.strings_ContainsRune_ascii ⟨#[46,45,95,64]⟩ (n:Int) w (by omega) (by omega)).mono ?_;rintro e w' ⟨rfl,rfl⟩;refine⟨?_,Below.refl _ _⟩;rw[← z06 n h,Int.toNat_natCast]
 have:zow n=false:=by unfold zow;simp;omega
 rw[this];exact z0d n w (by omega) hn
theorem zxa (n:Nat) (W:World) (hn:n≤1114111) :
 Calls ze 223 #[.int .i32 n] W fun e w'=>e = .returned (.bool (!zff n))∧Below W.heap.size W w':=by
 have hc:=fun V=>z19 n V hn
 have hA:(!zff n)=((decide ((n:Int)<97)||decide ((122:Int)<n))&&((decide ((n:Int)<48)||decide ((57:Int)<n)) && !zow n)):=by
  unfold zff zow;generalize (n==46||(n==45||(n==95||n==64)))=C;have a1:decide ((n:Int)<97) = !decide (97≤n):=by by_cases h:97≤n<;>simp[h]<;>omega
  have a2:decide ((122:Int)<n) = !decide (n≤122):=by by_cases h:n≤122<;>simp[h]<;>omega
  have a3:decide ((n:Int)<48) = !decide (48≤n):=by by_cases h:48≤n<;>simp[h]<;>omega
  have a4:decide ((57:Int)<n) = !decide (n≤57):=by by_cases h:n≤57<;>simp[h]<;>omega
  rw[a1,a2,a3,a4];cases decide (97≤n)<;>cases decide (n≤122)<;>cases decide (48≤n)<;>cases decide (n≤57)<;>cases C<;>rfl
 rw[hA];obtain⟨b1,hG⟩:∃ b1,decide ((n:Int)<97)=b1:=⟨_,rfl⟩;obtain⟨b2,hF⟩:∃ b2,decide ((122:Int)<n)=b2:=⟨_,rfl⟩;obtain⟨b3,hE⟩:∃ b3,decide ((n:Int)<48)=b3:=⟨_,rfl⟩;obtain⟨b4,hD⟩:∃ b4,decide ((57:Int)<n)=b4:=⟨_,rfl⟩;obtain⟨C,hC⟩:∃ C,zow n=C:=⟨_,rfl⟩;rw[hC]at hc ⊢;rw[hG,hF,hE,hD];have Hc:=Lib.hid hc;clear hA hn hC hc;cases b1<;>cases b2<;>cases b3<;>cases b4
 all_goals
  go_enter Tryz.func223,Tryz.ntmps223
  go_wp2_with fail
  first
  | (go_ret;exact⟨rfl,Below.refl _ _⟩)
  | (refine(Hc.out _).mono ?_
     rintro e w' ⟨rfl,hB⟩
     go_wp2_with fail
     go_ret
     exact⟨rfl,hB⟩)
theorem zno (s:Bs):s.any (fun c=>!zff c.toNat) = !s.all (fun c=>zff c.toNat):=by
 induction s with
 | nil=>rfl
 | cons c s ih=>simp[ih]
theorem zo0 (s:Bs) (w:World) (hlen:s.length≤1000000000000) :
 Calls ze 147 #[.string ⟨s.toArray⟩] w fun e w'=>e = .returned (.bool (za0 s))∧Fr NoB w w':=by
 have hD:∀ args w,(callFunc 223 args).run ze w = .ok (.enter 223 args) w:=enters_of Tryz.func223 (by kernel_rfl) rfl;have hB:=fun W:World=>zpe 223 hD (fun n=>!zff n) ⟨s.toArray⟩ W (fun W' x hx=>zxa x W' hx)
 rw[zu0 (fun n=>!zff n) (fun r hr=>by simp[zff];omega) s,zno s]at hB;obtain⟨P,hP⟩:∃ P,za0 s=P:=⟨_,rfl⟩;rw[hP];unfold za0 at hP;obtain⟨b3,hE⟩:∃ b3,s.all (fun c=>zff c.toNat)=b3:=⟨_,rfl⟩;rw[hE]at hB hP;have Hcf:=Lib.hid hB;have hG:=ztp s;clear hB hE hD;cases s with
 | nil =>
   obtain rfl:false=P:=hP;go_enter Tryz.func147,Tryz.ntmps147
   go_wp2_with fail
   go_ret;exact⟨rfl,Fr.refl⟩
 | cons c r =>
   have hH:(c :: r:Bs).isEmpty=false:=rfl;rw[List.isEmpty_cons]at hP;obtain⟨l,hl⟩:∃ l,(c :: r:Bs)=l:=⟨_,rfl⟩;rw[hl]at hP Hcf hG hH hlen ⊢;clear hl;by_cases hF:l.length≤64
   ·have hC:decide ((l.length:Int)≤64)=true:=by simp;omega
    have hA:decide (l.length≤64)=true:=by simp;omega
    rw[hA]at hP;obtain rfl:b3=P:=by simpa using hP
    clear hF hP;go_enter Tryz.func147,Tryz.ntmps147
    go_wp2_with fail
    refine(Hcf.out _).mono ?_;rintro e w1 ⟨rfl,hb⟩;have HF:=Lib.hid (Fr.ofBelow hb);clear hb
    go_wp2_with fail
    go_ret;exact⟨by simp,HF.out⟩
   have hC:decide ((l.length:Int)≤64)=false:=by simp;omega
   have hA:decide (l.length≤64)=false:=by simp;omega
   rw[hA]at hP;obtain rfl:false=P:=by simpa using hP
   clear hF hP;go_enter Tryz.func147,Tryz.ntmps147
   go_wp2_with fail
   go_ret;exact⟨rfl,Fr.refl⟩
end
section
open Go.RowKit
variable [OldK]
def Sg.cells (s:Sg):Array Value:=#[.string ⟨s.id.toArray⟩]++((zb s.key).toArray++(zb s.sig).toArray)
theorem Sg.size {s:Sg}(h:s.ok):s.cells.size=97:=by
 obtain⟨h1,h2⟩:=h;simp[Sg.cells,zb,h1,h2]
theorem Sg.cell0 (s:Sg):s.cells[0]? = some (.string ⟨s.id.toArray⟩):=by
 simp[Sg.cells]
theorem Sg.cellK {s:Sg} (j:Nat) (x:UInt8) (h:s.key[j]? = some x):s.cells[1+j]? = some (.int .u8 x.toNat):=by
 have hj:j<s.key.length:=by
  rcases Nat.lt_or_ge j s.key.length with h1 | h1
  ·exact h1
  rw[List.getElem?_eq_none h1]at h;simp at h
 unfold Sg.cells;rw[Array.getElem?_append_right (by simp),Array.getElem?_append_left (by simp[zb];omega)];simp[zb,h]
theorem qv:(Tryz.prog.info? 115).map (·.size)=some 97:=by kernel_rfl
theorem zpz (s:Sg) (w:World) (hok:s.ok) (hlen:s.id.length≤1000000) :
 Calls ze 124 #[.agg s.cells] w fun e w'=>e = .returned (.string ⟨(zal s).toArray⟩)∧Fr NoB w w':=by
 have hH:=Sg.size hok;have h0:=Sg.cell0 s;have hk:∀ j x,s.key[j]? = some x→s.cells[1+j]? = some (.int .u8 x.toNat):=Sg.cellK;have hB:=hok.1;obtain⟨cs,hC⟩:∃ cs,s.cells=cs:=⟨_,rfl⟩;rw[hC]at hH h0 hk ⊢
 have hE:∀ h,cs[0]'h = .string ⟨s.id.toArray⟩:=fun h=>by
  rw[Array.getElem?_eq_getElem h]at h0;exact Option.some.inj h0
 clear h0 hC hok;obtain⟨id,hid⟩:∃ id,s.id=id:=⟨_,rfl⟩;unfold zal;rw[hid]at hE hlen ⊢;obtain⟨key,hA⟩:∃ key,s.key=key:=⟨_,rfl⟩;rw[hA]at hk hB ⊢;clear hid hA;have hF:=(Fr.refl (M:=NoB)).alloc (w:=w) (.cells cs 115);have HF:=Lib.hid hF;clear hF;cases id with
 | cons c r =>
   have hI:(c :: r:Bs).isEmpty=false:=rfl;rw[if_neg (by simp)];obtain⟨l,hl⟩:∃ l,(c :: r:Bs)=l:=⟨_,rfl⟩;rw[hl]at hE hI hlen ⊢;clear hl;go_enter Tryz.func124,Tryz.ntmps124
   go_wp2_with fail
   go_ret;exact⟨rfl,HF.out⟩
 | nil =>
   rw[if_pos rfl];go_enter Tryz.func124,Tryz.ntmps124
   go_wp2_with fail
   have hx:=@zho ⟨w.heap.size+1⟩ (fun _=>True) key (.slice (some ⟨w.heap.size,1,none⟩) 32 32) (w.alloc (.cells cs 115)) ⟨some ⟨w.heap.size,1,none⟩,32,by rw[hB],by omega,.inr ⟨w.heap.size,1,cs,_,_,rfl,trivial,⟨heap_alloc_new w _,.inr (Nat.lt_succ_self _)⟩,fun j hj=>hk j _ (List.getElem?_eq_getElem hj)⟩⟩ (by omega);refine hx.mono ?_;rintro e w2 ⟨rfl,hD⟩;have hJ:=Lib.hid (HF.out.trans' hD);have hG:(zdf key).length≤100:=by rw[zgy];omega
   obtain⟨X,hX⟩:∃ X,zdf key=X:=⟨_,rfl⟩;rw[hX]at hG ⊢;have HX:=Lib.hid hX;clear hD hx hX hk hB
   go_wp2_with fail
   go_ret;refine⟨?_,hJ.out⟩
   have hs:(ByteArray.mk #[107,101,121,58])++(ByteArray.mk X.toArray)=⟨(zp3++X).toArray⟩:=by
    apply ByteArray.ext;simp[zp3]
   simp[hs,HX.out]
end
section
open Go.RowKit
def jd:Bs:=List.replicate 32 0
def zzk (last:Bs) (s:Sg):Bool:=(Op.bytesLess (zal s) last||zal s==last)||(!s.id.isEmpty&&(!za0 s.id||s.key != jd))
def zco (last:Bs):List Sg→Bool
 | []=>true
 | s :: r=>if zzk last s then false else zco (zal s) r
def zfe (l:List Sg):Bool:=zco [] l&&(decide (1≤l.length)&&decide (l.length≤8))
def GS (S:Nat→Prop) (l:List Sg) (v:Value) (w:World):Prop:=∃ a cap,v = .slice a l.length cap∧l.length≤cap ∧
 (l=[]∨∃ b o,a=some ⟨b,o,none⟩∧S b∧b<w.heap.size∧∀ i (hi:i<l.length),w.rangeAt b (o+i * 97) l[i].cells.toList)
theorem GS.fr {S:Nat→Prop}{M:Nat→Obj→Prop}{l:List Sg}{v:Value}{w w':World}(h:GS S l v w)(hF:Fr M w w')(hM:∀ k o,S k→¬ M k o):GS S l v w':=by
 obtain⟨a,hC,hv,hc,h | ⟨b,o,ha,hS,hb,hr⟩⟩:=h
 ·exact⟨a,hC,hv,hc,.inl h⟩
 obtain⟨ob,hB⟩:∃ ob,w.heap[b]? = some ob:=⟨_,Array.getElem?_eq_getElem hb⟩;have hA:=hF.block _ _ hB (hM _ _ hS);refine⟨a,hC,hv,hc,.inr ⟨b,o,ha,hS,jb hA,fun i hi j x hx=>?_⟩⟩;have:=hr i hi j x hx;simp only[World.cell?,hB]at this;simp only[World.cell?,hA];exact this
end
section
open Go.RowKit
def zzj (a b:Sg):Bool:=a.id==b.id&&(a.key==b.key&&a.sig==b.sig)
def zf2:List Sg→List Sg→Bool
 | [],[]=>true
 | a :: l,b :: m=>zzj a b&&zf2 l m
 | _,_=>false
theorem ztx (a:Sg):zzj a a=true:=by simp[zzj]
theorem zhi:∀ l:List Sg,zf2 l l=true
 | []=>rfl
 | a :: l=>by rw[zf2,ztx,zhi l];rfl
theorem zmp:∀ (l m:List Sg),l.length≠m.length→zf2 l m=false
 | [],[],h=>absurd rfl h
 | [],_ :: _,_=>rfl
 | _ :: _,[],_=>rfl
 | a :: l,b :: m,h=>by
   rw[zf2,zmp l m (by intro h2;exact h (by simp[h2])),Bool.and_false]
theorem zwq:∀ (l m:List Sg),l.length=m.length→∀ i (h:i<l.length) (h2:i<m.length),zf2 (l.drop i) (m.drop i)=(zzj l[i] m[i]&&zf2 (l.drop (i+1)) (m.drop (i+1))):=by
 intro l m hl i h h2;rw[List.drop_eq_getElem_cons h,List.drop_eq_getElem_cons h2,zf2]
def zsr (a b:En):Bool:=decide (a.kind=b.kind)&&(a.digest==b.digest&&(a.typ==b.typ&&(a.payload==b.payload&&(decide (a.op=b.op)&&(a.ident==b.ident&&(a.key==b.key&&zf2 a.sigs b.sigs))))))
def zbz (e:En):En :=
 if e.kind=1 then { e with digest:=jd }
 else if e.kind=2 then { e with typ:=[],payload:=[] }
 else if e.kind=3 then { e with payload:=[] }
 else if e.kind=4 then { e with key:=if e.op=3 then e.key else jd,op:=0,ident:=[] }
 else e
def zat (k:Int) (l:List Sg):En:=⟨k,jd,[],[],0,[],jd,l⟩
def zuf (sub:Bs→Bool) (e:En):Bool :=
 if e.kind=1 then true
 else if e.kind=2 then zcd e.typ&&decide (e.payload.length≤2048)
 else if e.kind=3 then sub e.payload
 else if e.kind=4 then decide (1≤e.op)&&(decide (e.op≤3)&&za0 e.ident)
 else false
def zce (sub:Bs→Bool) (e:En):Bool:=zuf sub e&&(zfe e.sigs&&zsr (zbz e) (zat e.kind e.sigs))
def En.cells (e:En) (pv sv:Value):List Value :=
 [.int .i64 e.kind]++(zb e.digest++([.string ⟨e.typ.toArray⟩,pv,.int .i64 e.op,.string ⟨e.ident.toArray⟩]++(zb e.key++[sv])))
theorem En.size {e:En}(h:e.ok)(pv sv:Value):(e.cells pv sv).length=70:=by
 obtain⟨h1,h2,-⟩:=h;simp[En.cells,zb,h1,h2]
theorem zmx {e:En}(h:e.ok):(zbz e).ok:=by
 obtain⟨h1,h2,h3⟩:=h;unfold zbz
 repeat' split
 all_goals refine⟨?_,?_,h3⟩
 all_goals first | exact h1 | exact h2 | rfl | (simp only;split<;>first | exact h2 | rfl)
theorem zdi {k:Int}{l:List Sg}(h:∀ s∈l,s.ok):(zat k l).ok:=⟨rfl,rfl,h⟩
end
section
open Go.RowKit
variable [OldK]
theorem zcu (l:Bs):zb l=l.map Extern.Stop.cell:=rfl
theorem zdk (w:World):(sizeOf 5).run ze w = .ok 1 w:=by kernel_rfl
theorem zag:Tryz.prog.underlying 25=some (.array 32 5):=by kernel_rfl
theorem zd9:Tryz.prog.underlying 113=some (.array 64 5):=by kernel_rfl
theorem za3:(Tryz.prog.info? 25).map (·.size)=some 32:=by kernel_rfl
theorem zhb:(Tryz.prog.info? 113).map (·.size)=some 64:=by kernel_rfl
theorem zqs (a b:Bs)(ha:a.length=32)(hb:b.length=32)(w:World) :
 (Op.equalIn 10000 25 (.agg (zb a).toArray) (.agg (zb b).toArray)).run ze w = .ok (a==b) w:=by
 have:=run_equalIn_bytes (P:=ze) w 9998 25 5 32 zag Tryz.underlying5 zdk a b ha hb;rw[zcu,zcu,this]
theorem zxw (a b:Bs)(ha:a.length=32)(hb:b.length=32)(w:World) :
 (Op.equalIn 10000 23 (.agg (zb a).toArray) (.agg (zb b).toArray)).run ze w = .ok (a==b) w:=by
 have:=run_equalIn_bytes (P:=ze) w 9998 23 5 32 jh Tryz.underlying5 zdk a b ha hb;rw[zcu,zcu,this]
theorem zs3:(zb jd).toArray=#[zy z6 0,zy z6 0,zy z6 0,zy z6 0,zy z6 0,zy z6 0,zy z6 0,zy z6 0,zy z6 0,zy z6 0,zy z6 0,zy z6 0,zy z6 0,zy z6 0,zy z6 0,zy z6 0,zy z6 0,zy z6 0,zy z6 0,zy z6 0,zy z6 0,zy z6 0,zy z6 0,zy z6 0,zy z6 0,zy z6 0,zy z6 0,zy z6 0,zy z6 0,zy z6 0,zy z6 0,zy z6 0]:=rfl
theorem z0a (a:Bs)(ha:a.length=32)(w:World) :
 (Op.equalIn 10000 25 (.agg (zb a).toArray) (.agg #[zy z6 0,zy z6 0,zy z6 0,zy z6 0,zy z6 0,zy z6 0,zy z6 0,zy z6 0,zy z6 0,zy z6 0,zy z6 0,zy z6 0,zy z6 0,zy z6 0,zy z6 0,zy z6 0,zy z6 0,zy z6 0,zy z6 0,zy z6 0,zy z6 0,zy z6 0,zy z6 0,zy z6 0,zy z6 0,zy z6 0,zy z6 0,zy z6 0,zy z6 0,zy z6 0,zy z6 0,zy z6 0])).run ze w = .ok (a==jd) w:=by
 rw[← zs3];exact zqs a jd ha rfl w
theorem zah {w:World} {b o:Nat} {xs ys:List Value}:w.rangeAt b o (xs++ys)↔w.rangeAt b o xs∧w.rangeAt b (o+xs.length) ys:=by
 constructor
 ·intro h;refine⟨fun j v hv=>h j v ?_,fun j v hv=>?_⟩
  ·have hj:j<xs.length:=(List.getElem?_eq_some_iff.1 hv).1;rw[List.getElem?_append_left hj];exact hv
  have:=h (xs.length+j) v (by rw[List.getElem?_append_right (by omega)];simpa using hv)
  rwa [← Nat.add_assoc]at this
 rintro⟨h1,h2⟩ j v hv;rcases Nat.lt_or_ge j xs.length with hj | hj
 ·rw[List.getElem?_append_left hj]at hv;exact h1 j v hv
 rw[List.getElem?_append_right hj]at hv;have:=h2 _ v hv
 rwa [show o+xs.length+(j - xs.length)=o+j by omega]at this
theorem zi8 {w:World}{b o:Nat}{v:Value}:w.rangeAt b o [v]↔w.cell? ⟨b,o,none⟩=some v:=by
 constructor
 ·intro h;exact h 0 v rfl
 intro h j x hx;obtain⟨h1,rfl⟩:=List.getElem?_eq_some_iff.1 hx;obtain rfl:j=0:=by simpa using h1
 exact h
theorem zkq {w w':World}{b o:Nat}{cs:List Value}(h:w.rangeAt b o cs)(hb:w'.heap[b]? = w.heap[b]?):w'.rangeAt b o cs:=by
 intro j x hx;have:=h j x hx;simp only[World.cell?]at this ⊢;rw[hb];exact this
theorem zrm {w w':World}{b o n:Nat}(h:w.there b o n)(hb:w'.heap[b]? = w.heap[b]?):w'.there b o n:=by
 intro j hj;have:=h j hj;simp only[World.cell?,World.frozen?]at this ⊢;rw[hb];exact this
theorem Fr.cell {M:Nat→Obj→Prop}{w w':World}{b o:Nat}{v:Value}(hF:Fr M w w')(h:w.cell? ⟨b,o,none⟩=some v)(hM:∀ ob,¬ M b ob:=by exact fun _ h=>h):w'.cell? ⟨b,o,none⟩=some v:=by
 have hb:=World.block_lt_of_cell? w _ h;obtain⟨ob,hB⟩:∃ ob,w.heap[b]? = some ob:=⟨_,Array.getElem?_eq_getElem hb⟩;have hA:=hF.block _ _ hB (hM _);simp only[World.cell?,hB]at h;simp only[World.cell?,hA];exact h
theorem qs {fn:Func}{p:Tmp}{ty:TypeId}(h:fn.results=#[.cell p ty])(tmps:Array Value)(P:Program)(w:World) :
 (results fn tmps).run P w=((asAddr (tmps.getD p undef)).run P w).andThen fun a w₁=>(loadVar ty a).run P w₁:=by
 simp only[results,h];simp[Sem.run_bind,Result.andThen]
theorem qh {P:Program} {ops:Array Oper} {rest:List Oper} {op:Oper} {a:Act} {w:World} {Q:Exit→Act→World→Prop} (ty:TypeId) (x:Operand) (ho:op.op = .load ty x)
 (b o:Nat) (hx:a.eval x = .pointer (some ⟨b,o,none⟩)) (cs:List Value) (d:TypeDesc) (hc:w.rangeAt b o cs)
 (hu:P.underlying ty=some d) (hd:d.isRow=true) (hi:(P.info? ty).map (·.size)=some cs.length) (hw:Region.wanted op (yielded ops a.tmps)=true)
 (h:wpList P ops Q rest (a.put op.dst (.agg cs.toArray)) w):wpList P ops Q (op :: rest) a w :=
 wpList_step fun _ hK=>by
  rw[if_pos hw];exact wp_load_mid ty x ho b o hx cs d hc hu hd hi (hK _ _ h)
end
section
open Go.RowKit
variable [OldK]
theorem zbf {w:World}{b:Nat}(xs ys zs vs:List Value)(h:w.rangeAt b 0 (xs++(ys++zs)))(hl:vs.length=ys.length):(w.setCells b xs.length vs).rangeAt b 0 (xs++(vs++zs)):=by
 rw[zah,zah]at h ⊢;obtain⟨h1,h2,h3⟩:=h;rw[Nat.zero_add]at h2 h3 ⊢;have h2':=h2;refine⟨World.rangeAt_setCells_apart h1 _ _ _ (.inr (.inl (by omega))),fun j v hv=>?_,?_⟩
 ·have hj:j<vs.length:=(List.getElem?_eq_some_iff.1 hv).1;rw[World.cell?_setCells_in b vs _ w (fun i hi=>h2.isSome i (by omega)) j hj,← hv,List.getElem?_eq_getElem hj]
 rw[hl];exact World.rangeAt_setCells_apart h3 _ _ _ (.inr (.inr (by omega)))
theorem zar {w:World}{b o n:Nat}(h:w.there b o n)(b' o':Nat)(v:Value):(w.setCell ⟨b',o',none⟩ v).there b o n:=World.there_setCells h b' o' [v]
section
variable {e:En} {pv sv:Value} {w:World} {b:Nat}
theorem je (l:Bs):(zb l).length=l.length:=by simp[zb]
theorem En.parts (h:e.ok)(hw:w.rangeAt b 0 (e.cells pv sv)):w.cell? ⟨b,0,none⟩=some (.int .i64 e.kind)∧w.rangeAt b 1 (zb e.digest)∧w.cell? ⟨b,33,none⟩=some (.string ⟨e.typ.toArray⟩)∧w.cell? ⟨b,34,none⟩=some pv ∧
 w.cell? ⟨b,35,none⟩=some (.int .i64 e.op)∧w.cell? ⟨b,36,none⟩=some (.string ⟨e.ident.toArray⟩)∧w.rangeAt b 37 (zb e.key)∧w.cell? ⟨b,69,none⟩=some sv:=by
 obtain⟨h1,h2,-⟩:=h;unfold En.cells at hw;rw[zah,zah,zah,zah,zi8,zi8]at hw;simp only[je,h1,h2,zo,List.length_nil,Nat.zero_add,Nat.reduceAdd]at hw;obtain⟨a,b1,c,d,e1⟩:=hw;exact⟨a,b1,c 0 _ rfl,c 1 _ rfl,c 2 _ rfl,c 3 _ rfl,d,e1⟩
theorem En.setDigest (h:e.ok)(hw:w.rangeAt b 0 (e.cells pv sv))(d:Bs)(hd:d.length=32):(w.setCells b 1 (zb d)).rangeAt b 0 (En.cells { e with digest:=d } pv sv):=by
 have:=zbf [.int .i64 e.kind] (zb e.digest) _ (zb d) hw (by rw[je,je,h.1,hd]);exact this
theorem En.setTyp (h:e.ok)(hw:w.rangeAt b 0 (e.cells pv sv))(t:Bs):(w.setCell ⟨b,33,none⟩ (.string ⟨t.toArray⟩)).rangeAt b 0 (En.cells { e with typ:=t } pv sv):=by
 have:=zbf (w:=w) (b:=b) (.int .i64 e.kind :: zb e.digest) [.string ⟨e.typ.toArray⟩] ([pv,.int .i64 e.op,.string ⟨e.ident.toArray⟩]++(zb e.key++[sv])) [.string ⟨t.toArray⟩] (by simpa[En.cells] using hw) rfl;simp only[zo,je,h.1,Nat.reduceAdd]at this;simpa[En.cells,World.setCells] using this
theorem En.setPay (h:e.ok)(hw:w.rangeAt b 0 (e.cells pv sv))(v:Value)(p:Bs):(w.setCell ⟨b,34,none⟩ v).rangeAt b 0 (En.cells { e with payload:=p } v sv):=by
 have:=zbf (w:=w) (b:=b) (.int .i64 e.kind :: (zb e.digest++[.string ⟨e.typ.toArray⟩])) [pv] ([.int .i64 e.op,.string ⟨e.ident.toArray⟩]++(zb e.key++[sv])) [v] (by simpa[En.cells] using hw) rfl;simp only[zo,zq,List.length_nil,je,h.1,Nat.reduceAdd]at this;simpa[En.cells,World.setCells] using this
theorem En.setOp (h:e.ok)(hw:w.rangeAt b 0 (e.cells pv sv))(k:Int):(w.setCell ⟨b,35,none⟩ (.int .i64 k)).rangeAt b 0 (En.cells { e with op:=k } pv sv):=by
 have:=zbf (w:=w) (b:=b) (.int .i64 e.kind :: (zb e.digest++[.string ⟨e.typ.toArray⟩,pv])) [.int .i64 e.op] ([.string ⟨e.ident.toArray⟩]++(zb e.key++[sv])) [.int .i64 k] (by simpa[En.cells] using hw) rfl;simp only[zo,zq,List.length_nil,je,h.1,Nat.reduceAdd]at this;simpa[En.cells,World.setCells] using this
theorem En.setIdent (h:e.ok)(hw:w.rangeAt b 0 (e.cells pv sv))(t:Bs):(w.setCell ⟨b,36,none⟩ (.string ⟨t.toArray⟩)).rangeAt b 0 (En.cells { e with ident:=t } pv sv):=by
 have:=zbf (w:=w) (b:=b) (.int .i64 e.kind :: (zb e.digest++[.string ⟨e.typ.toArray⟩,pv,.int .i64 e.op])) [.string ⟨e.ident.toArray⟩] (zb e.key++[sv]) [.string ⟨t.toArray⟩] (by simpa[En.cells] using hw) rfl;simp only[zo,zq,List.length_nil,je,h.1,Nat.reduceAdd]at this;simpa[En.cells,World.setCells] using this
theorem En.setKey (h:e.ok)(hw:w.rangeAt b 0 (e.cells pv sv))(d:Bs)(hd:d.length=32):(w.setCells b 37 (zb d)).rangeAt b 0 (En.cells { e with key:=d } pv sv):=by
 have:=zbf (w:=w) (b:=b) (.int .i64 e.kind :: (zb e.digest++[.string ⟨e.typ.toArray⟩,pv,.int .i64 e.op,.string ⟨e.ident.toArray⟩])) (zb e.key) [sv] (zb d) (by simpa[En.cells] using hw) (by rw[je,je,h.2.1,hd]);simp only[zo,zq,List.length_nil,je,h.1,Nat.reduceAdd]at this;simpa[En.cells,World.setCells] using this
theorem En.setSigs (h:e.ok)(hw:w.rangeAt b 0 (e.cells pv sv))(v:Value)(l:List Sg):(w.setCell ⟨b,69,none⟩ v).rangeAt b 0 (En.cells { e with sigs:=l } pv v):=by
 have:=zbf (w:=w) (b:=b) (.int .i64 e.kind :: (zb e.digest++([.string ⟨e.typ.toArray⟩,pv,.int .i64 e.op,.string ⟨e.ident.toArray⟩]++zb e.key))) [sv] [] [v] (by simpa[En.cells] using hw) rfl;simp only[zo,zq,List.length_nil,je,h.1,h.2.1,Nat.reduceAdd]at this;simpa[En.cells,World.setCells] using this
end
theorem zau (l:Bs):∀ v∈zb l,v.oneCell'=true:=by
 intro v hv;unfold zb at hv;rw[List.mem_map]at hv;obtain⟨x,_,rfl⟩:=hv;rfl
theorem En.one {e:En}{pv sv:Value}(hp:pv.oneCell'=true)(hs:sv.oneCell'=true):(e.cells pv sv).toArray.all (·.oneCell')=true:=by
 refine all_oneCell_toArray (fun v hv=>?_);unfold En.cells at hv;simp only[List.mem_append,List.mem_cons,List.not_mem_nil,or_false]at hv;rcases hv with rfl | hv | (rfl | rfl | rfl | rfl) | hv | rfl
 all_goals first | rfl | exact zau _ _ hv | assumption
end
end Go.Proofs.YtmgfncjfgkllcaaGreatDoor
