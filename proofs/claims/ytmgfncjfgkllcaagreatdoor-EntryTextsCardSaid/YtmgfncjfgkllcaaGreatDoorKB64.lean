/-
 The walk of entry.named.
-/
import Derived.Test.YtmgfncjfgkllcaaGreatDoorKRune
import Derived.Test.YtmgfncjfgkllcaaGreatDoorKUnhex
import Derived.Test.YtmgfncjfgkllcaaGreatDoorKTyped
import Derived.Test.YtmgfncjfgkllcaaGreatDoorKSpecB64
open Go.Lib renaming hid→za,byteCells→zb
open Go.Proofs.Tryz renaming prog→ze
open Go.Value renaming int→zy
open Go.IntKind renaming u8→z6
namespace Go.Proofs.YtmgfncjfgkllcaaGreatDoor
set_option linter.unusedVariables false
set_option linter.unusedSimpArgs false
set_option linter.unusedSectionVars false
set_option maxRecDepth 100000
set_option maxHeartbeats 1000000
section
open Go.RowKit
variable [OldK]
def zmo (n:Nat):Bool:=n==46||(n==45||(n==95||n==64))
theorem zw3:∀ n:Nat,n<128→decide (0≤Lib.indexByte ([46,45,95,64]:Bs) n.toUInt8)=zmo n:=by decide
theorem zx1 (n:Nat)(w:World)(hn:n≤1114111) :
 Calls ze 224 #[.string ⟨#[46,45,95,64]⟩,.int .i32 n] w fun e w'=>e = .returned (.bool (zmo n))∧Below w.heap.size w w':=by
 by_cases h:n<128
 ·refine(Tryz.strings_ContainsRune_ascii ⟨#[46,45,95,64]⟩ (n:Int) w (by omega) (by omega)).mono ?_;rintro e w' ⟨rfl,rfl⟩;refine⟨?_,Below.refl _ _⟩;rw[← zw3 n h,Int.toNat_natCast]
 have:zmo n=false:=by unfold zmo;simp;omega
 rw[this];exact zwd n w (by omega) hn
theorem ztv (n:Nat) (W:World) (hn:n≤1114111) :
 Calls ze 223 #[.int .i32 n] W fun e w'=>e = .returned (.bool (!zd4 n))∧Below W.heap.size W w':=by
 have hc:=fun V=>zx1 n V hn
 have hA:(!zd4 n)=((decide ((n:Int)<97)||decide ((122:Int)<n))&&((decide ((n:Int)<48)||decide ((57:Int)<n)) && !zmo n)):=by
  unfold zd4 zmo;generalize (n==46||(n==45||(n==95||n==64)))=C;have a1:decide ((n:Int)<97) = !decide (97≤n):=by by_cases h:97≤n<;>simp[h]<;>omega
  have a2:decide ((122:Int)<n) = !decide (n≤122):=by by_cases h:n≤122<;>simp[h]<;>omega
  have a3:decide ((n:Int)<48) = !decide (48≤n):=by by_cases h:48≤n<;>simp[h]<;>omega
  have a4:decide ((57:Int)<n) = !decide (n≤57):=by by_cases h:n≤57<;>simp[h]<;>omega
  rw[a1,a2,a3,a4];cases decide (97≤n)<;>cases decide (n≤122)<;>cases decide (48≤n)<;>cases decide (n≤57)<;>cases C<;>rfl
 rw[hA];obtain⟨b1,hG⟩:∃ b1,decide ((n:Int)<97)=b1:=⟨_,rfl⟩;obtain⟨b2,hF⟩:∃ b2,decide ((122:Int)<n)=b2:=⟨_,rfl⟩;obtain⟨b3,hE⟩:∃ b3,decide ((n:Int)<48)=b3:=⟨_,rfl⟩;obtain⟨b4,hD⟩:∃ b4,decide ((57:Int)<n)=b4:=⟨_,rfl⟩;obtain⟨C,hC⟩:∃ C,zmo n=C:=⟨_,rfl⟩;rw[hC]at hc ⊢;rw[hG,hF,hE,hD];have Hc:=za hc;clear hA hn hC hc;cases b1<;>cases b2<;>cases b3<;>cases b4
 all_goals
  go_enter Tryz.func223,Tryz.ntmps223
  go_wp2_with fail
  first
  | (go_ret;exact⟨rfl,Below.refl _ _⟩)
  | (refine(Hc.out _).mono ?_
     rintro e w' ⟨rfl,hB⟩
     go_wp2_with fail
     go_ret
     exact⟨rfl,hB⟩)
theorem zla (s:Bs):s.any (fun c=>!zd4 c.toNat) = !s.all (fun c=>zd4 c.toNat):=by
 induction s with
 | nil=>rfl
 | cons c s ih=>simp[ih]
theorem zms (s:Bs) (w:World) (hlen:s.length≤1000000000000) :
 Calls ze 147 #[.string ⟨s.toArray⟩] w fun e w'=>e = .returned (.bool (zaa s))∧Fr NoB w w':=by
 have hD:∀ args w,(callFunc 223 args).run ze w = .ok (.enter 223 args) w:=enters_of Tryz.func223 (by kernel_rfl) rfl;have hB:=fun W:World=>zm1 223 hD (fun n=>!zd4 n) ⟨s.toArray⟩ W (fun W' x hx=>ztv x W' hx)
 rw[zrv (fun n=>!zd4 n) (fun r hr=>by simp[zd4];omega) s,zla s]at hB;obtain⟨P,hP⟩:∃ P,zaa s=P:=⟨_,rfl⟩;rw[hP];unfold zaa at hP;obtain⟨b3,hE⟩:∃ b3,s.all (fun c=>zd4 c.toNat)=b3:=⟨_,rfl⟩;rw[hE]at hB hP;have Hcf:=za hB;have hG:=zqp s;clear hB hE hD;cases s with
 | nil =>
   obtain rfl:false=P:=hP;go_enter Tryz.func147,Tryz.ntmps147
   go_wp2_with fail
   go_ret;exact⟨rfl,Fr.refl⟩
 | cons c r =>
   have hH:(c :: r:Bs).isEmpty=false:=rfl;rw[List.isEmpty_cons]at hP;obtain⟨l,hl⟩:∃ l,(c :: r:Bs)=l:=⟨_,rfl⟩;rw[hl]at hP Hcf hG hH hlen ⊢;clear hl;by_cases hF:l.length≤64
   ·have hC:decide ((l.length:Int)≤64)=true:=by simp;omega
    have hA:decide (l.length≤64)=true:=by simp;omega
    rw[hA]at hP;obtain rfl:b3=P:=by simpa using hP
    clear hF hP;go_enter Tryz.func147,Tryz.ntmps147
    go_wp2_with fail
    refine(Hcf.out _).mono ?_;rintro e w1 ⟨rfl,hb⟩;have HF:=za (Fr.ofBelow hb);clear hb
    go_wp2_with fail
    go_ret;exact⟨by simp,HF.out⟩
   have hC:decide ((l.length:Int)≤64)=false:=by simp;omega
   have hA:decide (l.length≤64)=false:=by simp;omega
   rw[hA]at hP;obtain rfl:false=P:=by simpa using hP
   clear hF hP;go_enter Tryz.func147,Tryz.ntmps147
   go_wp2_with fail
   go_ret;exact⟨rfl,Fr.refl⟩
end
section
open Go.RowKit
variable [OldK]
def Sg.cells (s:Sg):Array Value:=#[.string ⟨s.id.toArray⟩]++((zb s.key).toArray++(zb s.sig).toArray)
theorem Sg.size {s:Sg}(h:s.ok):s.cells.size=97:=by
 obtain⟨h1,h2⟩:=h;simp[Sg.cells,zb,h1,h2]
theorem Sg.cell0 (s:Sg):s.cells[0]? = some (.string ⟨s.id.toArray⟩):=by
 simp[Sg.cells]
theorem Sg.cellK {s:Sg} (j:Nat) (x:UInt8) (h:s.key[j]? = some x):s.cells[1+j]? = some (.int .u8 x.toNat):=by
 have hj:j<s.key.length:=by
  rcases Nat.lt_or_ge j s.key.length with h1 | h1
  ·exact h1
  rw[List.getElem?_eq_none h1]at h;simp at h
 unfold Sg.cells;rw[Array.getElem?_append_right (by simp),Array.getElem?_append_left (by simp[zb];omega)];simp[zb,h]
theorem j9:(Tryz.prog.info? 115).map (·.size)=some 97:=by kernel_rfl
theorem znl (s:Sg) (w:World) (hok:s.ok) (hlen:s.id.length≤1000000) :
 Calls ze 124 #[.agg s.cells] w fun e w'=>e = .returned (.string ⟨(qn s).toArray⟩)∧Fr NoB w w':=by
 have hI:=Sg.size hok;have h0:=Sg.cell0 s;have hk:∀ j x,s.key[j]? = some x→s.cells[1+j]? = some (.int .u8 x.toNat):=Sg.cellK;have hB:=hok.1;obtain⟨cs,hD⟩:∃ cs,s.cells=cs:=⟨_,rfl⟩;rw[hD]at hI h0 hk ⊢
 have hG:∀ h,cs[0]'h = .string ⟨s.id.toArray⟩:=fun h=>by
  rw[Array.getElem?_eq_getElem h]at h0;exact Option.some.inj h0
 clear h0 hD hok;obtain⟨id,hC⟩:∃ id,s.id=id:=⟨_,rfl⟩;unfold qn;rw[hC]at hG hlen ⊢;obtain⟨key,hA⟩:∃ key,s.key=key:=⟨_,rfl⟩;rw[hA]at hk hB ⊢;clear hC hA;have hF:=(Fr.refl (M:=NoB)).alloc (w:=w) (.cells cs 115);have HF:=za hF;clear hF;cases id with
 | cons c r =>
   have hJ:(c :: r:Bs).isEmpty=false:=rfl;rw[if_neg (by simp)];obtain⟨l,hl⟩:∃ l,(c :: r:Bs)=l:=⟨_,rfl⟩;rw[hl]at hG hJ hlen ⊢;clear hl;go_enter Tryz.func124,Tryz.ntmps124
   go_wp2_with fail
   go_ret;exact⟨rfl,HF.out⟩
 | nil =>
   rw[if_pos rfl];go_enter Tryz.func124,Tryz.ntmps124
   go_wp2_with fail
   have hx:=@zfv ⟨w.heap.size+1⟩ (fun _=>True) key (.slice (some ⟨w.heap.size,1,none⟩) 32 32) (w.alloc (.cells cs 115)) ⟨some ⟨w.heap.size,1,none⟩,32,by rw[hB],by omega,.inr ⟨w.heap.size,1,cs,_,_,rfl,trivial,⟨heap_alloc_new w _,.inr (Nat.lt_succ_self _)⟩,fun j hj=>hk j _ (List.getElem?_eq_getElem hj)⟩⟩ (by omega);refine hx.mono ?_;rintro e w2 ⟨rfl,hE⟩;have hK:=za (HF.out.trans' hE);have hH:(zei key).length≤100:=by rw[ze6];omega
   obtain⟨X,hX⟩:∃ X,zei key=X:=⟨_,rfl⟩;rw[hX]at hH ⊢;have HX:=za hX;clear hE hx hX hk hB
   go_wp2_with fail
   go_ret;refine⟨?_,hK.out⟩
   have hs:(ByteArray.mk #[107,101,121,58])++(ByteArray.mk X.toArray)=⟨(znq++X).toArray⟩:=by
    apply ByteArray.ext;simp[znq]
   simp[hs,HX.out]
end
section
open Go.RowKit
def jc:Bs:=List.replicate 32 0
def zvn (last:Bs) (s:Sg):Bool:=(Op.bytesLess (qn s) last||qn s==last)||(!s.id.isEmpty&&(!zaa s.id||s.key != jc))
def zbg (last:Bs):List Sg→Bool
 | []=>true
 | s :: r=>if zvn last s then false else zbg (qn s) r
def zd2 (l:List Sg):Bool:=zbg [] l&&(decide (1≤l.length)&&decide (l.length≤8))
def GS (S:Nat→Prop) (l:List Sg) (v:Value) (w:World):Prop:=∃ a cap,v = .slice a l.length cap∧l.length≤cap ∧
 (l=[]∨∃ b o,a=some ⟨b,o,none⟩∧S b∧b<w.heap.size∧∀ i (hi:i<l.length),w.rangeAt b (o+i * 97) l[i].cells.toList)
theorem GS.fr {S:Nat→Prop}{M:Nat→Obj→Prop}{l:List Sg}{v:Value}{w w':World}(h:GS S l v w)(hF:Fr M w w')(hM:∀ k o,S k→¬ M k o):GS S l v w':=by
 obtain⟨a,hC,hv,hc,h | ⟨b,o,ha,hS,hb,hr⟩⟩:=h
 ·exact⟨a,hC,hv,hc,.inl h⟩
 obtain⟨ob,hB⟩:∃ ob,w.heap[b]? = some ob:=⟨_,Array.getElem?_eq_getElem hb⟩;have hA:=hF.block _ _ hB (hM _ _ hS);refine⟨a,hC,hv,hc,.inr ⟨b,o,ha,hS,jb hA,fun i hi j x hx=>?_⟩⟩;have:=hr i hi j x hx;simp only[World.cell?,hB]at this;simp only[World.cell?,hA];exact this
end
section
open Go.RowKit
def zth (a b:Sg):Bool:=a.id==b.id&&(a.key==b.key&&a.sig==b.sig)
def zdq:List Sg→List Sg→Bool
 | [],[]=>true
 | a :: l,b :: m=>zth a b&&zdq l m
 | _,_=>false
theorem zqx (a:Sg):zth a a=true:=by simp[zth]
theorem zed:∀ l:List Sg,zdq l l=true
 | []=>rfl
 | a :: l=>by rw[zdq,zqx,zed l];rfl
theorem zkg:∀ (l m:List Sg),l.length≠m.length→zdq l m=false
 | [],[],h=>absurd rfl h
 | [],_ :: _,_=>rfl
 | _ :: _,[],_=>rfl
 | a :: l,b :: m,h=>by
   rw[zdq,zkg l m (by intro h2;exact h (by simp[h2])),Bool.and_false]
theorem ztd:∀ (l m:List Sg),l.length=m.length→∀ i (h:i<l.length) (h2:i<m.length),zdq (l.drop i) (m.drop i)=(zth l[i] m[i]&&zdq (l.drop (i+1)) (m.drop (i+1))):=by
 intro l m hl i h h2;rw[List.drop_eq_getElem_cons h,List.drop_eq_getElem_cons h2,zdq]
def zit (a b:En):Bool:=decide (a.kind=b.kind)&&(a.digest==b.digest&&(a.typ==b.typ&&(a.payload==b.payload&&(decide (a.op=b.op)&&(a.ident==b.ident&&(a.key==b.key&&zdq a.sigs b.sigs))))))
def zab (e:En):En :=
 if e.kind=1 then { e with digest:=jc }
 else if e.kind=2 then { e with typ:=[],payload:=[] }
 else if e.kind=3 then { e with payload:=[] }
 else if e.kind=4 then { e with key:=if e.op=3 then e.key else jc,op:=0,ident:=[] }
 else e
def qu (k:Int) (l:List Sg):En:=⟨k,jc,[],[],0,[],jc,l⟩
def zra (sub:Bs→Bool) (e:En):Bool :=
 if e.kind=1 then true
 else if e.kind=2 then zdk e.typ&&decide (e.payload.length≤2048)
 else if e.kind=3 then sub e.payload
 else if e.kind=4 then decide (1≤e.op)&&(decide (e.op≤3)&&zaa e.ident)
 else false
def zad (sub:Bs→Bool) (e:En):Bool:=zra sub e&&(zd2 e.sigs&&zit (zab e) (qu e.kind e.sigs))
def En.cells (e:En) (pv sv:Value):List Value :=
 [.int .i64 e.kind]++(zb e.digest++([.string ⟨e.typ.toArray⟩,pv,.int .i64 e.op,.string ⟨e.ident.toArray⟩]++(zb e.key++[sv])))
theorem En.size {e:En}(h:e.ok)(pv sv:Value):(e.cells pv sv).length=70:=by
 obtain⟨h1,h2,-⟩:=h;simp[En.cells,zb,h1,h2]
theorem zkm {e:En}(h:e.ok):(zab e).ok:=by
 obtain⟨h1,h2,h3⟩:=h;unfold zab
 repeat' split
 all_goals refine⟨?_,?_,h3⟩
 all_goals first | exact h1 | exact h2 | rfl | (simp only;split<;>first | exact h2 | rfl)
theorem zca {k:Int}{l:List Sg}(h:∀ s∈l,s.ok):(qu k l).ok:=⟨rfl,rfl,h⟩
end
section
open Go.RowKit
variable [OldK]
theorem zme (n:Nat):Lib.repeatL [61] n=List.replicate n 61:=by
 induction n with
 | zero=>rfl
 | succ n ih=>simp[Lib.repeatL,ih,List.replicate_succ]
theorem zxw (r:Nat)(hr:r<4)(w:World):Calls ze 220 #[.string ⟨#[61]⟩,.int .i64 r] w fun e w'=>e = .returned (.string ⟨(List.replicate r (61:UInt8)).toArray⟩)∧Fr NoB w w':=by
 rcases(show r=0∨r=1∨2≤r by omega) with rfl | rfl | h2
 ·refine(Go.Proofs.Tryz.strings_Repeat_zero _ w).mono ?_;rintro e w' ⟨rfl,rfl⟩;exact⟨rfl,Fr.refl⟩
 ·refine(Go.Proofs.Tryz.strings_Repeat_one _ w).mono ?_;rintro e w' ⟨rfl,rfl⟩;exact⟨rfl,Fr.refl⟩
 refine(Go.Proofs.Tryz.strings_Repeat_main ⟨#[61]⟩ r w h2 (by omega) (by simp only[show(ByteArray.mk #[61]).size=1 from rfl];omega) (by decide)).mono ?_;rintro e w' ⟨rfl,hb⟩;refine⟨?_,Fr.ofBelow hb⟩;rw[show(ByteArray.mk #[61]).data.toList=[61] from rfl,zme]
theorem zn8 (s:Bs)(w:World)(hlen:s.length≤1400000) :
 Calls ze 143 #[.string ⟨s.toArray⟩] w fun e w'=>e = .returned (.string ⟨(s++zks s).toArray⟩)∧Fr NoB w w':=by
 have hsz:(ByteArray.mk s.toArray).size=s.length:=rfl;obtain⟨m,hm⟩:∃ m,s.length % 4=m:=⟨_,rfl⟩;have hmi:((s.length:Int)).tmod 4=(m:Int):=by rw[Int.tmod_eq_emod_of_nonneg (by omega)];omega
 have hE:m<4:=by omega
 have hD:IntKind.i64.wrap (4 - (m:Int))=((4 - m:Nat):Int):=by rw[IntKind.wrap_i64];omega
 have hB:(((4 - m:Nat):Int)).tmod 4=(((4 - m) % 4:Nat):Int):=by rw[Int.tmod_eq_emod_of_nonneg (by omega)];omega
 unfold zks;rw[hm];obtain⟨r,hr⟩:∃ r,(4 - m) % 4=r:=⟨_,rfl⟩;obtain⟨q,hq⟩:∃ q,4 - m=q:=⟨_,rfl⟩;rw[hq]at hD hB hr;rw[hr]at hB;rw[hq,hr];have hA:=zxw r (by omega) w;have hC:r<4:=by omega
 obtain⟨Y,hY⟩:∃ Y,List.replicate r (61:UInt8)=Y:=⟨_,rfl⟩;have hyl:Y.length<4:=by rw[← hY,List.length_replicate];exact hC
 have hszY:(ByteArray.mk Y.toArray).size=Y.length:=rfl;rw[hY]at hA ⊢;have Hr:=za hA;clear hq hr hE hm hA hY hC;go_enter Tryz.func143,Tryz.ntmps143
 go_wp2_with fail
 refine Hr.out.mono ?_;rintro e w2 ⟨rfl,hF⟩
 go_wp2_with fail
 go_ret;refine⟨zmd (ByteArray.ext (by simp)),hF⟩
theorem zqq (w:World):Calls ze 144 #[] w fun e w'=>e = .returned (.agg #[.string ⟨sixes.toArray⟩,.int .i64 6])∧Fr NoB w w':=by
 go_enter Tryz.func144,Tryz.ntmps144
 go_wp2_with fail
 refine bodyPost_ret (v := .agg #[.string ⟨sixes.toArray⟩,.int .i64 6]) (by simp[results,Tryz.results144,go_sem,sixes]) rfl ?_;exact⟨rfl,Fr.refl.alloc _⟩
theorem zff (S:Nat→Prop)(l:Bs)(v:Value)(w:World)(hv:SB S l v w)(hlen:l.length≤1000000) :
 Calls ze 125 #[v] w fun e w'=>e = .returned (.string ⟨(zfx l).toArray⟩)∧Fr NoB w w':=by
 have hc:=fun W hW=>zva sixes 6 (.inr rfl) rfl S l v W hW hlen
 rw[zoi]at hc;have hf:=fun W=>zn8 (b64C l) W (by rw[zom];omega)
 obtain⟨q,cap,rfl⟩:=hv.form;unfold zfx;obtain⟨X,hX⟩:∃ X:Bs,X=sixes:=⟨_,rfl⟩;obtain⟨Y,hY⟩:∃ Y:Bs,b64C l=Y:=⟨_,rfl⟩;have hh:=zqq w;rw[← hX]at hc hh;rw[hY]at hc hf ⊢;have Hc:=za hc;have Hh:=za hh;have Hf:=za hf;have Hv:=za hv;clear hc hh hv hX hf hY;go_enter Tryz.func125,Tryz.ntmps125
 go_wp2_with fail
 refine Hh.out.mono ?_;rintro e w1 ⟨rfl,hA⟩;have hD:=za (Hv.out.fr hA (fun _ _ _ _ h=>h));have hF:=za hA;clear hA
 go_wp2_with fail
 refine(Hc.out _ hD.out).mono ?_;rintro e w2 ⟨rfl,hB⟩;have hE:=za (hF.out.trans' hB);clear hB
 go_wp2_with fail
 refine(Hf.out _).mono ?_;rintro e w3 ⟨rfl,hC⟩
 go_wp2_with fail
 go_ret;exact⟨rfl,hE.out.trans' hC⟩
theorem zql (s:Bs):(zi1 s).length≤s.length:=by
 unfold zi1;have:=(List.dropWhile_sublist (l:=s.reverse) (fun x=>x==61)).length_le;simpa using this
theorem zib (s:Bs) (w:World) (hlen:s.length≤1000000) :
 Calls ze 81 #[.string ⟨s.toArray⟩] w fun e w'=>zj2 w.heap.size (zdi s) e w'∧Fr NoB w w':=by
 have ht:=Go.Proofs.Tryz.strings_TrimRight_one ⟨s.toArray⟩ 61 (by decide) w (by simp only[show(ByteArray.mk s.toArray).size=s.length from rfl];omega);rw[show Lib.trimRightB (ByteArray.mk s.toArray).data.toList 61=zi1 s from rfl]at ht;have hI:=zql s;unfold zdi;obtain⟨t,hG⟩:∃ t,zi1 s=t:=⟨_,rfl⟩;rw[hG]at ht hI ⊢;have hc:=fun W=>zof sixes 6 (.inr rfl) rfl t W (by omega)
 have hf:=fun W=>zn8 t W (by omega)
 unfold znj;obtain⟨X,hX⟩:∃ X:Bs,X=sixes:=⟨_,rfl⟩;have hh:=fun W=>zqq W
 rw[← hX]at hc hh ⊢;obtain⟨R,hR⟩:∃ R,qq X 6 0 0 [] t=R:=⟨_,rfl⟩;obtain⟨F,hF⟩:∃ F,t++zks t=F:=⟨_,rfl⟩;rw[hR]at hc;rw[hR,hF];rw[hF]at hf;have Hc:=za hc;have Hh:=za hh;have Hf:=za hf;have Ht:=za ht;clear hc hh hX hR hG hf hF ht;by_cases hA:F=s
 ·rw [if_pos hA];subst hA;go_enter Tryz.func81,Tryz.ntmps81
  go_wp2_with fail
  refine Ht.out.mono ?_;rintro e w1 ⟨rfl,rfl⟩
  go_wp2_with fail
  refine(Hf.out _).mono ?_;rintro e w2 ⟨rfl,hB⟩;have hE:=za hB;clear hB
  go_wp2_with fail
  refine(Hh.out _).mono ?_;rintro e w3 ⟨rfl,hH⟩;have hD:=za (hE.out.trans' hH);clear hH;cases R with
  | none =>
    go_wp2_with fail
    refine(Hc.out _).mono ?_;rintro e w4 ⟨hp,hC⟩;obtain rfl:e=_:=hp
    go_wp2_with fail
    go_ret2;exact⟨rfl,hD.out.trans' hC⟩
  | some b =>
    go_wp2_with fail
    refine(Hc.out _).mono ?_;rintro e w4 ⟨⟨a,c,rfl,hJ⟩,hC⟩
    go_wp2_with fail
    go_ret2;exact⟨⟨a,c,rfl,hJ.kp (fun k o hk ho _=>⟨by have:=hD.out.size;omega,ho⟩)⟩,hD.out.trans' hC⟩
 rw[if_neg hA];have hne:(F==s)=false:=by simpa using hA
 clear hA;go_enter Tryz.func81,Tryz.ntmps81
 go_wp2_with fail
 refine Ht.out.mono ?_;rintro e w1 ⟨rfl,rfl⟩
 go_wp2_with fail
 refine(Hf.out _).mono ?_;rintro e w2 ⟨rfl,hB⟩;have hE:=za hB;clear hB
 go_wp2_with fail
 go_ret2;exact⟨rfl,hE.out⟩
theorem zua (s:Bs) (w:World) (hlen:s.length≤1000000) :
 Calls ze 140 #[.func (.func 81) #[] #[],.string ⟨s.toArray⟩,.int .i64 64] w fun e w'=>zlx w.heap.size (zh1 s) e w'∧Fr NoB w w':=by
 have hc:=zib s w hlen;unfold zh1;obtain⟨R,hR⟩:∃ R,zdi s=R:=⟨_,rfl⟩;rw[hR]at hc ⊢;have Hc:=za hc;clear hc hR;have hent:∀ hC w,(callFunc 81 hC).run ze w = .ok (.enter 81 hC) w:=fun hC w=>by simp[go_sem]
 cases R with
 | none =>
   go_enter Tryz.func140,Tryz.ntmps140
   go_wp2_with fail
   refine Hc.out.mono ?_;rintro e w2 ⟨hp,hB⟩;obtain rfl:e=_:=hp
   go_wp2_with fail
   go_ret2;exact⟨rfl,hB⟩
 | some b =>
   simp only;by_cases hA:b.length=64
   ·rw[if_pos hA];have hF:=Hc;clear Hc;go_enter Tryz.func140,Tryz.ntmps140
    go_wp2_with fail
    refine hF.out.mono ?_;rintro e w2 ⟨⟨a,c,rfl,hD⟩,hB⟩;obtain⟨g,o,c',e1,hH,-,-,-⟩:=hD.cellsAt (by intro h;rw[h]at hA;simp at hA);obtain⟨rfl,rfl⟩:a=some ⟨g,o,none⟩∧c=c':=by simpa using e1
    have hl:=hD;have Hsb:=za hD;have hG:=za hB;rw[hA]at hH;have hE:((b.length:Int) != 64)=false:=by rw[hA];rfl
    have Hcl:=za (zvb ⟨g,o,none⟩ b.length c w2 (by omega));have H32:=za hA;clear e1 hl hD hB hA
    go_wp2_with fail
    refine Hcl.out.mono ?_;rintro e w3 ⟨rfl,rfl⟩
    go_wp2_with fail
    go_ret2;refine⟨⟨_,rfl,?_⟩,hG.out⟩;obtain⟨a',cp,hv,hcp,hx⟩:=Hsb.out;simp only[Value.slice.injEq]at hv;obtain⟨rfl,-,-⟩:=hv;exact⟨_,_,rfl,Nat.le_refl _,hx⟩
   rw[if_neg hA];have hF:=Hc;clear Hc;go_enter Tryz.func140,Tryz.ntmps140
   go_wp2_with fail
   refine hF.out.mono ?_;rintro e w2 ⟨⟨a,c,rfl,hD⟩,hB⟩;have hG:=za hB;have hE:((b.length:Int) != 64)=true:=by simp;omega
   have h32n:(b.length != 64)=true:=by simp;omega
   clear hD hB
   go_wp2_with fail
   go_ret2;exact⟨rfl,hG.out⟩
def zxu:Array Value:=#[zy z6 0,zy z6 0,zy z6 0,zy z6 0,zy z6 0,zy z6 0,zy z6 0,zy z6 0,zy z6 0,zy z6 0,zy z6 0,zy z6 0,zy z6 0,zy z6 0,zy z6 0,zy z6 0,zy z6 0,zy z6 0,zy z6 0,zy z6 0,zy z6 0,zy z6 0,zy z6 0,zy z6 0,zy z6 0,zy z6 0,zy z6 0,zy z6 0,zy z6 0,zy z6 0,zy z6 0,zy z6 0,zy z6 0,zy z6 0,zy z6 0,zy z6 0,zy z6 0,zy z6 0,zy z6 0,zy z6 0,zy z6 0,zy z6 0,zy z6 0,zy z6 0,zy z6 0,zy z6 0,zy z6 0,zy z6 0,zy z6 0,zy z6 0,zy z6 0,zy z6 0,zy z6 0,zy z6 0,zy z6 0,zy z6 0,zy z6 0,zy z6 0,zy z6 0,zy z6 0,zy z6 0,zy z6 0,zy z6 0,zy z6 0]
def zun (r:Option Bs) (e:Ending):Prop :=
 match r with
 | some b=>e = .returned (.tuple #[.agg (zb b).toArray,.nilIface])
 | none=>e = .returned (.tuple #[.agg zxu,.iface 49 (.int .i64 1)])
theorem qx:(Tryz.prog.info? 113).map (·.size)=some 64:=by kernel_rfl
theorem zac:Tryz.prog.underlying 113=some (.array 64 5):=by kernel_rfl
theorem zwn (s:Bs) (w:World) (hlen:s.length≤1000000) :
 Calls ze 84 #[.string ⟨s.toArray⟩] w fun e w'=>zun (zh1 s) e∧Fr NoB w w':=by
 have hc:=fun W=>zua s W hlen
 have hl:=fun b h=>(zeu s b).1 h
 obtain⟨R,hR⟩:∃ R,zh1 s=R:=⟨_,rfl⟩;rw[hR]at hc hl ⊢;have Hc:=za hc;clear hc hR;cases R with
 | none =>
   clear hl;go_enter Tryz.func84,Tryz.ntmps84
   go_wp2_with fail
   obtain⟨w1,hE⟩:∃ w1,w.alloc (.cells #[zy z6 0,zy z6 0,zy z6 0,zy z6 0,zy z6 0,zy z6 0,zy z6 0,zy z6 0,zy z6 0,zy z6 0,zy z6 0,zy z6 0,zy z6 0,zy z6 0,zy z6 0,zy z6 0,zy z6 0,zy z6 0,zy z6 0,zy z6 0,zy z6 0,zy z6 0,zy z6 0,zy z6 0,zy z6 0,zy z6 0,zy z6 0,zy z6 0,zy z6 0,zy z6 0,zy z6 0,zy z6 0,zy z6 0,zy z6 0,zy z6 0,zy z6 0,zy z6 0,zy z6 0,zy z6 0,zy z6 0,zy z6 0,zy z6 0,zy z6 0,zy z6 0,zy z6 0,zy z6 0,zy z6 0,zy z6 0,zy z6 0,zy z6 0,zy z6 0,zy z6 0,zy z6 0,zy z6 0,zy z6 0,zy z6 0,zy z6 0,zy z6 0,zy z6 0,zy z6 0,zy z6 0,zy z6 0,zy z6 0,zy z6 0] 113)=w1:=⟨_,rfl⟩;have hA:=heap_alloc_new w (.cells #[zy z6 0,zy z6 0,zy z6 0,zy z6 0,zy z6 0,zy z6 0,zy z6 0,zy z6 0,zy z6 0,zy z6 0,zy z6 0,zy z6 0,zy z6 0,zy z6 0,zy z6 0,zy z6 0,zy z6 0,zy z6 0,zy z6 0,zy z6 0,zy z6 0,zy z6 0,zy z6 0,zy z6 0,zy z6 0,zy z6 0,zy z6 0,zy z6 0,zy z6 0,zy z6 0,zy z6 0,zy z6 0,zy z6 0,zy z6 0,zy z6 0,zy z6 0,zy z6 0,zy z6 0,zy z6 0,zy z6 0,zy z6 0,zy z6 0,zy z6 0,zy z6 0,zy z6 0,zy z6 0,zy z6 0,zy z6 0,zy z6 0,zy z6 0,zy z6 0,zy z6 0,zy z6 0,zy z6 0,zy z6 0,zy z6 0,zy z6 0,zy z6 0,zy z6 0,zy z6 0,zy z6 0,zy z6 0,zy z6 0,zy z6 0] 113);have hF:=(Fr.refl (M:=NoB)).alloc (w:=w) (.cells #[zy z6 0,zy z6 0,zy z6 0,zy z6 0,zy z6 0,zy z6 0,zy z6 0,zy z6 0,zy z6 0,zy z6 0,zy z6 0,zy z6 0,zy z6 0,zy z6 0,zy z6 0,zy z6 0,zy z6 0,zy z6 0,zy z6 0,zy z6 0,zy z6 0,zy z6 0,zy z6 0,zy z6 0,zy z6 0,zy z6 0,zy z6 0,zy z6 0,zy z6 0,zy z6 0,zy z6 0,zy z6 0,zy z6 0,zy z6 0,zy z6 0,zy z6 0,zy z6 0,zy z6 0,zy z6 0,zy z6 0,zy z6 0,zy z6 0,zy z6 0,zy z6 0,zy z6 0,zy z6 0,zy z6 0,zy z6 0,zy z6 0,zy z6 0,zy z6 0,zy z6 0,zy z6 0,zy z6 0,zy z6 0,zy z6 0,zy z6 0,zy z6 0,zy z6 0,zy z6 0,zy z6 0,zy z6 0,zy z6 0,zy z6 0] 113);rw[hE]at hA hF ⊢;clear hE;refine(Hc.out _).mono ?_;rintro e w2 ⟨hp,hC⟩;obtain rfl:e=_:=hp;have hD:=hC.block _ _ hA (fun h=>h);have HT:=za (je hD (n:=64) (by simp));have H1:=za (show((#[zy z6 0,zy z6 0,zy z6 0,zy z6 0,zy z6 0,zy z6 0,zy z6 0,zy z6 0,zy z6 0,zy z6 0,zy z6 0,zy z6 0,zy z6 0,zy z6 0,zy z6 0,zy z6 0,zy z6 0,zy z6 0,zy z6 0,zy z6 0,zy z6 0,zy z6 0,zy z6 0,zy z6 0,zy z6 0,zy z6 0,zy z6 0,zy z6 0,zy z6 0,zy z6 0,zy z6 0,zy z6 0,zy z6 0,zy z6 0,zy z6 0,zy z6 0,zy z6 0,zy z6 0,zy z6 0,zy z6 0,zy z6 0,zy z6 0,zy z6 0,zy z6 0,zy z6 0,zy z6 0,zy z6 0,zy z6 0,zy z6 0,zy z6 0,zy z6 0,zy z6 0,zy z6 0,zy z6 0,zy z6 0,zy z6 0,zy z6 0,zy z6 0,zy z6 0,zy z6 0,zy z6 0,zy z6 0,zy z6 0,zy z6 0]:Array Value).all (·.oneCell'))=true by simp[Value.oneCell']);have HA2:=za hD;have HF:=za (hF.trans' hC);clear hA hF hC hD
   go_wp2_with(refine wpList_store_mid rfl 113 _ _ rfl w.heap.size 0 #[zy z6 0,zy z6 0,zy z6 0,zy z6 0,zy z6 0,zy z6 0,zy z6 0,zy z6 0,zy z6 0,zy z6 0,zy z6 0,zy z6 0,zy z6 0,zy z6 0,zy z6 0,zy z6 0,zy z6 0,zy z6 0,zy z6 0,zy z6 0,zy z6 0,zy z6 0,zy z6 0,zy z6 0,zy z6 0,zy z6 0,zy z6 0,zy z6 0,zy z6 0,zy z6 0,zy z6 0,zy z6 0,zy z6 0,zy z6 0,zy z6 0,zy z6 0,zy z6 0,zy z6 0,zy z6 0,zy z6 0,zy z6 0,zy z6 0,zy z6 0,zy z6 0,zy z6 0,zy z6 0,zy z6 0,zy z6 0,zy z6 0,zy z6 0,zy z6 0,zy z6 0,zy z6 0,zy z6 0,zy z6 0,zy z6 0,zy z6 0,zy z6 0,zy z6 0,zy z6 0,zy z6 0,zy z6 0,zy z6 0,zy z6 0] rfl rfl HT.out qx H1.out ?_)
   have hH:=run_loadVar_mid (P:=ze) _ w.heap.size 0 113 (#[zy z6 0,zy z6 0,zy z6 0,zy z6 0,zy z6 0,zy z6 0,zy z6 0,zy z6 0,zy z6 0,zy z6 0,zy z6 0,zy z6 0,zy z6 0,zy z6 0,zy z6 0,zy z6 0,zy z6 0,zy z6 0,zy z6 0,zy z6 0,zy z6 0,zy z6 0,zy z6 0,zy z6 0,zy z6 0,zy z6 0,zy z6 0,zy z6 0,zy z6 0,zy z6 0,zy z6 0,zy z6 0,zy z6 0,zy z6 0,zy z6 0,zy z6 0,zy z6 0,zy z6 0,zy z6 0,zy z6 0,zy z6 0,zy z6 0,zy z6 0,zy z6 0,zy z6 0,zy z6 0,zy z6 0,zy z6 0,zy z6 0,zy z6 0,zy z6 0,zy z6 0,zy z6 0,zy z6 0,zy z6 0,zy z6 0,zy z6 0,zy z6 0,zy z6 0,zy z6 0,zy z6 0,zy z6 0,zy z6 0,zy z6 0]:Array Value).toList (.array 64 5) (World.rangeAt_setCells_same w2 w.heap.size 0 (#[zy z6 0,zy z6 0,zy z6 0,zy z6 0,zy z6 0,zy z6 0,zy z6 0,zy z6 0,zy z6 0,zy z6 0,zy z6 0,zy z6 0,zy z6 0,zy z6 0,zy z6 0,zy z6 0,zy z6 0,zy z6 0,zy z6 0,zy z6 0,zy z6 0,zy z6 0,zy z6 0,zy z6 0,zy z6 0,zy z6 0,zy z6 0,zy z6 0,zy z6 0,zy z6 0,zy z6 0,zy z6 0,zy z6 0,zy z6 0,zy z6 0,zy z6 0,zy z6 0,zy z6 0,zy z6 0,zy z6 0,zy z6 0,zy z6 0,zy z6 0,zy z6 0,zy z6 0,zy z6 0,zy z6 0,zy z6 0,zy z6 0,zy z6 0,zy z6 0,zy z6 0,zy z6 0,zy z6 0,zy z6 0,zy z6 0,zy z6 0,zy z6 0,zy z6 0,zy z6 0,zy z6 0,zy z6 0,zy z6 0,zy z6 0]:Array Value).toList HT.out) zac rfl qx;refine bodyPost_ret (v := .tuple #[.agg zxu,.iface 49 (.int .i64 1)]) ?_ rfl ⟨rfl,HF.out.trans (z8 _ _ _ _) (fun k _ hm => .inr (by omega))⟩;unfold zxu;rw[results_cell_tmp rfl];simp only[Array.toArray_toList]at hH;simp[asAddr,Result.andThen,hH]
 | some b =>
   obtain⟨-,hI⟩:=hl b rfl;clear hl;go_enter Tryz.func84,Tryz.ntmps84
   go_wp2_with fail
   obtain⟨w1,hE⟩:∃ w1,w.alloc (.cells #[zy z6 0,zy z6 0,zy z6 0,zy z6 0,zy z6 0,zy z6 0,zy z6 0,zy z6 0,zy z6 0,zy z6 0,zy z6 0,zy z6 0,zy z6 0,zy z6 0,zy z6 0,zy z6 0,zy z6 0,zy z6 0,zy z6 0,zy z6 0,zy z6 0,zy z6 0,zy z6 0,zy z6 0,zy z6 0,zy z6 0,zy z6 0,zy z6 0,zy z6 0,zy z6 0,zy z6 0,zy z6 0,zy z6 0,zy z6 0,zy z6 0,zy z6 0,zy z6 0,zy z6 0,zy z6 0,zy z6 0,zy z6 0,zy z6 0,zy z6 0,zy z6 0,zy z6 0,zy z6 0,zy z6 0,zy z6 0,zy z6 0,zy z6 0,zy z6 0,zy z6 0,zy z6 0,zy z6 0,zy z6 0,zy z6 0,zy z6 0,zy z6 0,zy z6 0,zy z6 0,zy z6 0,zy z6 0,zy z6 0,zy z6 0] 113)=w1:=⟨_,rfl⟩;have hA:=heap_alloc_new w (.cells #[zy z6 0,zy z6 0,zy z6 0,zy z6 0,zy z6 0,zy z6 0,zy z6 0,zy z6 0,zy z6 0,zy z6 0,zy z6 0,zy z6 0,zy z6 0,zy z6 0,zy z6 0,zy z6 0,zy z6 0,zy z6 0,zy z6 0,zy z6 0,zy z6 0,zy z6 0,zy z6 0,zy z6 0,zy z6 0,zy z6 0,zy z6 0,zy z6 0,zy z6 0,zy z6 0,zy z6 0,zy z6 0,zy z6 0,zy z6 0,zy z6 0,zy z6 0,zy z6 0,zy z6 0,zy z6 0,zy z6 0,zy z6 0,zy z6 0,zy z6 0,zy z6 0,zy z6 0,zy z6 0,zy z6 0,zy z6 0,zy z6 0,zy z6 0,zy z6 0,zy z6 0,zy z6 0,zy z6 0,zy z6 0,zy z6 0,zy z6 0,zy z6 0,zy z6 0,zy z6 0,zy z6 0,zy z6 0,zy z6 0,zy z6 0] 113);have hF:=(Fr.refl (M:=NoB)).alloc (w:=w) (.cells #[zy z6 0,zy z6 0,zy z6 0,zy z6 0,zy z6 0,zy z6 0,zy z6 0,zy z6 0,zy z6 0,zy z6 0,zy z6 0,zy z6 0,zy z6 0,zy z6 0,zy z6 0,zy z6 0,zy z6 0,zy z6 0,zy z6 0,zy z6 0,zy z6 0,zy z6 0,zy z6 0,zy z6 0,zy z6 0,zy z6 0,zy z6 0,zy z6 0,zy z6 0,zy z6 0,zy z6 0,zy z6 0,zy z6 0,zy z6 0,zy z6 0,zy z6 0,zy z6 0,zy z6 0,zy z6 0,zy z6 0,zy z6 0,zy z6 0,zy z6 0,zy z6 0,zy z6 0,zy z6 0,zy z6 0,zy z6 0,zy z6 0,zy z6 0,zy z6 0,zy z6 0,zy z6 0,zy z6 0,zy z6 0,zy z6 0,zy z6 0,zy z6 0,zy z6 0,zy z6 0,zy z6 0,zy z6 0,zy z6 0,zy z6 0] 113);rw[hE]at hA hF ⊢;clear hE;refine(Hc.out _).mono ?_;rintro e w2 ⟨⟨a,rfl,hJ⟩,hC⟩;have hD:=hC.block _ _ hA (fun h=>h);obtain⟨g,o,c',e1,-,-,-,hB⟩:=hJ.cellsAt (by intro h;rw[h]at hI;simp at hI);obtain⟨rfl,-⟩:a=some ⟨g,o,none⟩∧b.length=c':=by simpa using e1
   have hG:(zb b).length=64:=by simp[zb,hI]
   have hM:=za (show w2.rangeAt g o (zb b) from fun j v hv=>by
    unfold zb at hv;rw[List.getElem?_map]at hv;cases hx:b[j]? with
    | none=>rw[hx]at hv;simp at hv
    | some x =>
      rw[hx]at hv;obtain rfl:v = .int .u8 x.toNat:=by simpa using hv.symm
      exact hB j x hx)
   have HT:=za (je hD (n:=(zb b).toArray.size) (by simp[hG]))
   have H1:=za (show((zb b).toArray.all (·.oneCell'))=true from all_oneCell_toArray (fun v hv=>by
    unfold zb at hv;rw[List.mem_map]at hv;obtain⟨x,_,rfl⟩:=hv
    rfl))
   have hK:=za (show(Tryz.prog.info? 113).map (·.size)=some (zb b).length by rw[qx,hG]);have hL:=za (show(Tryz.prog.info? 113).map (·.size)=some (zb b).toArray.size by rw[qx];simp[hG]);have HF:=za (hF.trans' hC);have Hbl:=za hG;clear hA hF hC hD hJ hB e1 hG;have hat:∀ W,(Instr.arrayAt 113 (.slice (some ⟨g,o,none⟩) 64 64)).run ze W = .ok (.pointer (some ⟨g,o,none⟩)) W:=fun W=>run_arrayAt W 113 5 64 _ 64 64 zac (Nat.le_refl _)
   go_wp2_with(first | (refine wpList_load_mid rfl 113 _ rfl g o rfl (zb b) (.array 64 5) hM.out zac rfl hK.out ?_) | (refine wpList_store_mid rfl 113 _ _ rfl w.heap.size 0 (zb b).toArray rfl rfl HT.out hL.out H1.out ?_))
   have hH:=run_loadVar_mid (P:=ze) _ w.heap.size 0 113 (zb b) (.array 64 5) (World.rangeAt_setCells_same w2 w.heap.size 0 (zb b) (by simpa using HT.out)) zac rfl hK.out;refine bodyPost_ret (v := .tuple #[.agg (zb b).toArray,.nilIface]) ?_ rfl ⟨rfl,HF.out.trans (z8 _ _ _ _) (fun k _ hm => .inr (by omega))⟩;rw[results_cell_tmp rfl];simp[asAddr,Result.andThen,hH]
end
end Go.Proofs.YtmgfncjfgkllcaaGreatDoor
