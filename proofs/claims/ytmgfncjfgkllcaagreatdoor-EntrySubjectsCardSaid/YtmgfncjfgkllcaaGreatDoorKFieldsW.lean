/-
 The entry of a value (package entry),as plain data: there and back.
-/
import Derived.Test.YtmgfncjfgkllcaaGreatDoorKFields
import Derived.Test.YtmgfncjfgkllcaaGreatDoorKSpecVal
import Derived.Test.YtmgfncjfgkllcaaGreatDoorKRune
import Derived.Test.YtmgfncjfgkllcaaGreatDoorKSpecB64
import Derived.Test.YtmgfncjfgkllcaaGreatDoorKEnAt
open Go.Lib renaming hid→za,byteCells→zb
open Go.Proofs.Tryz renaming prog→ze
open Go.World renaming rangeAt_setCells_same→zg
open Go renaming heap_alloc_new→zh
open List renaming size_toArray→zn
open Nat renaming lt_of_lt_of_le→zu
open Go.Value renaming int→zy
open Go.IntKind renaming u8→z6
namespace Go.Proofs.YtmgfncjfgkllcaaGreatDoor
set_option linter.unusedVariables false
set_option linter.unusedSimpArgs false
set_option linter.unusedSectionVars false
set_option maxRecDepth 100000
set_option maxHeartbeats 2000000
section
def zc3:Bs:=List.replicate 64 0
def zj1 (f:Fd) (nm:Bs):Bs × Fd :=
 ((zet (ju f nm).1).getD [],{ (ju f nm).2 with bad:=(ju f nm).2.bad||(zet (ju f nm).1).isNone })
def zj6 (f:Fd) (nm:Bs):Bs × Fd :=
 ((zj2 (ju f nm).1).getD zc3,{ (ju f nm).2 with bad:=(ju f nm).2.bad||(zj2 (ju f nm).1).isNone })
def za8 (s:Bs):Sg × Bool :=
 if Lib.hasPrefix s zp3 then (⟨[],(zii (s.drop 4)).getD jd,zc3⟩,(zii (s.drop 4)).isSome) else (⟨s,jd,zc3⟩,za0 s)
def zbt (j:J):Sg × Bool :=
 let t:=ju ⟨j,0,false⟩ nBy
 let s:=za8 t.1
 let b:=zj6 t.2 zxb
 (⟨s.1.id,s.1.key,b.1⟩,!s.2 || !zdp b.2)
def zgv (s:Bs):Int:=if s=[] then 0 else if s=wArt then 1 else if s=wEnv then 2 else if s=wSta then 3 else if s=wBin then 4 else -1
def zzx (s:Bs):Int:=if s=[] then 0 else if s=wBind then 1 else if s=wRot then 2 else if s=wRev then 3 else -1
def zsa (k:Int) (f:Fd):En × Fd :=
 if k=1 then (⟨1,(zg5 f zmb).1,[],[],0,[],jd,[]⟩,(zg5 f zmb).2)
 else if k=2 then (⟨2,jd,(ju f zee).1,(zj1 (ju f zee).2 zft).1,0,[],jd,[]⟩,(zj1 (ju f zee).2 zft).2)
 else if k=3 then (⟨3,jd,[],(zj1 f zft).1,0,[],jd,[]⟩,(zj1 f zft).2)
 else if k=4 then
  if zzx (ju (ju f qg).2 nOp).1=3 then (⟨4,jd,[],[],3,(ju f qg).1,jd,[]⟩,(ju (ju f qg).2 nOp).2)
  else (⟨4,jd,[],[],zzx (ju (ju f qg).2 nOp).1,(ju f qg).1,(zg5 (ju (ju f qg).2 nOp).2 zim).1,[]⟩,(zg5 (ju (ju f qg).2 nOp).2 zim).2)
 else (⟨k,jd,[],[],0,[],jd,[]⟩,f)
def zv6 (j:J):En × Bool :=
 let t:=ju ⟨j,0,false⟩ j8
 let r:=zsa (zgv t.1) t.2
 let g:=zbg r.2 za6 4
 let l:=g.1.list.map zbt
 ({ r.1 with sigs:=l.map (·.1) },zdp { g.2 with bad:=g.2.bad||l.any (·.2) })
def pOf (sub:Bs→Bool) (j:J):Option En :=
 if j0 0 j=false then none else
 if (zv6 j).2&&zce sub (zv6 j).1 then some (zv6 j).1 else none
def zlj (sub:Bs→Bool) (b:Bs):Option En × Nat :=
 if (zaf b).2≠0 then (none,(zaf b).2) else match pOf sub (zaf b).1 with
 | some e=>(some e,0)
 | none=>(none,11)
/-! there and back -/
theorem zqo {f:Fd}{nm:Bs}{k:Int}{v:J}(h:zb3 f.j nm=some v)(hk:v.kind=k):zbg f nm k=(v,{ f with seen:=f.seen+1 }):=by
 unfold zbg;rw[h];simp only;rw[if_pos hk]
theorem zas {f:Fd}{nm:Bs}{s:Bs}(h:zb3 f.j nm=some (pT s)):ju f nm=(s,{ f with seen:=f.seen+1 }):=by
 unfold ju;rw[zqo (k:=3) h rfl];rfl
theorem zqi {f:Fd}{nm:Bs}{d:Bs}(h:zb3 f.j nm=some (pT (zdf d)))(hd:d.length=32):zg5 f nm=(d,{ f with seen:=f.seen+1 }):=by
 unfold zg5;rw[zas h];simp only;rw[(zc4 _ d).2 ⟨rfl,hd⟩];simp
theorem zqq {f:Fd}{nm:Bs}{d:Bs}(h:zb3 f.j nm=some (pT (zhp d))):zj1 f nm=(d,{ f with seen:=f.seen+1 }):=by
 unfold zj1;rw[zas h];simp only;rw[(ze7 _ d).2 rfl];simp
theorem zva {f:Fd}{nm:Bs}{d:Bs}(h:zb3 f.j nm=some (pT (zhp d)))(hd:d.length=64):zj6 f nm=(d,{ f with seen:=f.seen+1 }):=by
 unfold zj6;rw[zas h];simp only;rw[(zgg _ d).2 ⟨rfl,hd⟩];simp
theorem zr6 (s:Bs):Lib.hasPrefix (zp3++s) zp3=true:=by
 unfold Lib.hasPrefix;simp
theorem zuo {s:Bs} (h:za0 s=true):Lib.hasPrefix s zp3=false:=by
 cases hp:Lib.hasPrefix s zp3 with
 | false=>rfl
 | true =>
   unfold za0 at h;simp only[Bool.and_eq_true,List.all_eq_true]at h
   have hm:(58:UInt8)∈s:=by
    have:s.take 4=zp3:=by
     unfold Lib.hasPrefix at hp;simp at hp;obtain⟨t,rfl⟩:=hp;rfl
    have hA:(58:UInt8)∈s.take 4:=by rw[this];decide
    exact List.mem_of_mem_take hA
   have:=h.2.2 58 hm;exact absurd this (by decide)
theorem zi4 {s:Sg}(h:s.id=[]∨za0 s.id=true∧s.key=jd)(hk:s.key.length=32):za8 (zal s)=(⟨s.id,s.key,zc3⟩,true):=by
 unfold zal za8;by_cases hi:s.id=[]
 ·rw[if_pos hi,if_pos (zr6 _)];have e:(zp3++zdf s.key).drop 4=zdf s.key:=rfl;rw[e,(zc4 _ s.key).2 ⟨rfl,hk⟩,hi];rfl
 rw[if_neg hi];obtain⟨h1,h2⟩:=h.resolve_left hi;rw[zuo h1,h1,h2];rfl
theorem zwt {s:Sg}(h:s.id=[]∨za0 s.id=true∧s.key=jd)(hk:s.ok):zbt (sgJ s)=(s,false):=by
 unfold zbt;simp only;rw[zas (nm:=nBy) (s:=zal s) rfl];simp only;rw[zi4 h hk.1,zva (d:=s.sig) rfl hk.2];rfl
theorem zsi:zgv wArt=1:=by decide
theorem zsh:zgv wEnv=2:=by decide
theorem zsg:zgv wSta=3:=by decide
theorem zks:zgv wBin=4:=by decide
theorem zw3 {k:Int}(h:1≤k∧k≤3):zzx (wOp k)=k:=by
 have:k=1∨k=2∨k=3:=by omega
 rcases this with rfl | rfl | rfl<;>decide
theorem zsp {sub:Bs→Bool}{e:En}(h:zce sub e=true):zsr (zbz e) (zat e.kind e.sigs)=true:=by
 unfold zce at h;simp only[Bool.and_eq_true]at h;exact h.2.2
theorem zsq {a b:En}(h:zsr a b=true):a.kind=b.kind∧a.digest=b.digest∧a.typ=b.typ∧a.payload=b.payload∧a.op=b.op∧a.ident=b.ident∧a.key=b.key:=by
 unfold zsr at h;simp at h;exact⟨h.1,h.2.1,h.2.2.1,h.2.2.2.1,h.2.2.2.2.1,h.2.2.2.2.2.1,h.2.2.2.2.2.2.1⟩
theorem zwp {l:List Sg}(h:∀ s∈l,s.id=[]∨za0 s.id=true∧s.key=jd)(hk:∀ s∈l,s.ok):(l.map sgJ).map zbt=l.map fun s=>(s,false):=by
 rw[List.map_map];exact List.map_congr_left (fun s hs=>zwt (h s hs) (hk s hs))
theorem zfa (l:List Sg):(l.map fun s=>(s,false)).map (·.1)=l:=by
 induction l with
 | nil=>rfl
 | cons x l ih=>simp only[List.map_cons,ih]
theorem ze9 (l:List Sg):(l.map fun s=>(s,false)).any (·.2)=false:=by
 induction l with
 | nil=>rfl
 | cons x l ih=>simp only[List.map_cons,List.any_cons,ih,Bool.or_false]
theorem z05 {sub:Bs→Bool} {e:En} (h:zce sub e=true) (he:e.ok):pOf sub (zfx e)=some e:=by
 have ho:=zje h;have hs:=ziy ho;obtain⟨-,p1,p2,p3,p4,p5,p6⟩:=zsq (zsp h);have hb:=zwp ho.sg he.2.2
 have hE:zv6 (zfx e)=(e,true):=by
  obtain⟨k,d,t,p,o,i,ky,sg⟩:=e;simp only[zat]at p1 p2 p3 p4 p5 p6;simp only at hb;obtain⟨e1,e2,-⟩:=he;simp only at e1 e2;have hk:=ho.kind;simp only at hk;have hB:∀ (f:Fd),zb3 f.j za6=some (zf1 sg)→zbg f za6 4=(zf1 sg,{ f with seen:=f.seen+1 }):=fun f hf=>zqo hf rfl
  have hA:(zf1 sg).list=sg.map sgJ:=rfl;rcases hk with rfl | rfl | rfl | rfl
  ·simp only[zbz,if_true]at p1 p2 p3 p4 p5 p6;subst p2;subst p3;subst p4;subst p5;subst p6;unfold zv6;simp only;rw[zas (nm:=j8) (s:=wArt) rfl];simp only;rw[zsi];unfold zsa;rw[if_pos rfl,zqi (d:=d) rfl e1];simp only;rw[hB _ rfl];simp only[hA,hb,zfa,ze9,Bool.or_false];rfl
  ·have p1:d=jd:=p1;have p4:o=0:=p4;have p5:i=[]:=p5;have p6:ky=jd:=p6;subst p1;subst p4;subst p5;subst p6;unfold zv6;simp only;rw[zas (nm:=j8) (s:=wEnv) rfl];simp only;rw[zsh];unfold zsa;rw[if_neg (by decide),if_pos rfl,zas (nm:=zee) (s:=t) rfl];simp only;rw[zqq (d:=p) rfl];simp only;rw[hB _ rfl];simp only[hA,hb,zfa,ze9,Bool.or_false];rfl
  ·have p1:d=jd:=p1;have p2:t=[]:=p2;have p4:o=0:=p4;have p5:i=[]:=p5;have p6:ky=jd:=p6;subst p1;subst p2;subst p4;subst p5;subst p6;unfold zv6;simp only;rw[zas (nm:=j8) (s:=wSta) rfl];simp only;rw[zsg];unfold zsa;rw[if_neg (by decide),if_neg (by decide),if_pos rfl,zqq (d:=p) rfl];simp only;rw[hB _ rfl];simp only[hA,hb,zfa,ze9,Bool.or_false];rfl
  have p1:d=jd:=p1;have p2:t=[]:=p2;have p3:p=[]:=p3;have hC:=ho.op rfl;simp only at hC;have hD:=zw3 ⟨hC.1,hC.2.1⟩;subst p1;subst p2;subst p3;by_cases h3:o=3
  ·have p6:ky=jd:=by
    have h6:(if o=3 then ky else jd)=jd:=p6;rw[if_pos h3]at h6;exact h6
   subst h3;subst p6;unfold zv6;simp only;rw[zas (nm:=j8) (s:=wBin) rfl];simp only;rw[zks];unfold zsa;rw[if_neg (by decide),if_neg (by decide),if_neg (by decide),if_pos rfl,zas (nm:=qg) (s:=i) rfl];simp only;rw[zas (nm:=nOp) (s:=wOp 3) rfl];simp only;rw[hD,if_pos rfl];simp only;rw[hB _ rfl];simp only[hA,hb,zfa,ze9,Bool.or_false];rfl
  have hv:zfx ⟨4,jd,[],[],o,i,ky,sg⟩=zcz [(qg,pT i),(zim,pT (zdf ky)),(j8,pT wBin),(nOp,pT (wOp o)),(za6,zf1 sg)]:=by
   unfold zfx zpw;rw[if_neg (show ¬ ((4:Int)=1) by decide),if_neg (show ¬ ((4:Int)=2) by decide),if_neg (show ¬ ((4:Int)=3) by decide),if_neg h3]
  rw[hv];unfold zv6;simp only;rw[zas (nm:=j8) (s:=wBin) rfl];simp only;rw[zks];unfold zsa;rw[if_neg (by decide),if_neg (by decide),if_neg (by decide),if_pos rfl,zas (nm:=qg) (s:=i) rfl];simp only;rw[zas (nm:=nOp) (s:=wOp o) rfl];simp only;rw[hD,if_neg h3];simp only;rw[zqi (d:=ky) rfl e2];simp only;rw[hB _ rfl];simp only[hA,hb,zfa,ze9,Bool.or_false];rfl
 unfold pOf;rw[hs,hE];simp[h]
end
section
open Go.RowKit
variable [OldK]
theorem zom (n:Nat):Lib.repeatL [61] n=List.replicate n 61:=by
 induction n with
 | zero=>rfl
 | succ n ih=>simp[Lib.repeatL,ih,List.replicate_succ]
theorem z14 (r:Nat)(hr:r<4)(w:World):Calls ze 220 #[.string ⟨#[61]⟩,.int .i64 r] w fun e w'=>e = .returned (.string ⟨(List.replicate r (61:UInt8)).toArray⟩)∧Fr NoB w w':=by
 rcases(show r=0∨r=1∨2≤r by omega) with rfl | rfl | h2
 ·refine(Go.Proofs.Tryz.strings_Repeat_zero _ w).mono ?_;rintro e w' ⟨rfl,rfl⟩;exact⟨rfl,Fr.refl⟩
 ·refine(Go.Proofs.Tryz.strings_Repeat_one _ w).mono ?_;rintro e w' ⟨rfl,rfl⟩;exact⟨rfl,Fr.refl⟩
 refine(Go.Proofs.Tryz.strings_Repeat_main ⟨#[61]⟩ r w h2 (by omega) (by simp only[show(ByteArray.mk #[61]).size=1 from rfl];omega) (by decide)).mono ?_;rintro e w' ⟨rfl,hb⟩;refine⟨?_,Fr.ofBelow hb⟩;rw[show(ByteArray.mk #[61]).data.toList=[61] from rfl,zom]
theorem zqm (s:Bs)(w:World)(hlen:s.length≤1400000) :
 Calls ze 143 #[.string ⟨s.toArray⟩] w fun e w'=>e = .returned (.string ⟨(s++zm4 s).toArray⟩)∧Fr NoB w w':=by
 have hsz:(ByteArray.mk s.toArray).size=s.length:=rfl;obtain⟨m,hm⟩:∃ m,s.length % 4=m:=⟨_,rfl⟩;have hmi:((s.length:Int)).tmod 4=(m:Int):=by rw[Int.tmod_eq_emod_of_nonneg (by omega)];omega
 have hE:m<4:=by omega
 have hD:IntKind.i64.wrap (4 - (m:Int))=((4 - m:Nat):Int):=by rw[IntKind.wrap_i64];omega
 have hB:(((4 - m:Nat):Int)).tmod 4=(((4 - m) % 4:Nat):Int):=by rw[Int.tmod_eq_emod_of_nonneg (by omega)];omega
 unfold zm4;rw[hm];obtain⟨r,hr⟩:∃ r,(4 - m) % 4=r:=⟨_,rfl⟩;obtain⟨q,hq⟩:∃ q,4 - m=q:=⟨_,rfl⟩;rw[hq]at hD hB hr;rw[hr]at hB;rw[hq,hr];have hA:=z14 r (by omega) w;have hC:r<4:=by omega
 obtain⟨Y,hY⟩:∃ Y,List.replicate r (61:UInt8)=Y:=⟨_,rfl⟩;have hyl:Y.length<4:=by rw[← hY,List.length_replicate];exact hC
 have hszY:(ByteArray.mk Y.toArray).size=Y.length:=rfl;rw[hY]at hA ⊢;have Hr:=za hA;clear hq hr hE hm hA hY hC;go_enter Tryz.func143,Tryz.ntmps143
 go_wp2_with fail
 refine Hr.out.mono ?_;rintro e w2 ⟨rfl,hF⟩
 go_wp2_with fail
 go_ret;refine⟨zhk (ByteArray.ext (by simp)),hF⟩
theorem ztq (w:World):Calls ze 144 #[] w fun e w'=>e = .returned (.agg #[.string ⟨sixes.toArray⟩,.int .i64 6])∧Fr NoB w w':=by
 go_enter Tryz.func144,Tryz.ntmps144
 go_wp2_with fail
 refine bodyPost_ret (v := .agg #[.string ⟨sixes.toArray⟩,.int .i64 6]) (by simp[results,Tryz.results144,go_sem,sixes]) rfl ?_;exact⟨rfl,Fr.refl.alloc _⟩
theorem zg9 (S:Nat→Prop)(l:Bs)(v:Value)(w:World)(hv:SB S l v w)(hlen:l.length≤1000000) :
 Calls ze 125 #[v] w fun e w'=>e = .returned (.string ⟨(zhp l).toArray⟩)∧Fr NoB w w':=by
 have hc:=fun W hW=>zyx sixes 6 (.inr rfl) rfl S l v W hW hlen
 rw[zqx]at hc;have hf:=fun W=>zqm (b64C l) W (by rw[zq1];omega)
 obtain⟨q,cap,rfl⟩:=hv.form;unfold zhp;obtain⟨X,hX⟩:∃ X:Bs,X=sixes:=⟨_,rfl⟩;obtain⟨Y,hY⟩:∃ Y:Bs,b64C l=Y:=⟨_,rfl⟩;have hh:=ztq w;rw[← hX]at hc hh;rw[hY]at hc hf ⊢;have Hc:=za hc;have Hh:=za hh;have Hf:=za hf;have Hv:=za hv;clear hc hh hv hX hf hY;go_enter Tryz.func125,Tryz.ntmps125
 go_wp2_with fail
 refine Hh.out.mono ?_;rintro e w1 ⟨rfl,hA⟩;have hD:=za (Hv.out.fr hA (fun _ _ _ _ h=>h));have hF:=za hA;clear hA
 go_wp2_with fail
 refine(Hc.out _ hD.out).mono ?_;rintro e w2 ⟨rfl,hB⟩;have hE:=za (hF.out.trans' hB);clear hB
 go_wp2_with fail
 refine(Hf.out _).mono ?_;rintro e w3 ⟨rfl,hC⟩
 go_wp2_with fail
 go_ret;exact⟨rfl,hE.out.trans' hC⟩
theorem zte (s:Bs):(zk5 s).length≤s.length:=by
 unfold zk5;have:=(List.dropWhile_sublist (l:=s.reverse) (fun x=>x==61)).length_le;simpa using this
theorem zkf (s:Bs) (w:World) (hlen:s.length≤1000000) :
 Calls ze 81 #[.string ⟨s.toArray⟩] w fun e w'=>zl9 w.heap.size (zet s) e w'∧Fr NoB w w':=by
 have ht:=Go.Proofs.Tryz.strings_TrimRight_one ⟨s.toArray⟩ 61 (by decide) w (by simp only[show(ByteArray.mk s.toArray).size=s.length from rfl];omega);rw[show Lib.trimRightB (ByteArray.mk s.toArray).data.toList 61=zk5 s from rfl]at ht;have hI:=zte s;unfold zet;obtain⟨t,hG⟩:∃ t,zk5 s=t:=⟨_,rfl⟩;rw[hG]at ht hI ⊢;have hc:=fun W=>zqu sixes 6 (.inr rfl) rfl t W (by omega)
 have hf:=fun W=>zqm t W (by omega)
 unfold zpx;obtain⟨X,hX⟩:∃ X:Bs,X=sixes:=⟨_,rfl⟩;have hh:=fun W=>ztq W
 rw[← hX]at hc hh ⊢;obtain⟨R,hR⟩:∃ R,zap X 6 0 0 [] t=R:=⟨_,rfl⟩;obtain⟨F,hF⟩:∃ F,t++zm4 t=F:=⟨_,rfl⟩;rw[hR]at hc;rw[hR,hF];rw[hF]at hf;have Hc:=za hc;have Hh:=za hh;have Hf:=za hf;have Ht:=za ht;clear hc hh hX hR hG hf hF ht;by_cases hA:F=s
 ·rw [if_pos hA];subst hA;go_enter Tryz.func81,Tryz.ntmps81
  go_wp2_with fail
  refine Ht.out.mono ?_;rintro e w1 ⟨rfl,rfl⟩
  go_wp2_with fail
  refine(Hf.out _).mono ?_;rintro e w2 ⟨rfl,hB⟩;have hE:=za hB;clear hB
  go_wp2_with fail
  refine(Hh.out _).mono ?_;rintro e w3 ⟨rfl,hH⟩;have hD:=za (hE.out.trans' hH);clear hH;cases R with
  | none =>
    go_wp2_with fail
    refine(Hc.out _).mono ?_;rintro e w4 ⟨hp,hC⟩;obtain rfl:e=_:=hp
    go_wp2_with fail
    go_ret2;exact⟨rfl,hD.out.trans' hC⟩
  | some b =>
    go_wp2_with fail
    refine(Hc.out _).mono ?_;rintro e w4 ⟨⟨a,c,rfl,hJ⟩,hC⟩
    go_wp2_with fail
    go_ret2;exact⟨⟨a,c,rfl,hJ.kp (fun k o hk ho _=>⟨by have:=hD.out.size;omega,ho⟩)⟩,hD.out.trans' hC⟩
 rw[if_neg hA];have hne:(F==s)=false:=by simpa using hA
 clear hA;go_enter Tryz.func81,Tryz.ntmps81
 go_wp2_with fail
 refine Ht.out.mono ?_;rintro e w1 ⟨rfl,rfl⟩
 go_wp2_with fail
 refine(Hf.out _).mono ?_;rintro e w2 ⟨rfl,hB⟩;have hE:=za hB;clear hB
 go_wp2_with fail
 go_ret2;exact⟨rfl,hE.out⟩
theorem zxs (s:Bs) (w:World) (hlen:s.length≤1000000) :
 Calls ze 140 #[.func (.func 81) #[] #[],.string ⟨s.toArray⟩,.int .i64 64] w fun e w'=>zn9 w.heap.size (zj2 s) e w'∧Fr NoB w w':=by
 have hc:=zkf s w hlen;unfold zj2;obtain⟨R,hR⟩:∃ R,zet s=R:=⟨_,rfl⟩;rw[hR]at hc ⊢;have Hc:=za hc;clear hc hR;have hent:∀ hC w,(callFunc 81 hC).run ze w = .ok (.enter 81 hC) w:=fun hC w=>by simp[go_sem]
 cases R with
 | none =>
   go_enter Tryz.func140,Tryz.ntmps140
   go_wp2_with fail
   refine Hc.out.mono ?_;rintro e w2 ⟨hp,hB⟩;obtain rfl:e=_:=hp
   go_wp2_with fail
   go_ret2;exact⟨rfl,hB⟩
 | some b =>
   simp only;by_cases hA:b.length=64
   ·rw[if_pos hA];have hF:=Hc;clear Hc;go_enter Tryz.func140,Tryz.ntmps140
    go_wp2_with fail
    refine hF.out.mono ?_;rintro e w2 ⟨⟨a,c,rfl,hD⟩,hB⟩;obtain⟨g,o,c',e1,hH,-,-,-⟩:=hD.cellsAt (by intro h;rw[h]at hA;simp at hA);obtain⟨rfl,rfl⟩:a=some ⟨g,o,none⟩∧c=c':=by simpa using e1
    have hl:=hD;have Hsb:=za hD;have hG:=za hB;rw[hA]at hH;have hE:((b.length:Int) != 64)=false:=by rw[hA];rfl
    have Hcl:=za (zyy ⟨g,o,none⟩ b.length c w2 (by omega));have H32:=za hA;clear e1 hl hD hB hA
    go_wp2_with fail
    refine Hcl.out.mono ?_;rintro e w3 ⟨rfl,rfl⟩
    go_wp2_with fail
    go_ret2;refine⟨⟨_,rfl,?_⟩,hG.out⟩;obtain⟨a',cp,hv,hcp,hx⟩:=Hsb.out;simp only[Value.slice.injEq]at hv;obtain⟨rfl,-,-⟩:=hv;exact⟨_,_,rfl,Nat.le_refl _,hx⟩
   rw[if_neg hA];have hF:=Hc;clear Hc;go_enter Tryz.func140,Tryz.ntmps140
   go_wp2_with fail
   refine hF.out.mono ?_;rintro e w2 ⟨⟨a,c,rfl,hD⟩,hB⟩;have hG:=za hB;have hE:((b.length:Int) != 64)=true:=by simp;omega
   have h32n:(b.length != 64)=true:=by simp;omega
   clear hD hB
   go_wp2_with fail
   go_ret2;exact⟨rfl,hG.out⟩
def z10:Array Value:=#[zy z6 0,zy z6 0,zy z6 0,zy z6 0,zy z6 0,zy z6 0,zy z6 0,zy z6 0,zy z6 0,zy z6 0,zy z6 0,zy z6 0,zy z6 0,zy z6 0,zy z6 0,zy z6 0,zy z6 0,zy z6 0,zy z6 0,zy z6 0,zy z6 0,zy z6 0,zy z6 0,zy z6 0,zy z6 0,zy z6 0,zy z6 0,zy z6 0,zy z6 0,zy z6 0,zy z6 0,zy z6 0,zy z6 0,zy z6 0,zy z6 0,zy z6 0,zy z6 0,zy z6 0,zy z6 0,zy z6 0,zy z6 0,zy z6 0,zy z6 0,zy z6 0,zy z6 0,zy z6 0,zy z6 0,zy z6 0,zy z6 0,zy z6 0,zy z6 0,zy z6 0,zy z6 0,zy z6 0,zy z6 0,zy z6 0,zy z6 0,zy z6 0,zy z6 0,zy z6 0,zy z6 0,zy z6 0,zy z6 0,zy z6 0]
def zx8 (r:Option Bs) (e:Ending):Prop :=
 match r with
 | some b=>e = .returned (.tuple #[.agg (zb b).toArray,.nilIface])
 | none=>e = .returned (.tuple #[.agg z10,.iface 49 (.int .i64 1)])
theorem zax:(Tryz.prog.info? 113).map (·.size)=some 64:=by kernel_rfl
theorem za1:Tryz.prog.underlying 113=some (.array 64 5):=by kernel_rfl
theorem z0p (s:Bs) (w:World) (hlen:s.length≤1000000) :
 Calls ze 84 #[.string ⟨s.toArray⟩] w fun e w'=>zx8 (zj2 s) e∧Fr NoB w w':=by
 have hc:=fun W=>zxs s W hlen
 have hl:=fun b h=>(zgg s b).1 h
 obtain⟨R,hR⟩:∃ R,zj2 s=R:=⟨_,rfl⟩;rw[hR]at hc hl ⊢;have Hc:=za hc;clear hc hR;cases R with
 | none =>
   clear hl;go_enter Tryz.func84,Tryz.ntmps84
   go_wp2_with fail
   obtain⟨w1,hE⟩:∃ w1,w.alloc (.cells #[zy z6 0,zy z6 0,zy z6 0,zy z6 0,zy z6 0,zy z6 0,zy z6 0,zy z6 0,zy z6 0,zy z6 0,zy z6 0,zy z6 0,zy z6 0,zy z6 0,zy z6 0,zy z6 0,zy z6 0,zy z6 0,zy z6 0,zy z6 0,zy z6 0,zy z6 0,zy z6 0,zy z6 0,zy z6 0,zy z6 0,zy z6 0,zy z6 0,zy z6 0,zy z6 0,zy z6 0,zy z6 0,zy z6 0,zy z6 0,zy z6 0,zy z6 0,zy z6 0,zy z6 0,zy z6 0,zy z6 0,zy z6 0,zy z6 0,zy z6 0,zy z6 0,zy z6 0,zy z6 0,zy z6 0,zy z6 0,zy z6 0,zy z6 0,zy z6 0,zy z6 0,zy z6 0,zy z6 0,zy z6 0,zy z6 0,zy z6 0,zy z6 0,zy z6 0,zy z6 0,zy z6 0,zy z6 0,zy z6 0,zy z6 0] 113)=w1:=⟨_,rfl⟩;have hA:=zh w (.cells #[zy z6 0,zy z6 0,zy z6 0,zy z6 0,zy z6 0,zy z6 0,zy z6 0,zy z6 0,zy z6 0,zy z6 0,zy z6 0,zy z6 0,zy z6 0,zy z6 0,zy z6 0,zy z6 0,zy z6 0,zy z6 0,zy z6 0,zy z6 0,zy z6 0,zy z6 0,zy z6 0,zy z6 0,zy z6 0,zy z6 0,zy z6 0,zy z6 0,zy z6 0,zy z6 0,zy z6 0,zy z6 0,zy z6 0,zy z6 0,zy z6 0,zy z6 0,zy z6 0,zy z6 0,zy z6 0,zy z6 0,zy z6 0,zy z6 0,zy z6 0,zy z6 0,zy z6 0,zy z6 0,zy z6 0,zy z6 0,zy z6 0,zy z6 0,zy z6 0,zy z6 0,zy z6 0,zy z6 0,zy z6 0,zy z6 0,zy z6 0,zy z6 0,zy z6 0,zy z6 0,zy z6 0,zy z6 0,zy z6 0,zy z6 0] 113);have hF:=(Fr.refl (M:=NoB)).alloc (w:=w) (.cells #[zy z6 0,zy z6 0,zy z6 0,zy z6 0,zy z6 0,zy z6 0,zy z6 0,zy z6 0,zy z6 0,zy z6 0,zy z6 0,zy z6 0,zy z6 0,zy z6 0,zy z6 0,zy z6 0,zy z6 0,zy z6 0,zy z6 0,zy z6 0,zy z6 0,zy z6 0,zy z6 0,zy z6 0,zy z6 0,zy z6 0,zy z6 0,zy z6 0,zy z6 0,zy z6 0,zy z6 0,zy z6 0,zy z6 0,zy z6 0,zy z6 0,zy z6 0,zy z6 0,zy z6 0,zy z6 0,zy z6 0,zy z6 0,zy z6 0,zy z6 0,zy z6 0,zy z6 0,zy z6 0,zy z6 0,zy z6 0,zy z6 0,zy z6 0,zy z6 0,zy z6 0,zy z6 0,zy z6 0,zy z6 0,zy z6 0,zy z6 0,zy z6 0,zy z6 0,zy z6 0,zy z6 0,zy z6 0,zy z6 0,zy z6 0] 113);rw[hE]at hA hF ⊢;clear hE;refine(Hc.out _).mono ?_;rintro e w2 ⟨hp,hC⟩;obtain rfl:e=_:=hp;have hD:=hC.block _ _ hA (fun h=>h);have HT:=za (jf hD (n:=64) (by simp));have H1:=za (show((#[zy z6 0,zy z6 0,zy z6 0,zy z6 0,zy z6 0,zy z6 0,zy z6 0,zy z6 0,zy z6 0,zy z6 0,zy z6 0,zy z6 0,zy z6 0,zy z6 0,zy z6 0,zy z6 0,zy z6 0,zy z6 0,zy z6 0,zy z6 0,zy z6 0,zy z6 0,zy z6 0,zy z6 0,zy z6 0,zy z6 0,zy z6 0,zy z6 0,zy z6 0,zy z6 0,zy z6 0,zy z6 0,zy z6 0,zy z6 0,zy z6 0,zy z6 0,zy z6 0,zy z6 0,zy z6 0,zy z6 0,zy z6 0,zy z6 0,zy z6 0,zy z6 0,zy z6 0,zy z6 0,zy z6 0,zy z6 0,zy z6 0,zy z6 0,zy z6 0,zy z6 0,zy z6 0,zy z6 0,zy z6 0,zy z6 0,zy z6 0,zy z6 0,zy z6 0,zy z6 0,zy z6 0,zy z6 0,zy z6 0,zy z6 0]:Array Value).all (·.oneCell'))=true by simp[Value.oneCell']);have HA2:=za hD;have HF:=za (hF.trans' hC);clear hA hF hC hD
   go_wp2_with(refine wpList_store_mid rfl 113 _ _ rfl w.heap.size 0 #[zy z6 0,zy z6 0,zy z6 0,zy z6 0,zy z6 0,zy z6 0,zy z6 0,zy z6 0,zy z6 0,zy z6 0,zy z6 0,zy z6 0,zy z6 0,zy z6 0,zy z6 0,zy z6 0,zy z6 0,zy z6 0,zy z6 0,zy z6 0,zy z6 0,zy z6 0,zy z6 0,zy z6 0,zy z6 0,zy z6 0,zy z6 0,zy z6 0,zy z6 0,zy z6 0,zy z6 0,zy z6 0,zy z6 0,zy z6 0,zy z6 0,zy z6 0,zy z6 0,zy z6 0,zy z6 0,zy z6 0,zy z6 0,zy z6 0,zy z6 0,zy z6 0,zy z6 0,zy z6 0,zy z6 0,zy z6 0,zy z6 0,zy z6 0,zy z6 0,zy z6 0,zy z6 0,zy z6 0,zy z6 0,zy z6 0,zy z6 0,zy z6 0,zy z6 0,zy z6 0,zy z6 0,zy z6 0,zy z6 0,zy z6 0] rfl rfl HT.out zax H1.out ?_)
   have hH:=run_loadVar_mid (P:=ze) _ w.heap.size 0 113 (#[zy z6 0,zy z6 0,zy z6 0,zy z6 0,zy z6 0,zy z6 0,zy z6 0,zy z6 0,zy z6 0,zy z6 0,zy z6 0,zy z6 0,zy z6 0,zy z6 0,zy z6 0,zy z6 0,zy z6 0,zy z6 0,zy z6 0,zy z6 0,zy z6 0,zy z6 0,zy z6 0,zy z6 0,zy z6 0,zy z6 0,zy z6 0,zy z6 0,zy z6 0,zy z6 0,zy z6 0,zy z6 0,zy z6 0,zy z6 0,zy z6 0,zy z6 0,zy z6 0,zy z6 0,zy z6 0,zy z6 0,zy z6 0,zy z6 0,zy z6 0,zy z6 0,zy z6 0,zy z6 0,zy z6 0,zy z6 0,zy z6 0,zy z6 0,zy z6 0,zy z6 0,zy z6 0,zy z6 0,zy z6 0,zy z6 0,zy z6 0,zy z6 0,zy z6 0,zy z6 0,zy z6 0,zy z6 0,zy z6 0,zy z6 0]:Array Value).toList (.array 64 5) (zg w2 w.heap.size 0 (#[zy z6 0,zy z6 0,zy z6 0,zy z6 0,zy z6 0,zy z6 0,zy z6 0,zy z6 0,zy z6 0,zy z6 0,zy z6 0,zy z6 0,zy z6 0,zy z6 0,zy z6 0,zy z6 0,zy z6 0,zy z6 0,zy z6 0,zy z6 0,zy z6 0,zy z6 0,zy z6 0,zy z6 0,zy z6 0,zy z6 0,zy z6 0,zy z6 0,zy z6 0,zy z6 0,zy z6 0,zy z6 0,zy z6 0,zy z6 0,zy z6 0,zy z6 0,zy z6 0,zy z6 0,zy z6 0,zy z6 0,zy z6 0,zy z6 0,zy z6 0,zy z6 0,zy z6 0,zy z6 0,zy z6 0,zy z6 0,zy z6 0,zy z6 0,zy z6 0,zy z6 0,zy z6 0,zy z6 0,zy z6 0,zy z6 0,zy z6 0,zy z6 0,zy z6 0,zy z6 0,zy z6 0,zy z6 0,zy z6 0,zy z6 0]:Array Value).toList HT.out) za1 rfl zax;refine bodyPost_ret (v := .tuple #[.agg z10,.iface 49 (.int .i64 1)]) ?_ rfl ⟨rfl,HF.out.trans (z8 _ _ _ _) (fun k _ hm => .inr (by omega))⟩;unfold z10;rw[results_cell_tmp rfl];simp only[Array.toArray_toList]at hH;simp[asAddr,Result.andThen,hH]
 | some b =>
   obtain⟨-,hI⟩:=hl b rfl;clear hl;go_enter Tryz.func84,Tryz.ntmps84
   go_wp2_with fail
   obtain⟨w1,hE⟩:∃ w1,w.alloc (.cells #[zy z6 0,zy z6 0,zy z6 0,zy z6 0,zy z6 0,zy z6 0,zy z6 0,zy z6 0,zy z6 0,zy z6 0,zy z6 0,zy z6 0,zy z6 0,zy z6 0,zy z6 0,zy z6 0,zy z6 0,zy z6 0,zy z6 0,zy z6 0,zy z6 0,zy z6 0,zy z6 0,zy z6 0,zy z6 0,zy z6 0,zy z6 0,zy z6 0,zy z6 0,zy z6 0,zy z6 0,zy z6 0,zy z6 0,zy z6 0,zy z6 0,zy z6 0,zy z6 0,zy z6 0,zy z6 0,zy z6 0,zy z6 0,zy z6 0,zy z6 0,zy z6 0,zy z6 0,zy z6 0,zy z6 0,zy z6 0,zy z6 0,zy z6 0,zy z6 0,zy z6 0,zy z6 0,zy z6 0,zy z6 0,zy z6 0,zy z6 0,zy z6 0,zy z6 0,zy z6 0,zy z6 0,zy z6 0,zy z6 0,zy z6 0] 113)=w1:=⟨_,rfl⟩;have hA:=zh w (.cells #[zy z6 0,zy z6 0,zy z6 0,zy z6 0,zy z6 0,zy z6 0,zy z6 0,zy z6 0,zy z6 0,zy z6 0,zy z6 0,zy z6 0,zy z6 0,zy z6 0,zy z6 0,zy z6 0,zy z6 0,zy z6 0,zy z6 0,zy z6 0,zy z6 0,zy z6 0,zy z6 0,zy z6 0,zy z6 0,zy z6 0,zy z6 0,zy z6 0,zy z6 0,zy z6 0,zy z6 0,zy z6 0,zy z6 0,zy z6 0,zy z6 0,zy z6 0,zy z6 0,zy z6 0,zy z6 0,zy z6 0,zy z6 0,zy z6 0,zy z6 0,zy z6 0,zy z6 0,zy z6 0,zy z6 0,zy z6 0,zy z6 0,zy z6 0,zy z6 0,zy z6 0,zy z6 0,zy z6 0,zy z6 0,zy z6 0,zy z6 0,zy z6 0,zy z6 0,zy z6 0,zy z6 0,zy z6 0,zy z6 0,zy z6 0] 113);have hF:=(Fr.refl (M:=NoB)).alloc (w:=w) (.cells #[zy z6 0,zy z6 0,zy z6 0,zy z6 0,zy z6 0,zy z6 0,zy z6 0,zy z6 0,zy z6 0,zy z6 0,zy z6 0,zy z6 0,zy z6 0,zy z6 0,zy z6 0,zy z6 0,zy z6 0,zy z6 0,zy z6 0,zy z6 0,zy z6 0,zy z6 0,zy z6 0,zy z6 0,zy z6 0,zy z6 0,zy z6 0,zy z6 0,zy z6 0,zy z6 0,zy z6 0,zy z6 0,zy z6 0,zy z6 0,zy z6 0,zy z6 0,zy z6 0,zy z6 0,zy z6 0,zy z6 0,zy z6 0,zy z6 0,zy z6 0,zy z6 0,zy z6 0,zy z6 0,zy z6 0,zy z6 0,zy z6 0,zy z6 0,zy z6 0,zy z6 0,zy z6 0,zy z6 0,zy z6 0,zy z6 0,zy z6 0,zy z6 0,zy z6 0,zy z6 0,zy z6 0,zy z6 0,zy z6 0,zy z6 0] 113);rw[hE]at hA hF ⊢;clear hE;refine(Hc.out _).mono ?_;rintro e w2 ⟨⟨a,rfl,hJ⟩,hC⟩;have hD:=hC.block _ _ hA (fun h=>h);obtain⟨g,o,c',e1,-,-,-,hB⟩:=hJ.cellsAt (by intro h;rw[h]at hI;simp at hI);obtain⟨rfl,-⟩:a=some ⟨g,o,none⟩∧b.length=c':=by simpa using e1
   have hG:(zb b).length=64:=by simp[zb,hI]
   have hM:=za (show w2.rangeAt g o (zb b) from fun j v hv=>by
    unfold zb at hv;rw[List.getElem?_map]at hv;cases hx:b[j]? with
    | none=>rw[hx]at hv;simp at hv
    | some x =>
      rw[hx]at hv;obtain rfl:v = .int .u8 x.toNat:=by simpa using hv.symm
      exact hB j x hx)
   have HT:=za (jf hD (n:=(zb b).toArray.size) (by simp[hG]))
   have H1:=za (show((zb b).toArray.all (·.oneCell'))=true from all_oneCell_toArray (fun v hv=>by
    unfold zb at hv;rw[List.mem_map]at hv;obtain⟨x,_,rfl⟩:=hv
    rfl))
   have hK:=za (show(Tryz.prog.info? 113).map (·.size)=some (zb b).length by rw[zax,hG]);have hL:=za (show(Tryz.prog.info? 113).map (·.size)=some (zb b).toArray.size by rw[zax];simp[hG]);have HF:=za (hF.trans' hC);have Hbl:=za hG;clear hA hF hC hD hJ hB e1 hG;have hat:∀ W,(Instr.arrayAt 113 (.slice (some ⟨g,o,none⟩) 64 64)).run ze W = .ok (.pointer (some ⟨g,o,none⟩)) W:=fun W=>run_arrayAt W 113 5 64 _ 64 64 za1 (Nat.le_refl _)
   go_wp2_with(first | (refine wpList_load_mid rfl 113 _ rfl g o rfl (zb b) (.array 64 5) hM.out za1 rfl hK.out ?_) | (refine wpList_store_mid rfl 113 _ _ rfl w.heap.size 0 (zb b).toArray rfl rfl HT.out hL.out H1.out ?_))
   have hH:=run_loadVar_mid (P:=ze) _ w.heap.size 0 113 (zb b) (.array 64 5) (zg w2 w.heap.size 0 (zb b) (by simpa using HT.out)) za1 rfl hK.out;refine bodyPost_ret (v := .tuple #[.agg (zb b).toArray,.nilIface]) ?_ rfl ⟨rfl,HF.out.trans (z8 _ _ _ _) (fun k _ hm => .inr (by omega))⟩;rw[results_cell_tmp rfl];simp[asAddr,Result.andThen,hH]
end
section
open Go.RowKit
variable [OldK]
attribute [local go_sem] Oper.semAt_some
theorem FB.to2W {S:Nat→Prop}{b p:Nat}{f:Fd}{w w':World}{c:Array Value}{fr:Nat × Nat}(h:FB S b f w)(hF:Fr (fun k _=>k=p) w w')(hbp:b<p)(hz:w.heap[p]? = some (.cells c 113 fr)):FB S b f w':=by
 obtain⟨hb,a1,n1,a2,n2,h1,h2⟩:=h;refine⟨hb,a1,n1,a2,n2,hF.block _ _ h1 (by omega),RJ.kp (Kp.fr hF (fun _ h _=>h) (fun k o _ hk ht hm=>?_)) _ _ h2⟩;subst hm;obtain rfl:=Option.some.inj (hk.symm.trans hz);rcases ht with⟨c',f',h⟩ | ⟨c',f',h⟩ | h
 ·injection h with _ h _;revert h;decide
 ·injection h with _ h _;revert h;decide
 omega
theorem zz7 (S:Nat→Prop) (b:Nat) (f:Fd) (nm:Bs) (w:World) (h:FB S b f w) (hfit:Fits f.j) (hs:0≤f.seen∧f.seen≤1000) :
 Calls ze 83 #[.pointer (some ⟨b,0,none⟩),.string ⟨nm.toArray⟩,.func (.func 84) #[] #[]] w fun e w'=>e = .returned (.agg (zb (zj6 f nm).1).toArray)∧FB S b (zj6 f nm).2 w'∧Fr (MFd b) w w':=by
 have hV:b<w.heap.size:=by obtain⟨-,b1,b2,b3,b4,h5,-⟩:=h;exact jb h5
 have hZ:=zh w (.cells #[zy z6 0,zy z6 0,zy z6 0,zy z6 0,zy z6 0,zy z6 0,zy z6 0,zy z6 0,zy z6 0,zy z6 0,zy z6 0,zy z6 0,zy z6 0,zy z6 0,zy z6 0,zy z6 0,zy z6 0,zy z6 0,zy z6 0,zy z6 0,zy z6 0,zy z6 0,zy z6 0,zy z6 0,zy z6 0,zy z6 0,zy z6 0,zy z6 0,zy z6 0,zy z6 0,zy z6 0,zy z6 0,zy z6 0,zy z6 0,zy z6 0,zy z6 0,zy z6 0,zy z6 0,zy z6 0,zy z6 0,zy z6 0,zy z6 0,zy z6 0,zy z6 0,zy z6 0,zy z6 0,zy z6 0,zy z6 0,zy z6 0,zy z6 0,zy z6 0,zy z6 0,zy z6 0,zy z6 0,zy z6 0,zy z6 0,zy z6 0,zy z6 0,zy z6 0,zy z6 0,zy z6 0,zy z6 0,zy z6 0,zy z6 0] 113);have hQ:Fr NoB w (w.alloc (.cells #[zy z6 0,zy z6 0,zy z6 0,zy z6 0,zy z6 0,zy z6 0,zy z6 0,zy z6 0,zy z6 0,zy z6 0,zy z6 0,zy z6 0,zy z6 0,zy z6 0,zy z6 0,zy z6 0,zy z6 0,zy z6 0,zy z6 0,zy z6 0,zy z6 0,zy z6 0,zy z6 0,zy z6 0,zy z6 0,zy z6 0,zy z6 0,zy z6 0,zy z6 0,zy z6 0,zy z6 0,zy z6 0,zy z6 0,zy z6 0,zy z6 0,zy z6 0,zy z6 0,zy z6 0,zy z6 0,zy z6 0,zy z6 0,zy z6 0,zy z6 0,zy z6 0,zy z6 0,zy z6 0,zy z6 0,zy z6 0,zy z6 0,zy z6 0,zy z6 0,zy z6 0,zy z6 0,zy z6 0,zy z6 0,zy z6 0,zy z6 0,zy z6 0,zy z6 0,zy z6 0,zy z6 0,zy z6 0,zy z6 0,zy z6 0] 113)):=Fr.refl.alloc _;obtain⟨W0,hf⟩:∃ W,w.alloc (.cells #[zy z6 0,zy z6 0,zy z6 0,zy z6 0,zy z6 0,zy z6 0,zy z6 0,zy z6 0,zy z6 0,zy z6 0,zy z6 0,zy z6 0,zy z6 0,zy z6 0,zy z6 0,zy z6 0,zy z6 0,zy z6 0,zy z6 0,zy z6 0,zy z6 0,zy z6 0,zy z6 0,zy z6 0,zy z6 0,zy z6 0,zy z6 0,zy z6 0,zy z6 0,zy z6 0,zy z6 0,zy z6 0,zy z6 0,zy z6 0,zy z6 0,zy z6 0,zy z6 0,zy z6 0,zy z6 0,zy z6 0,zy z6 0,zy z6 0,zy z6 0,zy z6 0,zy z6 0,zy z6 0,zy z6 0,zy z6 0,zy z6 0,zy z6 0,zy z6 0,zy z6 0,zy z6 0,zy z6 0,zy z6 0,zy z6 0,zy z6 0,zy z6 0,zy z6 0,zy z6 0,zy z6 0,zy z6 0,zy z6 0,zy z6 0] 113)=W:=⟨_,rfl⟩;rw[hf]at hZ hQ;obtain⟨p,hp⟩:∃ p,w.heap.size=p:=⟨_,rfl⟩;rw[hp]at hZ hV;have hc:=zdg S b f nm W0 (h.fr hQ) hfit hs;have hT:(ju f nm).1.length≤1000000:=(Fits.get (nm:=nm) (k:=3) hfit).1.text;unfold zj6;obtain⟨t,ht⟩:∃ t,(ju f nm).1=t:=⟨_,rfl⟩;obtain⟨f2,hU⟩:∃ f2,(ju f nm).2=f2:=⟨_,rfl⟩;rw[ht,hU]at hc;rw[ht]at hT;rw[ht,hU];have hF:=fun W=>z0p t W hT
 have hl:=fun r h=>(zgg t r).1 h
 obtain⟨R,hR⟩:∃ R,zj2 t=R:=⟨_,rfl⟩;rw[hR]at hF hl;rw[hR];obtain⟨D,hD⟩:∃ D,R.getD zc3=D:=⟨_,rfl⟩
 have hG:D.length=64:=by
  rw[← hD];cases R with
  | none=>rfl
  | some r=>exact(hl r rfl).2
 obtain⟨E,hE⟩:∃ E,(if R.isNone then Value.iface 49 (.int .i64 1) else .nilIface)=E:=⟨_,rfl⟩
 have hB:∀ W,Calls ze 84 #[.string ⟨t.toArray⟩] W fun e w'=>e = .returned (.tuple #[.agg (zb D).toArray,E])∧Fr NoB W w':=fun W=>(hF W).mono (by
  rintro e w' ⟨h1,h2⟩;refine⟨?_,h2⟩;rw[← hD,← hE];cases R with
  | none=>exact h1
  | some r=>exact h1)
 have hent:∀ hH W,(callFunc 84 hH).run ze W = .ok (.enter 84 hH) W:=fun hH w=>by simp[go_sem]
 obtain⟨bn,hd⟩:∃ bn,R.isNone=bn:=⟨_,rfl⟩;rw[hd]at hE ⊢;rw[hD];have Hc:=za hc;have Hsum:=za hB;have HZ:=za hZ;have ho:=za hQ;have Hp:=za hp;have Hh:=za h;have HD:=za hG;obtain⟨C,hC⟩:∃ C,zb D=C:=⟨_,rfl⟩;have HC:Hid (C.length=64):=za (by rw[← hC,je,hG]);have H1:=za (show C.toArray.all (·.oneCell')=true by rw[← hC];exact all_oneCell_toArray (zau _));rw[hC]at Hsum;have hj:(zb D).toArray=C.toArray:=by rw[hC]
 clear hc hF hB hl hZ hQ hp h hG hR hD hT ht hU hd hC;show Calls _ _ _ _ fun e w'=>e = .returned (.agg (zb D).toArray)∧FB S b { f2 with bad:=f2.bad||bn } w'∧Fr (MFd b) w w'
 rw[hj];clear hj HD;have hn:Hid ((Tryz.prog.info? 113).map (·.size)=some C.toArray.size):=za (by rw[zax,zn,HC.out]);have hk:Hid ((Tryz.prog.info? 113).map (·.size)=some C.length):=za (by rw[zax,HC.out]);go_enter Tryz.func83,Tryz.ntmps83
 go_upto_region 1 with(fail)
 change Code.wp _ _ _ _ W0;have hb:=Hp.out;rw[hb];clear hf hb
 go_wp2_with fail
 refine Hc.out.mono ?_;rintro e w1 ⟨rfl,hK,hi⟩;have hS:=za hi;have hO:=za hK;clear hK hi
 go_wp2_with fail
 refine(Hsum.out _).mono ?_;rintro e w2 ⟨rfl,hI⟩;have hx:b<w2.heap.size:=zu (zu (zu (Hp.out▸hV) ho.out.size) hS.out.size) hI.size;have hv:p<w2.heap.size:=zu (zu (jb HZ.out) hS.out.size) hI.size;have he:=hI.block _ _ (hS.out.block _ _ HZ.out (fun h=>by have:=h.1;omega)) (fun h=>h);have hN:=zh w2 (.cells #[zy z6 0,zy z6 0,zy z6 0,zy z6 0,zy z6 0,zy z6 0,zy z6 0,zy z6 0,zy z6 0,zy z6 0,zy z6 0,zy z6 0,zy z6 0,zy z6 0,zy z6 0,zy z6 0,zy z6 0,zy z6 0,zy z6 0,zy z6 0,zy z6 0,zy z6 0,zy z6 0,zy z6 0,zy z6 0,zy z6 0,zy z6 0,zy z6 0,zy z6 0,zy z6 0,zy z6 0,zy z6 0,zy z6 0,zy z6 0,zy z6 0,zy z6 0,zy z6 0,zy z6 0,zy z6 0,zy z6 0,zy z6 0,zy z6 0,zy z6 0,zy z6 0,zy z6 0,zy z6 0,zy z6 0,zy z6 0,zy z6 0,zy z6 0,zy z6 0,zy z6 0,zy z6 0,zy z6 0,zy z6 0,zy z6 0,zy z6 0,zy z6 0,zy z6 0,zy z6 0,zy z6 0,zy z6 0,zy z6 0,zy z6 0] 113);have ha:=za (jf hN (n:=C.toArray.size) (by rw[zn,HC.out];show 64≤64;omega));have hM:Fr NoB w2 ((w2.alloc (.cells #[zy z6 0,zy z6 0,zy z6 0,zy z6 0,zy z6 0,zy z6 0,zy z6 0,zy z6 0,zy z6 0,zy z6 0,zy z6 0,zy z6 0,zy z6 0,zy z6 0,zy z6 0,zy z6 0,zy z6 0,zy z6 0,zy z6 0,zy z6 0,zy z6 0,zy z6 0,zy z6 0,zy z6 0,zy z6 0,zy z6 0,zy z6 0,zy z6 0,zy z6 0,zy z6 0,zy z6 0,zy z6 0,zy z6 0,zy z6 0,zy z6 0,zy z6 0,zy z6 0,zy z6 0,zy z6 0,zy z6 0,zy z6 0,zy z6 0,zy z6 0,zy z6 0,zy z6 0,zy z6 0,zy z6 0,zy z6 0,zy z6 0,zy z6 0,zy z6 0,zy z6 0,zy z6 0,zy z6 0,zy z6 0,zy z6 0,zy z6 0,zy z6 0,zy z6 0,zy z6 0,zy z6 0,zy z6 0,zy z6 0,zy z6 0] 113)).setCells w2.heap.size 0 C):=((Fr.refl (M:=NoB)).alloc _).trans (z8 _ _ _ _) (fun k _ hm => .inr (by omega));have hP:=zg (w2.alloc (.cells #[zy z6 0,zy z6 0,zy z6 0,zy z6 0,zy z6 0,zy z6 0,zy z6 0,zy z6 0,zy z6 0,zy z6 0,zy z6 0,zy z6 0,zy z6 0,zy z6 0,zy z6 0,zy z6 0,zy z6 0,zy z6 0,zy z6 0,zy z6 0,zy z6 0,zy z6 0,zy z6 0,zy z6 0,zy z6 0,zy z6 0,zy z6 0,zy z6 0,zy z6 0,zy z6 0,zy z6 0,zy z6 0,zy z6 0,zy z6 0,zy z6 0,zy z6 0,zy z6 0,zy z6 0,zy z6 0,zy z6 0,zy z6 0,zy z6 0,zy z6 0,zy z6 0,zy z6 0,zy z6 0,zy z6 0,zy z6 0,zy z6 0,zy z6 0,zy z6 0,zy z6 0,zy z6 0,zy z6 0,zy z6 0,zy z6 0,zy z6 0,zy z6 0,zy z6 0,zy z6 0,zy z6 0,zy z6 0,zy z6 0,zy z6 0] 113)) w2.heap.size 0 C (by simpa using ha.out);have hA:=(hO.out.fr hI).fr hM;have hL:=hM.block _ _ he (fun h=>h);have hY:Fr (MFd b) w ((w2.alloc (.cells #[zy z6 0,zy z6 0,zy z6 0,zy z6 0,zy z6 0,zy z6 0,zy z6 0,zy z6 0,zy z6 0,zy z6 0,zy z6 0,zy z6 0,zy z6 0,zy z6 0,zy z6 0,zy z6 0,zy z6 0,zy z6 0,zy z6 0,zy z6 0,zy z6 0,zy z6 0,zy z6 0,zy z6 0,zy z6 0,zy z6 0,zy z6 0,zy z6 0,zy z6 0,zy z6 0,zy z6 0,zy z6 0,zy z6 0,zy z6 0,zy z6 0,zy z6 0,zy z6 0,zy z6 0,zy z6 0,zy z6 0,zy z6 0,zy z6 0,zy z6 0,zy z6 0,zy z6 0,zy z6 0,zy z6 0,zy z6 0,zy z6 0,zy z6 0,zy z6 0,zy z6 0,zy z6 0,zy z6 0,zy z6 0,zy z6 0,zy z6 0,zy z6 0,zy z6 0,zy z6 0,zy z6 0,zy z6 0,zy z6 0,zy z6 0] 113)).setCells w2.heap.size 0 C):=(((ho.out.mono (fun _ _ h=>h.elim)).trans' hS.out).trans' (hI.mono (fun _ _ h=>h.elim))).trans' (hM.mono (fun _ _ h=>h.elim));clear hI he hN
 go_upto_region 2 with(with_reducible refine wpList_store_mid rfl 113 _ _ rfl w2.heap.size 0 C.toArray rfl rfl ha.out hn.out H1.out ?_)
 change Code.wp _ _ _ _ ((w2.alloc (.cells #[zy z6 0,zy z6 0,zy z6 0,zy z6 0,zy z6 0,zy z6 0,zy z6 0,zy z6 0,zy z6 0,zy z6 0,zy z6 0,zy z6 0,zy z6 0,zy z6 0,zy z6 0,zy z6 0,zy z6 0,zy z6 0,zy z6 0,zy z6 0,zy z6 0,zy z6 0,zy z6 0,zy z6 0,zy z6 0,zy z6 0,zy z6 0,zy z6 0,zy z6 0,zy z6 0,zy z6 0,zy z6 0,zy z6 0,zy z6 0,zy z6 0,zy z6 0,zy z6 0,zy z6 0,zy z6 0,zy z6 0,zy z6 0,zy z6 0,zy z6 0,zy z6 0,zy z6 0,zy z6 0,zy z6 0,zy z6 0,zy z6 0,zy z6 0,zy z6 0,zy z6 0,zy z6 0,zy z6 0,zy z6 0,zy z6 0,zy z6 0,zy z6 0,zy z6 0,zy z6 0,zy z6 0,zy z6 0,zy z6 0,zy z6 0] 113)).setCells w2.heap.size 0 C);obtain⟨W3,hW⟩:∃ W,(w2.alloc (.cells #[zy z6 0,zy z6 0,zy z6 0,zy z6 0,zy z6 0,zy z6 0,zy z6 0,zy z6 0,zy z6 0,zy z6 0,zy z6 0,zy z6 0,zy z6 0,zy z6 0,zy z6 0,zy z6 0,zy z6 0,zy z6 0,zy z6 0,zy z6 0,zy z6 0,zy z6 0,zy z6 0,zy z6 0,zy z6 0,zy z6 0,zy z6 0,zy z6 0,zy z6 0,zy z6 0,zy z6 0,zy z6 0,zy z6 0,zy z6 0,zy z6 0,zy z6 0,zy z6 0,zy z6 0,zy z6 0,zy z6 0,zy z6 0,zy z6 0,zy z6 0,zy z6 0,zy z6 0,zy z6 0,zy z6 0,zy z6 0,zy z6 0,zy z6 0,zy z6 0,zy z6 0,zy z6 0,zy z6 0,zy z6 0,zy z6 0,zy z6 0,zy z6 0,zy z6 0,zy z6 0,zy z6 0,zy z6 0,zy z6 0,zy z6 0] 113)).setCells w2.heap.size 0 C=W:=⟨_,rfl⟩;rw[hW]at hP hA hL hM hY ⊢;obtain⟨q,hq⟩:∃ q,w2.heap.size=q:=⟨_,rfl⟩
 have hu:q<W3.heap.size:=by
  rw[← hW,← hq];exact zu (by rw[World.size_alloc];omega) (z8 (w2.heap.size) C 0 (w2.alloc _)).size
 rw[hq]at hP hx hv;rw[hq];clear hW hM ha;obtain⟨a1,n1,a2,n2,-,-,-,-,-,-,c6,fz,hlt,-⟩:=hA.cells;obtain⟨e1,e2⟩:=hA.setBad (f2.bad||bn);have hg:=za (ji hP e2 hu (fun _ h=>by have:=h.1;omega));have hX:=za (zfm (jf hL (n:=C.toArray.size) (by rw[zn,HC.out];show 64≤64;omega)) e2 (jb hL) (fun _ h=>by have:=h.1;omega));have h0:=za e1;have hy:=za (e2.block _ _ hL (fun h=>by have:=h.1;omega));have hz:=za (hY.trans' e2);have HpW:=za (Hp.out);clear hL hA hP hY e1 e2 hO Hh hfit Hc Hsum;obtain⟨j2,s2,bd⟩:=f2
 have hJ:∀ tm:Array Value,tm.getD 6 undef = .pointer (some ⟨p,0,none⟩)→bodyPost ze Tryz.f83 (fun e w'=>e = .returned (.agg C.toArray)∧FB S b { j:=j2,seen:=s2,bad:=bd||bn } w'∧Fr (MFd b) w w') Exit.ret { tmps:=tm,defers:=[] } ((W3.setCell ⟨b,6,none⟩ (.bool (bd||bn))).setCells p 0 C):=fun tm hr=>by
  have hw:=run_loadVar_mid (P:=ze) _ p 0 113 C (.array 64 5) (zg (W3.setCell ⟨b,6,none⟩ (.bool (bd||bn))) p 0 C (by simpa using hX.out)) za1 rfl hk.out;have hh:=z8 p C 0 (W3.setCell ⟨b,6,none⟩ (.bool (bd||bn)));refine bodyPost_ret (v := .agg C.toArray) ?_ rfl ⟨rfl,?_,hz.out.trans hh (fun k _ hm => .inr (by have h1:=Hp.out;have h2:k=p:=hm;omega))⟩
  ·rw[qs rfl,hr];simp[asAddr,Result.andThen,hw]
  exact h0.out.to2W hh hV hy.out
 have Hfin:=za hJ;clear hJ;cases bd<;>cases bn
 all_goals
  simp only[Bool.or_self,Bool.or_false,Bool.or_true,Bool.true_or,Bool.false_or]at hg hX Hfin
  first | (obtain rfl:Value.nilIface=E:=hE) | (obtain rfl:Value.iface 49 (.int .i64 1)=E:=hE)
  go_wp2_with (first
   | (with_reducible refine wpList_load_mid rfl 113 _ rfl q 0 rfl C (.array 64 5) hg.out za1 rfl hk.out ?_)
   | (with_reducible refine wpList_store_mid rfl 113 _ _ rfl p 0 C.toArray rfl rfl hX.out hn.out H1.out ?_))
  refine Hfin.out _ ?_;rfl
theorem zs0 {t b:Bs} (h:zet t=some b):b.length≤t.length:=by
 have:=(ze7 t b).1 h;subst this
 have:∀ l:Bs,l.length≤(b64C l).length:=fun l=>by
  induction l using b64C.induct with
  | case1=>simp
  | case2 a=>simp[b64C]
  | case3 a b=>simp[b64C]
  | case4 a b c l ih=>simp only[b64C,List.length_cons];omega
 have h1:=this b;unfold zhp;rw[List.length_append];omega
theorem zyt (S:Nat→Prop) (b:Nat) (f:Fd) (nm:Bs) (w:World) (h:FB S b f w) (hfit:Fits f.j) (hs:0≤f.seen∧f.seen≤1000) :
 Calls ze 80 #[.pointer (some ⟨b,0,none⟩),.string ⟨nm.toArray⟩,.func (.func 81) #[] #[]] w fun e w'=>∃ v,e = .returned v∧SB (fun k=>w.heap.size≤k) (zj1 f nm).1 v w'∧FB S b (zj1 f nm).2 w'∧Fr (MFd b) w w':=by
 have hbw:b<w.heap.size:=by obtain⟨-,b1,b2,b3,b4,h5,-⟩:=h;exact jb h5
 have hc:=zdg S b f nm w h hfit hs;have hK:(ju f nm).1.length≤1000000:=(Fits.get (nm:=nm) (k:=3) hfit).1.text;unfold zj1;obtain⟨t,ht⟩:∃ t,(ju f nm).1=t:=⟨_,rfl⟩;obtain⟨f2,hL⟩:∃ f2,(ju f nm).2=f2:=⟨_,rfl⟩;rw[ht,hL]at hc;rw[ht]at hK;rw[ht,hL];have hB:=fun W=>zkf t W hK
 obtain⟨R,hR⟩:∃ R,zet t=R:=⟨_,rfl⟩;rw[hR]at hB;rw[hR];have hent:∀ hF W,(callFunc 81 hF).run ze W = .ok (.enter 81 hF) W:=fun hF w=>by simp[go_sem]
 have Hc:=za hc;obtain⟨j2,s2,bd⟩:=f2;obtain⟨D,hD⟩:∃ D,R.getD []=D:=⟨_,rfl⟩;obtain⟨bn,hM⟩:∃ bn,R.isNone=bn:=⟨_,rfl⟩;obtain⟨E,hE⟩:∃ E,(if bn then Value.iface 49 (.int .i64 1) else .nilIface)=E:=⟨_,rfl⟩
 have hA:∀ W,Calls ze 81 #[.string ⟨t.toArray⟩] W fun e w'=>(∃ a c,e = .returned (.tuple #[.slice a D.length c,E])∧SB (fun k=>W.heap.size≤k) D (.slice a D.length c) w')∧Fr NoB W w':=fun W=>(hB W).mono (by
  rintro e w' ⟨h1,h2⟩;refine⟨?_,h2⟩;rw[← hD,← hE,← hM];unfold zl9 at h1;cases R with
  | none=>exact⟨none,0,h1,SB.nil _ _ _⟩
  | some r =>
    obtain⟨a,c,h3,h4⟩:=h1
    exact⟨a,c,h3,h4⟩)
 have Hsum:=za hA;rw[hM,hD];show Calls _ _ _ _ fun e w'=>∃ v,e = .returned v∧SB _ D v w'∧FB S b { j:=j2,seen:=s2,bad:=bd||bn } w'∧Fr (MFd b) w w'
 clear hc hB hA hR hK ht hL hD hM h hfit;go_enter Tryz.func80,Tryz.ntmps80
 go_wp2_with fail
 refine Hc.out.mono ?_;rintro e w1 ⟨rfl,hH,hP⟩;have hJ:=za hP;have hI:=za hH;clear hH hP
 go_wp2_with fail
 refine(Hsum.out _).mono ?_;rintro e w2 ⟨⟨a,c,rfl,hO⟩,hN⟩;have hC:=hI.out.fr hN;obtain⟨a1,n1,a2,n2,-,-,-,-,-,-,c6,fz,hlt,-⟩:=hC.cells;obtain⟨e1,e2⟩:=hC.setBad (bd||bn)
 have hG:Hid (SB (fun k=>w.heap.size≤k) D (.slice a D.length c) (w2.setCell ⟨b,6,none⟩ (.bool (bd||bn)))∧FB S b { j:=j2,seen:=s2,bad:=bd||bn } (w2.setCell ⟨b,6,none⟩ (.bool (bd||bn)))∧Fr (MFd b) w (w2.setCell ⟨b,6,none⟩ (.bool (bd||bn)))):=za
  ⟨hO.kp (fun k o hk ho ht=>⟨Nat.le_trans hJ.out.size hk,e2.block k o ho (fun hm=>by have:=hJ.out.size;have:=hm.1;omega)⟩),e1,(hJ.out.trans' (hN.mono (fun _ _ h=>h.elim))).trans' e2⟩
 clear e1 e2 hC hO hN hI hJ Hc Hsum;cases bd<;>cases bn
 all_goals
  simp only[Bool.or_self,Bool.or_false,Bool.or_true,Bool.true_or,Bool.false_or]at hG
  first | (obtain rfl:Value.nilIface=E:=hE) | (obtain rfl:Value.iface 49 (.int .i64 1)=E:=hE)
  go_wp2_with fail
  go_ret;exact⟨_,rfl,hG.out⟩
end
end Go.Proofs.YtmgfncjfgkllcaaGreatDoor
