/-
 The entry of a value (package entry),as plain data: there and back.
-/
import Derived.Test.YtmgfncjfgkllcaaGreatDoorKFields
import Derived.Test.YtmgfncjfgkllcaaGreatDoorKSpecVal
import Derived.Test.YtmgfncjfgkllcaaGreatDoorKB64
open Go.Lib renaming hid→za,byteCells→zb
open Go.Proofs.Tryz renaming prog→ze
open List renaming size_toArray→zn
open Nat renaming lt_of_lt_of_le→zu
open Go.Value renaming int→zy
open Go.IntKind renaming u8→z6
namespace Go.Proofs.YtmgfncjfgkllcaaGreatDoor
set_option linter.unusedVariables false
set_option linter.unusedSimpArgs false
set_option linter.unusedSectionVars false
set_option maxRecDepth 100000
set_option maxHeartbeats 2000000
section
def zbw:Bs:=List.replicate 64 0
def zh0 (f:Fd) (nm:Bs):Bs × Fd :=
 ((zdi (jo f nm).1).getD [],{ (jo f nm).2 with bad:=(jo f nm).2.bad||(zdi (jo f nm).1).isNone })
def zh5 (f:Fd) (nm:Bs):Bs × Fd :=
 ((zh1 (jo f nm).1).getD zbw,{ (jo f nm).2 with bad:=(jo f nm).2.bad||(zh1 (jo f nm).1).isNone })
def zai (s:Bs):Sg × Bool :=
 if Lib.hasPrefix s znq then (⟨[],(zl4 (s.drop 4)).getD jc,zbw⟩,(zl4 (s.drop 4)).isSome) else (⟨s,jc,zbw⟩,zaa s)
def zau (j:J):Sg × Bool :=
 let t:=jo ⟨j,0,false⟩ nBy
 let s:=zai t.1
 let b:=zh5 t.2 ztw
 (⟨s.1.id,s.1.key,b.1⟩,!s.2 || !zd7 b.2)
def ze3 (s:Bs):Int:=if s=[] then 0 else if s=wArt then 1 else if s=wEnv then 2 else if s=wSta then 3 else if s=wBin then 4 else -1
def zvy (s:Bs):Int:=if s=[] then 0 else if s=wBind then 1 else if s=wRot then 2 else if s=wRev then 3 else -1
def zpo (k:Int) (f:Fd):En × Fd :=
 if k=1 then (⟨1,(zfr f zj4).1,[],[],0,[],jc,[]⟩,(zfr f zj4).2)
 else if k=2 then (⟨2,jc,(jo f zcz).1,(zh0 (jo f zcz).2 zeg).1,0,[],jc,[]⟩,(zh0 (jo f zcz).2 zeg).2)
 else if k=3 then (⟨3,jc,[],(zh0 f zeg).1,0,[],jc,[]⟩,(zh0 f zeg).2)
 else if k=4 then
  if zvy (jo (jo f j3).2 nOp).1=3 then (⟨4,jc,[],[],3,(jo f j3).1,jc,[]⟩,(jo (jo f j3).2 nOp).2)
  else (⟨4,jc,[],[],zvy (jo (jo f j3).2 nOp).1,(jo f j3).1,(zfr (jo (jo f j3).2 nOp).2 zgr).1,[]⟩,(zfr (jo (jo f j3).2 nOp).2 zgr).2)
 else (⟨k,jc,[],[],0,[],jc,[]⟩,f)
def zsy (j:J):En × Bool :=
 let t:=jo ⟨j,0,false⟩ jw
 let r:=zpo (ze3 t.1) t.2
 let g:=zb9 r.2 zah 4
 let l:=g.1.list.map zau
 ({ r.1 with sigs:=l.map (·.1) },zd7 { g.2 with bad:=g.2.bad||l.any (·.2) })
def pOf (sub:Bs→Bool) (j:J):Option En :=
 if jq 0 j=false then none else
 if (zsy j).2&&zad sub (zsy j).1 then some (zsy j).1 else none
def zb5 (sub:Bs→Bool) (b:Bs):Option En × Nat :=
 if (za8 b).2≠0 then (none,(za8 b).2) else match pOf sub (za8 b).1 with
 | some e=>(some e,0)
 | none=>(none,11)
/-! there and back -/
theorem zn9 {f:Fd}{nm:Bs}{k:Int}{v:J}(h:zh4 f.j nm=some v)(hk:v.kind=k):zb9 f nm k=(v,{ f with seen:=f.seen+1 }):=by
 unfold zb9;rw[h];simp only;rw[if_pos hk]
theorem qs {f:Fd}{nm:Bs}{s:Bs}(h:zh4 f.j nm=some (pT s)):jo f nm=(s,{ f with seen:=f.seen+1 }):=by
 unfold jo;rw[zn9 (k:=3) h rfl];rfl
theorem zn4 {f:Fd}{nm:Bs}{d:Bs}(h:zh4 f.j nm=some (pT (zei d)))(hd:d.length=32):zfr f nm=(d,{ f with seen:=f.seen+1 }):=by
 unfold zfr;rw[qs h];simp only;rw[(zcf _ d).2 ⟨rfl,hd⟩];simp
theorem zob {f:Fd}{nm:Bs}{d:Bs}(h:zh4 f.j nm=some (pT (zfx d))):zh0 f nm=(d,{ f with seen:=f.seen+1 }):=by
 unfold zh0;rw[qs h];simp only;rw[(zdw _ d).2 rfl];simp
theorem zr4 {f:Fd}{nm:Bs}{d:Bs}(h:zh4 f.j nm=some (pT (zfx d)))(hd:d.length=64):zh5 f nm=(d,{ f with seen:=f.seen+1 }):=by
 unfold zh5;rw[qs h];simp only;rw[(zeu _ d).2 ⟨rfl,hd⟩];simp
theorem zpk (s:Bs):Lib.hasPrefix (znq++s) znq=true:=by
 unfold Lib.hasPrefix;simp
theorem zri {s:Bs} (h:zaa s=true):Lib.hasPrefix s znq=false:=by
 cases hp:Lib.hasPrefix s znq with
 | false=>rfl
 | true =>
   unfold zaa at h;simp only[Bool.and_eq_true,List.all_eq_true]at h
   have hm:(58:UInt8)∈s:=by
    have:s.take 4=znq:=by
     unfold Lib.hasPrefix at hp;simp at hp;obtain⟨t,rfl⟩:=hp;rfl
    have hA:(58:UInt8)∈s.take 4:=by rw[this];decide
    exact List.mem_of_mem_take hA
   have:=h.2.2 58 hm;exact absurd this (by decide)
theorem zha {s:Sg}(h:s.id=[]∨zaa s.id=true∧s.key=jc)(hk:s.key.length=32):zai (qn s)=(⟨s.id,s.key,zbw⟩,true):=by
 unfold qn zai;by_cases hi:s.id=[]
 ·rw[if_pos hi,if_pos (zpk _)];have e:(znq++zei s.key).drop 4=zei s.key:=rfl;rw[e,(zcf _ s.key).2 ⟨rfl,hk⟩,hi];rfl
 rw[if_neg hi];obtain⟨h1,h2⟩:=h.resolve_left hi;rw[zri h1,h1,h2];rfl
theorem ztg {s:Sg}(h:s.id=[]∨zaa s.id=true∧s.key=jc)(hk:s.ok):zau (sgJ s)=(s,false):=by
 unfold zau;simp only;rw[qs (nm:=nBy) (s:=qn s) rfl];simp only;rw[zha h hk.1,zr4 (d:=s.sig) rfl hk.2];rfl
theorem zpw:ze3 wArt=1:=by decide
theorem zpv:ze3 wEnv=2:=by decide
theorem zpu:ze3 wSta=3:=by decide
theorem zip:ze3 wBin=4:=by decide
theorem ztp {k:Int}(h:1≤k∧k≤3):zvy (wOp k)=k:=by
 have:k=1∨k=2∨k=3:=by omega
 rcases this with rfl | rfl | rfl<;>decide
theorem zis {sub:Bs→Bool}{e:En}(h:zad sub e=true):zit (zab e) (qu e.kind e.sigs)=true:=by
 unfold zad at h;simp only[Bool.and_eq_true]at h;exact h.2.2
theorem zft {a b:En}(h:zit a b=true):a.kind=b.kind∧a.digest=b.digest∧a.typ=b.typ∧a.payload=b.payload∧a.op=b.op∧a.ident=b.ident∧a.key=b.key:=by
 unfold zit at h;simp at h;exact⟨h.1,h.2.1,h.2.2.1,h.2.2.2.1,h.2.2.2.2.1,h.2.2.2.2.2.1,h.2.2.2.2.2.2.1⟩
theorem ztc {l:List Sg}(h:∀ s∈l,s.id=[]∨zaa s.id=true∧s.key=jc)(hk:∀ s∈l,s.ok):(l.map sgJ).map zau=l.map fun s=>(s,false):=by
 rw[List.map_map];exact List.map_congr_left (fun s hs=>ztg (h s hs) (hk s hs))
theorem zd0 (l:List Sg):(l.map fun s=>(s,false)).map (·.1)=l:=by
 induction l with
 | nil=>rfl
 | cons x l ih=>simp only[List.map_cons,ih]
theorem zdz (l:List Sg):(l.map fun s=>(s,false)).any (·.2)=false:=by
 induction l with
 | nil=>rfl
 | cons x l ih=>simp only[List.map_cons,List.any_cons,ih,Bool.or_false]
theorem zw2 {sub:Bs→Bool} {e:En} (h:zad sub e=true) (he:e.ok):pOf sub (zee e)=some e:=by
 have ho:=zeo h;have hs:=zg2 ho;obtain⟨-,p1,p2,p3,p4,p5,p6⟩:=zft (zis h);have hb:=ztc ho.sg he.2.2
 have hE:zsy (zee e)=(e,true):=by
  obtain⟨k,d,t,p,o,i,ky,sg⟩:=e;simp only[qu]at p1 p2 p3 p4 p5 p6;simp only at hb;obtain⟨e1,e2,-⟩:=he;simp only at e1 e2;have hk:=ho.kind;simp only at hk;have hB:∀ (f:Fd),zh4 f.j zah=some (zek sg)→zb9 f zah 4=(zek sg,{ f with seen:=f.seen+1 }):=fun f hf=>zn9 hf rfl
  have hA:(zek sg).list=sg.map sgJ:=rfl;rcases hk with rfl | rfl | rfl | rfl
  ·simp only[zab,if_true]at p1 p2 p3 p4 p5 p6;subst p2;subst p3;subst p4;subst p5;subst p6;unfold zsy;simp only;rw[qs (nm:=jw) (s:=wArt) rfl];simp only;rw[zpw];unfold zpo;rw[if_pos rfl,zn4 (d:=d) rfl e1];simp only;rw[hB _ rfl];simp only[hA,hb,zd0,zdz,Bool.or_false];rfl
  ·have p1:d=jc:=p1;have p4:o=0:=p4;have p5:i=[]:=p5;have p6:ky=jc:=p6;subst p1;subst p4;subst p5;subst p6;unfold zsy;simp only;rw[qs (nm:=jw) (s:=wEnv) rfl];simp only;rw[zpv];unfold zpo;rw[if_neg (by decide),if_pos rfl,qs (nm:=zcz) (s:=t) rfl];simp only;rw[zob (d:=p) rfl];simp only;rw[hB _ rfl];simp only[hA,hb,zd0,zdz,Bool.or_false];rfl
  ·have p1:d=jc:=p1;have p2:t=[]:=p2;have p4:o=0:=p4;have p5:i=[]:=p5;have p6:ky=jc:=p6;subst p1;subst p2;subst p4;subst p5;subst p6;unfold zsy;simp only;rw[qs (nm:=jw) (s:=wSta) rfl];simp only;rw[zpu];unfold zpo;rw[if_neg (by decide),if_neg (by decide),if_pos rfl,zob (d:=p) rfl];simp only;rw[hB _ rfl];simp only[hA,hb,zd0,zdz,Bool.or_false];rfl
  have p1:d=jc:=p1;have p2:t=[]:=p2;have p3:p=[]:=p3;have hC:=ho.op rfl;simp only at hC;have hD:=ztp ⟨hC.1,hC.2.1⟩;subst p1;subst p2;subst p3;by_cases h3:o=3
  ·have p6:ky=jc:=by
    have h6:(if o=3 then ky else jc)=jc:=p6;rw[if_pos h3]at h6;exact h6
   subst h3;subst p6;unfold zsy;simp only;rw[qs (nm:=jw) (s:=wBin) rfl];simp only;rw[zip];unfold zpo;rw[if_neg (by decide),if_neg (by decide),if_neg (by decide),if_pos rfl,qs (nm:=j3) (s:=i) rfl];simp only;rw[qs (nm:=nOp) (s:=wOp 3) rfl];simp only;rw[hD,if_pos rfl];simp only;rw[hB _ rfl];simp only[hA,hb,zd0,zdz,Bool.or_false];rfl
  have hv:zee ⟨4,jc,[],[],o,i,ky,sg⟩=zbr [(j3,pT i),(zgr,pT (zei ky)),(jw,pT wBin),(nOp,pT (wOp o)),(zah,zek sg)]:=by
   unfold zee zni;rw[if_neg (show ¬ ((4:Int)=1) by decide),if_neg (show ¬ ((4:Int)=2) by decide),if_neg (show ¬ ((4:Int)=3) by decide),if_neg h3]
  rw[hv];unfold zsy;simp only;rw[qs (nm:=jw) (s:=wBin) rfl];simp only;rw[zip];unfold zpo;rw[if_neg (by decide),if_neg (by decide),if_neg (by decide),if_pos rfl,qs (nm:=j3) (s:=i) rfl];simp only;rw[qs (nm:=nOp) (s:=wOp o) rfl];simp only;rw[hD,if_neg h3];simp only;rw[zn4 (d:=ky) rfl e2];simp only;rw[hB _ rfl];simp only[hA,hb,zd0,zdz,Bool.or_false];rfl
 unfold pOf;rw[hs,hE];simp[h]
end
section
open Go.RowKit
variable [OldK]
attribute [local go_sem] Oper.semAt_some
theorem FB.to2W {S:Nat→Prop}{b p:Nat}{f:Fd}{w w':World}{c:Array Value}{fr:Nat × Nat}(h:FB S b f w)(hF:Fr (fun k _=>k=p) w w')(hbp:b<p)(hz:w.heap[p]? = some (.cells c 113 fr)):FB S b f w':=by
 obtain⟨hb,a1,n1,a2,n2,h1,h2⟩:=h;refine⟨hb,a1,n1,a2,n2,hF.block _ _ h1 (by omega),RJ.kp (Kp.fr hF (fun _ h _=>h) (fun k o _ hk ht hm=>?_)) _ _ h2⟩;subst hm;obtain rfl:=Option.some.inj (hk.symm.trans hz);rcases ht with⟨c',f',h⟩ | ⟨c',f',h⟩ | h
 ·injection h with _ h _;revert h;decide
 ·injection h with _ h _;revert h;decide
 omega
theorem zv5 (S:Nat→Prop) (b:Nat) (f:Fd) (nm:Bs) (w:World) (h:FB S b f w) (hfit:Fits f.j) (hs:0≤f.seen∧f.seen≤1000) :
 Calls ze 83 #[.pointer (some ⟨b,0,none⟩),.string ⟨nm.toArray⟩,.func (.func 84) #[] #[]] w fun e w'=>e = .returned (.agg (zb (zh5 f nm).1).toArray)∧FB S b (zh5 f nm).2 w'∧Fr (MFd b) w w':=by
 have hV:b<w.heap.size:=by obtain⟨-,b1,b2,b3,b4,h5,-⟩:=h;exact jb h5
 have hZ:=heap_alloc_new w (.cells #[zy z6 0,zy z6 0,zy z6 0,zy z6 0,zy z6 0,zy z6 0,zy z6 0,zy z6 0,zy z6 0,zy z6 0,zy z6 0,zy z6 0,zy z6 0,zy z6 0,zy z6 0,zy z6 0,zy z6 0,zy z6 0,zy z6 0,zy z6 0,zy z6 0,zy z6 0,zy z6 0,zy z6 0,zy z6 0,zy z6 0,zy z6 0,zy z6 0,zy z6 0,zy z6 0,zy z6 0,zy z6 0,zy z6 0,zy z6 0,zy z6 0,zy z6 0,zy z6 0,zy z6 0,zy z6 0,zy z6 0,zy z6 0,zy z6 0,zy z6 0,zy z6 0,zy z6 0,zy z6 0,zy z6 0,zy z6 0,zy z6 0,zy z6 0,zy z6 0,zy z6 0,zy z6 0,zy z6 0,zy z6 0,zy z6 0,zy z6 0,zy z6 0,zy z6 0,zy z6 0,zy z6 0,zy z6 0,zy z6 0,zy z6 0] 113);have hQ:Fr NoB w (w.alloc (.cells #[zy z6 0,zy z6 0,zy z6 0,zy z6 0,zy z6 0,zy z6 0,zy z6 0,zy z6 0,zy z6 0,zy z6 0,zy z6 0,zy z6 0,zy z6 0,zy z6 0,zy z6 0,zy z6 0,zy z6 0,zy z6 0,zy z6 0,zy z6 0,zy z6 0,zy z6 0,zy z6 0,zy z6 0,zy z6 0,zy z6 0,zy z6 0,zy z6 0,zy z6 0,zy z6 0,zy z6 0,zy z6 0,zy z6 0,zy z6 0,zy z6 0,zy z6 0,zy z6 0,zy z6 0,zy z6 0,zy z6 0,zy z6 0,zy z6 0,zy z6 0,zy z6 0,zy z6 0,zy z6 0,zy z6 0,zy z6 0,zy z6 0,zy z6 0,zy z6 0,zy z6 0,zy z6 0,zy z6 0,zy z6 0,zy z6 0,zy z6 0,zy z6 0,zy z6 0,zy z6 0,zy z6 0,zy z6 0,zy z6 0,zy z6 0] 113)):=Fr.refl.alloc _;obtain⟨W0,hf⟩:∃ W,w.alloc (.cells #[zy z6 0,zy z6 0,zy z6 0,zy z6 0,zy z6 0,zy z6 0,zy z6 0,zy z6 0,zy z6 0,zy z6 0,zy z6 0,zy z6 0,zy z6 0,zy z6 0,zy z6 0,zy z6 0,zy z6 0,zy z6 0,zy z6 0,zy z6 0,zy z6 0,zy z6 0,zy z6 0,zy z6 0,zy z6 0,zy z6 0,zy z6 0,zy z6 0,zy z6 0,zy z6 0,zy z6 0,zy z6 0,zy z6 0,zy z6 0,zy z6 0,zy z6 0,zy z6 0,zy z6 0,zy z6 0,zy z6 0,zy z6 0,zy z6 0,zy z6 0,zy z6 0,zy z6 0,zy z6 0,zy z6 0,zy z6 0,zy z6 0,zy z6 0,zy z6 0,zy z6 0,zy z6 0,zy z6 0,zy z6 0,zy z6 0,zy z6 0,zy z6 0,zy z6 0,zy z6 0,zy z6 0,zy z6 0,zy z6 0,zy z6 0] 113)=W:=⟨_,rfl⟩;rw[hf]at hZ hQ;obtain⟨p,hp⟩:∃ p,w.heap.size=p:=⟨_,rfl⟩;rw[hp]at hZ hV;have hc:=zb7 S b f nm W0 (h.fr hQ) hfit hs;have hT:(jo f nm).1.length≤1000000:=(Fits.get (nm:=nm) (k:=3) hfit).1.text;unfold zh5;obtain⟨t,ht⟩:∃ t,(jo f nm).1=t:=⟨_,rfl⟩;obtain⟨f2,hU⟩:∃ f2,(jo f nm).2=f2:=⟨_,rfl⟩;rw[ht,hU]at hc;rw[ht]at hT;rw[ht,hU];have hF:=fun W=>zwn t W hT
 have hl:=fun r h=>(zeu t r).1 h
 obtain⟨R,hR⟩:∃ R,zh1 t=R:=⟨_,rfl⟩;rw[hR]at hF hl;rw[hR];obtain⟨D,hD⟩:∃ D,R.getD zbw=D:=⟨_,rfl⟩
 have hG:D.length=64:=by
  rw[← hD];cases R with
  | none=>rfl
  | some r=>exact(hl r rfl).2
 obtain⟨E,hE⟩:∃ E,(if R.isNone then Value.iface 49 (.int .i64 1) else .nilIface)=E:=⟨_,rfl⟩
 have hB:∀ W,Calls ze 84 #[.string ⟨t.toArray⟩] W fun e w'=>e = .returned (.tuple #[.agg (zb D).toArray,E])∧Fr NoB W w':=fun W=>(hF W).mono (by
  rintro e w' ⟨h1,h2⟩;refine⟨?_,h2⟩;rw[← hD,← hE];cases R with
  | none=>exact h1
  | some r=>exact h1)
 have hent:∀ hH W,(callFunc 84 hH).run ze W = .ok (.enter 84 hH) W:=fun hH w=>by simp[go_sem]
 obtain⟨bn,hd⟩:∃ bn,R.isNone=bn:=⟨_,rfl⟩;rw[hd]at hE ⊢;rw[hD];have Hc:=za hc;have Hsum:=za hB;have HZ:=za hZ;have ho:=za hQ;have Hp:=za hp;have Hh:=za h;have HD:=za hG;obtain⟨C,hC⟩:∃ C,zb D=C:=⟨_,rfl⟩;have HC:Hid (C.length=64):=za (by rw[← hC,jd,hG]);have H1:=za (show C.toArray.all (·.oneCell')=true by rw[← hC];exact all_oneCell_toArray (zay _));rw[hC]at Hsum;have hj:(zb D).toArray=C.toArray:=by rw[hC]
 clear hc hF hB hl hZ hQ hp h hG hR hD hT ht hU hd hC;show Calls _ _ _ _ fun e w'=>e = .returned (.agg (zb D).toArray)∧FB S b { f2 with bad:=f2.bad||bn } w'∧Fr (MFd b) w w'
 rw[hj];clear hj HD;have hn:Hid ((Tryz.prog.info? 113).map (·.size)=some C.toArray.size):=za (by rw[qx,zn,HC.out]);have hk:Hid ((Tryz.prog.info? 113).map (·.size)=some C.length):=za (by rw[qx,HC.out]);go_enter Tryz.func83,Tryz.ntmps83
 go_upto_region 1 with(fail)
 change Code.wp _ _ _ _ W0;have hb:=Hp.out;rw[hb];clear hf hb
 go_wp2_with fail
 refine Hc.out.mono ?_;rintro e w1 ⟨rfl,hK,hi⟩;have hS:=za hi;have hO:=za hK;clear hK hi
 go_wp2_with fail
 refine(Hsum.out _).mono ?_;rintro e w2 ⟨rfl,hI⟩;have hx:b<w2.heap.size:=zu (zu (zu (Hp.out▸hV) ho.out.size) hS.out.size) hI.size;have hv:p<w2.heap.size:=zu (zu (jb HZ.out) hS.out.size) hI.size;have he:=hI.block _ _ (hS.out.block _ _ HZ.out (fun h=>by have:=h.1;omega)) (fun h=>h);have hN:=heap_alloc_new w2 (.cells #[zy z6 0,zy z6 0,zy z6 0,zy z6 0,zy z6 0,zy z6 0,zy z6 0,zy z6 0,zy z6 0,zy z6 0,zy z6 0,zy z6 0,zy z6 0,zy z6 0,zy z6 0,zy z6 0,zy z6 0,zy z6 0,zy z6 0,zy z6 0,zy z6 0,zy z6 0,zy z6 0,zy z6 0,zy z6 0,zy z6 0,zy z6 0,zy z6 0,zy z6 0,zy z6 0,zy z6 0,zy z6 0,zy z6 0,zy z6 0,zy z6 0,zy z6 0,zy z6 0,zy z6 0,zy z6 0,zy z6 0,zy z6 0,zy z6 0,zy z6 0,zy z6 0,zy z6 0,zy z6 0,zy z6 0,zy z6 0,zy z6 0,zy z6 0,zy z6 0,zy z6 0,zy z6 0,zy z6 0,zy z6 0,zy z6 0,zy z6 0,zy z6 0,zy z6 0,zy z6 0,zy z6 0,zy z6 0,zy z6 0,zy z6 0] 113);have ha:=za (je hN (n:=C.toArray.size) (by rw[zn,HC.out];show 64≤64;omega));have hM:Fr NoB w2 ((w2.alloc (.cells #[zy z6 0,zy z6 0,zy z6 0,zy z6 0,zy z6 0,zy z6 0,zy z6 0,zy z6 0,zy z6 0,zy z6 0,zy z6 0,zy z6 0,zy z6 0,zy z6 0,zy z6 0,zy z6 0,zy z6 0,zy z6 0,zy z6 0,zy z6 0,zy z6 0,zy z6 0,zy z6 0,zy z6 0,zy z6 0,zy z6 0,zy z6 0,zy z6 0,zy z6 0,zy z6 0,zy z6 0,zy z6 0,zy z6 0,zy z6 0,zy z6 0,zy z6 0,zy z6 0,zy z6 0,zy z6 0,zy z6 0,zy z6 0,zy z6 0,zy z6 0,zy z6 0,zy z6 0,zy z6 0,zy z6 0,zy z6 0,zy z6 0,zy z6 0,zy z6 0,zy z6 0,zy z6 0,zy z6 0,zy z6 0,zy z6 0,zy z6 0,zy z6 0,zy z6 0,zy z6 0,zy z6 0,zy z6 0,zy z6 0,zy z6 0] 113)).setCells w2.heap.size 0 C):=((Fr.refl (M:=NoB)).alloc _).trans (z8 _ _ _ _) (fun k _ hm => .inr (by omega));have hP:=World.rangeAt_setCells_same (w2.alloc (.cells #[zy z6 0,zy z6 0,zy z6 0,zy z6 0,zy z6 0,zy z6 0,zy z6 0,zy z6 0,zy z6 0,zy z6 0,zy z6 0,zy z6 0,zy z6 0,zy z6 0,zy z6 0,zy z6 0,zy z6 0,zy z6 0,zy z6 0,zy z6 0,zy z6 0,zy z6 0,zy z6 0,zy z6 0,zy z6 0,zy z6 0,zy z6 0,zy z6 0,zy z6 0,zy z6 0,zy z6 0,zy z6 0,zy z6 0,zy z6 0,zy z6 0,zy z6 0,zy z6 0,zy z6 0,zy z6 0,zy z6 0,zy z6 0,zy z6 0,zy z6 0,zy z6 0,zy z6 0,zy z6 0,zy z6 0,zy z6 0,zy z6 0,zy z6 0,zy z6 0,zy z6 0,zy z6 0,zy z6 0,zy z6 0,zy z6 0,zy z6 0,zy z6 0,zy z6 0,zy z6 0,zy z6 0,zy z6 0,zy z6 0,zy z6 0] 113)) w2.heap.size 0 C (by simpa using ha.out);have hA:=(hO.out.fr hI).fr hM;have hL:=hM.block _ _ he (fun h=>h);have hY:Fr (MFd b) w ((w2.alloc (.cells #[zy z6 0,zy z6 0,zy z6 0,zy z6 0,zy z6 0,zy z6 0,zy z6 0,zy z6 0,zy z6 0,zy z6 0,zy z6 0,zy z6 0,zy z6 0,zy z6 0,zy z6 0,zy z6 0,zy z6 0,zy z6 0,zy z6 0,zy z6 0,zy z6 0,zy z6 0,zy z6 0,zy z6 0,zy z6 0,zy z6 0,zy z6 0,zy z6 0,zy z6 0,zy z6 0,zy z6 0,zy z6 0,zy z6 0,zy z6 0,zy z6 0,zy z6 0,zy z6 0,zy z6 0,zy z6 0,zy z6 0,zy z6 0,zy z6 0,zy z6 0,zy z6 0,zy z6 0,zy z6 0,zy z6 0,zy z6 0,zy z6 0,zy z6 0,zy z6 0,zy z6 0,zy z6 0,zy z6 0,zy z6 0,zy z6 0,zy z6 0,zy z6 0,zy z6 0,zy z6 0,zy z6 0,zy z6 0,zy z6 0,zy z6 0] 113)).setCells w2.heap.size 0 C):=(((ho.out.mono (fun _ _ h=>h.elim)).trans' hS.out).trans' (hI.mono (fun _ _ h=>h.elim))).trans' (hM.mono (fun _ _ h=>h.elim));clear hI he hN
 go_upto_region 2 with(with_reducible refine wpList_store_mid rfl 113 _ _ rfl w2.heap.size 0 C.toArray rfl rfl ha.out hn.out H1.out ?_)
 change Code.wp _ _ _ _ ((w2.alloc (.cells #[zy z6 0,zy z6 0,zy z6 0,zy z6 0,zy z6 0,zy z6 0,zy z6 0,zy z6 0,zy z6 0,zy z6 0,zy z6 0,zy z6 0,zy z6 0,zy z6 0,zy z6 0,zy z6 0,zy z6 0,zy z6 0,zy z6 0,zy z6 0,zy z6 0,zy z6 0,zy z6 0,zy z6 0,zy z6 0,zy z6 0,zy z6 0,zy z6 0,zy z6 0,zy z6 0,zy z6 0,zy z6 0,zy z6 0,zy z6 0,zy z6 0,zy z6 0,zy z6 0,zy z6 0,zy z6 0,zy z6 0,zy z6 0,zy z6 0,zy z6 0,zy z6 0,zy z6 0,zy z6 0,zy z6 0,zy z6 0,zy z6 0,zy z6 0,zy z6 0,zy z6 0,zy z6 0,zy z6 0,zy z6 0,zy z6 0,zy z6 0,zy z6 0,zy z6 0,zy z6 0,zy z6 0,zy z6 0,zy z6 0,zy z6 0] 113)).setCells w2.heap.size 0 C);obtain⟨W3,hW⟩:∃ W,(w2.alloc (.cells #[zy z6 0,zy z6 0,zy z6 0,zy z6 0,zy z6 0,zy z6 0,zy z6 0,zy z6 0,zy z6 0,zy z6 0,zy z6 0,zy z6 0,zy z6 0,zy z6 0,zy z6 0,zy z6 0,zy z6 0,zy z6 0,zy z6 0,zy z6 0,zy z6 0,zy z6 0,zy z6 0,zy z6 0,zy z6 0,zy z6 0,zy z6 0,zy z6 0,zy z6 0,zy z6 0,zy z6 0,zy z6 0,zy z6 0,zy z6 0,zy z6 0,zy z6 0,zy z6 0,zy z6 0,zy z6 0,zy z6 0,zy z6 0,zy z6 0,zy z6 0,zy z6 0,zy z6 0,zy z6 0,zy z6 0,zy z6 0,zy z6 0,zy z6 0,zy z6 0,zy z6 0,zy z6 0,zy z6 0,zy z6 0,zy z6 0,zy z6 0,zy z6 0,zy z6 0,zy z6 0,zy z6 0,zy z6 0,zy z6 0,zy z6 0] 113)).setCells w2.heap.size 0 C=W:=⟨_,rfl⟩;rw[hW]at hP hA hL hM hY ⊢;obtain⟨q,hq⟩:∃ q,w2.heap.size=q:=⟨_,rfl⟩
 have hu:q<W3.heap.size:=by
  rw[← hW,← hq];exact zu (by rw[World.size_alloc];omega) (z8 (w2.heap.size) C 0 (w2.alloc _)).size
 rw[hq]at hP hx hv;rw[hq];clear hW hM ha;obtain⟨a1,n1,a2,n2,-,-,-,-,-,-,c6,fz,hlt,-⟩:=hA.cells;obtain⟨e1,e2⟩:=hA.setBad (f2.bad||bn);have hg:=za (jf hP e2 hu (fun _ h=>by have:=h.1;omega));have hX:=za (zeb (je hL (n:=C.toArray.size) (by rw[zn,HC.out];show 64≤64;omega)) e2 (jb hL) (fun _ h=>by have:=h.1;omega));have h0:=za e1;have hy:=za (e2.block _ _ hL (fun h=>by have:=h.1;omega));have hz:=za (hY.trans' e2);have HpW:=za (Hp.out);clear hL hA hP hY e1 e2 hO Hh hfit Hc Hsum;obtain⟨j2,s2,bd⟩:=f2
 have hJ:∀ tm:Array Value,tm.getD 6 undef = .pointer (some ⟨p,0,none⟩)→bodyPost ze Tryz.f83 (fun e w'=>e = .returned (.agg C.toArray)∧FB S b { j:=j2,seen:=s2,bad:=bd||bn } w'∧Fr (MFd b) w w') Exit.ret { tmps:=tm,defers:=[] } ((W3.setCell ⟨b,6,none⟩ (.bool (bd||bn))).setCells p 0 C):=fun tm hr=>by
  have hw:=run_loadVar_mid (P:=ze) _ p 0 113 C (.array 64 5) (World.rangeAt_setCells_same (W3.setCell ⟨b,6,none⟩ (.bool (bd||bn))) p 0 C (by simpa using hX.out)) zac rfl hk.out;have hh:=z8 p C 0 (W3.setCell ⟨b,6,none⟩ (.bool (bd||bn)));refine bodyPost_ret (v := .agg C.toArray) ?_ rfl ⟨rfl,?_,hz.out.trans hh (fun k _ hm => .inr (by have h1:=Hp.out;have h2:k=p:=hm;omega))⟩
  ·rw[j5 rfl,hr];simp[asAddr,Result.andThen,hw]
  exact h0.out.to2W hh hV hy.out
 have Hfin:=za hJ;clear hJ;cases bd<;>cases bn
 all_goals
  simp only[Bool.or_self,Bool.or_false,Bool.or_true,Bool.true_or,Bool.false_or]at hg hX Hfin
  first | (obtain rfl:Value.nilIface=E:=hE) | (obtain rfl:Value.iface 49 (.int .i64 1)=E:=hE)
  go_wp2_with (first
   | (with_reducible refine wpList_load_mid rfl 113 _ rfl q 0 rfl C (.array 64 5) hg.out zac rfl hk.out ?_)
   | (with_reducible refine wpList_store_mid rfl 113 _ _ rfl p 0 C.toArray rfl rfl hX.out hn.out H1.out ?_))
  refine Hfin.out _ ?_;rfl
theorem zqa {t b:Bs} (h:zdi t=some b):b.length≤t.length:=by
 have:=(zdw t b).1 h;subst this
 have:∀ l:Bs,l.length≤(b64C l).length:=fun l=>by
  induction l using b64C.induct with
  | case1=>simp
  | case2 a=>simp[b64C]
  | case3 a b=>simp[b64C]
  | case4 a b c l ih=>simp only[b64C,List.length_cons];omega
 have h1:=this b;unfold zfx;rw[List.length_append];omega
theorem zu7 (S:Nat→Prop) (b:Nat) (f:Fd) (nm:Bs) (w:World) (h:FB S b f w) (hfit:Fits f.j) (hs:0≤f.seen∧f.seen≤1000) :
 Calls ze 80 #[.pointer (some ⟨b,0,none⟩),.string ⟨nm.toArray⟩,.func (.func 81) #[] #[]] w fun e w'=>∃ v,e = .returned v∧SB (fun k=>w.heap.size≤k) (zh0 f nm).1 v w'∧FB S b (zh0 f nm).2 w'∧Fr (MFd b) w w':=by
 have hbw:b<w.heap.size:=by obtain⟨-,b1,b2,b3,b4,h5,-⟩:=h;exact jb h5
 have hc:=zb7 S b f nm w h hfit hs;have hK:(jo f nm).1.length≤1000000:=(Fits.get (nm:=nm) (k:=3) hfit).1.text;unfold zh0;obtain⟨t,ht⟩:∃ t,(jo f nm).1=t:=⟨_,rfl⟩;obtain⟨f2,hL⟩:∃ f2,(jo f nm).2=f2:=⟨_,rfl⟩;rw[ht,hL]at hc;rw[ht]at hK;rw[ht,hL];have hB:=fun W=>zib t W hK
 obtain⟨R,hR⟩:∃ R,zdi t=R:=⟨_,rfl⟩;rw[hR]at hB;rw[hR];have hent:∀ hF W,(callFunc 81 hF).run ze W = .ok (.enter 81 hF) W:=fun hF w=>by simp[go_sem]
 have Hc:=za hc;obtain⟨j2,s2,bd⟩:=f2;obtain⟨D,hD⟩:∃ D,R.getD []=D:=⟨_,rfl⟩;obtain⟨bn,hM⟩:∃ bn,R.isNone=bn:=⟨_,rfl⟩;obtain⟨E,hE⟩:∃ E,(if bn then Value.iface 49 (.int .i64 1) else .nilIface)=E:=⟨_,rfl⟩
 have hA:∀ W,Calls ze 81 #[.string ⟨t.toArray⟩] W fun e w'=>(∃ a c,e = .returned (.tuple #[.slice a D.length c,E])∧SB (fun k=>W.heap.size≤k) D (.slice a D.length c) w')∧Fr NoB W w':=fun W=>(hB W).mono (by
  rintro e w' ⟨h1,h2⟩;refine⟨?_,h2⟩;rw[← hD,← hE,← hM];unfold zj2 at h1;cases R with
  | none=>exact⟨none,0,h1,SB.nil _ _ _⟩
  | some r =>
    obtain⟨a,c,h3,h4⟩:=h1
    exact⟨a,c,h3,h4⟩)
 have Hsum:=za hA;rw[hM,hD];show Calls _ _ _ _ fun e w'=>∃ v,e = .returned v∧SB _ D v w'∧FB S b { j:=j2,seen:=s2,bad:=bd||bn } w'∧Fr (MFd b) w w'
 clear hc hB hA hR hK ht hL hD hM h hfit;go_enter Tryz.func80,Tryz.ntmps80
 go_wp2_with fail
 refine Hc.out.mono ?_;rintro e w1 ⟨rfl,hH,hP⟩;have hJ:=za hP;have hI:=za hH;clear hH hP
 go_wp2_with fail
 refine(Hsum.out _).mono ?_;rintro e w2 ⟨⟨a,c,rfl,hO⟩,hN⟩;have hC:=hI.out.fr hN;obtain⟨a1,n1,a2,n2,-,-,-,-,-,-,c6,fz,hlt,-⟩:=hC.cells;obtain⟨e1,e2⟩:=hC.setBad (bd||bn)
 have hG:Hid (SB (fun k=>w.heap.size≤k) D (.slice a D.length c) (w2.setCell ⟨b,6,none⟩ (.bool (bd||bn)))∧FB S b { j:=j2,seen:=s2,bad:=bd||bn } (w2.setCell ⟨b,6,none⟩ (.bool (bd||bn)))∧Fr (MFd b) w (w2.setCell ⟨b,6,none⟩ (.bool (bd||bn)))):=za
  ⟨hO.kp (fun k o hk ho ht=>⟨Nat.le_trans hJ.out.size hk,e2.block k o ho (fun hm=>by have:=hJ.out.size;have:=hm.1;omega)⟩),e1,(hJ.out.trans' (hN.mono (fun _ _ h=>h.elim))).trans' e2⟩
 clear e1 e2 hC hO hN hI hJ Hc Hsum;cases bd<;>cases bn
 all_goals
  simp only[Bool.or_self,Bool.or_false,Bool.or_true,Bool.true_or,Bool.false_or]at hG
  first | (obtain rfl:Value.nilIface=E:=hE) | (obtain rfl:Value.iface 49 (.int .i64 1)=E:=hE)
  go_wp2_with fail
  go_ret;exact⟨_,rfl,hG.out⟩
end
end Go.Proofs.YtmgfncjfgkllcaaGreatDoor
