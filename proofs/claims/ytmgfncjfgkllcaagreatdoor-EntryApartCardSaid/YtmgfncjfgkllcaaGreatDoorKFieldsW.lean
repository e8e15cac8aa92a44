/-
 The entry of a value (package entry),as plain data: there and back.
-/
import Derived.Test.YtmgfncjfgkllcaaGreatDoorKFields
import Derived.Test.YtmgfncjfgkllcaaGreatDoorKSpecVal
import Derived.Test.YtmgfncjfgkllcaaGreatDoorKB64
namespace Go.Proofs.YtmgfncjfgkllcaaGreatDoor
set_option linter.unusedVariables false
set_option linter.unusedSimpArgs false
set_option linter.unusedSectionVars false
def zbv:Bs:=List.replicate 64 0
def zhe (f:Fd) (nm:Bs):Bs × Fd :=
 ((zdf (jm f nm).1).getD [],{ (jm f nm).2 with bad:=(jm f nm).2.bad||(zdf (jm f nm).1).isNone })
def zhj (f:Fd) (nm:Bs):Bs × Fd :=
 ((zhf (jm f nm).1).getD zbv,{ (jm f nm).2 with bad:=(jm f nm).2.bad||(zhf (jm f nm).1).isNone })
def zaf (s:Bs):Sg × Bool :=
 if Lib.hasPrefix s zmf then (⟨[],(zky (s.drop 4)).getD jb,zbv⟩,(zky (s.drop 4)).isSome) else (⟨s,jb,zbv⟩,q9 s)
def zar (j:J):Sg × Bool :=
 let t:=jm ⟨j,0,false⟩ nBy
 let s:=zaf t.1
 let b:=zhj t.2 zso
 (⟨s.1.id,s.1.key,b.1⟩,!s.2 || !zdw b.2)
def zeq (s:Bs):Int:=if s=[] then 0 else if s=wArt then 1 else if s=wEnv then 2 else if s=wSta then 3 else if s=wBin then 4 else -1
def zut (s:Bs):Int:=if s=[] then 0 else if s=wBind then 1 else if s=wRot then 2 else if s=wRev then 3 else -1
def zod (k:Int) (f:Fd):En × Fd :=
 if k=1 then (⟨1,(zfg f zje).1,[],[],0,[],jb,[]⟩,(zfg f zje).2)
 else if k=2 then (⟨2,jb,(jm f zcw).1,(zhe (jm f zcw).2 zd2).1,0,[],jb,[]⟩,(zhe (jm f zcw).2 zd2).2)
 else if k=3 then (⟨3,jb,[],(zhe f zd2).1,0,[],jb,[]⟩,(zhe f zd2).2)
 else if k=4 then
  if zut (jm (jm f j0).2 nOp).1=3 then (⟨4,jb,[],[],3,(jm f j0).1,jb,[]⟩,(jm (jm f j0).2 nOp).2)
  else (⟨4,jb,[],[],zut (jm (jm f j0).2 nOp).1,(jm f j0).1,(zfg (jm (jm f j0).2 nOp).2 zf2).1,[]⟩,(zfg (jm (jm f j0).2 nOp).2 zf2).2)
 else (⟨k,jb,[],[],0,[],jb,[]⟩,f)
def zrp (j:J):En × Bool :=
 let t:=jm ⟨j,0,false⟩ jv
 let r:=zod (zeq t.1) t.2
 let g:=zb7 r.2 zae 4
 let l:=g.1.list.map zar
 ({ r.1 with sigs:=l.map (·.1) },zdw { g.2 with bad:=g.2.bad||l.any (·.2) })
def pOf (sub:Bs→Bool) (j:J):Option En :=
 if jo 0 j=false then none else
 if (zrp j).2&&za7 sub (zrp j).1 then some (zrp j).1 else none
def zin (sub:Bs→Bool) (b:Bs):Option En × Nat :=
 if (za6 b).2≠0 then (none,(za6 b).2) else match pOf sub (za6 b).1 with
 | some e=>(some e,0)
 | none=>(none,11)
/-! there and back -/
theorem zmy {f:Fd}{nm:Bs}{k:Int}{v:J}(h:zhi f.j nm=some v)(hk:v.kind=k):zb7 f nm k=(v,{ f with seen:=f.seen+1 }):=by
 unfold zb7;rw[h];simp only;rw[if_pos hk]
theorem qq {f:Fd}{nm:Bs}{s:Bs}(h:zhi f.j nm=some (pT s)):jm f nm=(s,{ f with seen:=f.seen+1 }):=by
 unfold jm;rw[zmy (k:=3) h rfl];rfl
theorem zmt {f:Fd}{nm:Bs}{d:Bs}(h:zhi f.j nm=some (pT (zd5 d)))(hd:d.length=32):zfg f nm=(d,{ f with seen:=f.seen+1 }):=by
 unfold zfg;rw[qq h];simp only;rw[(zcd _ d).2 ⟨rfl,hd⟩];simp
theorem zm0 {f:Fd}{nm:Bs}{d:Bs}(h:zhi f.j nm=some (pT (zfl d))):zhe f nm=(d,{ f with seen:=f.seen+1 }):=by
 unfold zhe;rw[qq h];simp only;rw[(zdl _ d).2 rfl];simp
theorem zqv {f:Fd}{nm:Bs}{d:Bs}(h:zhi f.j nm=some (pT (zfl d)))(hd:d.length=64):zhj f nm=(d,{ f with seen:=f.seen+1 }):=by
 unfold zhj;rw[qq h];simp only;rw[(zeh _ d).2 ⟨rfl,hd⟩];simp
theorem zn9 (s:Bs):Lib.hasPrefix (zmf++s) zmf=true:=by
 unfold Lib.hasPrefix;simp
theorem zqa {s:Bs} (h:q9 s=true):Lib.hasPrefix s zmf=false:=by
 cases hp:Lib.hasPrefix s zmf with
 | false=>rfl
 | true =>
   unfold q9 at h;simp only[Bool.and_eq_true,List.all_eq_true]at h
   have hm:(58:UInt8)∈s:=by
    have:s.take 4=zmf:=by
     unfold Lib.hasPrefix at hp;simp at hp;obtain⟨t,rfl⟩:=hp;rfl
    have hA:(58:UInt8)∈s.take 4:=by rw[this];decide
    exact List.mem_of_mem_take hA
   have:=h.2.2 58 hm;exact absurd this (by decide)
theorem zgm {s:Sg}(h:s.id=[]∨q9 s.id=true∧s.key=jb)(hk:s.key.length=32):zaf (qm s)=(⟨s.id,s.key,zbv⟩,true):=by
 unfold qm zaf;by_cases hi:s.id=[]
 ·rw[if_pos hi,if_pos (zn9 _)];have e:(zmf++zd5 s.key).drop 4=zd5 s.key:=rfl;rw[e,(zcd _ s.key).2 ⟨rfl,hk⟩,hi];rfl
 rw[if_neg hi];obtain⟨h1,h2⟩:=h.resolve_left hi;rw[zqa h1,h1,h2];rfl
theorem zr7 {s:Sg}(h:s.id=[]∨q9 s.id=true∧s.key=jb)(hk:s.ok):zar (sgJ s)=(s,false):=by
 unfold zar;simp only;rw[qq (nm:=nBy) (s:=qm s) rfl];simp only;rw[zgm h hk.1,zqv (d:=s.sig) rfl hk.2];rfl
theorem zol:zeq wArt=1:=by decide
theorem zok:zeq wEnv=2:=by decide
theorem zoj:zeq wSta=3:=by decide
theorem zh1:zeq wBin=4:=by decide
theorem zsh {k:Int}(h:1≤k∧k≤3):zut (wOp k)=k:=by
 have:k=1∨k=2∨k=3:=by omega
 rcases this with rfl | rfl | rfl<;>decide
theorem zos {sub:Bs→Bool}{e:En}(h:za7 sub e=true):zou (zav e) (qs e.kind e.sigs)=true:=by
 unfold za7 at h;simp only[Bool.and_eq_true]at h;exact h.2.2
theorem zot {a b:En}(h:zou a b=true):a.kind=b.kind∧a.digest=b.digest∧a.typ=b.typ∧a.payload=b.payload∧a.op=b.op∧a.ident=b.ident∧a.key=b.key:=by
 unfold zou at h;simp at h;exact⟨h.1,h.2.1,h.2.2.1,h.2.2.2.1,h.2.2.2.2.1,h.2.2.2.2.2.1,h.2.2.2.2.2.2.1⟩
theorem zr3 {l:List Sg}(h:∀ s∈l,s.id=[]∨q9 s.id=true∧s.key=jb)(hk:∀ s∈l,s.ok):(l.map sgJ).map zar=l.map fun s=>(s,false):=by
 rw[List.map_map];exact List.map_congr_left (fun s hs=>zr7 (h s hs) (hk s hs))
theorem zdp (l:List Sg):(l.map fun s=>(s,false)).map (·.1)=l:=by
 induction l with
 | nil=>rfl
 | cons x l ih=>simp only[List.map_cons,ih]
theorem zdo (l:List Sg):(l.map fun s=>(s,false)).any (·.2)=false:=by
 induction l with
 | nil=>rfl
 | cons x l ih=>simp only[List.map_cons,List.any_cons,ih,Bool.or_false]
theorem zvy {sub:Bs→Bool} {e:En} (h:za7 sub e=true) (he:e.ok):pOf sub (zd4 e)=some e:=by
 have ho:=zgu h;have hs:=zge ho;obtain⟨-,p1,p2,p3,p4,p5,p6⟩:=zot (zos h);have hb:=zr3 ho.sg he.2.2
 have hE:zrp (zd4 e)=(e,true):=by
  obtain⟨k,d,t,p,o,i,ky,sg⟩:=e;simp only[qs]at p1 p2 p3 p4 p5 p6;simp only at hb;obtain⟨e1,e2,-⟩:=he;simp only at e1 e2;have hk:=ho.kind;simp only at hk;have hB:∀ (f:Fd),zhi f.j zae=some (zd7 sg)→zb7 f zae 4=(zd7 sg,{ f with seen:=f.seen+1 }):=fun f hf=>zmy hf rfl
  have hA:(zd7 sg).list=sg.map sgJ:=rfl;rcases hk with rfl | rfl | rfl | rfl
  ·simp only[zav,if_true]at p1 p2 p3 p4 p5 p6;subst p2;subst p3;subst p4;subst p5;subst p6;unfold zrp;simp only;rw[qq (nm:=jv) (s:=wArt) rfl];simp only;rw[zol];unfold zod;rw[if_pos rfl,zmt (d:=d) rfl e1];simp only;rw[hB _ rfl];simp only[hA,hb,zdp,zdo,Bool.or_false];rfl
  ·have p1:d=jb:=p1;have p4:o=0:=p4;have p5:i=[]:=p5;have p6:ky=jb:=p6;subst p1;subst p4;subst p5;subst p6;unfold zrp;simp only;rw[qq (nm:=jv) (s:=wEnv) rfl];simp only;rw[zok];unfold zod;rw[if_neg (by decide),if_pos rfl,qq (nm:=zcw) (s:=t) rfl];simp only;rw[zm0 (d:=p) rfl];simp only;rw[hB _ rfl];simp only[hA,hb,zdp,zdo,Bool.or_false];rfl
  ·have p1:d=jb:=p1;have p2:t=[]:=p2;have p4:o=0:=p4;have p5:i=[]:=p5;have p6:ky=jb:=p6;subst p1;subst p2;subst p4;subst p5;subst p6;unfold zrp;simp only;rw[qq (nm:=jv) (s:=wSta) rfl];simp only;rw[zoj];unfold zod;rw[if_neg (by decide),if_neg (by decide),if_pos rfl,zm0 (d:=p) rfl];simp only;rw[hB _ rfl];simp only[hA,hb,zdp,zdo,Bool.or_false];rfl
  have p1:d=jb:=p1;have p2:t=[]:=p2;have p3:p=[]:=p3;have hC:=ho.op rfl;simp only at hC;have hD:=zsh ⟨hC.1,hC.2.1⟩;subst p1;subst p2;subst p3;by_cases h3:o=3
  ·have p6:ky=jb:=by
    have h6:(if o=3 then ky else jb)=jb:=p6;rw[if_pos h3]at h6;exact h6
   subst h3;subst p6;unfold zrp;simp only;rw[qq (nm:=jv) (s:=wBin) rfl];simp only;rw[zh1];unfold zod;rw[if_neg (by decide),if_neg (by decide),if_neg (by decide),if_pos rfl,qq (nm:=j0) (s:=i) rfl];simp only;rw[qq (nm:=nOp) (s:=wOp 3) rfl];simp only;rw[hD,if_pos rfl];simp only;rw[hB _ rfl];simp only[hA,hb,zdp,zdo,Bool.or_false];rfl
  have hv:zd4 ⟨4,jb,[],[],o,i,ky,sg⟩=zbq [(j0,pT i),(zf2,pT (zd5 ky)),(jv,pT wBin),(nOp,pT (wOp o)),(zae,zd7 sg)]:=by
   unfold zd4 zl9;rw[if_neg (show ¬ ((4:Int)=1) by decide),if_neg (show ¬ ((4:Int)=2) by decide),if_neg (show ¬ ((4:Int)=3) by decide),if_neg h3]
  rw[hv];unfold zrp;simp only;rw[qq (nm:=jv) (s:=wBin) rfl];simp only;rw[zh1];unfold zod;rw[if_neg (by decide),if_neg (by decide),if_neg (by decide),if_pos rfl,qq (nm:=j0) (s:=i) rfl];simp only;rw[qq (nm:=nOp) (s:=wOp o) rfl];simp only;rw[hD,if_neg h3];simp only;rw[zmt (d:=ky) rfl e2];simp only;rw[hB _ rfl];simp only[hA,hb,zdp,zdo,Bool.or_false];rfl
 unfold pOf;rw[hs,hE];simp[h]
end Go.Proofs.YtmgfncjfgkllcaaGreatDoor
namespace Go.Proofs.YtmgfncjfgkllcaaGreatDoor
set_option linter.unusedVariables false
set_option linter.unusedSimpArgs false
set_option linter.unusedSectionVars false
open Go.RowKit
variable [OldK]
attribute [local go_sem] Oper.semAt_some
theorem FB.to2W {S:Nat→Prop}{b p:Nat}{f:Fd}{w w':World}{c:Array Value}{fr:Nat × Nat}(h:FB S b f w)(hF:Fr (fun k _=>k=p) w w')(hbp:b<p)(hz:w.heap[p]? = some (.cells c 113 fr)):FB S b f w':=by
 obtain⟨hb,a1,n1,a2,n2,h1,h2⟩:=h;refine⟨hb,a1,n1,a2,n2,hF.block _ _ h1 (by omega),RJ.kp (Kp.fr hF (fun _ h _=>h) (fun k o _ hk ht hm=>?_)) _ _ h2⟩;subst hm;obtain rfl:=Option.some.inj (hk.symm.trans hz);rcases ht with⟨c',f',h⟩ | ⟨c',f',h⟩ | h
 ·injection h with _ h _;revert h;decide
 ·injection h with _ h _;revert h;decide
 omega
set_option maxRecDepth 100000 in
set_option maxHeartbeats 2000000 in
theorem zu1 (S:Nat→Prop) (b:Nat) (f:Fd) (nm:Bs) (w:World) (h:FB S b f w) (hfit:Fits f.j) (hs:0≤f.seen∧f.seen≤1000) :
 Calls Tryz.prog 83 #[.pointer (some ⟨b,0,none⟩),.string ⟨nm.toArray⟩,.func (.func 84) #[] #[]] w fun e w'=>e = .returned (.agg (Lib.byteCells (zhj f nm).1).toArray)∧FB S b (zhj f nm).2 w'∧Fr (MFd b) w w':=by
 have hV:b<w.heap.size:=by obtain⟨-,b1,b2,b3,b4,h5,-⟩:=h;exact ja h5
 have hZ:=heap_alloc_new w (.cells #[.int .u8 0,.int .u8 0,.int .u8 0,.int .u8 0,.int .u8 0,.int .u8 0,.int .u8 0,.int .u8 0,.int .u8 0,.int .u8 0,.int .u8 0,.int .u8 0,.int .u8 0,.int .u8 0,.int .u8 0,.int .u8 0,.int .u8 0,.int .u8 0,.int .u8 0,.int .u8 0,.int .u8 0,.int .u8 0,.int .u8 0,.int .u8 0,.int .u8 0,.int .u8 0,.int .u8 0,.int .u8 0,.int .u8 0,.int .u8 0,.int .u8 0,.int .u8 0,.int .u8 0,.int .u8 0,.int .u8 0,.int .u8 0,.int .u8 0,.int .u8 0,.int .u8 0,.int .u8 0,.int .u8 0,.int .u8 0,.int .u8 0,.int .u8 0,.int .u8 0,.int .u8 0,.int .u8 0,.int .u8 0,.int .u8 0,.int .u8 0,.int .u8 0,.int .u8 0,.int .u8 0,.int .u8 0,.int .u8 0,.int .u8 0,.int .u8 0,.int .u8 0,.int .u8 0,.int .u8 0,.int .u8 0,.int .u8 0,.int .u8 0,.int .u8 0] 113);have hQ:Fr NoB w (w.alloc (.cells #[.int .u8 0,.int .u8 0,.int .u8 0,.int .u8 0,.int .u8 0,.int .u8 0,.int .u8 0,.int .u8 0,.int .u8 0,.int .u8 0,.int .u8 0,.int .u8 0,.int .u8 0,.int .u8 0,.int .u8 0,.int .u8 0,.int .u8 0,.int .u8 0,.int .u8 0,.int .u8 0,.int .u8 0,.int .u8 0,.int .u8 0,.int .u8 0,.int .u8 0,.int .u8 0,.int .u8 0,.int .u8 0,.int .u8 0,.int .u8 0,.int .u8 0,.int .u8 0,.int .u8 0,.int .u8 0,.int .u8 0,.int .u8 0,.int .u8 0,.int .u8 0,.int .u8 0,.int .u8 0,.int .u8 0,.int .u8 0,.int .u8 0,.int .u8 0,.int .u8 0,.int .u8 0,.int .u8 0,.int .u8 0,.int .u8 0,.int .u8 0,.int .u8 0,.int .u8 0,.int .u8 0,.int .u8 0,.int .u8 0,.int .u8 0,.int .u8 0,.int .u8 0,.int .u8 0,.int .u8 0,.int .u8 0,.int .u8 0,.int .u8 0,.int .u8 0] 113)):=Fr.refl.alloc _;obtain⟨W0,hf⟩:∃ W,w.alloc (.cells #[.int .u8 0,.int .u8 0,.int .u8 0,.int .u8 0,.int .u8 0,.int .u8 0,.int .u8 0,.int .u8 0,.int .u8 0,.int .u8 0,.int .u8 0,.int .u8 0,.int .u8 0,.int .u8 0,.int .u8 0,.int .u8 0,.int .u8 0,.int .u8 0,.int .u8 0,.int .u8 0,.int .u8 0,.int .u8 0,.int .u8 0,.int .u8 0,.int .u8 0,.int .u8 0,.int .u8 0,.int .u8 0,.int .u8 0,.int .u8 0,.int .u8 0,.int .u8 0,.int .u8 0,.int .u8 0,.int .u8 0,.int .u8 0,.int .u8 0,.int .u8 0,.int .u8 0,.int .u8 0,.int .u8 0,.int .u8 0,.int .u8 0,.int .u8 0,.int .u8 0,.int .u8 0,.int .u8 0,.int .u8 0,.int .u8 0,.int .u8 0,.int .u8 0,.int .u8 0,.int .u8 0,.int .u8 0,.int .u8 0,.int .u8 0,.int .u8 0,.int .u8 0,.int .u8 0,.int .u8 0,.int .u8 0,.int .u8 0,.int .u8 0,.int .u8 0] 113)=W:=⟨_,rfl⟩;rw[hf]at hZ hQ;obtain⟨p,hp⟩:∃ p,w.heap.size=p:=⟨_,rfl⟩;rw[hp]at hZ hV;have hc:=zb5 S b f nm W0 (h.fr hQ) hfit hs;have hT:(jm f nm).1.length≤1000000:=(Fits.get (nm:=nm) (k:=3) hfit).1.text;unfold zhj;obtain⟨t,ht⟩:∃ t,(jm f nm).1=t:=⟨_,rfl⟩;obtain⟨f2,hU⟩:∃ f2,(jm f nm).2=f2:=⟨_,rfl⟩;rw[ht,hU]at hc;rw[ht]at hT;rw[ht,hU];have hF:=fun W=>zvj t W hT
 have hl:=fun r h=>(zeh t r).1 h
 obtain⟨R,hR⟩:∃ R,zhf t=R:=⟨_,rfl⟩;rw[hR]at hF hl;rw[hR];obtain⟨D,hD⟩:∃ D,R.getD zbv=D:=⟨_,rfl⟩
 have hG:D.length=64:=by
  rw[← hD];cases R with
  | none=>rfl
  | some r=>exact(hl r rfl).2
 obtain⟨E,hE⟩:∃ E,(if R.isNone then Value.iface 49 (.int .i64 1) else .nilIface)=E:=⟨_,rfl⟩
 have hB:∀ W,Calls Tryz.prog 84 #[.string ⟨t.toArray⟩] W fun e w'=>e = .returned (.tuple #[.agg (Lib.byteCells D).toArray,E])∧Fr NoB W w':=fun W=>(hF W).mono (by
  rintro e w' ⟨h1,h2⟩;refine⟨?_,h2⟩;rw[← hD,← hE];cases R with
  | none=>exact h1
  | some r=>exact h1)
 have hent:∀ hH W,(callFunc 84 hH).run Tryz.prog W = .ok (.enter 84 hH) W:=fun hH w=>by simp[go_sem]
 obtain⟨bn,hd⟩:∃ bn,R.isNone=bn:=⟨_,rfl⟩;rw[hd]at hE ⊢;rw[hD];have Hc:=Lib.hid hc;have Hsum:=Lib.hid hB;have HZ:=Lib.hid hZ;have ho:=Lib.hid hQ;have Hp:=Lib.hid hp;have Hh:=Lib.hid h;have HD:=Lib.hid hG;obtain⟨C,hC⟩:∃ C,Lib.byteCells D=C:=⟨_,rfl⟩;have HC:Hid (C.length=64):=Lib.hid (by rw[← hC,jc,hG]);have H1:=Lib.hid (show C.toArray.all (·.oneCell')=true by rw[← hC];exact all_oneCell_toArray (zaw _));rw[hC]at Hsum;have hj:(Lib.byteCells D).toArray=C.toArray:=by rw[hC]
 clear hc hF hB hl hZ hQ hp h hG hR hD hT ht hU hd hC;show Calls _ _ _ _ fun e w'=>e = .returned (.agg (Lib.byteCells D).toArray)∧FB S b { f2 with bad:=f2.bad||bn } w'∧Fr (MFd b) w w'
 rw[hj];clear hj HD;have hn:Hid ((Tryz.prog.info? 113).map (·.size)=some C.toArray.size):=Lib.hid (by rw[qw,List.size_toArray,HC.out]);have hk:Hid ((Tryz.prog.info? 113).map (·.size)=some C.length):=Lib.hid (by rw[qw,HC.out]);go_enter Tryz.func83,Tryz.ntmps83
 go_upto_region 1 with(fail)
 change Code.wp _ _ _ _ W0;have hb:=Hp.out;rw[hb];clear hf hb
 go_wp2_with fail
 refine Hc.out.mono ?_;rintro e w1 ⟨rfl,hK,hi⟩;have hS:=Lib.hid hi;have hO:=Lib.hid hK;clear hK hi
 go_wp2_with fail
 refine(Hsum.out _).mono ?_;rintro e w2 ⟨rfl,hI⟩;have hx:b<w2.heap.size:=Nat.lt_of_lt_of_le (Nat.lt_of_lt_of_le (Nat.lt_of_lt_of_le (Hp.out▸hV) ho.out.size) hS.out.size) hI.size;have hv:p<w2.heap.size:=Nat.lt_of_lt_of_le (Nat.lt_of_lt_of_le (ja HZ.out) hS.out.size) hI.size;have he:=hI.block _ _ (hS.out.block _ _ HZ.out (fun h=>by have:=h.1;omega)) (fun h=>h);have hN:=heap_alloc_new w2 (.cells #[.int .u8 0,.int .u8 0,.int .u8 0,.int .u8 0,.int .u8 0,.int .u8 0,.int .u8 0,.int .u8 0,.int .u8 0,.int .u8 0,.int .u8 0,.int .u8 0,.int .u8 0,.int .u8 0,.int .u8 0,.int .u8 0,.int .u8 0,.int .u8 0,.int .u8 0,.int .u8 0,.int .u8 0,.int .u8 0,.int .u8 0,.int .u8 0,.int .u8 0,.int .u8 0,.int .u8 0,.int .u8 0,.int .u8 0,.int .u8 0,.int .u8 0,.int .u8 0,.int .u8 0,.int .u8 0,.int .u8 0,.int .u8 0,.int .u8 0,.int .u8 0,.int .u8 0,.int .u8 0,.int .u8 0,.int .u8 0,.int .u8 0,.int .u8 0,.int .u8 0,.int .u8 0,.int .u8 0,.int .u8 0,.int .u8 0,.int .u8 0,.int .u8 0,.int .u8 0,.int .u8 0,.int .u8 0,.int .u8 0,.int .u8 0,.int .u8 0,.int .u8 0,.int .u8 0,.int .u8 0,.int .u8 0,.int .u8 0,.int .u8 0,.int .u8 0] 113);have ha:=Lib.hid (jd hN (n:=C.toArray.size) (by rw[List.size_toArray,HC.out];show 64≤64;omega));have hM:Fr NoB w2 ((w2.alloc (.cells #[.int .u8 0,.int .u8 0,.int .u8 0,.int .u8 0,.int .u8 0,.int .u8 0,.int .u8 0,.int .u8 0,.int .u8 0,.int .u8 0,.int .u8 0,.int .u8 0,.int .u8 0,.int .u8 0,.int .u8 0,.int .u8 0,.int .u8 0,.int .u8 0,.int .u8 0,.int .u8 0,.int .u8 0,.int .u8 0,.int .u8 0,.int .u8 0,.int .u8 0,.int .u8 0,.int .u8 0,.int .u8 0,.int .u8 0,.int .u8 0,.int .u8 0,.int .u8 0,.int .u8 0,.int .u8 0,.int .u8 0,.int .u8 0,.int .u8 0,.int .u8 0,.int .u8 0,.int .u8 0,.int .u8 0,.int .u8 0,.int .u8 0,.int .u8 0,.int .u8 0,.int .u8 0,.int .u8 0,.int .u8 0,.int .u8 0,.int .u8 0,.int .u8 0,.int .u8 0,.int .u8 0,.int .u8 0,.int .u8 0,.int .u8 0,.int .u8 0,.int .u8 0,.int .u8 0,.int .u8 0,.int .u8 0,.int .u8 0,.int .u8 0,.int .u8 0] 113)).setCells w2.heap.size 0 C):=((Fr.refl (M:=NoB)).alloc _).trans (z8 _ _ _ _) (fun k _ hm => .inr (by omega));have hP:=World.rangeAt_setCells_same (w2.alloc (.cells #[.int .u8 0,.int .u8 0,.int .u8 0,.int .u8 0,.int .u8 0,.int .u8 0,.int .u8 0,.int .u8 0,.int .u8 0,.int .u8 0,.int .u8 0,.int .u8 0,.int .u8 0,.int .u8 0,.int .u8 0,.int .u8 0,.int .u8 0,.int .u8 0,.int .u8 0,.int .u8 0,.int .u8 0,.int .u8 0,.int .u8 0,.int .u8 0,.int .u8 0,.int .u8 0,.int .u8 0,.int .u8 0,.int .u8 0,.int .u8 0,.int .u8 0,.int .u8 0,.int .u8 0,.int .u8 0,.int .u8 0,.int .u8 0,.int .u8 0,.int .u8 0,.int .u8 0,.int .u8 0,.int .u8 0,.int .u8 0,.int .u8 0,.int .u8 0,.int .u8 0,.int .u8 0,.int .u8 0,.int .u8 0,.int .u8 0,.int .u8 0,.int .u8 0,.int .u8 0,.int .u8 0,.int .u8 0,.int .u8 0,.int .u8 0,.int .u8 0,.int .u8 0,.int .u8 0,.int .u8 0,.int .u8 0,.int .u8 0,.int .u8 0,.int .u8 0] 113)) w2.heap.size 0 C (by simpa using ha.out);have hA:=(hO.out.fr hI).fr hM;have hL:=hM.block _ _ he (fun h=>h);have hY:Fr (MFd b) w ((w2.alloc (.cells #[.int .u8 0,.int .u8 0,.int .u8 0,.int .u8 0,.int .u8 0,.int .u8 0,.int .u8 0,.int .u8 0,.int .u8 0,.int .u8 0,.int .u8 0,.int .u8 0,.int .u8 0,.int .u8 0,.int .u8 0,.int .u8 0,.int .u8 0,.int .u8 0,.int .u8 0,.int .u8 0,.int .u8 0,.int .u8 0,.int .u8 0,.int .u8 0,.int .u8 0,.int .u8 0,.int .u8 0,.int .u8 0,.int .u8 0,.int .u8 0,.int .u8 0,.int .u8 0,.int .u8 0,.int .u8 0,.int .u8 0,.int .u8 0,.int .u8 0,.int .u8 0,.int .u8 0,.int .u8 0,.int .u8 0,.int .u8 0,.int .u8 0,.int .u8 0,.int .u8 0,.int .u8 0,.int .u8 0,.int .u8 0,.int .u8 0,.int .u8 0,.int .u8 0,.int .u8 0,.int .u8 0,.int .u8 0,.int .u8 0,.int .u8 0,.int .u8 0,.int .u8 0,.int .u8 0,.int .u8 0,.int .u8 0,.int .u8 0,.int .u8 0,.int .u8 0] 113)).setCells w2.heap.size 0 C):=(((ho.out.mono (fun _ _ h=>h.elim)).trans' hS.out).trans' (hI.mono (fun _ _ h=>h.elim))).trans' (hM.mono (fun _ _ h=>h.elim));clear hI he hN
 go_upto_region 2 with(with_reducible refine wpList_store_mid rfl 113 _ _ rfl w2.heap.size 0 C.toArray rfl rfl ha.out hn.out H1.out ?_)
 change Code.wp _ _ _ _ ((w2.alloc (.cells #[.int .u8 0,.int .u8 0,.int .u8 0,.int .u8 0,.int .u8 0,.int .u8 0,.int .u8 0,.int .u8 0,.int .u8 0,.int .u8 0,.int .u8 0,.int .u8 0,.int .u8 0,.int .u8 0,.int .u8 0,.int .u8 0,.int .u8 0,.int .u8 0,.int .u8 0,.int .u8 0,.int .u8 0,.int .u8 0,.int .u8 0,.int .u8 0,.int .u8 0,.int .u8 0,.int .u8 0,.int .u8 0,.int .u8 0,.int .u8 0,.int .u8 0,.int .u8 0,.int .u8 0,.int .u8 0,.int .u8 0,.int .u8 0,.int .u8 0,.int .u8 0,.int .u8 0,.int .u8 0,.int .u8 0,.int .u8 0,.int .u8 0,.int .u8 0,.int .u8 0,.int .u8 0,.int .u8 0,.int .u8 0,.int .u8 0,.int .u8 0,.int .u8 0,.int .u8 0,.int .u8 0,.int .u8 0,.int .u8 0,.int .u8 0,.int .u8 0,.int .u8 0,.int .u8 0,.int .u8 0,.int .u8 0,.int .u8 0,.int .u8 0,.int .u8 0] 113)).setCells w2.heap.size 0 C);obtain⟨W3,hW⟩:∃ W,(w2.alloc (.cells #[.int .u8 0,.int .u8 0,.int .u8 0,.int .u8 0,.int .u8 0,.int .u8 0,.int .u8 0,.int .u8 0,.int .u8 0,.int .u8 0,.int .u8 0,.int .u8 0,.int .u8 0,.int .u8 0,.int .u8 0,.int .u8 0,.int .u8 0,.int .u8 0,.int .u8 0,.int .u8 0,.int .u8 0,.int .u8 0,.int .u8 0,.int .u8 0,.int .u8 0,.int .u8 0,.int .u8 0,.int .u8 0,.int .u8 0,.int .u8 0,.int .u8 0,.int .u8 0,.int .u8 0,.int .u8 0,.int .u8 0,.int .u8 0,.int .u8 0,.int .u8 0,.int .u8 0,.int .u8 0,.int .u8 0,.int .u8 0,.int .u8 0,.int .u8 0,.int .u8 0,.int .u8 0,.int .u8 0,.int .u8 0,.int .u8 0,.int .u8 0,.int .u8 0,.int .u8 0,.int .u8 0,.int .u8 0,.int .u8 0,.int .u8 0,.int .u8 0,.int .u8 0,.int .u8 0,.int .u8 0,.int .u8 0,.int .u8 0,.int .u8 0,.int .u8 0] 113)).setCells w2.heap.size 0 C=W:=⟨_,rfl⟩;rw[hW]at hP hA hL hM hY ⊢;obtain⟨q,hq⟩:∃ q,w2.heap.size=q:=⟨_,rfl⟩
 have hu:q<W3.heap.size:=by
  rw[← hW,← hq];exact Nat.lt_of_lt_of_le (by rw[World.size_alloc];omega) (z8 (w2.heap.size) C 0 (w2.alloc _)).size
 rw[hq]at hP hx hv;rw[hq];clear hW hM ha;obtain⟨a1,n1,a2,n2,-,-,-,-,-,-,c6,fz,hlt,-⟩:=hA.cells;obtain⟨e1,e2⟩:=hA.setBad (f2.bad||bn);have hg:=Lib.hid (jf hP e2 hu (fun _ h=>by have:=h.1;omega));have hX:=Lib.hid (zdz (jd hL (n:=C.toArray.size) (by rw[List.size_toArray,HC.out];show 64≤64;omega)) e2 (ja hL) (fun _ h=>by have:=h.1;omega));have h0:=Lib.hid e1;have hy:=Lib.hid (e2.block _ _ hL (fun h=>by have:=h.1;omega));have hz:=Lib.hid (hY.trans' e2);have HpW:=Lib.hid (Hp.out);clear hL hA hP hY e1 e2 hO Hh hfit Hc Hsum;obtain⟨j2,s2,bd⟩:=f2
 have hJ:∀ tm:Array Value,tm.getD 6 undef = .pointer (some ⟨p,0,none⟩)→bodyPost Tryz.prog Tryz.f83 (fun e w'=>e = .returned (.agg C.toArray)∧FB S b { j:=j2,seen:=s2,bad:=bd||bn } w'∧Fr (MFd b) w w') Exit.ret { tmps:=tm,defers:=[] } ((W3.setCell ⟨b,6,none⟩ (.bool (bd||bn))).setCells p 0 C):=fun tm hr=>by
  have hw:=run_loadVar_mid (P:=Tryz.prog) _ p 0 113 C (.array 64 5) (World.rangeAt_setCells_same (W3.setCell ⟨b,6,none⟩ (.bool (bd||bn))) p 0 C (by simpa using hX.out)) zaa rfl hk.out;have hh:=z8 p C 0 (W3.setCell ⟨b,6,none⟩ (.bool (bd||bn)));refine bodyPost_ret (v := .agg C.toArray) ?_ rfl ⟨rfl,?_,hz.out.trans hh (fun k _ hm => .inr (by have h1:=Hp.out;have h2:k=p:=hm;omega))⟩
  ·rw[j4 rfl,hr];simp[asAddr,Result.andThen,hw]
  exact h0.out.to2W hh hV hy.out
 have Hfin:=Lib.hid hJ;clear hJ;cases bd<;>cases bn
 all_goals
  simp only[Bool.or_self,Bool.or_false,Bool.or_true,Bool.true_or,Bool.false_or]at hg hX Hfin
  first | (obtain rfl:Value.nilIface=E:=hE) | (obtain rfl:Value.iface 49 (.int .i64 1)=E:=hE)
  go_wp2_with (first
   | (with_reducible refine wpList_load_mid rfl 113 _ rfl q 0 rfl C (.array 64 5) hg.out zaa rfl hk.out ?_)
   | (with_reducible refine wpList_store_mid rfl 113 _ _ rfl p 0 C.toArray rfl rfl hX.out hn.out H1.out ?_))
  refine Hfin.out _ ?_;rfl
theorem zo2 {t b:Bs} (h:zdf t=some b):b.length≤t.length:=by
 have:=(zdl t b).1 h;subst this
 have:∀ l:Bs,l.length≤(b64C l).length:=fun l=>by
  induction l using b64C.induct with
  | case1=>simp
  | case2 a=>simp[b64C]
  | case3 a b=>simp[b64C]
  | case4 a b c l ih=>simp only[b64C,List.length_cons];omega
 have h1:=this b;unfold zfl;rw[List.length_append];omega
set_option maxRecDepth 100000 in
set_option maxHeartbeats 2000000 in
theorem zt1 (S:Nat→Prop) (b:Nat) (f:Fd) (nm:Bs) (w:World) (h:FB S b f w) (hfit:Fits f.j) (hs:0≤f.seen∧f.seen≤1000) :
 Calls Tryz.prog 80 #[.pointer (some ⟨b,0,none⟩),.string ⟨nm.toArray⟩,.func (.func 81) #[] #[]] w fun e w'=>∃ v,e = .returned v∧SB (fun k=>w.heap.size≤k) (zhe f nm).1 v w'∧FB S b (zhe f nm).2 w'∧Fr (MFd b) w w':=by
 have hbw:b<w.heap.size:=by obtain⟨-,b1,b2,b3,b4,h5,-⟩:=h;exact ja h5
 have hc:=zb5 S b f nm w h hfit hs;have hK:(jm f nm).1.length≤1000000:=(Fits.get (nm:=nm) (k:=3) hfit).1.text;unfold zhe;obtain⟨t,ht⟩:∃ t,(jm f nm).1=t:=⟨_,rfl⟩;obtain⟨f2,hL⟩:∃ f2,(jm f nm).2=f2:=⟨_,rfl⟩;rw[ht,hL]at hc;rw[ht]at hK;rw[ht,hL];have hB:=fun W=>zhp t W hK
 obtain⟨R,hR⟩:∃ R,zdf t=R:=⟨_,rfl⟩;rw[hR]at hB;rw[hR];have hent:∀ hF W,(callFunc 81 hF).run Tryz.prog W = .ok (.enter 81 hF) W:=fun hF w=>by simp[go_sem]
 have Hc:=Lib.hid hc;obtain⟨j2,s2,bd⟩:=f2;obtain⟨D,hD⟩:∃ D,R.getD []=D:=⟨_,rfl⟩;obtain⟨bn,hM⟩:∃ bn,R.isNone=bn:=⟨_,rfl⟩;obtain⟨E,hE⟩:∃ E,(if bn then Value.iface 49 (.int .i64 1) else .nilIface)=E:=⟨_,rfl⟩
 have hA:∀ W,Calls Tryz.prog 81 #[.string ⟨t.toArray⟩] W fun e w'=>(∃ a c,e = .returned (.tuple #[.slice a D.length c,E])∧SB (fun k=>W.heap.size≤k) D (.slice a D.length c) w')∧Fr NoB W w':=fun W=>(hB W).mono (by
  rintro e w' ⟨h1,h2⟩;refine⟨?_,h2⟩;rw[← hD,← hE,← hM];unfold zjc at h1;cases R with
  | none=>exact⟨none,0,h1,SB.nil _ _ _⟩
  | some r =>
    obtain⟨a,c,h3,h4⟩:=h1
    exact⟨a,c,h3,h4⟩)
 have Hsum:=Lib.hid hA;rw[hM,hD];show Calls _ _ _ _ fun e w'=>∃ v,e = .returned v∧SB _ D v w'∧FB S b { j:=j2,seen:=s2,bad:=bd||bn } w'∧Fr (MFd b) w w'
 clear hc hB hA hR hK ht hL hD hM h hfit;go_enter Tryz.func80,Tryz.ntmps80
 go_wp2_with fail
 refine Hc.out.mono ?_;rintro e w1 ⟨rfl,hH,hP⟩;have hJ:=Lib.hid hP;have hI:=Lib.hid hH;clear hH hP
 go_wp2_with fail
 refine(Hsum.out _).mono ?_;rintro e w2 ⟨⟨a,c,rfl,hO⟩,hN⟩;have hC:=hI.out.fr hN;obtain⟨a1,n1,a2,n2,-,-,-,-,-,-,c6,fz,hlt,-⟩:=hC.cells;obtain⟨e1,e2⟩:=hC.setBad (bd||bn)
 have hG:Hid (SB (fun k=>w.heap.size≤k) D (.slice a D.length c) (w2.setCell ⟨b,6,none⟩ (.bool (bd||bn)))∧FB S b { j:=j2,seen:=s2,bad:=bd||bn } (w2.setCell ⟨b,6,none⟩ (.bool (bd||bn)))∧Fr (MFd b) w (w2.setCell ⟨b,6,none⟩ (.bool (bd||bn)))):=Lib.hid
  ⟨hO.kp (fun k o hk ho ht=>⟨Nat.le_trans hJ.out.size hk,e2.block k o ho (fun hm=>by have:=hJ.out.size;have:=hm.1;omega)⟩),e1,(hJ.out.trans' (hN.mono (fun _ _ h=>h.elim))).trans' e2⟩
 clear e1 e2 hC hO hN hI hJ Hc Hsum;cases bd<;>cases bn
 all_goals
  simp only[Bool.or_self,Bool.or_false,Bool.or_true,Bool.true_or,Bool.false_or]at hG
  first | (obtain rfl:Value.nilIface=E:=hE) | (obtain rfl:Value.iface 49 (.int .i64 1)=E:=hE)
  go_wp2_with fail
  go_ret;exact⟨_,rfl,hG.out⟩
end Go.Proofs.YtmgfncjfgkllcaaGreatDoor
