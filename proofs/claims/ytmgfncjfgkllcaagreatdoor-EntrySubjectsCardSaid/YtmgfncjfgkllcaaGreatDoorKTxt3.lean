/-
 The reference's reader of texts: how it lies in memory;its next sign,blanks,words.
-/
import Derived.Test.YtmgfncjfgkllcaaGreatDoorKNum
import Derived.StillTactics
import Derived.Test.YtmgfncjfgkllcaaGreatDoorKParsedF
open Go.Lib renaming hid→za
open Go.IntKind renaming wrap_i64→zk
open List renaming length_cons→zo,length_drop→zr
namespace Go.Proofs.YtmgfncjfgkllcaaGreatDoor
set_option linter.unusedVariables false
set_option linter.unusedSimpArgs false
set_option linter.unusedSectionVars false
set_option maxRecDepth 100000
set_option maxHeartbeats 4000000
section
open Go.RowKit
variable [OldK]

def TX (b:Nat) (L:Bs) (v:Value) (at':Nat) (bad:Bool) (w:World):Prop :=
 (6≤b∧OldK.k≤b)∧SB (fun _=>True) L v w∧w.heap[b]? = some (.cells #[v,.int .i64 (at':Int),.bool bad] 210 (0,0))
abbrev MT (b:Nat):Nat→Obj→Prop:=One b 210
section
variable {b:Nat} {L:Bs} {v:Value} {at':Nat} {bad:Bool} {w w':World} {M:Nat→Obj→Prop}
theorem TX.lt (h:TX b L v at' bad w):b<w.heap.size:=jb h.2.2
theorem TX.cells (h:TX b L v at' bad w) :
 w.cell? ⟨b,0,none⟩=some v∧w.cell? ⟨b,1,none⟩=some (.int .i64 (at':Int))∧w.cell? ⟨b,2,none⟩=some (.bool bad)∧(∀ o,w.frozen? ⟨b,o,none⟩=false)∧b<w.heap.size:=by
 obtain⟨_,_,h3⟩:=h;refine⟨?_,?_,?_,?_,jb h3⟩<;>simp[World.cell?,World.frozen?,h3]
theorem TX.fr (h:TX b L v at' bad w)(hF:Fr M w w')(hM:∀ k o,(k=b∧zbq 210 o)∨zbq 5 o∨k<OldK.k→¬ M k o):TX b L v at' bad w' :=
 ⟨h.1,h.2.1.fr hF (fun k o _ ho=>hM k o (.inr ho)),hF.block _ _ h.2.2 (hM _ _ (.inl ⟨rfl,_,_,rfl⟩))⟩
theorem TX.frN (h:TX b L v at' bad w)(hF:Fr NoB w w'):TX b L v at' bad w':=h.fr hF (fun _ _ _ h=>h)
theorem TX.sb (h:TX b L v at' bad w)(hF:Fr (MT b) w w'):SB (fun _=>True) L v w':=by
 refine h.2.1.fr hF (fun k o _ ho hm=>?_);obtain⟨rfl,c,f,rfl⟩:=hm;rcases ho with⟨c',f',e⟩ | hk
 ·cases e
 have:=h.1.2;omega
theorem TX.one (h:TX b L v at' bad w):∀ o,w.heap[b]? = some o→MT b b o:=by
 intro o ho;rw[h.2.2]at ho;exact⟨rfl,_,_,(Option.some.inj ho).symm⟩
theorem TX.setF (h:TX b L v at' bad w)(o:Nat)(x:Value):Fr (MT b) w (w.setCell ⟨b,o,none⟩ x):=Fr.refl.setCell _ _ h.one
theorem TX.set1 (h:TX b L v at' bad w)(a:Nat):TX b L v a bad (w.setCell ⟨b,1,none⟩ (.int .i64 (a:Int))) :=
 ⟨h.1,h.sb (h.setF _ _),by have:=h.2.2;simp[World.setCell,Array.getElem?_modify,this]⟩
theorem TX.put1 (h:TX b L v at' bad w)(x:Int)(a:Nat)(hx:x=(a:Int)):TX b L v a bad (w.setCell ⟨b,1,none⟩ (.int .i64 x)):=by
 subst hx;exact h.set1 a
theorem TX.set2 (h:TX b L v at' bad w)(b':Bool):TX b L v at' b' (w.setCell ⟨b,2,none⟩ (.bool b')) :=
 ⟨h.1,h.sb (h.setF _ _),by have:=h.2.2;simp[World.setCell,Array.getElem?_modify,this]⟩
theorem Gl.tx (hg:Gl w)(h:TX b L v at' bad w)(hF:Fr (MT b) w w'):Gl w':=hg.fr hF (fun k _ _ hm=>by rw[hm.1];exact h.1.1)
end
def nxT:Bs→Int
 | []=>0
 | x :: _=>(x.toNat:Int)
theorem zd4 {L:Bs}{a:Nat}{x:UInt8}{l:Bs}(h:L.drop a=x :: l):a<L.length∧L[a]? = some x∧L.drop (a+1)=l∧L.length=a+1+l.length:=by
 have hl:=congrArg List.length h;rw[zr,zo]at hl;have ha:a<L.length:=by omega
 refine⟨ha,?_,?_,by omega⟩
 ·have:=List.getElem?_drop (xs:=L) (i:=a) (j:=0);rw[h]at this;simpa using this.symm
 rw[← List.drop_drop,h];rfl
theorem wrap_u8 (x:UInt8):IntKind.i64.wrap (x.toNat:Int)=x.toNat:=by
 have:=UInt8.toNat_lt x;rw[zk];omega
theorem zed (b:Nat) (L:Bs) (v:Value) (a:Nat) (bad:Bool) (w:World) (h:TX b L v a bad w) (hL:L.length≤4096) (ha:a≤1000000) :
 Calls Tryz.prog 207 #[.pointer (some ⟨b,0,none⟩)] w fun e w'=>e = .returned (.int .i64 (nxT (L.drop a)))∧TX b L v a bad w'∧Fr NoB w w':=by
 obtain⟨c0,c1,c2,fz,hB⟩:=h.cells;obtain⟨p,hD,rfl⟩:=h.2.1.form;cases hr:L.drop a with
 | nil =>
   have h1:L.length≤a:=List.drop_eq_nil_iff.1 hr;have h2:decide ((a:Int)<(L.length:Int))=false:=by rw[decide_eq_false_iff_not];omega
   have H:=za h;clear h hr;go_enter Tryz.func207,Tryz.ntmps207
   go_wp2_with fail
   go_still (by kernel_rfl)
   go_wp2_with fail
   go_ret;exact⟨rfl,H.out.frN Fr.refl.drew,Fr.refl.drew⟩
 | cons x l =>
   obtain⟨h1,h2,-,-⟩:=zd4 hr;obtain⟨g,o,hA,e1,hC⟩:=h.2.1.at h2;obtain⟨rfl,rfl⟩:p=some ⟨g,o,none⟩∧hD=hA:=by simpa using e1
   have H:=za h;have HF:=za ((Fr.refl (M:=NoB) (w:=w)).drew);have H1:=za (h.frN HF.out);clear h hr e1;go_enter Tryz.func207,Tryz.ntmps207
   go_wp2_with fail
   go_still (by kernel_rfl)
   go_wp2_with fail
   change Code.wp _ _ _ _ w.drew;clear c0 c1 c2 fz hB hC H;generalize w.drew=w1 at *;obtain⟨c0,c1,c2,fz,hB⟩:=H1.out.cells;obtain⟨g',o',hA,e1,hC⟩:=H1.out.2.1.at h2;obtain⟨⟨rfl,rfl⟩,rfl⟩:(g=g'∧o=o')∧hD=hA:=by simpa using e1
   clear e1
   go_still (by kernel_rfl)
   go_wp2_with fail
   go_ret;refine⟨?_,H1.out.frN Fr.refl.drew,HF.out.drew⟩;exact zb2 (wrap_u8 x)
def blk (L:Bs) (a:Nat):Nat:=a+((L.drop a).length - (ja (L.drop a)).length)
theorem zb4 (x:UInt8)(l:Bs):ja (x :: l)=if x=32∨x=9∨x=10∨x=13 then ja l else x :: l:=by
 unfold ja Lib.trimLeftS;rw[List.dropWhile_cons];simp
theorem zeo (L:Bs) (a:Nat):L.drop (blk L a)=ja (L.drop a):=by
 unfold blk;generalize hr:L.drop a=r;rw[← List.drop_drop,hr];clear hr
 induction r with
 | nil=>rfl
 | cons x l ih =>
   have hl:=zac l;rw[zb4];split
   ·rw[zo,show l.length+1 - (ja l).length=(l.length - (ja l).length)+1 by omega,List.drop_succ_cons];exact ih
   simp
theorem zh0 (L:Bs)(a:Nat):a≤blk L a∧(blk L a≤a∨blk L a≤L.length):=by
 unfold blk;rw[zr];omega
theorem zx6 {L:Bs}{a:Nat}(h:∀ x l,L.drop a=x :: l→¬ (x=32∨x=9∨x=10∨x=13)):blk L a=a:=by
 unfold blk;cases hr:L.drop a with
 | nil=>rfl
 | cons x l=>rw[zb4,if_neg (h x l hr)];omega
theorem z1o {L:Bs}{a:Nat}{x:UInt8}{l:Bs}(h:L.drop a=x :: l)(hx:x=32∨x=9∨x=10∨x=13):blk L a=blk L (a+1):=by
 have hl:=zac l;unfold blk;rw[(zd4 h).2.2.1,h,zb4,if_pos hx,zo];omega
theorem zcv (b:Nat) (L:Bs) (v:Value) (a:Nat) (bad:Bool) (w:World) (h:TX b L v a bad w) (hL:L.length≤4096) (ha:a≤900000) :
 Calls Tryz.prog 137 #[.pointer (some ⟨b,0,none⟩)] w fun e w'=>e = .returned (.tuple #[])∧TX b L v (blk L a) bad w'∧Fr (MT b) w w':=by
 have H:=za h;have hlt:=h.lt;clear h;go_enter Tryz.func137,Tryz.ntmps137
 go_wp2_with fail
 go_loopg [] ((L.drop a).length+1) (fun g wr=>∃ c:Nat,a≤c∧(c≤a∨c≤L.length)∧(L.drop c).length+1=g∧Hid (TX b L v c bad wr)∧Hid (Fr (MT b) w wr)∧Hid (blk L c=blk L a))
 case atStart=>exact⟨a,Nat.le_refl _,.inl (Nat.le_refl _),rfl,H,za Fr.refl,za rfl⟩
 case round =>
  obtain⟨c,hc1,hc2,hg,H1,hB,HB⟩:=hrel;have Hc:=za (fun W hW=>zed b L v c bad W hW hL (by omega));have hwc:IntKind.i64.wrap ((c:Int)+1)=(c:Int)+1:=by rw[zk];omega
  by_cases hx:∃ x l,L.drop c=x :: l∧(x=32∨x=9∨x=10∨x=13)
  ·obtain ⟨x,l,hr,hx⟩:=hx;have hI:=z1o hr hx;obtain⟨-,-,hK,hd2⟩:=zd4 hr;have hG:(L.drop (c+1)).length+1=gk - 1∧2≤gk:=by rw[hK];rw[hr]at hg;simp at hg;omega
   have hF:=za (hI.symm.trans HB.out);rw[hr]at Hc;clear hI HB hr;rcases hx with rfl | hx
   ·rw[show nxT (32 :: l)=32 from rfl]at Hc
    go_wp2_with fail
    refine(Hc.out _ H1.out).mono ?_;rintro e w1 ⟨rfl,h2,hC⟩;have hA:=za (hB.out.trans' (hC.mono (fun _ _ h=>h.elim)));clear H1 hB;have H1:=za h2;have hB:=hA;clear h2 hC hA;obtain⟨c0,c1,c2,fz,hE⟩:=H1.out.cells
    go_wp2_with fail
    go_roundg (gk - 1)
    case measure=>omega
    case rel=>exact⟨c+1,by omega,by omega,hG.1,za (H1.out.put1 _ (c+1) rfl),za (hB.out.setCell _ _ (fun o ho=>H.out.one o ho)),hF⟩
   rcases hx with rfl | hx
   ·rw[show nxT (9 :: l)=9 from rfl]at Hc
    go_wp2_with fail
    refine(Hc.out _ H1.out).mono ?_;rintro e w1 ⟨rfl,h2,hC⟩;have hA:=za (hB.out.trans' (hC.mono (fun _ _ h=>h.elim)));clear H1 hB;have H1:=za h2;have hB:=hA;clear h2 hC hA
    go_wp2_with fail
    refine(Hc.out _ H1.out).mono ?_;rintro e w1 ⟨rfl,h2,hC⟩;have hA:=za (hB.out.trans' (hC.mono (fun _ _ h=>h.elim)));clear H1 hB;have H1:=za h2;have hB:=hA;clear h2 hC hA;obtain⟨c0,c1,c2,fz,hE⟩:=H1.out.cells
    go_wp2_with fail
    go_roundg (gk - 1)
    case measure=>omega
    case rel=>exact⟨c+1,by omega,by omega,hG.1,za (H1.out.put1 _ (c+1) rfl),za (hB.out.setCell _ _ (fun o ho=>H.out.one o ho)),hF⟩
   rcases hx with rfl | hx
   ·rw[show nxT (10 :: l)=10 from rfl]at Hc
    go_wp2_with fail
    refine(Hc.out _ H1.out).mono ?_;rintro e w1 ⟨rfl,h2,hC⟩;have hA:=za (hB.out.trans' (hC.mono (fun _ _ h=>h.elim)));clear H1 hB;have H1:=za h2;have hB:=hA;clear h2 hC hA
    go_wp2_with fail
    refine(Hc.out _ H1.out).mono ?_;rintro e w1 ⟨rfl,h2,hC⟩;have hA:=za (hB.out.trans' (hC.mono (fun _ _ h=>h.elim)));clear H1 hB;have H1:=za h2;have hB:=hA;clear h2 hC hA
    go_wp2_with fail
    refine(Hc.out _ H1.out).mono ?_;rintro e w1 ⟨rfl,h2,hC⟩;have hA:=za (hB.out.trans' (hC.mono (fun _ _ h=>h.elim)));clear H1 hB;have H1:=za h2;have hB:=hA;clear h2 hC hA;obtain⟨c0,c1,c2,fz,hE⟩:=H1.out.cells
    go_wp2_with fail
    go_roundg (gk - 1)
    case measure=>omega
    case rel=>exact⟨c+1,by omega,by omega,hG.1,za (H1.out.put1 _ (c+1) rfl),za (hB.out.setCell _ _ (fun o ho=>H.out.one o ho)),hF⟩
   obtain rfl:=hx;rw[show nxT (13 :: l)=13 from rfl]at Hc
   go_wp2_with fail
   refine(Hc.out _ H1.out).mono ?_;rintro e w1 ⟨rfl,h2,hC⟩;have hA:=za (hB.out.trans' (hC.mono (fun _ _ h=>h.elim)));clear H1 hB;have H1:=za h2;have hB:=hA;clear h2 hC hA
   go_wp2_with fail
   refine(Hc.out _ H1.out).mono ?_;rintro e w1 ⟨rfl,h2,hC⟩;have hA:=za (hB.out.trans' (hC.mono (fun _ _ h=>h.elim)));clear H1 hB;have H1:=za h2;have hB:=hA;clear h2 hC hA
   go_wp2_with fail
   refine(Hc.out _ H1.out).mono ?_;rintro e w1 ⟨rfl,h2,hC⟩;have hA:=za (hB.out.trans' (hC.mono (fun _ _ h=>h.elim)));clear H1 hB;have H1:=za h2;have hB:=hA;clear h2 hC hA
   go_wp2_with fail
   refine(Hc.out _ H1.out).mono ?_;rintro e w1 ⟨rfl,h2,hC⟩;have hA:=za (hB.out.trans' (hC.mono (fun _ _ h=>h.elim)));clear H1 hB;have H1:=za h2;have hB:=hA;clear h2 hC hA;obtain⟨c0,c1,c2,fz,hE⟩:=H1.out.cells
   go_wp2_with fail
   go_roundg (gk - 1)
   case measure=>omega
   case rel=>exact⟨c+1,by omega,by omega,hG.1,za (H1.out.put1 _ (c+1) rfl),za (hB.out.setCell _ _ (fun o ho=>H.out.one o ho)),hF⟩
  have hD:blk L c=c:=zx6 (fun x l h hJ=>hx ⟨x,l,h,hJ⟩)
  have hn:((nxT (L.drop c))==32)=false∧((nxT (L.drop c))==9)=false∧((nxT (L.drop c))==10)=false∧((nxT (L.drop c))==13)=false:=by
   cases hr:L.drop c with
   | nil=>decide
   | cons x l =>
     have hH:=fun h=>hx ⟨x,l,hr,h⟩
     simp only[← UInt8.toNat_inj,not_or]at hH;simp only[nxT,beq_eq_false_iff_ne];simp at hH;omega
  obtain⟨hn1,hn2,hn3,hn4⟩:=hn;have hF:=za (hD.symm.trans HB.out);clear hD HB hx;generalize nxT (L.drop c)=n at *
  go_wp2_with fail
  refine(Hc.out _ H1.out).mono ?_;rintro e w1 ⟨rfl,h2,hC⟩;have hA:=za (hB.out.trans' (hC.mono (fun _ _ h=>h.elim)));clear H1 hB;have H1:=za h2;have hB:=hA;clear h2 hC hA
  go_wp2_with fail
  refine(Hc.out _ H1.out).mono ?_;rintro e w1 ⟨rfl,h2,hC⟩;have hA:=za (hB.out.trans' (hC.mono (fun _ _ h=>h.elim)));clear H1 hB;have H1:=za h2;have hB:=hA;clear h2 hC hA
  go_wp2_with fail
  refine(Hc.out _ H1.out).mono ?_;rintro e w1 ⟨rfl,h2,hC⟩;have hA:=za (hB.out.trans' (hC.mono (fun _ _ h=>h.elim)));clear H1 hB;have H1:=za h2;have hB:=hA;clear h2 hC hA
  go_wp2_with fail
  refine(Hc.out _ H1.out).mono ?_;rintro e w1 ⟨rfl,h2,hC⟩;have hA:=za (hB.out.trans' (hC.mono (fun _ _ h=>h.elim)));clear H1 hB;have H1:=za h2;have hB:=hA;clear h2 hC hA
  go_wp2_with fail
  go_end0
  have h3:=H1.out;rw[hF.out]at h3;exact⟨rfl,h3,hB.out⟩
end
section
open Go.RowKit
variable [OldK]
attribute [local irreducible] wpStill
theorem zy2 (p:Bs) (b:Nat) (L:Bs) (v:Value) (a:Nat) (bad:Bool) (w:World) (h:TX b L v a bad w) (hL:L.length≤4096) (ha:a≤900000) (hp:1≤p.length) (hp5:p.length≤5) (hal:¬ a+p.length≤L.length) :
 Calls Tryz.prog 208 #[.pointer (some ⟨b,0,none⟩),.string ⟨p.toArray⟩] w fun e w'=>e = .returned (.tuple #[]) ∧
  (if Lib.hasPrefix (L.drop a) p=true then TX b L v (a+p.length) bad w'∧a+p.length≤L.length else TX b L v a true w')∧Fr (MT b) w w':=by
 obtain⟨c0,c1,c2,fz,hB⟩:=h.cells;obtain⟨q,cap,rfl⟩:=h.2.1.form;have H:=za h;have hwc:IntKind.i64.wrap ((a:Int)+(p.length:Int))=(a:Int)+p.length:=by rw[zk];omega
 clear h;have hd:decide ((L.length:Int)<(a:Int)+p.length)=true:=by rw[decide_eq_true_iff];omega
 have HF:=za ((Fr.refl (M:=MT b) (w:=w)).drew);have H1:=za (H.out.frN Fr.refl.drew)
 have hA:Lib.hasPrefix (L.drop a) p=false:=by
  rw[← Bool.not_eq_true];unfold Lib.hasPrefix;rw[List.isPrefixOf_iff_prefix];intro h;have:=h.length_le;rw[zr]at this;omega
 rw[hA];clear hA;go_enter Tryz.func208,Tryz.ntmps208
 go_wp2_with fail
 refine wp_region_still_lit (by kernel_rfl) (by kernel_rfl) ?_
 repeat still_step
 refine wpStill_nil ?_;change Exit.then _ _ _ _ w.drew;clear c0 c1 c2 fz;generalize w.drew=w1 at *;obtain⟨c0,c1,c2,fz,hB⟩:=H1.out.cells
 go_wp2_with fail
 ((try simp only[Exit.inBlock,Exit.then]);refine bodyPost_ret (results_none rfl _ _ _) rfl ?_)
 exact⟨rfl,H1.out.set2 true,HF.out.setCell _ _ H.out.one⟩
theorem zmd (p:Bs) (b:Nat) (L:Bs) (v:Value) (a:Nat) (bad:Bool) (w:World) (h:TX b L v a bad w) (hL:L.length≤4096) (ha:a≤900000) (hp:1≤p.length) (hp5:p.length≤5) :
 Calls Tryz.prog 208 #[.pointer (some ⟨b,0,none⟩),.string ⟨p.toArray⟩] w fun e w'=>e = .returned (.tuple #[]) ∧
  (if Lib.hasPrefix (L.drop a) p=true then TX b L v (a+p.length) bad w'∧a+p.length≤L.length else TX b L v a true w')∧Fr (MT b) w w':=by
 obtain⟨c0,c1,c2,fz,hE⟩:=h.cells;obtain⟨q,hD,rfl⟩:=h.2.1.form;have H:=za h;have hwc:IntKind.i64.wrap ((a:Int)+(p.length:Int))=(a:Int)+p.length:=by rw[zk];omega
 clear h;by_cases hC:a+p.length≤L.length
 ·have hd:decide ((L.length:Int)<(a:Int)+p.length)=false:=by rw[decide_eq_false_iff_not];omega
  have HF:=za ((Fr.refl (M:=MT b) (w:=w)).drew);have H1:=za (H.out.frN Fr.refl.drew);obtain⟨g,o,hF,e1,hcp,hS,hE,hA⟩:=H.out.2.1.cellsAt (by intro e;rw[e]at hC;simp at hC;rw[hC.2]at hp;simp at hp);obtain⟨rfl,rfl⟩:q=some ⟨g,o,none⟩∧hD=hF:=by simpa using e1
  have h2:=(H1.out.2.1.drop a (by omega)).take p.length (by rw[zr];omega);have hG:=h2.text;have hd2:((L.drop a).take p.length).length=p.length:=by rw[List.length_take,zr];omega
  clear hA e1 h2;have hk1:(a:Int)+p.length≤hD:=by omega
  have hk2:(a:Int)<hD:=by omega
  have hca:¬ hD=a:=by omega
  have hta:((a:Int)+(p.length:Int)).toNat - a=p.length:=by omega
  have hk3:(a:Int)≤(a:Int)+p.length:=by omega
  have hB:((L.drop a).take p.length==p)=Lib.hasPrefix (L.drop a) p:=by
   rw[Bool.eq_iff_iff,beq_iff_eq];unfold Lib.hasPrefix;rw[List.isPrefixOf_iff_prefix,List.prefix_iff_eq_take];exact⟨fun h=>h.symm,fun h=>h.symm⟩
  generalize hH:Lib.hasPrefix (L.drop a) p=PF at *;clear hH;go_enter Tryz.func208,Tryz.ntmps208;cases PF
  ·go_wp2_with fail
   refine wp_region_still_lit (by kernel_rfl) (by kernel_rfl) ?_
   repeat still_step
   refine wpStill_nil ?_;change Exit.then _ _ _ _ w.drew;clear c0 c1 c2 fz hG;generalize w.drew=w1 at *;obtain⟨c0,c1,c2,fz,hE⟩:=H1.out.cells
   go_wp2_with fail
   ((try simp only[Exit.inBlock,Exit.then]);refine bodyPost_ret (results_none rfl _ _ _) rfl ?_)
   exact⟨rfl,H1.out.set2 true,HF.out.setCell _ _ H.out.one⟩
  go_wp2_with fail
  refine wp_region_still_lit (by kernel_rfl) (by kernel_rfl) ?_
  repeat still_step
  refine wpStill_nil ?_;change Exit.then _ _ _ _ w.drew;clear c0 c1 c2 fz hG;generalize w.drew=w1 at *;obtain⟨c0,c1,c2,fz,hE⟩:=H1.out.cells
  go_wp2_with fail
  go_end0
  exact⟨rfl,H1.out.put1 _ (a+p.length) (by push_cast;rfl),HF.out.setCell _ _ H.out.one⟩
 exact zy2 p b L _ a bad w H.out hL ha hp hp5 hC
end
section
open Go.RowKit
variable [OldK]
attribute [local irreducible] wpStill
def RS (b:Nat) (L:Bs) (v:Value) (K:Nat) (st:St) (w:World):Prop :=
 ∃ a:Nat,TX b L v a st.bad w∧(st.bad=false→L.drop a=st.s∧a≤L.length)∧a≤K
inductive Fig (c:Int):Option Nat→Prop
 | dec (d:Nat) (h:c=48+(d:Int)) (h9:d≤9):Fig c (some d)
 | up (d:Nat) (h:c=55+(d:Int)) (h1:10≤d) (h2:d≤15):Fig c (some d)
 | low (d:Nat) (h:c=87+(d:Int)) (h1:10≤d) (h2:d≤15):Fig c (some d)
 | no (h:¬ (48≤c∧c≤57)∧¬ (65≤c∧c≤70)∧¬ (97≤c∧c≤102)):Fig c none
theorem zxp:∀ x:Fin 256,zgz (UInt8.ofNat x.val)=(if 48≤x.val∧x.val≤57 then some (x.val - 48) else if 65≤x.val∧x.val≤70 then some (x.val - 55) else if 97≤x.val∧x.val≤102 then some (x.val - 87) else none):=by decide +kernel
theorem zvd (x:UInt8):Fig (x.toNat:Int) (zgz x):=by
 have h:=zxp ⟨x.toNat,UInt8.toNat_lt x⟩;simp only[UInt8.ofNat_toNat]at h;rw[h];split
 ·exact .dec _ (by omega) (by omega)
 split
 ·exact .up _ (by omega) (by omega) (by omega)
 split
 ·exact .low _ (by omega) (by omega) (by omega)
 exact .no (by omega)
theorem zyq (b:Nat) (L:Bs) (v:Value) (a:Nat) (w:World) (h:TX b L v a false w) (hL:L.length≤4096) (ha:a≤L.length) :
 Calls Tryz.prog 305 #[.pointer (some ⟨b,0,none⟩)] w fun e w'=>e = .returned (.int .i64 ((zcp 4 0 ⟨L.drop a,false⟩).1:Int))∧RS b L v L.length (zcp 4 0 ⟨L.drop a,false⟩).2 w'∧Fr (MT b) w w':=by
 generalize hG:zcp 4 0 ⟨L.drop a,false⟩=G;have HG:=za hG;have H:=za h;have hlt:=h.lt;clear hG h;go_enter Tryz.func305,Tryz.ntmps305
 go_wp2_with fail
 go_loopg [3,4] 5 (fun g vn vi wr=>∃ (n i c:Nat),vn = .int .i64 (n:Int)∧vi = .int .i64 (i:Int)∧i≤4∧i+g=5∧n+1≤16 ^ i∧c≤L.length∧Hid (TX b L v c false wr)∧Hid (Fr (MT b) w wr)∧Hid (zcp (4 - i) n ⟨L.drop c,false⟩=G))
 case atStart=>exact⟨0,0,a,rfl,rfl,by omega,rfl,by decide,ha,H,za Fr.refl,HG⟩
 case round =>
  obtain⟨n,i,c,rfl,rfl,hi,hig,hn,hc,H1,hE,hJ⟩:=hrel;by_cases hK:i=4
  ·subst hK;have e1:=hJ.out;simp only[Nat.sub_self,zcp]at e1;subst e1
   go_wp2_with fail
   go_ret;exact⟨rfl,⟨c,H1.out,fun _=>⟨rfl,hc⟩,hc⟩,hE.out⟩
  have hi1:decide ((i:Int)<4)=true:=by rw[decide_eq_true_iff];omega
  have hwi:IntKind.i64.wrap ((i:Int)+1)=(i:Int)+1:=by rw[zk];omega
  have hwc:IntKind.i64.wrap ((c:Int)+1)=(c:Int)+1:=by rw[zk];omega
  have hP:16 ^ i≤4096:=by
   rcases(by omega:i=0∨i=1∨i=2∨i=3) with rfl | rfl | rfl | rfl<;>decide
  have hI:16 ^ (i+1)=16 ^ i * 16:=Nat.pow_succ ..
  have hF:Fig (nxT (L.drop c)) (match L.drop c with | []=>none | x :: _=>zgz x):=by
   cases L.drop c with
   | nil=>exact .no (by simp[nxT])
   | cons x l=>exact zvd x
  have hA:∀ o,o=(match L.drop c with | []=>none | x :: _=>zgz x)→(match o with | none=>G.1=0∧G.2.bad=true | some d=>zcp (4 - (i+1)) (16 * n+d) ⟨L.drop (c+1),false⟩=G∧c+1≤L.length):=by
   intro o ho;have e1:=hJ.out;rw[show 4 - i=(4 - (i+1))+1 by omega,zcp]at e1;cases hr:L.drop c with
   | nil =>
     rw[hr]at ho e1;subst ho;simp only at e1 ⊢;subst e1;exact⟨rfl,rfl⟩
   | cons x l =>
     rw[hr]at ho e1;obtain⟨d1,d2,d3,d4⟩:=zd4 hr;simp only at ho e1;subst ho;cases hx:zgz x with
     | none =>
       rw[hx]at e1;simp only at e1 ⊢;subst e1;exact⟨rfl,rfl⟩
     | some d =>
       rw[hx]at e1;simp only at e1 ⊢;rw[d3];exact⟨e1,by omega⟩
  have Hc:=za (fun W hW=>zed b L v c false W hW hL (by omega));generalize (match L.drop c with | []=>none | x :: _=>zgz x)=o at hF hA;have hA:=hA o rfl;generalize nxT (L.drop c)=m at hF Hc;clear hJ;cases hF with
  | dec d hm h9 =>
    have q0:decide ((48:Int)≤m)=true:=by rw[decide_eq_true_iff];omega
    have q1:decide (m≤(57:Int))=true:=by rw[decide_eq_true_iff];omega
    have q2:decide ((65:Int)≤m)=false:=by rw[decide_eq_false_iff_not];omega
    have q4:decide ((97:Int)≤m)=false:=by rw[decide_eq_false_iff_not];omega
    have qd:decide (m - 48<0)=false:=by rw[decide_eq_false_iff_not];omega
    have qw:IntKind.i64.wrap (m - 48)=m - 48:=by rw[zk];omega
    have qn:IntKind.i64.wrap (16 * (n:Int))=16 * (n:Int):=by rw[zk];omega
    have qx:IntKind.i64.wrap (16 * (n:Int)+(m - 48))=16 * (n:Int)+(m - 48):=by rw[zk];omega
    have Hm:=za hm;have Hst:=za hA;have hH:=za hn;clear hm hA hn hP hI
    go_wp2_with fail
    refine(Hc.out _ H1.out).mono ?_;rintro e w1 ⟨rfl,h2,hB⟩;have H2:=za h2;have hD:=za (hE.out.trans' (hB.mono (fun _ _ h=>h.elim)));obtain⟨c0,c1,c2,fz,hC⟩:=h2.cells;clear h2 hB
    go_wp2_with fail
    go_roundg (gk - 1)
    case measure=>omega
    case rel =>
     have hm:=Hm.out;have hn:=hH.out;refine⟨16 * n+d,i+1,c+1,?_,by simp,by omega,by omega,?_,Hst.out.2,za (H2.out.put1 _ (c+1) rfl),za (hD.out.setCell _ _ (fun o ho=>H.out.one o ho)),za Hst.out.1⟩
     ·congr 1;omega
     rw[Nat.pow_succ];omega
  | up d hm h9 h10 =>
    have q0:decide ((48:Int)≤m)=true:=by rw[decide_eq_true_iff];omega
    have q1:decide (m≤(57:Int))=false:=by rw[decide_eq_false_iff_not];omega
    have q2:decide ((65:Int)≤m)=true:=by rw[decide_eq_true_iff];omega
    have q3:decide (m≤(70:Int))=true:=by rw[decide_eq_true_iff];omega
    have q4:decide ((97:Int)≤m)=false:=by rw[decide_eq_false_iff_not];omega
    have qd:decide (m - 55<0)=false:=by rw[decide_eq_false_iff_not];omega
    have qw:IntKind.i64.wrap (m - 55)=m - 55:=by rw[zk];omega
    have qn:IntKind.i64.wrap (16 * (n:Int))=16 * (n:Int):=by rw[zk];omega
    have qx:IntKind.i64.wrap (16 * (n:Int)+(m - 55))=16 * (n:Int)+(m - 55):=by rw[zk];omega
    have Hm:=za hm;have Hst:=za hA;have hH:=za hn;clear hm hA hn hP hI
    go_wp2_with fail
    refine(Hc.out _ H1.out).mono ?_;rintro e w1 ⟨rfl,h2,hB⟩;have H2:=za h2;have hD:=za (hE.out.trans' (hB.mono (fun _ _ h=>h.elim)));obtain⟨c0,c1,c2,fz,hC⟩:=h2.cells;clear h2 hB
    go_wp2_with fail
    go_roundg (gk - 1)
    case measure=>omega
    case rel =>
     have hm:=Hm.out;have hn:=hH.out;refine⟨16 * n+d,i+1,c+1,?_,by simp,by omega,by omega,?_,Hst.out.2,za (H2.out.put1 _ (c+1) rfl),za (hD.out.setCell _ _ (fun o ho=>H.out.one o ho)),za Hst.out.1⟩
     ·congr 1;omega
     rw[Nat.pow_succ];omega
  | low d hm h9 h10 =>
    have q0:decide ((48:Int)≤m)=true:=by rw[decide_eq_true_iff];omega
    have q1:decide (m≤(57:Int))=false:=by rw[decide_eq_false_iff_not];omega
    have q2:decide ((65:Int)≤m)=true:=by rw[decide_eq_true_iff];omega
    have q3:decide (m≤(70:Int))=false:=by rw[decide_eq_false_iff_not];omega
    have q4:decide ((97:Int)≤m)=true:=by rw[decide_eq_true_iff];omega
    have q5:decide (m≤(102:Int))=true:=by rw[decide_eq_true_iff];omega
    have qd:decide (m - 87<0)=false:=by rw[decide_eq_false_iff_not];omega
    have qw:IntKind.i64.wrap (m - 87)=m - 87:=by rw[zk];omega
    have qn:IntKind.i64.wrap (16 * (n:Int))=16 * (n:Int):=by rw[zk];omega
    have qx:IntKind.i64.wrap (16 * (n:Int)+(m - 87))=16 * (n:Int)+(m - 87):=by rw[zk];omega
    have Hm:=za hm;have Hst:=za hA;have hH:=za hn;clear hm hA hn hP hI
    go_wp2_with fail
    refine(Hc.out _ H1.out).mono ?_;rintro e w1 ⟨rfl,h2,hB⟩;have H2:=za h2;have hD:=za (hE.out.trans' (hB.mono (fun _ _ h=>h.elim)));obtain⟨c0,c1,c2,fz,hC⟩:=h2.cells;clear h2 hB
    go_wp2_with fail
    go_roundg (gk - 1)
    case measure=>omega
    case rel =>
     have hm:=Hm.out;have hn:=hH.out;refine⟨16 * n+d,i+1,c+1,?_,by simp,by omega,by omega,?_,Hst.out.2,za (H2.out.put1 _ (c+1) rfl),za (hD.out.setCell _ _ (fun o ho=>H.out.one o ho)),za Hst.out.1⟩
     ·congr 1;omega
     rw[Nat.pow_succ];omega
  | no hm =>
    have Hst:=za hA;clear hA hn hP hI;rcases(by omega:m<48∨(58≤m∧m≤64)∨(71≤m∧m≤96)∨103≤m) with hq | hq | hq | hq
    ·have q0:decide ((48:Int)≤m)=false:=by rw[decide_eq_false_iff_not];omega
     have q2:decide ((65:Int)≤m)=false:=by rw[decide_eq_false_iff_not];omega
     have q4:decide ((97:Int)≤m)=false:=by rw[decide_eq_false_iff_not];omega
     clear hm hq
     go_wp2_with fail
     refine(Hc.out _ H1.out).mono ?_;rintro e w1 ⟨rfl,h2,hB⟩;have H2:=za h2;have hD:=za (hE.out.trans' (hB.mono (fun _ _ h=>h.elim)));obtain⟨c0,c1,c2,fz,hC⟩:=h2.cells;clear h2 hB
     go_wp2_with fail
     go_ret;have hs:=Hst.out;refine⟨zb2 (by rw[hs.1];rfl),⟨c,by rw[hs.2];exact H2.out.set2 true,fun hb=>by rw[hs.2]at hb;simp at hb,hc⟩,hD.out.setCell _ _ (fun o ho=>H.out.one o ho)⟩
    ·have q0:decide ((48:Int)≤m)=true:=by rw[decide_eq_true_iff];omega
     have q1:decide (m≤(57:Int))=false:=by rw[decide_eq_false_iff_not];omega
     have q2:decide ((65:Int)≤m)=false:=by rw[decide_eq_false_iff_not];omega
     have q4:decide ((97:Int)≤m)=false:=by rw[decide_eq_false_iff_not];omega
     clear hm hq
     go_wp2_with fail
     refine(Hc.out _ H1.out).mono ?_;rintro e w1 ⟨rfl,h2,hB⟩;have H2:=za h2;have hD:=za (hE.out.trans' (hB.mono (fun _ _ h=>h.elim)));obtain⟨c0,c1,c2,fz,hC⟩:=h2.cells;clear h2 hB
     go_wp2_with fail
     go_ret;have hs:=Hst.out;refine⟨zb2 (by rw[hs.1];rfl),⟨c,by rw[hs.2];exact H2.out.set2 true,fun hb=>by rw[hs.2]at hb;simp at hb,hc⟩,hD.out.setCell _ _ (fun o ho=>H.out.one o ho)⟩
    ·have q0:decide ((48:Int)≤m)=true:=by rw[decide_eq_true_iff];omega
     have q1:decide (m≤(57:Int))=false:=by rw[decide_eq_false_iff_not];omega
     have q2:decide ((65:Int)≤m)=true:=by rw[decide_eq_true_iff];omega
     have q3:decide (m≤(70:Int))=false:=by rw[decide_eq_false_iff_not];omega
     have q4:decide ((97:Int)≤m)=false:=by rw[decide_eq_false_iff_not];omega
     clear hm hq
     go_wp2_with fail
     refine(Hc.out _ H1.out).mono ?_;rintro e w1 ⟨rfl,h2,hB⟩;have H2:=za h2;have hD:=za (hE.out.trans' (hB.mono (fun _ _ h=>h.elim)));obtain⟨c0,c1,c2,fz,hC⟩:=h2.cells;clear h2 hB
     go_wp2_with fail
     go_ret;have hs:=Hst.out;refine⟨zb2 (by rw[hs.1];rfl),⟨c,by rw[hs.2];exact H2.out.set2 true,fun hb=>by rw[hs.2]at hb;simp at hb,hc⟩,hD.out.setCell _ _ (fun o ho=>H.out.one o ho)⟩
    have q0:decide ((48:Int)≤m)=true:=by rw[decide_eq_true_iff];omega
    have q1:decide (m≤(57:Int))=false:=by rw[decide_eq_false_iff_not];omega
    have q2:decide ((65:Int)≤m)=true:=by rw[decide_eq_true_iff];omega
    have q3:decide (m≤(70:Int))=false:=by rw[decide_eq_false_iff_not];omega
    have q4:decide ((97:Int)≤m)=true:=by rw[decide_eq_true_iff];omega
    have q5:decide (m≤(102:Int))=false:=by rw[decide_eq_false_iff_not];omega
    clear hm hq
    go_wp2_with fail
    refine(Hc.out _ H1.out).mono ?_;rintro e w1 ⟨rfl,h2,hB⟩;have H2:=za h2;have hD:=za (hE.out.trans' (hB.mono (fun _ _ h=>h.elim)));obtain⟨c0,c1,c2,fz,hC⟩:=h2.cells;clear h2 hB
    go_wp2_with fail
    go_ret;have hs:=Hst.out;refine⟨zb2 (by rw[hs.1];rfl),⟨c,by rw[hs.2];exact H2.out.set2 true,fun hb=>by rw[hs.2]at hb;simp at hb,hc⟩,hD.out.setCell _ _ (fun o ho=>H.out.one o ho)⟩
end
end Go.Proofs.YtmgfncjfgkllcaaGreatDoor
