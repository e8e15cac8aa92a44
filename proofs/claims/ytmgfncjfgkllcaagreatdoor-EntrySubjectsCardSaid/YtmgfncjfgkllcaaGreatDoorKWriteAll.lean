/-
 In one: Write,Write2,Write3.
-/
import Derived.Test.YtmgfncjfgkllcaaGreatDoorKStart5
import Derived.Test.YtmgfncjfgkllcaaGreatDoorKSound3
import Derived.Deep.LoopGhost
open Go.Lib renaming hid→za,encodeRune→zc
open Go renaming heap_alloc_new→zh
namespace Go.Proofs.YtmgfncjfgkllcaaGreatDoor
set_option linter.unusedVariables false
set_option linter.unusedSimpArgs false
set_option linter.unusedSectionVars false
set_option maxRecDepth 100000
set_option maxHeartbeats 2000000
section
open Go.RowKit
variable [OldK]

theorem zlv (w:World)(q:Nat)(os:Array Obj):Fr NoB w (Go.Sort.grow (w.drewN q) os):=by
 refine⟨rfl,rfl,rfl,?_,fun k o h _=>?_⟩
 ·show w.heap.size≤(w.heap++os).size;simp
 show(w.heap++os)[k]? = some o;rw[Array.getElem?_append_left (jb h)];exact h
theorem Bld.keep {B b:Nat}{l:Bs}{w w':World}(h:Bld B b l w)(hF:Fr NoB w w'):Bld B b l w':=h.fr hF (fun _ _ _ _ _ x=>x)
theorem zur {B b:Nat}:∀ k o,NoB k o→MB B b k o:=fun _ _ h=>h.elim
def Bok (B:Nat):Prop:=6≤B∧OldK.k≤B
theorem zio {B b:Nat} {l:Bs} {w w':World} (hb:Bld B b l w) (hF:Fr (MB B b) w w') (hB:Bok B) {k:Nat} {o:Obj} (ho:w.heap[k]? = some o) (ht:Vt k o):w'.heap[k]? = some o :=
 hF.block k o ho (fun hm=>by
  obtain⟨ob,h1,c,f,rfl⟩:=hb.ty;rcases ht with⟨c',f',rfl⟩ | ⟨c',f',rfl⟩ | ht
  ·rcases hm.2 with rfl | ⟨c2,f2,h2⟩
   ·rw[h1]at ho;have:=Option.some.inj ho;simp at this
   simp at h2
  ·rcases hm.2 with rfl | ⟨c2,f2,h2⟩
   ·rw[h1]at ho;have:=Option.some.inj ho;simp at this
   simp at h2
  have:=hm.1;have:=hB.2
  omega)
theorem Kp.mb {S:Nat→Prop}{B b:Nat}{l:Bs}{w w':World}(hb:Bld B b l w)(hF:Fr (MB B b) w w')(hB:Bok B):Kp S S w w' :=
 fun k o hs ho ht=>⟨hs,zio hb hF hB ho ht⟩
def zpn (n:Nat):Prop:=∀ (j:J),SizeOf.sizeOf j<n→∀ (S:Nat→Prop) (B b:Nat) (l:Bs) (v:Value) (w:World),Bld B b l w→RJ S w j v→Bok B→Gl w→fits 67108864 j=true→l.length+(jz j).length+16≤140737488355328 →
 Calls Tryz.prog 127 #[.pointer (some ⟨b,0,none⟩),v] w fun e w'=>e = .returned (.tuple #[])∧Bld B b (l++jz j) w'∧Fr (MB B b) w w'
theorem zq9 (S:Nat→Prop) (B b:Nat) (o:Bs) (k n:Int) (t:Bs) (l:List J) (p:List (Bs × J)) (v:Value) (w:World) (hb:Bld B b o w) (h:RJ S w (.mk k n t l p) v) (_hB:Bok B) (hg:Gl w) (hfit:fits 67108864 (.mk k n t l p)=true)
 (hlen:o.length+(jz (.mk k n t l p)).length+16≤140737488355328) (h4:¬ k=4) (h5:¬ k=5) :
 Calls Tryz.prog 127 #[.pointer (some ⟨b,0,none⟩),v] w fun e w'=>e = .returned (.tuple #[])∧Bld B b (o++jz (.mk k n t l p)) w'∧Fr (MB B b) w w':=by
 obtain⟨a1,c1,a2,c2,rfl,_,_⟩:=h.open;obtain⟨i0,i1⟩:=fits.int hfit;have hJ:=(fits.open hfit).1;have hx:=zh w (.cells #[.int .i64 k,.int .i64 n,.string ⟨t.toArray⟩,.slice a1 l.length c1,.slice a2 p.length c2] 56);obtain⟨d0,d1,d2,d3,d4,dz,dlt⟩:=VB.at hx;have hI:Fr (MB B b) w (w.alloc (.cells #[.int .i64 k,.int .i64 n,.string ⟨t.toArray⟩,.slice a1 l.length c1,.slice a2 p.length c2] 56)):=Fr.refl.alloc _;have hB:=hb.keep (Fr.refl.alloc (.cells #[.int .i64 k,.int .i64 n,.string ⟨t.toArray⟩,.slice a1 l.length c1,.slice a2 p.length c2] 56));have hH:=hg.alloc (.cells #[.int .i64 k,.int .i64 n,.string ⟨t.toArray⟩,.slice a1 l.length c1,.slice a2 p.length c2] 56);have e4:=zaz h4;have e5:=zaz h5;have hC:=za hI;have Hx:=za hx;have hK:=za hH;clear h hfit hI hx hH;unfold jz at hlen ⊢;by_cases h0:k=0
 ·subst h0;rw[if_pos rfl]at hlen ⊢;clear h4 h5 e4 e5;go_enter Tryz.func127,Tryz.ntmps127
  go_wp2_with fail
  refine(zbj _ _ o [110,117,108,108] _ hB (by simp at hlen ⊢;omega)).mono ?_;rintro e w1 ⟨rfl,hA,hF⟩
  go_wp2_with fail
  go_end0
  exact⟨rfl,hA,hC.out.trans' hF⟩
 by_cases h1:k=1
 ·subst h1;rw[if_neg (by decide),if_pos rfl]at hlen ⊢;clear h4 h5 e4 e5 h0;go_enter Tryz.func127,Tryz.ntmps127
  go_wp2_with fail
  refine(Go.Proofs.Tryz.strconv_FormatBool (n==1) _).mono ?_;rintro e w1 ⟨rfl,rfl⟩
  go_wp2_with fail
  refine(zbj _ _ o (Lib.formatBool (n==1)) _ hB (by omega)).mono ?_;rintro e w1 ⟨rfl,hA,hF⟩
  go_wp2_with fail
  go_end0
  exact⟨rfl,hA,hC.out.trans' hF⟩
 by_cases h2:k=2
 ·subst h2;rw[if_neg (by decide),if_neg (by decide),if_pos rfl]at hlen ⊢;clear h4 h5 e4 e5 h0 h1;go_enter Tryz.func127,Tryz.ntmps127
  go_wp2_with fail
  refine(Go.Proofs.Tryz.strconv_Itoa n i0 i1 _ hK.out.pow10).mono ?_;rintro e w1 ⟨rfl,q,os,rfl⟩;have hA:=hB.keep (zlv _ q os);have hG:=za (hC.out.trans' ((zlv _ q os).mono zur))
  go_wp2_with fail
  refine(zbj _ _ o (Lib.itoa n) _ hA (by omega)).mono ?_;rintro e w2 ⟨rfl,hD,hE⟩
  go_wp2_with fail
  go_end0
  exact⟨rfl,hD,hG.out.trans' hE⟩
 by_cases h3:k=3
 ·subst h3;rw[if_neg (by decide),if_neg (by decide),if_neg (by decide),if_pos rfl]at hlen ⊢;clear h4 h5 e4 e5 h0 h1 h2;go_enter Tryz.func127,Tryz.ntmps127
  go_wp2_with fail
  refine(zt5 t _ hJ).mono ?_;rintro e w1 ⟨rfl,hq⟩;have hA:=hB.keep hq;have hG:=za (hC.out.trans' (hq.mono zur))
  go_wp2_with fail
  refine(zbj _ _ o (zby t) _ hA (by omega)).mono ?_;rintro e w2 ⟨rfl,hD,hE⟩
  go_wp2_with fail
  go_end0
  exact⟨rfl,hD,hG.out.trans' hE⟩
 rw[if_neg h0,if_neg h1,if_neg h2,if_neg h3,if_neg h4,if_neg h5];have e0:=zaz h0;have e1:=zaz h1;have e2:=zaz h2;have e3:=zaz h3;clear h0 h1 h2 h3 h4 h5 hlen;go_enter Tryz.func127,Tryz.ntmps127
 go_wp2_with fail
 go_end0
 exact⟨rfl,by simpa using hB,hC.out⟩
end
section
open Go.RowKit
variable [OldK]

theorem zxd {l:List J}{i:Nat}{j:J}(h:l[i]? = some j)(k n:Int)(t:Bs)(p:List (Bs × J)):SizeOf.sizeOf j<SizeOf.sizeOf (J.mk k n t l p):=by
 have h1:=List.sizeOf_lt_of_mem (List.mem_of_getElem? h);simp only[J.mk.sizeOf_spec];omega
theorem zuq {p:List (Bs × J)}{i:Nat}{nm:Bs}{j:J}(h:p[i]? = some (nm,j))(k n:Int)(t:Bs)(l:List J):SizeOf.sizeOf j<SizeOf.sizeOf (J.mk k n t l p):=by
 have h1:=List.sizeOf_lt_of_mem (List.mem_of_getElem? h);simp only[J.mk.sizeOf_spec,Prod.mk.sizeOf_spec]at h1 ⊢;omega
theorem zln {B b:Nat}{l:Bs}{w w':World}(hb:Bld B b l w)(hF:Fr (MB B b) w w')(hB:Bok B){k:Nat}{o:Obj}(ho:w.heap[k]? = some o)(ht:zbq 56 o∨zbq 133 o):w'.heap[k]? = some o :=
 zio hb hF hB ho (ht.elim .inl (fun h => .inr (.inl h)))
theorem Gl.mb {B b:Nat}{w w':World}(h:Gl w)(hB:Bok B)(hF:Fr (MB B b) w w'):Gl w' :=
 h.fr hF (fun k o _ hm=>Nat.le_trans hB.1 hm.1)
def z1y (op:UInt8) (i:Nat) (cz:Int) (c:UInt8):Prop:=(cz=(op.toNat:Int)∧c=op∧i=0)∨(cz=44∧c=44∧0<i)
theorem zq8 (N:Nat) (ih:zpn N) (S:Nat→Prop) (B b:Nat) (o:Bs) (n:Int) (t:Bs) (l:List J) (p:List (Bs × J)) (v:Value) (w:World) (hb:Bld B b o w) (h:RJ S w (.mk 4 n t l p) v) (hB:Bok B) (hg:Gl w) (hfit:fits 67108864 (.mk 4 n t l p)=true)
 (hlen:o.length+(jz (.mk 4 n t l p)).length+16≤140737488355328) (hs:SizeOf.sizeOf (J.mk 4 n t l p)≤N) :
 Calls Tryz.prog 127 #[.pointer (some ⟨b,0,none⟩),v] w fun e w'=>e = .returned (.tuple #[])∧Bld B b (o++jz (.mk 4 n t l p)) w'∧Fr (MB B b) w w':=by
 obtain⟨a1,c1,a2,c2,rfl,hl,_⟩:=h.open;have hll:=(fits.open hfit).2.1;have Hfl:=za (fits.open hfit).2.2.2.1;have hx:=zh w (.cells #[.int .i64 4,.int .i64 n,.string ⟨t.toArray⟩,.slice a1 l.length c1,.slice a2 p.length c2] 56);obtain⟨d0,d1,d2,d3,d4,dz,dlt⟩:=VB.at hx;have hY:Fr (MB B b) w (w.alloc (.cells #[.int .i64 4,.int .i64 n,.string ⟨t.toArray⟩,.slice a1 l.length c1,.slice a2 p.length c2] 56)):=Fr.refl.alloc _;have hX:=hb.keep (Fr.refl.alloc (.cells #[.int .i64 4,.int .i64 n,.string ⟨t.toArray⟩,.slice a1 l.length c1,.slice a2 p.length c2] 56));have hU:=hg.alloc (.cells #[.int .i64 4,.int .i64 n,.string ⟨t.toArray⟩,.slice a1 l.length c1,.slice a2 p.length c2] 56);have hJ:=hl.kp (Kp.ofFr ((Fr.refl (M:=NoB)).alloc (.cells #[.int .i64 4,.int .i64 n,.string ⟨t.toArray⟩,.slice a1 l.length c1,.slice a2 p.length c2] 56)));have e:jz (.mk 4 n t l p)=(if l.isEmpty then [91] else zaj 91 l)++[93]:=by unfold jz;rfl
 rw[e]at hlen ⊢;clear e;have hd:=za hY;have Hx:=za hx;have hq:=za hU;have hp:=za hJ;have hc:=za hX;clear h hfit hY hx hU hb hg hl hJ hX;cases hM:l.isEmpty with
 | true =>
   have hJ:l=[]:=by simpa using hM
   subst hJ;simp only[if_true]at hlen ⊢;simp at hlen;go_enter Tryz.func127,Tryz.ntmps127
   go_wp2_with fail
   go_loopg [4,43] 0 (fun g vc vi wr=>vc = .int .i32 91∧vi = .int .i64 0∧wr=w.alloc (.cells #[.int .i64 4,.int .i64 n,.string ⟨t.toArray⟩,.slice a1 0 c1,.slice a2 p.length c2] 56))
   case atStart=>exact⟨rfl,rfl,rfl⟩
   case round =>
    obtain⟨rfl,rfl,rfl⟩:=hrel
    go_wp2_with fail
    refine(zcm B b o 91 (by decide) (by decide) _ hc.out (by omega)).mono ?_;rintro e w1 ⟨rfl,hD,hF⟩;have ho:zc 91=[91]:=by decide
    rw[ho]at hD ⊢
    go_wp2_with fail
    refine(zaw B b _ 93 _ hD (by simp;omega)).mono ?_;rintro e w2 ⟨rfl,hC,hE⟩
    go_wp2_with fail
    go_end0
    exact⟨rfl,by simpa using hC,(hd.out.trans' hF).trans' hE⟩
 | false =>
   have hl1:1≤l.length:=by
    cases l with
    | nil=>simp at hM
    | cons _ _=>simp
   rw[hM]at hlen;simp only[Bool.false_eq_true,if_false]at hlen ⊢;generalize hG:o++zaj 91 l=G;have hGl:G.length+17≤140737488355328:=by rw[← hG];simp only[List.length_append,List.length_cons,List.length_nil]at hlen ⊢;omega
   rw[← List.append_assoc,hG];have HG:=za hG;have HB:=za hB;clear hG hlen hB;go_enter Tryz.func127,Tryz.ntmps127
   go_wp2_with fail
   go_loopg [4,43] (l.length+1) (fun g vc vi wr=>∃ (i:Nat) (cz:Int) (c:UInt8) (out:Bs),vc = .int .i32 cz∧vi = .int .i64 i∧i≤l.length∧i+g=l.length+1∧Hid (z1y 91 i cz c) ∧
    Hid (Bld B b out wr)∧Hid (RowV S wr l a1)∧Hid (Gl wr)∧Hid (Fr (MB B b) w wr)∧Hid (out++zaj c (l.drop i)=G))
   case atStart=>exact⟨0,91,91,o,rfl,rfl,by omega,by omega,.inl ⟨rfl,rfl,rfl⟩,hc,hp,hq,hd,HG⟩
   case round =>
    obtain⟨i,cz,c,out,rfl,rfl,hi,hgk,Hc,Hb,Hl,Hg,HF,HS⟩:=hrel;rcases Nat.lt_or_ge i l.length with hlt | hge
    ·obtain ⟨j,hj⟩:∃ j,l[i]? = some j:=⟨_,List.getElem?_eq_getElem hlt⟩;obtain⟨bb,oo,x0,x1,x2,x3,x4,rfl,hm,e0,e1,e2,e3,e4,hL⟩:=Hl.out.at hj;obtain⟨jk,jn,jt,jl,jp⟩:=j;obtain⟨y1,n1,y2,n2,hH,_,_⟩:=hL.open;obtain⟨rfl,rfl,rfl,rfl,rfl⟩:x0 = .int .i64 jk∧x1 = .int .i64 jn∧x2 = .string ⟨jt.toArray⟩∧x3 = .slice y1 jl.length n1∧x4 = .slice y2 jp.length n2:=by simpa using hH
     have hA:=(Fr.refl (M:=NoB)).alloc (w:=wr) (.cells #[.int .i64 jk,.int .i64 jn,.string ⟨jt.toArray⟩,.slice y1 jl.length n1,.slice y2 jp.length n2] 56);have hP:=zh wr (.cells #[.int .i64 jk,.int .i64 jn,.string ⟨jt.toArray⟩,.slice y1 jl.length n1,.slice y2 jp.length n2] 56);have Hrj:=za (RJ.kp (Kp.ofFr hA) _ _ hL);have Hxb:=za hP;have Hbx:=za (Hb.out.keep hA);have hu:=za (HF.out.trans' (hA.mono zur));have Hgx:=za (Hg.out.fr hA (fun _ _ _ h=>h.elim));have Hlx:=za (Hl.out.kp (Kp.ofFr hA))
     have hW:zc cz=[c] ∧ -2147483648≤cz∧cz≤2147483647:=by
      rcases Hc.out with⟨rfl,rfl,_⟩ | ⟨rfl,rfl,_⟩<;>decide
     have hS:=HS.out;rw[zdj hj,zaj]at hS;have hV:=fitsl.at l Hfl.out i _ hj;have hR:SizeOf.sizeOf (J.mk jk jn jt jl jp)<N:=Nat.lt_of_lt_of_le (zxd hj _ _ _ _) hs;have hQ:=fun W hK hn he hh hf=>ih (.mk jk jn jt jl jp) hR S B b hK (.agg #[.int .i64 jk,.int .i64 jn,.string ⟨jt.toArray⟩,.slice y1 jl.length n1,.slice y2 jp.length n2]) W hn he HB.out hh hV hf
     generalize jz (.mk jk jn jt jl jp)=PW at *
     have hl3:out.length+(PW.length+1)+17≤140737488355328:=by
      have:=congrArg List.length hS;simp at this;omega
     have Hwr:=za hQ;have ht:=za hS;have Hcs:=za hW;clear hQ hS hW hH hL hP hA Hb Hl Hg HF HS hm hV hR
     go_wp2_with fail
     refine(zcm B b out cz Hcs.out.2.1 Hcs.out.2.2 _ Hbx.out (by omega)).mono ?_;rintro e w1 ⟨rfl,hD,hF⟩;rw[Hcs.out.1]at hD ⊢;have hT:=Kp.mb (S:=S) Hbx.out hF HB.out;have hI:=zln Hbx.out hF HB.out Hxb.out (.inl ⟨_,_,rfl⟩);obtain⟨d0',d1',d2',d3',d4',dz',dlt'⟩:=VB.at hI;have ha:=za hD;have hO:=za hF;have hZ:=za hT;clear hD hF hT hI
     go_wp2_with fail
     refine(Hwr.out _ _ ha.out (RJ.kp hZ.out _ _ Hrj.out) (Hgx.out.mb HB.out hO.out) (by simp;omega)).mono ?_;rintro e w2 ⟨rfl,hC,hE⟩;have hr:=za hC;have hN:=za hE;clear hC hE
     go_wp2_with fail
     go_roundg (gk - 1)
     case measure=>omega
     case rel =>
      exact⟨i+1,44,44,out++[c]++PW,rfl,by simp,by omega,by omega,.inr ⟨rfl,rfl,by omega⟩,hr,za ((Hlx.out.kp hZ.out).kp (Kp.mb ha.out hN.out HB.out)),za ((Hgx.out.mb HB.out hO.out).mb HB.out hN.out),za ((hu.out.trans' hO.out).trans' hN.out),by have:=ht.out;simpa using za this⟩
    obtain rfl:i=l.length:=by omega
    have hk:cz=44:=by
     rcases Hc.out with⟨_,_,h⟩ | ⟨h,_,_⟩
     ·omega
     exact h
    subst hk
    go_wp2_with fail
    have hS:=HS.out;simp[zaj]at hS;subst hS;refine(zaw B b out 93 _ Hb.out (by omega)).mono ?_;rintro e w2 ⟨rfl,hC,hE⟩
    go_wp2_with fail
    go_end0
    exact⟨rfl,hC,HF.out.trans' hE⟩
end
section
open Go.RowKit
variable [OldK]

theorem zmc (N:Nat) (ih:zpn N) (S:Nat→Prop) (B b:Nat) (o:Bs) (n:Int) (t:Bs) (l:List J) (p:List (Bs × J)) (v:Value) (w:World) (hb:Bld B b o w) (h:RJ S w (.mk 5 n t l p) v) (hB:Bok B) (hg:Gl w) (hfit:fits 67108864 (.mk 5 n t l p)=true)
 (hlen:o.length+(jz (.mk 5 n t l p)).length+16≤140737488355328) (hs:SizeOf.sizeOf (J.mk 5 n t l p)≤N) :
 Calls Tryz.prog 127 #[.pointer (some ⟨b,0,none⟩),v] w fun e w'=>e = .returned (.tuple #[])∧Bld B b (o++jz (.mk 5 n t l p)) w'∧Fr (MB B b) w w':=by
 obtain⟨a1,c1,a2,c2,rfl,_,hl⟩:=h.open;have hll:=(fits.open hfit).2.2.1;have Hfl:=za (fits.open hfit).2.2.2.2;have hx:=zh w (.cells #[.int .i64 5,.int .i64 n,.string ⟨t.toArray⟩,.slice a1 l.length c1,.slice a2 p.length c2] 56);obtain⟨d0,d1,d2,d3,d4,dz,dlt⟩:=VB.at hx;have hy:Fr (MB B b) w (w.alloc (.cells #[.int .i64 5,.int .i64 n,.string ⟨t.toArray⟩,.slice a1 l.length c1,.slice a2 p.length c2] 56)):=Fr.refl.alloc _;have hv:=hb.keep (Fr.refl.alloc (.cells #[.int .i64 5,.int .i64 n,.string ⟨t.toArray⟩,.slice a1 l.length c1,.slice a2 p.length c2] 56));have hm:=hg.alloc (.cells #[.int .i64 5,.int .i64 n,.string ⟨t.toArray⟩,.slice a1 l.length c1,.slice a2 p.length c2] 56);have hO:=hl.kp (Kp.ofFr ((Fr.refl (M:=NoB)).alloc (.cells #[.int .i64 5,.int .i64 n,.string ⟨t.toArray⟩,.slice a1 l.length c1,.slice a2 p.length c2] 56)));have e:jz (.mk 5 n t l p)=(if p.isEmpty then [123] else zak 123 p)++[125]:=by unfold jz;rfl
 rw[e]at hlen ⊢;clear e;have h4:=za hy;have Hx:=za hx;have AK:=za hm;have AJ:=za hO;have h2:=za hv;clear h hfit hy hx hm hb hg hl hO hv;cases hU:p.isEmpty with
 | true =>
   have hO:p=[]:=by simpa using hU
   subst hO;simp only[if_true]at hlen ⊢;simp at hlen;go_enter Tryz.func127,Tryz.ntmps127
   go_wp2_with fail
   go_loopg [7,66] 0 (fun g vc vi wr=>vc = .int .i32 123∧vi = .int .i64 0∧wr=w.alloc (.cells #[.int .i64 5,.int .i64 n,.string ⟨t.toArray⟩,.slice a1 l.length c1,.slice a2 0 c2] 56))
   case atStart=>exact⟨rfl,rfl,rfl⟩
   case round =>
    obtain⟨rfl,rfl,rfl⟩:=hrel
    go_wp2_with fail
    refine(zcm B b o 123 (by decide) (by decide) _ h2.out (by omega)).mono ?_;rintro e w1 ⟨rfl,hI,hK⟩;have AB:zc 123=[123]:=by decide
    rw[AB]at hI ⊢
    go_wp2_with fail
    refine(zaw B b _ 125 _ hI (by simp;omega)).mono ?_;rintro e w2 ⟨rfl,hH,hJ⟩
    go_wp2_with fail
    go_end0
    exact⟨rfl,by simpa using hH,(h4.out.trans' hK).trans' hJ⟩
 | false =>
   have hl1:1≤p.length:=by
    cases p with
    | nil=>simp at hU
    | cons _ _=>simp
   rw[hU]at hlen;simp only[Bool.false_eq_true,if_false]at hlen ⊢;generalize hG:o++zak 123 p=G;have hGl:G.length+17≤140737488355328:=by rw[← hG];simp only[List.length_append,List.length_cons,List.length_nil]at hlen ⊢;omega
   rw[← List.append_assoc,hG];have HG:=za hG;have HB:=za hB;clear hG hlen hB;go_enter Tryz.func127,Tryz.ntmps127
   go_wp2_with fail
   go_loopg [7,66] (p.length+1) (fun g vc vi wr=>∃ (i:Nat) (cz:Int) (c:UInt8) (out:Bs),vc = .int .i32 cz∧vi = .int .i64 i∧i≤p.length∧i+g=p.length+1∧Hid (z1y 123 i cz c) ∧
    Hid (Bld B b out wr)∧Hid (RowP S wr p a2)∧Hid (Gl wr)∧Hid (Fr (MB B b) w wr)∧Hid (out++zak c (p.drop i)=G))
   case atStart=>exact⟨0,123,123,o,rfl,rfl,by omega,by omega,.inl ⟨rfl,rfl,rfl⟩,h2,AJ,AK,h4,HG⟩
   case round =>
    obtain⟨i,cz,c,out,rfl,rfl,hi,hgk,Hc,Hb,Hl,Hg,HF,HS⟩:=hrel;rcases Nat.lt_or_ge i p.length with hlt | hge
    ·obtain ⟨⟨nm,j⟩,hj⟩:∃ j,p[i]? = some j:=⟨_,List.getElem?_eq_getElem hlt⟩;obtain⟨bb,oo,x0,x1,x2,x3,x4,rfl,h9,e5,e0,e1,e2,e3,e4,hT⟩:=Hl.out.at hj;obtain⟨jk,jn,jt,jl,jp⟩:=j;obtain⟨y1,n1,y2,n2,hL,_,_⟩:=hT.open;obtain⟨rfl,rfl,rfl,rfl,rfl⟩:x0 = .int .i64 jk∧x1 = .int .i64 jn∧x2 = .string ⟨jt.toArray⟩∧x3 = .slice y1 jl.length n1∧x4 = .slice y2 jp.length n2:=by simpa using hL
     have hF:=(Fr.refl (M:=NoB)).alloc (w:=wr) (.cells #[.string ⟨nm.toArray⟩,.int .i64 jk,.int .i64 jn,.string ⟨jt.toArray⟩,.slice y1 jl.length n1,.slice y2 jp.length n2] 133);have hc:=zh wr (.cells #[.string ⟨nm.toArray⟩,.int .i64 jk,.int .i64 jn,.string ⟨jt.toArray⟩,.slice y1 jl.length n1,.slice y2 jp.length n2] 133);have Hrj:=za (RJ.kp (Kp.ofFr hF) _ _ hT);have Hxb:=za hc;have Hbx:=za (Hb.out.keep hF);have AO:=za (HF.out.trans' (hF.mono zur));have Hgx:=za (Hg.out.fr hF (fun _ _ _ h=>h.elim));have Hlx:=za (Hl.out.kp (Kp.ofFr hF))
     have hp:zc cz=[c] ∧ -2147483648≤cz∧cz≤2147483647:=by
      rcases Hc.out with⟨rfl,rfl,_⟩ | ⟨rfl,rfl,_⟩<;>decide
     have hS:=HS.out;rw[zdj hj,zak]at hS;obtain⟨hf,hn⟩:=fitsp.at p Hfl.out i _ _ hj;have Hquo:=za (fun W=>zt5 nm W hf);have he:SizeOf.sizeOf (J.mk jk jn jt jl jp)<N:=Nat.lt_of_lt_of_le (zuq hj _ _ _ _) hs;have hd:=fun W hR AA h5 h7 h6=>ih (.mk jk jn jt jl jp) he S B b hR (.agg #[.int .i64 jk,.int .i64 jn,.string ⟨jt.toArray⟩,.slice y1 jl.length n1,.slice y2 jp.length n2]) W AA h5 HB.out h7 hn h6
     generalize jz (.mk jk jn jt jl jp)=PW at *;generalize zby nm=PQ at *
     have hl3:out.length+(PW.length+PQ.length+2)+17≤140737488355328:=by
      have:=congrArg List.length hS;simp at this;omega
     have Hwr:=za hd;have AN:=za hS;have Hcs:=za hp;clear hd hS hp hf hL hT hc hF Hb Hl Hg HF HS h9 hn he
     go_wp2_with fail
     refine(zcm B b out cz Hcs.out.2.1 Hcs.out.2.2 _ Hbx.out (by omega)).mono ?_;rintro e w1 ⟨rfl,hI,hK⟩;rw[Hcs.out.1]at hI ⊢;have hk:=Kp.mb (S:=S) Hbx.out hK HB.out;have hD:=zln Hbx.out hK HB.out Hxb.out (.inr ⟨_,_,rfl⟩);obtain⟨AD,AI,AH,AG,AF,AE,AC,hV⟩:=PB.at hD;have AM:=za hI;have ha:=za hK;have h0:=za hk;have Hblk:=za hD;clear hI hK hk hD
     go_wp2_with fail
     refine(Hquo.out _).mono ?_;rintro e w3 ⟨rfl,hQ⟩;have hu:=AM.out.keep hQ;have hC:=hQ.block _ _ Hblk.out (fun h=>h);have h3:=za hQ;have hN:=za hC;have hX:=za hu;clear hQ hC hu
     go_wp2_with fail
     refine(zbj B b _ PQ _ hX.out (by simp;omega)).mono ?_;rintro e w4 ⟨rfl,hr,hw⟩;have hW:=za hr;have hY:=za hw;clear hr hw
     go_wp2_with fail
     refine(zaw B b _ 58 _ hW.out (by simp;omega)).mono ?_;rintro e w5 ⟨rfl,hq,hP⟩;have hA:=zln hW.out hP HB.out (zln hX.out hY.out HB.out hN.out (.inr ⟨_,_,rfl⟩)) (.inr ⟨_,_,rfl⟩);have hh:Kp S S w1 w5:=fun k o hs ho ht=>⟨hs,zio hW.out hP HB.out (zio hX.out hY.out HB.out (h3.out.block _ _ ho (fun h=>h)) ht) ht⟩
     have hM:Fr (MB B b) w1 w5:=((h3.out.mono zur).trans' hY.out).trans' hP;obtain⟨d5'',d0'',d1'',d2'',d3'',d4'',dz'',dlt''⟩:=PB.at hA;have h1:=za hq;have hz:=za hh;have hE:=za hM;clear hq hP hA hh hM AD AI AH AG AF AE AC hV
     go_wp2_with fail
     refine(Hwr.out _ _ h1.out (RJ.kp hz.out _ _ (RJ.kp h0.out _ _ Hrj.out)) ((Hgx.out.mb HB.out ha.out).mb HB.out hE.out) (by simp;omega)).mono ?_;rintro e w2 ⟨rfl,hH,hJ⟩;have AL:=za hH;have hZ:=za hJ;clear hH hJ
     go_wp2_with fail
     go_roundg (gk - 1)
     case measure=>omega
     case rel =>
      exact⟨i+1,44,44,out++[c]++PQ++[58]++PW,rfl,by simp,by omega,by omega,.inr ⟨rfl,rfl,by omega⟩,AL,za (((Hlx.out.kp h0.out).kp hz.out).kp (Kp.mb h1.out hZ.out HB.out)),za (((Hgx.out.mb HB.out ha.out).mb HB.out hE.out).mb HB.out hZ.out),za (((AO.out.trans' ha.out).trans' hE.out).trans' hZ.out),by have:=AN.out;simpa using za this⟩
    obtain rfl:i=p.length:=by omega
    have h8:cz=44:=by
     rcases Hc.out with⟨_,_,h⟩ | ⟨h,_,_⟩
     ·omega
     exact h
    subst h8
    go_wp2_with fail
    have hS:=HS.out;simp[zak]at hS;subst hS;refine(zaw B b out 125 _ Hb.out (by omega)).mono ?_;rintro e w2 ⟨rfl,hH,hJ⟩
    go_wp2_with fail
    go_end0
    exact⟨rfl,hH,HF.out.trans' hJ⟩
theorem zy1:∀ N,zpn N:=by
 intro N
 induction N with
 | zero=>intro j hj;omega
 | succ N ih =>
   intro j hj S B b o v w hb h hB hg hC hA;obtain⟨k,n,t,l,p⟩:=j;by_cases h4:k=4
   ·subst h4;exact zq8 N ih S B b o n t l p v w hb h hB hg hC hA (by omega)
   by_cases h5:k=5
   ·subst h5;exact zmc N ih S B b o n t l p v w hb h hB hg hC hA (by omega)
   exact zq9 S B b o k n t l p v w hb h hB hg hC hA h4 h5
end
end Go.Proofs.YtmgfncjfgkllcaaGreatDoor
