/-
 What the calls of package json come to,on lists of bytes: plain functions;no program in sight.
-/
import Derived.Lib.RuneBytes
import Derived.Lib.Strings
import Derived.Shelf.Unicode.DecodeSlow
import Derived.Lib.SlTrimSet
import Derived.Lib.TrimU
import Derived.Lib.ValidU
open Go.Lib renaming encodeRune→zc
namespace Go.Proofs.YtmgfncjfgkllcaaGreatDoor
set_option linter.unusedVariables false
set_option linter.unusedSimpArgs false
set_option linter.unusedSectionVars false
section

abbrev Bs:=List UInt8
structure St where
 s:Bs
 bad:Bool
def jg (s:Bs):Bs:=Lib.trimLeftS s [32,9,10,13]
def zc2 (c:UInt8) (s:Bs):Option Bs :=
 match jg s with
 | []=>none
 | x :: l=>if x=c then some l else none
def zak (p:Bs) (st:St):St:=if Lib.hasPrefix st.s p then ⟨Lib.trimPrefix st.s p,st.bad⟩ else ⟨st.s,true⟩
def zmw (x:UInt8):Option Nat :=
 if 48≤x.toNat∧x.toNat≤57 then some (x.toNat - 48)
 else if 97≤(x.toNat ||| 32)∧(x.toNat ||| 32)≤102 then some ((x.toNat ||| 32) - 87)
 else none
def zfi:Nat→Nat→St→Nat × St
 | 0,n,st=>(n,st)
 | k + 1,n,st =>
   match st.s with
   | []=>(0,⟨[],true⟩)
   | x :: l=>match zmw x with
     | some v=>zfi k (16 * n+v) ⟨l,st.bad⟩
     | none=>(0,⟨x :: l,true⟩)
def zga (st:St):Nat × St :=
 match zfi 4 0 st with
 | (n,st1) =>
   if n<55296∨57344≤n then (n,st1)
   else if 56320≤n then (0,⟨st1.s,true⟩)
   else match zfi 4 0 (zak [92,117] st1) with
    | (low,st2)=>if st2.bad∨low<56320∨57344≤low then (0,⟨st2.s,true⟩) else (65536+(n - 55296) * 1024+low - 56320,st2)
def zc4 (c:UInt8):Option Nat :=
 if c=34 then some 34 else if c=92 then some 92 else if c=47 then some 47
 else if c=98 then some 8 else if c=102 then some 12 else if c=110 then some 10 else if c=114 then some 13 else if c=116 then some 9 else none
def qf (st:St):Nat × St :=
 match st.s with
 | []=>(0,⟨[],true⟩)
 | c :: l=>match zc4 c with
   | some v=>(v,⟨l,st.bad⟩)
   | none=>if c=117 then zga ⟨l,st.bad⟩ else (0,⟨l,true⟩)
def qe (out:Bs) (st:St):Option Bs × Bs × St :=
 let c:=(Lib.decodeGo ⟨st.s.toArray⟩).1
 let size:=(Lib.decodeGo ⟨st.s.toArray⟩).2
 let l:=st.s.drop size
 if size=0∨c<32∨(c=65533∧size=1) then (none,out,⟨l,true⟩)
 else if c=34 then (some out,out,⟨l,st.bad⟩)
 else if c=92 then (none,out++zc (qf ⟨l,st.bad⟩).1,(qf ⟨l,st.bad⟩).2)
 else (none,out++zc c,⟨l,st.bad⟩)
def j0:Nat→Bs→St→Bs × St
 | 0,_,st=>([],st)
 | k + 1,out,st =>
   if st.bad then ([],st)
   else match qe out st with
    | (some r,_,st')=>(r,st')
    | (none,out',st')=>j0 k out' st'
def zbh (st:St):Bs × St:=j0 (st.s.length+2) [] (zak [34] st)
theorem zuh (n b0 b1 b2 b3:Nat):(Lib.decodeN n b0 b1 b2 b3).2≤4:=by
 unfold Lib.decodeN
 repeat' split
 all_goals simp
theorem zsj (n b0 b1 b2 b3:Nat)(hn:1≤n):(Lib.decodeN n b0 b1 b2 b3).2≤n:=by
 unfold Lib.decodeN
 repeat' split
 all_goals (simp only;omega)
theorem zhu (s:Bs):(Lib.decodeGo ⟨s.toArray⟩).1≤1114111∧(Lib.decodeGo ⟨s.toArray⟩).2≤s.length∧(Lib.decodeGo ⟨s.toArray⟩).2≤4∧(s≠[]→1≤(Lib.decodeGo ⟨s.toArray⟩).2):=by
 have hA:(ByteArray.mk s.toArray).size=s.length:=rfl;unfold Lib.decodeGo;split
 ·rename_i h0
  refine⟨by simp,by simp,by simp,fun h=>?_⟩;rw[hA]at h0;exact absurd (List.length_eq_zero_iff.1 h0) h
 rename_i h0
 rw[hA]at h0;rw[Lib.decode_at,hA];exact⟨Lib.decodeN_rune_le _ _ _ _ _ (UInt8.toNat_lt _),zsj _ _ _ _ _ (by omega),zuh _ _ _ _ _,fun _=>Lib.decodeN_ge1 _ _ _ _ _⟩
theorem zc5 (p:Bs) (st:St):(zak p st).s.length≤st.s.length:=by
 unfold zak;split
 ·unfold Lib.trimPrefix;split
  ·simp
  simp
 simp
theorem zry:∀ (k n:Nat) (st:St),(zfi k n st).2.s.length≤st.s.length:=by
 intro k
 induction k with
 | zero=>intro n st;simp[zfi]
 | succ k ih =>
   intro n st;unfold zfi;split
   ·simp
   rename_i x l hl
   rw[hl];split
   ·rename_i v hv
    have:=ih (16 * n+v) ⟨l,st.bad⟩;exact Nat.le_trans this (by simp)
   simp
theorem zta (st:St):(zga st).2.s.length≤st.s.length:=by
 unfold zga;have h1:=zry 4 0 st;generalize zfi 4 0 st=G at *;obtain⟨n,hA⟩:=G;simp only at h1 ⊢;split
 ·exact h1
 split
 ·exact h1
 have h2:=zry 4 0 (zak [92,117] hA);have h3:=zc5 [92,117] hA;generalize zfi 4 0 (zak [92,117] hA)=G2 at *;obtain⟨n2,st2⟩:=G2;simp only at h2 ⊢;split
 ·exact Nat.le_trans h2 (Nat.le_trans h3 h1)
 exact Nat.le_trans h2 (Nat.le_trans h3 h1)
theorem zfs (st:St):(qf st).2.s.length≤st.s.length:=by
 unfold qf;split
 ·simp
 rename_i c l hl
 rw[hl];split
 ·simp
 split
 ·exact Nat.le_trans (zta _) (by simp)
 simp
theorem zb1 (r:Int):(zc r).length≤4:=by
 unfold zc;rw[List.length_map];unfold Lib.encodeRuneZ
 repeat' split
 all_goals simp
end
section

inductive J where
 | mk (kind int:Int) (text:Bs) (list:List J) (pairs:List (Bs × J))
namespace J
def kind:J→Int | mk k _ _ _ _=>k
def int:J→Int | mk _ n _ _ _=>n
def text:J→Bs | mk _ _ t _ _=>t
def list:J→List J | mk _ _ _ l _=>l
def pairs:J→List (Bs × J) | mk _ _ _ _ p=>p
def zero:J:=mk 0 0 [] [] []
end J

def qk:Nat→Nat→Bs→Nat × Nat × Bs
 | n,k,[]=>(n,k,[])
 | n,k,x :: l=>if 48≤x.toNat∧x.toNat≤57 then qk (if n≤9007199254740991 then 10 * n+(x.toNat - 48) else n) (k+1) l else (n,k,x :: l)
def zci (minus:Bool) (bad:Bool) (s:Bs):J × St :=
 match s with
 | []=>(J.zero,⟨[],true⟩)
 | y :: m =>
   if 48≤y.toNat∧y.toNat≤57 then
    match qk 0 0 (y :: m) with
    | (n,k,s2)=>(.mk 2 (if minus then -(n:Int) else n) [] [] [],⟨s2,bad||(decide (9007199254740991<n)||(decide (y=48)&&(decide (1<k)||minus)))⟩)
   else (J.zero,⟨y :: m,true⟩)
def za6 (st:St):J × St :=
 match st.s with
 | []=>(J.zero,st)
 | x :: l=>if x=45 then zci true st.bad l else zci false st.bad (x :: l)
section
variable {α:Type}
def zb3 (one:St→α→St × α) (shut:UInt8):Nat→St→α→St × α
 | 0,st,a=>(st,a)
 | k + 1,st,a =>
   if st.bad then (st,a) else
   match one st a with
   | (st1,a1) =>
     if st1.bad then (st1,a1) else
     match zc2 shut st1.s with
     | some l=>(⟨l,false⟩,a1)
     | none=>match zc2 44 (jg st1.s) with
       | some l=>zb3 one shut k ⟨l,false⟩ a1
       | none=>zb3 one shut k ⟨jg (jg st1.s),true⟩ a1
def zbp (op:UInt8) (d:Int) (st:St):St :=
 match zc2 op st.s with
 | some l=>⟨l,st.bad||decide (8<d)⟩
 | none=>⟨jg st.s,true⟩
def za7 (one:St→α→St × α) (op shut:UInt8) (d:Int) (st:St) (a:α):St × α :=
 match zc2 shut (zbp op d st).s with
 | some l=>(⟨l,(zbp op d st).bad⟩,a)
 | none=>zb3 one shut ((zbp op d st).s.length+2) ⟨jg (zbp op d st).s,(zbp op d st).bad⟩ a
end
def zcs (val:St→J × St) (st:St) (a:List J):St × List J:=((val st).2,a++[(val st).1])
def zcj (names:List Bs) (nm:Bs) (st:St):St :=
 if names.contains nm then ⟨st.s,true⟩
 else match zc2 58 st.s with
  | some l=>⟨l,st.bad⟩
  | none=>⟨jg st.s,true⟩
def zbx (val:St→J × St) (st:St) (a:List (Bs × J)):St × List (Bs × J) :=
 match zbh ⟨jg st.s,st.bad⟩ with
 | (nm,st1)=>match val (zcj (a.map (·.1)) nm st1) with
   | (x,st2)=>(st2,a++[(nm,x)])
def zmc:Bs:=[110,117,108,108]
def zmb:Bs:=[116,114,117,101]
def zhd:Bs:=[102,97,108,115,101]
def zh2 (val:St→J × St) (d:Int) (c:UInt8) (st:St):J × St :=
 if c=110 then (J.zero,zak zmc st)
 else if c=116 then (.mk 1 1 [] [] [],zak zmb st)
 else if c=102 then (.mk 1 0 [] [] [],zak zhd st)
 else if c=34 then (.mk 3 0 (zbh st).1 [] [],(zbh st).2)
 else if c=91 then (.mk 4 0 [] (za7 (zcs val) 91 93 (d+1) st []).2 [],(za7 (zcs val) 91 93 (d+1) st []).1)
 else if c=123 then (.mk 5 0 [] [] (za7 (zbx val) 123 125 (d+1) st []).2,(za7 (zbx val) 123 125 (d+1) st []).1)
 else za6 st
def jy:Nat→Int→St→J × St
 | 0,_,st=>(J.zero,st)
 | f+1,d,st =>
   match jg st.s with
   | []=>(J.zero,⟨[],true⟩)
   | c :: l=>if st.bad then (J.zero,⟨c :: l,true⟩) else zh2 (jy f (d+1)) d c ⟨c :: l,false⟩
def zhc (s:Bs):Option J :=
 match jy 10 0 ⟨s,false⟩ with
 | (v,st)=>if st.bad∨jg st.s≠[] then none else some v
end
section
theorem zi2 (out:Bs)(st:St):(∀ r o st',qe out st=(some r,o,st')→r.length≤out.length∧st'.s.length≤st.s.length) ∧
 (∀ o st',qe out st=(none,o,st')→o.length+4 * st'.s.length≤out.length+4 * st.s.length∧st'.s.length≤st.s.length):=by
 obtain⟨d1,d2,d3,d4⟩:=zhu st.s;unfold qe;dsimp only;generalize hc:(Lib.decodeGo ⟨st.s.toArray⟩).1=c at *;generalize hs:(Lib.decodeGo ⟨st.s.toArray⟩).2=size at *;have hl:(st.s.drop size).length=st.s.length - size:=by simp
 have hA:=zfs ⟨st.s.drop size,st.bad⟩;generalize st.s.drop size=l at *;simp only at hA ⊢;have e1:=zb1 c;have e2:=zb1 ((qf ⟨l,st.bad⟩).1);generalize qf ⟨l,st.bad⟩=E at *;split
 ·refine⟨by simp,?_⟩;rintro o st' h;simp at h;obtain⟨rfl,rfl⟩:=h;simp only;omega
 rename_i hn
 have hs1:1≤size:=by omega
 split
 ·refine⟨?_,by simp⟩;rintro r o st' h;simp at h;obtain⟨rfl,rfl,rfl⟩:=h;simp only;omega
 split
 ·refine⟨by simp,?_⟩;rintro o st' h;simp at h;obtain⟨rfl,rfl⟩:=h;simp only[List.length_append];omega
 refine⟨by simp,?_⟩;rintro o st' h;simp at h;obtain⟨rfl,rfl⟩:=h;simp only[List.length_append];omega
theorem zev:∀ (k:Nat) (out:Bs) (st:St),(j0 k out st).1.length≤out.length+4 * st.s.length∧(j0 k out st).2.s.length≤st.s.length:=by
 intro k
 induction k with
 | zero=>intro out st;simp[j0]
 | succ k ih =>
   intro out st;obtain⟨h1,h2⟩:=zi2 out st;unfold j0;split
   ·simp
   split
   ·rename_i r o st' he
    have:=h1 _ _ _ he;simp only;omega
   rename_i o st' he
   have:=h2 _ _ he;have:=ih o st';omega
theorem zi3 (st:St):(zbh st).1.length≤4 * st.s.length:=by
 have h1:=(zev (st.s.length+2) [] (zak [34] st)).1;have h2:=zc5 [34] st;simp only[List.length_nil]at h1;unfold zbh;omega
theorem zi4 (st:St):(zbh st).2.s.length≤st.s.length:=by
 have h1:=(zev (st.s.length+2) [] (zak [34] st)).2;have h2:=zc5 [34] st;unfold zbh;omega
end
section

theorem qv (s:Bs):(jg s).length≤s.length:=by
 unfold jg Lib.trimLeftS;exact List.Sublist.length_le (List.dropWhile_sublist _)
theorem zk1 {c:UInt8}{s l:Bs}(h:zc2 c s=some l):l.length≤s.length:=by
 unfold zc2 at h;have hb:=qv s;split at h
 ·simp at h
 rename_i x m hm
 rw[hm]at hb;split at h
 ·simp at h;subst h;simp at hb;omega
 simp at h
theorem zk2:∀ (s:Bs) (n k:Nat),(qk n k s).2.2.length≤s.length:=by
 intro s
 induction s with
 | nil=>intro n k;simp[qk]
 | cons x l ih =>
   intro n k;unfold qk;split
   ·exact Nat.le_trans (ih _ _) (by simp)
   simp
theorem zn0 (m b:Bool)(s:Bs):(zci m b s).2.s.length≤s.length:=by
 unfold zci;split
 ·simp
 rename_i y l
 split
 ·have:=zk2 (y :: l) 0 0;generalize qk 0 0 (y :: l)=G at *;obtain⟨n,k,s2⟩:=G;exact this
 simp
theorem zrg (st:St):(za6 st).2.s.length≤st.s.length:=by
 unfold za6;split
 ·simp
 rename_i x l hl
 rw[hl];split
 ·exact Nat.le_trans (zn0 _ _ _) (by simp)
 exact zn0 _ _ _
section
variable {α:Type} {one:St→α→St × α}
theorem zv0 (h:∀ st a,(one st a).1.s.length≤st.s.length) (shut:UInt8):∀ (k:Nat) (st:St) (a:α),(zb3 one shut k st a).1.s.length≤st.s.length:=by
 intro k
 induction k with
 | zero=>intro st a;simp[zb3]
 | succ k ih =>
   intro st a;unfold zb3;split
   ·simp
   have h1:=h st a;generalize one st a=G at *;obtain⟨hA,a1⟩:=G;simp only at h1 ⊢;split
   ·exact h1
   split
   ·rename_i l hl
    exact Nat.le_trans (zk1 hl) h1
   have hb:=qv hA.s;split
   ·rename_i l hl
    have:=zk1 hl;have:=ih ⟨l,false⟩ a1;simp only at this;omega
   have:=ih ⟨jg (jg hA.s),true⟩ a1;have h2:=qv (jg hA.s);simp only at this;omega
theorem zvx (op:UInt8)(d:Int)(st:St):(zbp op d st).s.length≤st.s.length:=by
 unfold zbp;split
 ·rename_i l hl;exact zk1 hl
 exact qv _
theorem zsh (h:∀ st a,(one st a).1.s.length≤st.s.length) (op shut:UInt8) (d:Int) (st:St) (a:α):(za7 one op shut d st a).1.s.length≤st.s.length:=by
 unfold za7;have h1:=zvx op d st;generalize zbp op d st=G at *;split
 ·rename_i l hl
  have:=zk1 hl;simp only;omega
 have h2:=zv0 h shut (G.s.length+2) ⟨jg G.s,G.bad⟩ a;have:=qv G.s;simp only at h2;omega
end
theorem zui (names:List Bs)(nm:Bs)(st:St):(zcj names nm st).s.length≤st.s.length:=by
 unfold zcj;split
 ·simp
 split
 ·rename_i l hl;exact zk1 hl
 exact qv _
theorem zrr {val:St→J × St}(h:∀ st,(val st).2.s.length≤st.s.length)(st:St)(a:List J):(zcs val st a).1.s.length≤st.s.length:=h st
theorem zq7 {val:St→J × St}(h:∀ st,(val st).2.s.length≤st.s.length)(st:St)(a:List (Bs × J)):(zbx val st a).1.s.length≤st.s.length:=by
 unfold zbx;have h1:=zi4 ⟨jg st.s,st.bad⟩;have hb:=qv st.s;generalize zbh ⟨jg st.s,st.bad⟩=G at *;obtain⟨nm,hA⟩:=G;simp only at h1 ⊢;have h2:=zui (a.map (·.1)) nm hA;generalize zcj (a.map (·.1)) nm hA=C at *;have h3:=h C;generalize val C=V at *;obtain⟨x,st2⟩:=V;simp only at h3 ⊢;omega
theorem zq6 {val:St→J × St}(st:St)(a:List (Bs × J)):(zbx val st a).2.length=a.length+1:=by
 unfold zbx;generalize zbh ⟨jg st.s,st.bad⟩=G at *;obtain⟨nm,hA⟩:=G;simp only;generalize val (zcj (a.map (·.1)) nm hA)=V at *;obtain⟨x,st2⟩:=V;simp
theorem zvp {val:St→J × St}(h:∀ st,(val st).2.s.length≤st.s.length)(d:Int)(c:UInt8)(st:St):(zh2 val d c st).2.s.length≤st.s.length:=by
 unfold zh2;split
 ·exact zc5 _ _
 split
 ·exact zc5 _ _
 split
 ·exact zc5 _ _
 split
 ·exact zi4 _
 split
 ·exact zsh (zrr h) _ _ _ _ _
 split
 ·exact zsh (zq7 h) _ _ _ _ _
 exact zrg _
theorem zng:∀ (f:Nat) (d:Int) (st:St),(jy f d st).2.s.length≤st.s.length:=by
 intro f
 induction f with
 | zero=>intro d st;simp[jy]
 | succ f ih =>
   intro d st;have hb:=qv st.s;unfold jy;split
   ·simp
   rename_i c l hl
   rw[hl]at hb;split
   ·exact hb
   exact Nat.le_trans (zvp (ih (d+1)) _ _ _) hb
end
section

mutual
def jq:Int→J→Bool
 | d,.mk k n t l p =>
   if k=0 then (n==0)&&((t==[])&&(l.isEmpty&&p.isEmpty))
   else if k=1 then ((n==0)||(n==1))&&((t==[])&&(l.isEmpty&&p.isEmpty))
   else if k=2 then decide (-9007199254740991≤n)&&(decide (n≤9007199254740991)&&((t==[])&&(l.isEmpty&&p.isEmpty)))
   else if k=3 then (n==0)&&(Lib.validD t&&(l.isEmpty&&p.isEmpty))
   else if n≠0∨t≠[]∨8≤d then false
   else if k=4 then zag (d+1) l&&p.isEmpty
   else if k=5 then qp (d+1) [] p&&l.isEmpty
   else false
def zag:Int→List J→Bool
 | _,[]=>true
 | d,j :: js=>jq d j&&zag d js
def qp:Int→List Bs→List (Bs × J)→Bool
 | _,_,[]=>true
 | d,names,(nm,j) :: ps=>!names.contains nm&&(Lib.validD nm&&(jq d j&&qp d (names++[nm]) ps))
end

mutual
def fits:Nat→J→Bool
 | N,.mk _ n t l p=>(decide (-9223372036854775808≤n)&&decide (n≤9223372036854775807))&&(decide (t.length≤N)&&(decide (l.length≤N)&&(decide (p.length≤N)&&(fitsl N l&&fitsp N p))))
def fitsl:Nat→List J→Bool
 | _,[]=>true
 | N,j :: js=>fits N j&&fitsl N js
def fitsp:Nat→List (Bs × J)→Bool
 | _,[]=>true
 | N,(nm,j) :: ps=>decide (nm.length≤N)&&(fits N j&&fitsp N ps)
end
theorem fits.open {N:Nat}{k n:Int}{t:Bs}{l:List J}{p:List (Bs × J)}(h:fits N (.mk k n t l p)=true):t.length≤N∧l.length≤N∧p.length≤N∧fitsl N l=true∧fitsp N p=true:=by
 unfold fits at h;rw[Bool.and_eq_true]at h;simpa using h.2
theorem fits.int {N:Nat}{k n:Int}{t:Bs}{l:List J}{p:List (Bs × J)}(h:fits N (.mk k n t l p)=true) : -9223372036854775808≤n∧n≤9223372036854775807:=by
 unfold fits at h;rw[Bool.and_eq_true]at h;simpa using h.1
theorem fitsl.at {N:Nat}:∀ (l:List J),fitsl N l=true→∀ (i:Nat) (j:J),l[i]? = some j→fits N j=true:=by
 intro l
 induction l with
 | nil=>intro _ i j h;simp at h
 | cons x l ih =>
   intro h i j hi;unfold fitsl at h;simp at h;cases i with
   | zero=>simp at hi;subst hi;exact h.1
   | succ i=>exact ih h.2 i j (by simpa using hi)
theorem fitsp.at {N:Nat}:∀ (l:List (Bs × J)),fitsp N l=true→∀ (i:Nat) (nm:Bs) (j:J),l[i]? = some (nm,j)→nm.length≤N∧fits N j=true:=by
 intro l
 induction l with
 | nil=>intro _ i nm j h;simp at h
 | cons x l ih =>
   obtain⟨xn,xj⟩:=x;intro h i nm j hi;unfold fitsp at h;simp at h;cases i with
   | zero=>simp at hi;obtain⟨rfl,rfl⟩:=hi;exact⟨h.1,h.2.1⟩
   | succ i=>exact ih h.2.2 i nm j (by simpa using hi)
end
end Go.Proofs.YtmgfncjfgkllcaaGreatDoor
