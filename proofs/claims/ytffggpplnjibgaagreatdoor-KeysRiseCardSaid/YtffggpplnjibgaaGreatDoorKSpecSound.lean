/-
 What the calls of package json come to,on lists of bytes: plain functions;no program in sight.
-/
import Derived.Lib.RuneBytes
import Derived.Lib.Strings
import Derived.Shelf.Unicode.DecodeSlow
import Derived.Lib.SlTrimSet
import Derived.Lib.TrimU
import Derived.Lib.ValidU
open Go.Lib renaming encodeRune→zk
namespace Go.Proofs.YtffggpplnjibgaaGreatDoor
set_option linter.unusedVariables false
set_option linter.unusedSimpArgs false
set_option linter.unusedSectionVars false
section

abbrev Bs:=List UInt8
structure St where
 s:Bs
 bad:Bool
def jr (s:Bs):Bs:=Lib.trimLeftS s [32,9,10,13]
def zdb (c:UInt8) (s:Bs):Option Bs :=
 match jr s with
 | []=>none
 | x :: l=>if x=c then some l else none
def qu (p:Bs) (st:St):St:=if Lib.hasPrefix st.s p then ⟨Lib.trimPrefix st.s p,st.bad⟩ else ⟨st.s,true⟩
def zmp (x:UInt8):Option Nat :=
 if 48≤x.toNat∧x.toNat≤57 then some (x.toNat - 48)
 else if 97≤(x.toNat ||| 32)∧(x.toNat ||| 32)≤102 then some ((x.toNat ||| 32) - 87)
 else none
def zd7:Nat→Nat→St→Nat × St
 | 0,n,st=>(n,st)
 | k + 1,n,st =>
   match st.s with
   | []=>(0,⟨[],true⟩)
   | x :: l=>match zmp x with
     | some v=>zd7 k (16 * n+v) ⟨l,st.bad⟩
     | none=>(0,⟨x :: l,true⟩)
def zf4 (st:St):Nat × St :=
 match zd7 4 0 st with
 | (n,st1) =>
   if n<55296∨57344≤n then (n,st1)
   else if 56320≤n then (0,⟨st1.s,true⟩)
   else match zd7 4 0 (qu [92,117] st1) with
    | (low,st2)=>if st2.bad∨low<56320∨57344≤low then (0,⟨st2.s,true⟩) else (65536+(n - 55296) * 1024+low - 56320,st2)
def zdm (c:UInt8):Option Nat :=
 if c=34 then some 34 else if c=92 then some 92 else if c=47 then some 47
 else if c=98 then some 8 else if c=102 then some 12 else if c=110 then some 10 else if c=114 then some 13 else if c=116 then some 9 else none
def qd (st:St):Nat × St :=
 match st.s with
 | []=>(0,⟨[],true⟩)
 | c :: l=>match zdm c with
   | some v=>(v,⟨l,st.bad⟩)
   | none=>if c=117 then zf4 ⟨l,st.bad⟩ else (0,⟨l,true⟩)
def zas (out:Bs) (st:St):Option Bs × Bs × St :=
 let c:=(Lib.decodeGo ⟨st.s.toArray⟩).1
 let size:=(Lib.decodeGo ⟨st.s.toArray⟩).2
 let l:=st.s.drop size
 if size=0∨c<32∨(c=65533∧size=1) then (none,out,⟨l,true⟩)
 else if c=34 then (some out,out,⟨l,st.bad⟩)
 else if c=92 then (none,out++zk (qd ⟨l,st.bad⟩).1,(qd ⟨l,st.bad⟩).2)
 else (none,out++zk c,⟨l,st.bad⟩)
def qa:Nat→Bs→St→Bs × St
 | 0,_,st=>([],st)
 | k + 1,out,st =>
   if st.bad then ([],st)
   else match zas out st with
    | (some r,_,st')=>(r,st')
    | (none,out',st')=>qa k out' st'
def zav (st:St):Bs × St:=qa (st.s.length+2) [] (qu [34] st)
theorem zoq (n b0 b1 b2 b3:Nat):(Lib.decodeN n b0 b1 b2 b3).2≤4:=by
 unfold Lib.decodeN
 repeat' split
 all_goals simp
theorem zm1 (n b0 b1 b2 b3:Nat)(hn:1≤n):(Lib.decodeN n b0 b1 b2 b3).2≤n:=by
 unfold Lib.decodeN
 repeat' split
 all_goals (simp only;omega)
theorem zfv (s:Bs):(Lib.decodeGo ⟨s.toArray⟩).1≤1114111∧(Lib.decodeGo ⟨s.toArray⟩).2≤s.length∧(Lib.decodeGo ⟨s.toArray⟩).2≤4∧(s≠[]→1≤(Lib.decodeGo ⟨s.toArray⟩).2):=by
 have hA:(ByteArray.mk s.toArray).size=s.length:=rfl;unfold Lib.decodeGo;split
 ·rename_i h0
  refine⟨by simp,by simp,by simp,fun h=>?_⟩;rw[hA]at h0;exact absurd (List.length_eq_zero_iff.1 h0) h
 rename_i h0
 rw[hA]at h0;rw[Lib.decode_at,hA];exact⟨Lib.decodeN_rune_le _ _ _ _ _ (UInt8.toNat_lt _),zm1 _ _ _ _ _ (by omega),zoq _ _ _ _ _,fun _=>Lib.decodeN_ge1 _ _ _ _ _⟩
theorem zb0 (p:Bs) (st:St):(qu p st).s.length≤st.s.length:=by
 unfold qu;split
 ·unfold Lib.trimPrefix;split
  ·simp
  simp
 simp
theorem zmo:∀ (k n:Nat) (st:St),(zd7 k n st).2.s.length≤st.s.length:=by
 intro k
 induction k with
 | zero=>intro n st;simp[zd7]
 | succ k ih =>
   intro n st;unfold zd7;split
   ·simp
   rename_i x l hl
   rw[hl];split
   ·rename_i v hv
    have:=ih (16 * n+v) ⟨l,st.bad⟩;exact Nat.le_trans this (by simp)
   simp
theorem znp (st:St):(zf4 st).2.s.length≤st.s.length:=by
 unfold zf4;have h1:=zmo 4 0 st;generalize zd7 4 0 st=G at *;obtain⟨n,hA⟩:=G;simp only at h1 ⊢;split
 ·exact h1
 split
 ·exact h1
 have h2:=zmo 4 0 (qu [92,117] hA);have h3:=zb0 [92,117] hA;generalize zd7 4 0 (qu [92,117] hA)=G2 at *;obtain⟨n2,st2⟩:=G2;simp only at h2 ⊢;split
 ·exact Nat.le_trans h2 (Nat.le_trans h3 h1)
 exact Nat.le_trans h2 (Nat.le_trans h3 h1)
theorem zec (st:St):(qd st).2.s.length≤st.s.length:=by
 unfold qd;split
 ·simp
 rename_i c l hl
 rw[hl];split
 ·simp
 split
 ·exact Nat.le_trans (znp _) (by simp)
 simp
theorem za2 (r:Int):(zk r).length≤4:=by
 unfold zk;rw[List.length_map];unfold Lib.encodeRuneZ
 repeat' split
 all_goals simp
end
section

inductive J where
 | mk (kind int:Int) (text:Bs) (list:List J) (pairs:List (Bs × J))
namespace J
def kind:J→Int | mk k _ _ _ _=>k
def int:J→Int | mk _ n _ _ _=>n
def text:J→Bs | mk _ _ t _ _=>t
def list:J→List J | mk _ _ _ l _=>l
def pairs:J→List (Bs × J) | mk _ _ _ _ p=>p
def zero:J:=mk 0 0 [] [] []
end J

def qv:Nat→Nat→Bs→Nat × Nat × Bs
 | n,k,[]=>(n,k,[])
 | n,k,x :: l=>if 48≤x.toNat∧x.toNat≤57 then qv (if n≤9007199254740991 then 10 * n+(x.toNat - 48) else n) (k+1) l else (n,k,x :: l)
def zci (minus:Bool) (bad:Bool) (s:Bs):J × St :=
 match s with
 | []=>(J.zero,⟨[],true⟩)
 | y :: m =>
   if 48≤y.toNat∧y.toNat≤57 then
    match qv 0 0 (y :: m) with
    | (n,k,s2)=>(.mk 2 (if minus then -(n:Int) else n) [] [] [],⟨s2,bad||(decide (9007199254740991<n)||(decide (y=48)&&(decide (1<k)||minus)))⟩)
   else (J.zero,⟨y :: m,true⟩)
def za4 (st:St):J × St :=
 match st.s with
 | []=>(J.zero,st)
 | x :: l=>if x=45 then zci true st.bad l else zci false st.bad (x :: l)
section
variable {α:Type}
def zc4 (one:St→α→St × α) (shut:UInt8):Nat→St→α→St × α
 | 0,st,a=>(st,a)
 | k + 1,st,a =>
   if st.bad then (st,a) else
   match one st a with
   | (st1,a1) =>
     if st1.bad then (st1,a1) else
     match zdb shut st1.s with
     | some l=>(⟨l,false⟩,a1)
     | none=>match zdb 44 (jr st1.s) with
       | some l=>zc4 one shut k ⟨l,false⟩ a1
       | none=>zc4 one shut k ⟨jr (jr st1.s),true⟩ a1
def zbb (op:UInt8) (d:Int) (st:St):St :=
 match zdb op st.s with
 | some l=>⟨l,st.bad||decide (8<d)⟩
 | none=>⟨jr st.s,true⟩
def za5 (one:St→α→St × α) (op shut:UInt8) (d:Int) (st:St) (a:α):St × α :=
 match zdb shut (zbb op d st).s with
 | some l=>(⟨l,(zbb op d st).bad⟩,a)
 | none=>zc4 one shut ((zbb op d st).s.length+2) ⟨jr (zbb op d st).s,(zbb op d st).bad⟩ a
end
def zcj (val:St→J × St) (st:St) (a:List J):St × List J:=((val st).2,a++[(val st).1])
def zbq (names:List Bs) (nm:Bs) (st:St):St :=
 if names.contains nm then ⟨st.s,true⟩
 else match zdb 58 st.s with
  | some l=>⟨l,st.bad⟩
  | none=>⟨jr st.s,true⟩
def zbp (val:St→J × St) (st:St) (a:List (Bs × J)):St × List (Bs × J) :=
 match zav ⟨jr st.s,st.bad⟩ with
 | (nm,st1)=>match val (zbq (a.map (·.1)) nm st1) with
   | (x,st2)=>(st2,a++[(nm,x)])
def zkl:Bs:=[110,117,108,108]
def zkk:Bs:=[116,114,117,101]
def zge:Bs:=[102,97,108,115,101]
def zgu (val:St→J × St) (d:Int) (c:UInt8) (st:St):J × St :=
 if c=110 then (J.zero,qu zkl st)
 else if c=116 then (.mk 1 1 [] [] [],qu zkk st)
 else if c=102 then (.mk 1 0 [] [] [],qu zge st)
 else if c=34 then (.mk 3 0 (zav st).1 [] [],(zav st).2)
 else if c=91 then (.mk 4 0 [] (za5 (zcj val) 91 93 (d+1) st []).2 [],(za5 (zcj val) 91 93 (d+1) st []).1)
 else if c=123 then (.mk 5 0 [] [] (za5 (zbp val) 123 125 (d+1) st []).2,(za5 (zbp val) 123 125 (d+1) st []).1)
 else za4 st
def j6:Nat→Int→St→J × St
 | 0,_,st=>(J.zero,st)
 | f+1,d,st =>
   match jr st.s with
   | []=>(J.zero,⟨[],true⟩)
   | c :: l=>if st.bad then (J.zero,⟨c :: l,true⟩) else zgu (j6 f (d+1)) d c ⟨c :: l,false⟩
def zhl (s:Bs):Option J :=
 match j6 10 0 ⟨s,false⟩ with
 | (v,st)=>if st.bad∨jr st.s≠[] then none else some v
end
section
theorem zgp (out:Bs)(st:St):(∀ r o st',zas out st=(some r,o,st')→r.length≤out.length∧st'.s.length≤st.s.length) ∧
 (∀ o st',zas out st=(none,o,st')→o.length+4 * st'.s.length≤out.length+4 * st.s.length∧st'.s.length≤st.s.length):=by
 obtain⟨d1,d2,d3,d4⟩:=zfv st.s;unfold zas;dsimp only;generalize hc:(Lib.decodeGo ⟨st.s.toArray⟩).1=c at *;generalize hs:(Lib.decodeGo ⟨st.s.toArray⟩).2=size at *;have hl:(st.s.drop size).length=st.s.length - size:=by simp
 have hA:=zec ⟨st.s.drop size,st.bad⟩;generalize st.s.drop size=l at *;simp only at hA ⊢;have e1:=za2 c;have e2:=za2 ((qd ⟨l,st.bad⟩).1);generalize qd ⟨l,st.bad⟩=E at *;split
 ·refine⟨by simp,?_⟩;rintro o st' h;simp at h;obtain⟨rfl,rfl⟩:=h;simp only;omega
 rename_i hn
 have hs1:1≤size:=by omega
 split
 ·refine⟨?_,by simp⟩;rintro r o st' h;simp at h;obtain⟨rfl,rfl,rfl⟩:=h;simp only;omega
 split
 ·refine⟨by simp,?_⟩;rintro o st' h;simp at h;obtain⟨rfl,rfl⟩:=h;simp only[List.length_append];omega
 refine⟨by simp,?_⟩;rintro o st' h;simp at h;obtain⟨rfl,rfl⟩:=h;simp only[List.length_append];omega
theorem zdj:∀ (k:Nat) (out:Bs) (st:St),(qa k out st).1.length≤out.length+4 * st.s.length∧(qa k out st).2.s.length≤st.s.length:=by
 intro k
 induction k with
 | zero=>intro out st;simp[qa]
 | succ k ih =>
   intro out st;obtain⟨h1,h2⟩:=zgp out st;unfold qa;split
   ·simp
   split
   ·rename_i r o st' he
    have:=h1 _ _ _ he;simp only;omega
   rename_i o st' he
   have:=h2 _ _ he;have:=ih o st';omega
theorem zgq (st:St):(zav st).1.length≤4 * st.s.length:=by
 have h1:=(zdj (st.s.length+2) [] (qu [34] st)).1;have h2:=zb0 [34] st;simp only[List.length_nil]at h1;unfold zav;omega
theorem zgr (st:St):(zav st).2.s.length≤st.s.length:=by
 have h1:=(zdj (st.s.length+2) [] (qu [34] st)).2;have h2:=zb0 [34] st;unfold zav;omega
end
section

theorem qf (s:Bs):(jr s).length≤s.length:=by
 unfold jr Lib.trimLeftS;exact List.Sublist.length_le (List.dropWhile_sublist _)
theorem zhz {c:UInt8}{s l:Bs}(h:zdb c s=some l):l.length≤s.length:=by
 unfold zdb at h;have hb:=qf s;split at h
 ·simp at h
 rename_i x m hm
 rw[hm]at hb;split at h
 ·simp at h;subst h;simp at hb;omega
 simp at h
theorem zh1:∀ (s:Bs) (n k:Nat),(qv n k s).2.2.length≤s.length:=by
 intro s
 induction s with
 | nil=>intro n k;simp[qv]
 | cons x l ih =>
   intro n k;unfold qv;split
   ·exact Nat.le_trans (ih _ _) (by simp)
   simp
theorem zjv (m b:Bool)(s:Bs):(zci m b s).2.s.length≤s.length:=by
 unfold zci;split
 ·simp
 rename_i y l
 split
 ·have:=zh1 (y :: l) 0 0;generalize qv 0 0 (y :: l)=G at *;obtain⟨n,k,s2⟩:=G;exact this
 simp
theorem zl6 (st:St):(za4 st).2.s.length≤st.s.length:=by
 unfold za4;split
 ·simp
 rename_i x l hl
 rw[hl];split
 ·exact Nat.le_trans (zjv _ _ _) (by simp)
 exact zjv _ _ _
section
variable {α:Type} {one:St→α→St × α}
theorem zp4 (h:∀ st a,(one st a).1.s.length≤st.s.length) (shut:UInt8):∀ (k:Nat) (st:St) (a:α),(zc4 one shut k st a).1.s.length≤st.s.length:=by
 intro k
 induction k with
 | zero=>intro st a;simp[zc4]
 | succ k ih =>
   intro st a;unfold zc4;split
   ·simp
   have h1:=h st a;generalize one st a=G at *;obtain⟨hA,a1⟩:=G;simp only at h1 ⊢;split
   ·exact h1
   split
   ·rename_i l hl
    exact Nat.le_trans (zhz hl) h1
   have hb:=qf hA.s;split
   ·rename_i l hl
    have:=zhz hl;have:=ih ⟨l,false⟩ a1;simp only at this;omega
   have:=ih ⟨jr (jr hA.s),true⟩ a1;have h2:=qf (jr hA.s);simp only at this;omega
theorem zp2 (op:UInt8)(d:Int)(st:St):(zbb op d st).s.length≤st.s.length:=by
 unfold zbb;split
 ·rename_i l hl;exact zhz hl
 exact qf _
theorem zmy (h:∀ st a,(one st a).1.s.length≤st.s.length) (op shut:UInt8) (d:Int) (st:St) (a:α):(za5 one op shut d st a).1.s.length≤st.s.length:=by
 unfold za5;have h1:=zp2 op d st;generalize zbb op d st=G at *;split
 ·rename_i l hl
  have:=zhz hl;simp only;omega
 have h2:=zp4 h shut (G.s.length+2) ⟨jr G.s,G.bad⟩ a;have:=qf G.s;simp only at h2;omega
end
theorem zos (names:List Bs)(nm:Bs)(st:St):(zbq names nm st).s.length≤st.s.length:=by
 unfold zbq;split
 ·simp
 split
 ·rename_i l hl;exact zhz hl
 exact qf _
theorem zml {val:St→J × St}(h:∀ st,(val st).2.s.length≤st.s.length)(st:St)(a:List J):(zcj val st a).1.s.length≤st.s.length:=h st
theorem zly {val:St→J × St}(h:∀ st,(val st).2.s.length≤st.s.length)(st:St)(a:List (Bs × J)):(zbp val st a).1.s.length≤st.s.length:=by
 unfold zbp;have h1:=zgr ⟨jr st.s,st.bad⟩;have hb:=qf st.s;generalize zav ⟨jr st.s,st.bad⟩=G at *;obtain⟨nm,hA⟩:=G;simp only at h1 ⊢;have h2:=zos (a.map (·.1)) nm hA;generalize zbq (a.map (·.1)) nm hA=C at *;have h3:=h C;generalize val C=V at *;obtain⟨x,st2⟩:=V;simp only at h3 ⊢;omega
theorem zlx {val:St→J × St}(st:St)(a:List (Bs × J)):(zbp val st a).2.length=a.length+1:=by
 unfold zbp;generalize zav ⟨jr st.s,st.bad⟩=G at *;obtain⟨nm,hA⟩:=G;simp only;generalize val (zbq (a.map (·.1)) nm hA)=V at *;obtain⟨x,st2⟩:=V;simp
theorem zpr {val:St→J × St}(h:∀ st,(val st).2.s.length≤st.s.length)(d:Int)(c:UInt8)(st:St):(zgu val d c st).2.s.length≤st.s.length:=by
 unfold zgu;split
 ·exact zb0 _ _
 split
 ·exact zb0 _ _
 split
 ·exact zb0 _ _
 split
 ·exact zgr _
 split
 ·exact zmy (zml h) _ _ _ _ _
 split
 ·exact zmy (zly h) _ _ _ _ _
 exact zl6 _
theorem zjm:∀ (f:Nat) (d:Int) (st:St),(j6 f d st).2.s.length≤st.s.length:=by
 intro f
 induction f with
 | zero=>intro d st;simp[j6]
 | succ f ih =>
   intro d st;have hb:=qf st.s;unfold j6;split
   ·simp
   rename_i c l hl
   rw[hl]at hb;split
   ·exact hb
   exact Nat.le_trans (zpr (ih (d+1)) _ _ _) hb
end
section

mutual
def q9:Int→J→Bool
 | d,.mk k n t l p =>
   if k=0 then (n==0)&&((t==[])&&(l.isEmpty&&p.isEmpty))
   else if k=1 then ((n==0)||(n==1))&&((t==[])&&(l.isEmpty&&p.isEmpty))
   else if k=2 then decide (-9007199254740991≤n)&&(decide (n≤9007199254740991)&&((t==[])&&(l.isEmpty&&p.isEmpty)))
   else if k=3 then (n==0)&&(Lib.validD t&&(l.isEmpty&&p.isEmpty))
   else if n≠0∨t≠[]∨8≤d then false
   else if k=4 then zde (d+1) l&&p.isEmpty
   else if k=5 then zdf (d+1) [] p&&l.isEmpty
   else false
def zde:Int→List J→Bool
 | _,[]=>true
 | d,j :: js=>q9 d j&&zde d js
def zdf:Int→List Bs→List (Bs × J)→Bool
 | _,_,[]=>true
 | d,names,(nm,j) :: ps=>!names.contains nm&&(Lib.validD nm&&(q9 d j&&zdf d (names++[nm]) ps))
end

mutual
def fits:Nat→J→Bool
 | N,.mk _ n t l p=>(decide (-9223372036854775808≤n)&&decide (n≤9223372036854775807))&&(decide (t.length≤N)&&(decide (l.length≤N)&&(decide (p.length≤N)&&(fitsl N l&&fitsp N p))))
def fitsl:Nat→List J→Bool
 | _,[]=>true
 | N,j :: js=>fits N j&&fitsl N js
def fitsp:Nat→List (Bs × J)→Bool
 | _,[]=>true
 | N,(nm,j) :: ps=>decide (nm.length≤N)&&(fits N j&&fitsp N ps)
end
theorem fits.open {N:Nat}{k n:Int}{t:Bs}{l:List J}{p:List (Bs × J)}(h:fits N (.mk k n t l p)=true):t.length≤N∧l.length≤N∧p.length≤N∧fitsl N l=true∧fitsp N p=true:=by
 unfold fits at h;rw[Bool.and_eq_true]at h;simpa using h.2
theorem fits.int {N:Nat}{k n:Int}{t:Bs}{l:List J}{p:List (Bs × J)}(h:fits N (.mk k n t l p)=true) : -9223372036854775808≤n∧n≤9223372036854775807:=by
 unfold fits at h;rw[Bool.and_eq_true]at h;simpa using h.1
theorem fitsl.at {N:Nat}:∀ (l:List J),fitsl N l=true→∀ (i:Nat) (j:J),l[i]? = some j→fits N j=true:=by
 intro l
 induction l with
 | nil=>intro _ i j h;simp at h
 | cons x l ih =>
   intro h i j hi;unfold fitsl at h;simp at h;cases i with
   | zero=>simp at hi;subst hi;exact h.1
   | succ i=>exact ih h.2 i j (by simpa using hi)
theorem fitsp.at {N:Nat}:∀ (l:List (Bs × J)),fitsp N l=true→∀ (i:Nat) (nm:Bs) (j:J),l[i]? = some (nm,j)→nm.length≤N∧fits N j=true:=by
 intro l
 induction l with
 | nil=>intro _ i nm j h;simp at h
 | cons x l ih =>
   obtain⟨xn,xj⟩:=x;intro h i nm j hi;unfold fitsp at h;simp at h;cases i with
   | zero=>simp at hi;obtain⟨rfl,rfl⟩:=hi;exact⟨h.1,h.2.1⟩
   | succ i=>exact ih h.2.2 i nm j (by simpa using hi)
end
end Go.Proofs.YtffggpplnjibgaaGreatDoor
