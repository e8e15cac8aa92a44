/-
 What the calls of package json come to,on lists of bytes: plain functions;no program in sight.
-/
import Derived.Lib.RuneBytes
import Derived.Lib.Strings
import Derived.Shelf.Unicode.DecodeSlow
import Derived.Lib.SlTrimSet
import Derived.Lib.TrimU
import Derived.Lib.ValidU
open Go.Lib renaming encodeRune→zc
open List renaming length_cons→zo,length_append→zq
namespace Go.Proofs.YtmgfncjfgkllcaaGreatDoor
set_option linter.unusedVariables false
set_option linter.unusedSimpArgs false
set_option linter.unusedSectionVars false
section

abbrev Bs:=List UInt8
structure St where
 s:Bs
 bad:Bool
def ja (s:Bs):Bs:=Lib.trimLeftS s [32,9,10,13]
def zdn (c:UInt8) (s:Bs):Option Bs :=
 match ja s with
 | []=>none
 | x :: l=>if x=c then some l else none
def zaa (p:Bs) (st:St):St:=if Lib.hasPrefix st.s p then ⟨Lib.trimPrefix st.s p,st.bad⟩ else ⟨st.s,true⟩
def zgz (x:UInt8):Option Nat :=
 if 48≤x.toNat∧x.toNat≤57 then some (x.toNat - 48)
 else if 97≤(x.toNat ||| 32)∧(x.toNat ||| 32)≤102 then some ((x.toNat ||| 32) - 87)
 else none
def zcp:Nat→Nat→St→Nat × St
 | 0,n,st=>(n,st)
 | k + 1,n,st =>
   match st.s with
   | []=>(0,⟨[],true⟩)
   | x :: l=>match zgz x with
     | some v=>zcp k (16 * n+v) ⟨l,st.bad⟩
     | none=>(0,⟨x :: l,true⟩)
def zdo (st:St):Nat × St :=
 match zcp 4 0 st with
 | (n,st1) =>
   if n<55296∨57344≤n then (n,st1)
   else if 56320≤n then (0,⟨st1.s,true⟩)
   else match zcp 4 0 (zaa [92,117] st1) with
    | (low,st2)=>if st2.bad∨low<56320∨57344≤low then (0,⟨st2.s,true⟩) else (65536+(n - 55296) * 1024+low - 56320,st2)
def zcc (c:UInt8):Option Nat :=
 if c=34 then some 34 else if c=92 then some 92 else if c=47 then some 47
 else if c=98 then some 8 else if c=102 then some 12 else if c=110 then some 10 else if c=114 then some 13 else if c=116 then some 9 else none
def j5 (st:St):Nat × St :=
 match st.s with
 | []=>(0,⟨[],true⟩)
 | c :: l=>match zcc c with
   | some v=>(v,⟨l,st.bad⟩)
   | none=>if c=117 then zdo ⟨l,st.bad⟩ else (0,⟨l,true⟩)
def qf (out:Bs) (st:St):Option Bs × Bs × St :=
 let c:=(Lib.decodeGo ⟨st.s.toArray⟩).1
 let size:=(Lib.decodeGo ⟨st.s.toArray⟩).2
 let l:=st.s.drop size
 if size=0∨c<32∨(c=65533∧size=1) then (none,out,⟨l,true⟩)
 else if c=34 then (some out,out,⟨l,st.bad⟩)
 else if c=92 then (none,out++zc (j5 ⟨l,st.bad⟩).1,(j5 ⟨l,st.bad⟩).2)
 else (none,out++zc c,⟨l,st.bad⟩)
def j4:Nat→Bs→St→Bs × St
 | 0,_,st=>([],st)
 | k + 1,out,st =>
   if st.bad then ([],st)
   else match qf out st with
    | (some r,_,st')=>(r,st')
    | (none,out',st')=>j4 k out' st'
def zbk (st:St):Bs × St:=j4 (st.s.length+2) [] (zaa [34] st)
theorem zx0 (n b0 b1 b2 b3:Nat):(Lib.decodeN n b0 b1 b2 b3).2≤4:=by
 unfold Lib.decodeN
 repeat' split
 all_goals simp
theorem zvq (n b0 b1 b2 b3:Nat)(hn:1≤n):(Lib.decodeN n b0 b1 b2 b3).2≤n:=by
 unfold Lib.decodeN
 repeat' split
 all_goals (simp only;omega)
theorem zfj (s:Bs):(Lib.decodeGo ⟨s.toArray⟩).1≤1114111∧(Lib.decodeGo ⟨s.toArray⟩).2≤s.length∧(Lib.decodeGo ⟨s.toArray⟩).2≤4∧(s≠[]→1≤(Lib.decodeGo ⟨s.toArray⟩).2):=by
 have hA:(ByteArray.mk s.toArray).size=s.length:=rfl;unfold Lib.decodeGo;split
 ·rename_i h0
  refine⟨by simp,by simp,by simp,fun h=>?_⟩;rw[hA]at h0;exact absurd (List.length_eq_zero_iff.1 h0) h
 rename_i h0
 rw[hA]at h0;rw[Lib.decode_at,hA];exact⟨Lib.decodeN_rune_le _ _ _ _ _ (UInt8.toNat_lt _),zvq _ _ _ _ _ (by omega),zx0 _ _ _ _ _,fun _=>Lib.decodeN_ge1 _ _ _ _ _⟩
theorem zei (p:Bs) (st:St):(zaa p st).s.length≤st.s.length:=by
 unfold zaa;split
 ·unfold Lib.trimPrefix;split
  ·simp
  simp
 simp
theorem zu4:∀ (k n:Nat) (st:St),(zcp k n st).2.s.length≤st.s.length:=by
 intro k
 induction k with
 | zero=>intro n st;simp[zcp]
 | succ k ih =>
   intro n st;unfold zcp;split
   ·simp
   rename_i x l hl
   rw[hl];split
   ·rename_i v hv
    have:=ih (16 * n+v) ⟨l,st.bad⟩;exact Nat.le_trans this (by simp)
   simp
theorem zwn (st:St):(zdo st).2.s.length≤st.s.length:=by
 unfold zdo;have h1:=zu4 4 0 st;generalize zcp 4 0 st=G at *;obtain⟨n,hA⟩:=G;simp only at h1 ⊢;split
 ·exact h1
 split
 ·exact h1
 have h2:=zu4 4 0 (zaa [92,117] hA);have h3:=zei [92,117] hA;generalize zcp 4 0 (zaa [92,117] hA)=G2 at *;obtain⟨n2,st2⟩:=G2;simp only at h2 ⊢;split
 ·exact Nat.le_trans h2 (Nat.le_trans h3 h1)
 exact Nat.le_trans h2 (Nat.le_trans h3 h1)
theorem zfu (st:St):(j5 st).2.s.length≤st.s.length:=by
 unfold j5;split
 ·simp
 rename_i c l hl
 rw[hl];split
 ·simp
 split
 ·exact Nat.le_trans (zwn _) (by simp)
 simp
theorem zbo (r:Int):(zc r).length≤4:=by
 unfold zc;rw[List.length_map];unfold Lib.encodeRuneZ
 repeat' split
 all_goals simp
end
section

inductive J where
 | mk (kind int:Int) (text:Bs) (list:List J) (pairs:List (Bs × J))
namespace J
def kind:J→Int | mk k _ _ _ _=>k
def int:J→Int | mk _ n _ _ _=>n
def text:J→Bs | mk _ _ t _ _=>t
def list:J→List J | mk _ _ _ l _=>l
def pairs:J→List (Bs × J) | mk _ _ _ _ p=>p
def zero:J:=mk 0 0 [] [] []
end J

def j6:Nat→Nat→Bs→Nat × Nat × Bs
 | n,k,[]=>(n,k,[])
 | n,k,x :: l=>if 48≤x.toNat∧x.toNat≤57 then j6 (if n≤9007199254740991 then 10 * n+(x.toNat - 48) else n) (k+1) l else (n,k,x :: l)
def zbv (minus:Bool) (bad:Bool) (s:Bs):J × St :=
 match s with
 | []=>(J.zero,⟨[],true⟩)
 | y :: m =>
   if 48≤y.toNat∧y.toNat≤57 then
    match j6 0 0 (y :: m) with
    | (n,k,s2)=>(.mk 2 (if minus then -(n:Int) else n) [] [] [],⟨s2,bad||(decide (9007199254740991<n)||(decide (y=48)&&(decide (1<k)||minus)))⟩)
   else (J.zero,⟨y :: m,true⟩)
def zb1 (st:St):J × St :=
 match st.s with
 | []=>(J.zero,st)
 | x :: l=>if x=45 then zbv true st.bad l else zbv false st.bad (x :: l)
section
variable {α:Type}
def zbm (one:St→α→St × α) (shut:UInt8):Nat→St→α→St × α
 | 0,st,a=>(st,a)
 | k + 1,st,a =>
   if st.bad then (st,a) else
   match one st a with
   | (st1,a1) =>
     if st1.bad then (st1,a1) else
     match zdn shut st1.s with
     | some l=>(⟨l,false⟩,a1)
     | none=>match zdn 44 (ja st1.s) with
       | some l=>zbm one shut k ⟨l,false⟩ a1
       | none=>zbm one shut k ⟨ja (ja st1.s),true⟩ a1
def zb9 (op:UInt8) (d:Int) (st:St):St :=
 match zdn op st.s with
 | some l=>⟨l,st.bad||decide (8<d)⟩
 | none=>⟨ja st.s,true⟩
def zae (one:St→α→St × α) (op shut:UInt8) (d:Int) (st:St) (a:α):St × α :=
 match zdn shut (zb9 op d st).s with
 | some l=>(⟨l,(zb9 op d st).bad⟩,a)
 | none=>zbm one shut ((zb9 op d st).s.length+2) ⟨ja (zb9 op d st).s,(zb9 op d st).bad⟩ a
end
def zbn (val:St→J × St) (st:St) (a:List J):St × List J:=((val st).2,a++[(val st).1])
def zbw (names:List Bs) (nm:Bs) (st:St):St :=
 if names.contains nm then ⟨st.s,true⟩
 else match zdn 58 st.s with
  | some l=>⟨l,st.bad⟩
  | none=>⟨ja st.s,true⟩
def za4 (val:St→J × St) (st:St) (a:List (Bs × J)):St × List (Bs × J) :=
 match zbk ⟨ja st.s,st.bad⟩ with
 | (nm,st1)=>match val (zbw (a.map (·.1)) nm st1) with
   | (x,st2)=>(st2,a++[(nm,x)])
def zlc:Bs:=[110,117,108,108]
def zlb:Bs:=[116,114,117,101]
def zgn:Bs:=[102,97,108,115,101]
def zc5 (val:St→J × St) (d:Int) (c:UInt8) (st:St):J × St :=
 if c=110 then (J.zero,zaa zlc st)
 else if c=116 then (.mk 1 1 [] [] [],zaa zlb st)
 else if c=102 then (.mk 1 0 [] [] [],zaa zgn st)
 else if c=34 then (.mk 3 0 (zbk st).1 [] [],(zbk st).2)
 else if c=91 then (.mk 4 0 [] (zae (zbn val) 91 93 (d+1) st []).2 [],(zae (zbn val) 91 93 (d+1) st []).1)
 else if c=123 then (.mk 5 0 [] [] (zae (za4 val) 123 125 (d+1) st []).2,(zae (za4 val) 123 125 (d+1) st []).1)
 else zb1 st
def jg:Nat→Int→St→J × St
 | 0,_,st=>(J.zero,st)
 | f+1,d,st =>
   match ja st.s with
   | []=>(J.zero,⟨[],true⟩)
   | c :: l=>if st.bad then (J.zero,⟨c :: l,true⟩) else zc5 (jg f (d+1)) d c ⟨c :: l,false⟩
def zht (s:Bs):Option J :=
 match jg 10 0 ⟨s,false⟩ with
 | (v,st)=>if st.bad∨ja st.s≠[] then none else some v
end
section
theorem zk6 (out:Bs)(st:St):(∀ r o st',qf out st=(some r,o,st')→r.length≤out.length∧st'.s.length≤st.s.length) ∧
 (∀ o st',qf out st=(none,o,st')→o.length+4 * st'.s.length≤out.length+4 * st.s.length∧st'.s.length≤st.s.length):=by
 obtain⟨d1,d2,d3,d4⟩:=zfj st.s;unfold qf;dsimp only;generalize hc:(Lib.decodeGo ⟨st.s.toArray⟩).1=c at *;generalize hs:(Lib.decodeGo ⟨st.s.toArray⟩).2=size at *;have hl:(st.s.drop size).length=st.s.length - size:=by simp
 have hA:=zfu ⟨st.s.drop size,st.bad⟩;generalize st.s.drop size=l at *;simp only at hA ⊢;have e1:=zbo c;have e2:=zbo ((j5 ⟨l,st.bad⟩).1);generalize j5 ⟨l,st.bad⟩=E at *;split
 ·refine⟨by simp,?_⟩;rintro o st' h;simp at h;obtain⟨rfl,rfl⟩:=h;simp only;omega
 rename_i hn
 have hs1:1≤size:=by omega
 split
 ·refine⟨?_,by simp⟩;rintro r o st' h;simp at h;obtain⟨rfl,rfl,rfl⟩:=h;simp only;omega
 split
 ·refine⟨by simp,?_⟩;rintro o st' h;simp at h;obtain⟨rfl,rfl⟩:=h;simp only[zq];omega
 refine⟨by simp,?_⟩;rintro o st' h;simp at h;obtain⟨rfl,rfl⟩:=h;simp only[zq];omega
theorem zgh:∀ (k:Nat) (out:Bs) (st:St),(j4 k out st).1.length≤out.length+4 * st.s.length∧(j4 k out st).2.s.length≤st.s.length:=by
 intro k
 induction k with
 | zero=>intro out st;simp[j4]
 | succ k ih =>
   intro out st;obtain⟨h1,h2⟩:=zk6 out st;unfold j4;split
   ·simp
   split
   ·rename_i r o st' he
    have:=h1 _ _ _ he;simp only;omega
   rename_i o st' he
   have:=h2 _ _ he;have:=ih o st';omega
theorem zk7 (st:St):(zbk st).1.length≤4 * st.s.length:=by
 have h1:=(zgh (st.s.length+2) [] (zaa [34] st)).1;have h2:=zei [34] st;simp only[List.length_nil]at h1;unfold zbk;omega
theorem zk8 (st:St):(zbk st).2.s.length≤st.s.length:=by
 have h1:=(zgh (st.s.length+2) [] (zaa [34] st)).2;have h2:=zei [34] st;unfold zbk;omega
end
section

theorem zac (s:Bs):(ja s).length≤s.length:=by
 unfold ja Lib.trimLeftS;exact List.Sublist.length_le (List.dropWhile_sublist _)
theorem znc {c:UInt8}{s l:Bs}(h:zdn c s=some l):l.length≤s.length:=by
 unfold zdn at h;have hb:=zac s;split at h
 ·simp at h
 rename_i x m hm
 rw[hm]at hb;split at h
 ·simp at h;subst h;simp at hb;omega
 simp at h
theorem zne:∀ (s:Bs) (n k:Nat),(j6 n k s).2.2.length≤s.length:=by
 intro s
 induction s with
 | nil=>intro n k;simp[j6]
 | cons x l ih =>
   intro n k;unfold j6;split
   ·exact Nat.le_trans (ih _ _) (by simp)
   simp
theorem zqe (m b:Bool)(s:Bs):(zbv m b s).2.s.length≤s.length:=by
 unfold zbv;split
 ·simp
 rename_i y l
 split
 ·have:=zne (y :: l) 0 0;generalize j6 0 0 (y :: l)=G at *;obtain⟨n,k,s2⟩:=G;exact this
 simp
theorem zul (st:St):(zb1 st).2.s.length≤st.s.length:=by
 unfold zb1;split
 ·simp
 rename_i x l hl
 rw[hl];split
 ·exact Nat.le_trans (zqe _ _ _) (by simp)
 exact zqe _ _ _
section
variable {α:Type} {one:St→α→St × α}
theorem zz1 (h:∀ st a,(one st a).1.s.length≤st.s.length) (shut:UInt8):∀ (k:Nat) (st:St) (a:α),(zbm one shut k st a).1.s.length≤st.s.length:=by
 intro k
 induction k with
 | zero=>intro st a;simp[zbm]
 | succ k ih =>
   intro st a;unfold zbm;split
   ·simp
   have h1:=h st a;generalize one st a=G at *;obtain⟨hA,a1⟩:=G;simp only at h1 ⊢;split
   ·exact h1
   split
   ·rename_i l hl
    exact Nat.le_trans (znc hl) h1
   have hb:=zac hA.s;split
   ·rename_i l hl
    have:=znc hl;have:=ih ⟨l,false⟩ a1;simp only at this;omega
   have:=ih ⟨ja (ja hA.s),true⟩ a1;have h2:=zac (ja hA.s);simp only at this;omega
theorem zzw (op:UInt8)(d:Int)(st:St):(zb9 op d st).s.length≤st.s.length:=by
 unfold zb9;split
 ·rename_i l hl;exact znc hl
 exact zac _
theorem zvo (h:∀ st a,(one st a).1.s.length≤st.s.length) (op shut:UInt8) (d:Int) (st:St) (a:α):(zae one op shut d st a).1.s.length≤st.s.length:=by
 unfold zae;have h1:=zzw op d st;generalize zb9 op d st=G at *;split
 ·rename_i l hl
  have:=znc hl;simp only;omega
 have h2:=zz1 h shut (G.s.length+2) ⟨ja G.s,G.bad⟩ a;have:=zac G.s;simp only at h2;omega
end
theorem zx1 (names:List Bs)(nm:Bs)(st:St):(zbw names nm st).s.length≤st.s.length:=by
 unfold zbw;split
 ·simp
 split
 ·rename_i l hl;exact znc hl
 exact zac _
theorem zuw {val:St→J × St}(h:∀ st,(val st).2.s.length≤st.s.length)(st:St)(a:List J):(zbn val st a).1.s.length≤st.s.length:=h st
theorem zou {val:St→J × St}(h:∀ st,(val st).2.s.length≤st.s.length)(st:St)(a:List (Bs × J)):(za4 val st a).1.s.length≤st.s.length:=by
 unfold za4;have h1:=zk8 ⟨ja st.s,st.bad⟩;have hb:=zac st.s;generalize zbk ⟨ja st.s,st.bad⟩=G at *;obtain⟨nm,hA⟩:=G;simp only at h1 ⊢;have h2:=zx1 (a.map (·.1)) nm hA;generalize zbw (a.map (·.1)) nm hA=C at *;have h3:=h C;generalize val C=V at *;obtain⟨x,st2⟩:=V;simp only at h3 ⊢;omega
theorem zuc {val:St→J × St}(st:St)(a:List (Bs × J)):(za4 val st a).2.length=a.length+1:=by
 unfold za4;generalize zbk ⟨ja st.s,st.bad⟩=G at *;obtain⟨nm,hA⟩:=G;simp only;generalize val (zbw (a.map (·.1)) nm hA)=V at *;obtain⟨x,st2⟩:=V;simp
theorem zzn {val:St→J × St}(h:∀ st,(val st).2.s.length≤st.s.length)(d:Int)(c:UInt8)(st:St):(zc5 val d c st).2.s.length≤st.s.length:=by
 unfold zc5;split
 ·exact zei _ _
 split
 ·exact zei _ _
 split
 ·exact zei _ _
 split
 ·exact zk8 _
 split
 ·exact zvo (zuw h) _ _ _ _ _
 split
 ·exact zvo (zou h) _ _ _ _ _
 exact zul _
theorem zig:∀ (f:Nat) (d:Int) (st:St),(jg f d st).2.s.length≤st.s.length:=by
 intro f
 induction f with
 | zero=>intro d st;simp[jg]
 | succ f ih =>
   intro d st;have hb:=zac st.s;unfold jg;split
   ·simp
   rename_i c l hl
   rw[hl]at hb;split
   ·exact hb
   exact Nat.le_trans (zzn (ih (d+1)) _ _ _) hb
end
section

mutual
def j0:Int→J→Bool
 | d,.mk k n t l p =>
   if k=0 then (n==0)&&((t==[])&&(l.isEmpty&&p.isEmpty))
   else if k=1 then ((n==0)||(n==1))&&((t==[])&&(l.isEmpty&&p.isEmpty))
   else if k=2 then decide (-9007199254740991≤n)&&(decide (n≤9007199254740991)&&((t==[])&&(l.isEmpty&&p.isEmpty)))
   else if k=3 then (n==0)&&(Lib.validD t&&(l.isEmpty&&p.isEmpty))
   else if n≠0∨t≠[]∨8≤d then false
   else if k=4 then za5 (d+1) l&&p.isEmpty
   else if k=5 then zao (d+1) [] p&&l.isEmpty
   else false
def za5:Int→List J→Bool
 | _,[]=>true
 | d,j :: js=>j0 d j&&za5 d js
def zao:Int→List Bs→List (Bs × J)→Bool
 | _,_,[]=>true
 | d,names,(nm,j) :: ps=>!names.contains nm&&(Lib.validD nm&&(j0 d j&&zao d (names++[nm]) ps))
end

mutual
def fits:Nat→J→Bool
 | N,.mk _ n t l p=>(decide (-9223372036854775808≤n)&&decide (n≤9223372036854775807))&&(decide (t.length≤N)&&(decide (l.length≤N)&&(decide (p.length≤N)&&(fitsl N l&&fitsp N p))))
def fitsl:Nat→List J→Bool
 | _,[]=>true
 | N,j :: js=>fits N j&&fitsl N js
def fitsp:Nat→List (Bs × J)→Bool
 | _,[]=>true
 | N,(nm,j) :: ps=>decide (nm.length≤N)&&(fits N j&&fitsp N ps)
end
theorem fits.open {N:Nat}{k n:Int}{t:Bs}{l:List J}{p:List (Bs × J)}(h:fits N (.mk k n t l p)=true):t.length≤N∧l.length≤N∧p.length≤N∧fitsl N l=true∧fitsp N p=true:=by
 unfold fits at h;rw[Bool.and_eq_true]at h;simpa using h.2
theorem fits.int {N:Nat}{k n:Int}{t:Bs}{l:List J}{p:List (Bs × J)}(h:fits N (.mk k n t l p)=true) : -9223372036854775808≤n∧n≤9223372036854775807:=by
 unfold fits at h;rw[Bool.and_eq_true]at h;simpa using h.1
theorem fitsl.at {N:Nat}:∀ (l:List J),fitsl N l=true→∀ (i:Nat) (j:J),l[i]? = some j→fits N j=true:=by
 intro l
 induction l with
 | nil=>intro _ i j h;simp at h
 | cons x l ih =>
   intro h i j hi;unfold fitsl at h;simp at h;cases i with
   | zero=>simp at hi;subst hi;exact h.1
   | succ i=>exact ih h.2 i j (by simpa using hi)
theorem fitsp.at {N:Nat}:∀ (l:List (Bs × J)),fitsp N l=true→∀ (i:Nat) (nm:Bs) (j:J),l[i]? = some (nm,j)→nm.length≤N∧fits N j=true:=by
 intro l
 induction l with
 | nil=>intro _ i nm j h;simp at h
 | cons x l ih =>
   obtain⟨xn,xj⟩:=x;intro h i nm j hi;unfold fitsp at h;simp at h;cases i with
   | zero=>simp at hi;obtain⟨rfl,rfl⟩:=hi;exact⟨h.1,h.2.1⟩
   | succ i=>exact ih h.2.2 i nm j (by simpa using hi)
end
section

def Sc (c:Int):Prop:=(0≤c∧c<55296)∨(57344≤c∧c≤1114111)
inductive Vl:Bs→Prop
 | nil:Vl []
 | cons (c:Int) (hc:Sc c) (l:Bs) (h:Vl l):Vl (zc c++l)
theorem zu9 (l:Bs)(k:Nat):(ByteArray.mk l.toArray).get! k=l.getD k 0:=by
 simp only[ByteArray.get!];show l.toArray[k]! = _;rw[List.getElem!_toArray];simp[List.getD,getElem!_def];rfl
theorem zqv (l:Bs)(h:l≠[]):Lib.decodeGo ⟨l.toArray⟩=Lib.decodeN l.length (l.getD 0 0).toNat (l.getD 1 0).toNat (l.getD 2 0).toNat (l.getD 3 0).toNat:=by
 unfold Lib.decodeGo;rw[if_neg (by show ¬ l.length=0;simpa using h),Lib.decode_at];simp only[zu9];rfl
theorem zad (x:Int)(h0:0≤x)(h1:x<256):(x.toNat.toUInt8).toNat=x.toNat:=by
 simp;omega
theorem enc_one {c:Int}(h0:0≤c)(h1:c≤127):zc c=[c.toNat.toUInt8]:=by unfold zc;rw[Lib.encodeRuneZ_one h0 h1];rfl
theorem zgb {c:Int}(h0:128≤c)(h1:c≤2047):zc c=[(192+c / 64).toNat.toUInt8,(128+c % 64).toNat.toUInt8]:=by unfold zc;rw[Lib.encodeRuneZ_two h0 h1];rfl
theorem zdh {c:Int}(h:(2048≤c∧c<55296)∨(57343<c∧c≤65535)):zc c=[(224+c / 4096).toNat.toUInt8,(128+c / 64 % 64).toNat.toUInt8,(128+c % 64).toNat.toUInt8]:=by unfold zc;rw[Lib.encodeRuneZ_three h];rfl
theorem zem {c:Int}(h0:65536≤c)(h1:c≤1114111):zc c=[(240+c / 262144).toNat.toUInt8,(128+c / 4096 % 64).toNat.toUInt8,(128+c / 64 % 64).toNat.toUInt8,(128+c % 64).toNat.toUInt8]:=by unfold zc;rw[Lib.encodeRuneZ_four h0 h1];rfl
theorem zgm {c:Int}(h:Sc c):(0≤c∧c≤127)∨(128≤c∧c≤2047)∨((2048≤c∧c<55296)∨(57343<c∧c≤65535))∨(65536≤c∧c≤1114111):=by
 unfold Sc at h;omega
theorem zjr (c:Int):1≤(zc c).length:=by
 unfold zc;rw[List.length_map];exact(Lib.encodeRuneZ_length c).1
set_option maxRecDepth 4000 in
theorem zl3 {c:Int} (h:Sc c) (r:Bs):Lib.decodeGo ⟨(zc c++r).toArray⟩=(c.toNat,(zc c).length):=by
 have hA:zc c++r≠[]:=by
  have:=zjr c;intro e;have:=congrArg List.length e;simp at this;simp[this]at *
 rw[zqv _ hA];rcases zgm h with h | h | h | h
 ·rw[enc_one h.1 h.2];simp only[List.cons_append,List.nil_append,List.getD_cons_zero,zad c h.1 (by omega)];unfold Lib.decodeN;rw[if_pos (by omega)];rfl
 ·rw[zgb h.1 h.2];simp only[List.cons_append,List.nil_append,List.getD_cons_zero,List.getD_cons_succ,zo,zad (192+c / 64) (by omega) (by omega),zad (128+c % 64) (by omega) (by omega)];unfold Lib.decodeN;rw[if_neg (by omega),if_pos (by omega),if_pos (by omega)];apply Prod.ext
  ·simp only;omega
  rfl
 ·rw[zdh h];simp only[List.cons_append,List.nil_append,List.getD_cons_zero,List.getD_cons_succ,zo,zad (224+c / 4096) (by omega) (by omega),zad (128+c / 64 % 64) (by omega) (by omega),zad (128+c % 64) (by omega) (by omega)];unfold Lib.decodeN;rw[if_neg (by omega),if_neg (by omega),if_pos (by omega),if_pos (by omega)];apply Prod.ext
  ·simp only;omega
  rfl
 rw[zem h.1 h.2];simp only[List.cons_append,List.nil_append,List.getD_cons_zero,List.getD_cons_succ,zo,zad (240+c / 262144) (by omega) (by omega),zad (128+c / 4096 % 64) (by omega) (by omega),zad (128+c / 64 % 64) (by omega) (by omega),zad (128+c % 64) (by omega) (by omega)];unfold Lib.decodeN;rw[if_neg (by omega),if_neg (by omega),if_neg (by omega),if_pos (by omega),if_pos (by omega)];apply Prod.ext
 ·simp only;omega
 rfl
theorem zgi (l:Bs)(k:Nat)(h:k≤l.length)(hk:k=1∨k=2∨k=3∨k=4) :
 (k=1→∃ a t,l=a :: t)∧(k=2→∃ a b t,l=a :: b :: t)∧(k=3→∃ a b c t,l=a :: b :: c :: t)∧(k=4→∃ a b c d t,l=a :: b :: c :: d :: t):=by
 rcases l with _ | ⟨a,_ | ⟨b,_ | ⟨c,_ | ⟨d,t⟩⟩⟩⟩<;>simp at h ⊢<;>omega
theorem zk4 {x:UInt8}{n:Nat}(h:x.toNat=n):x=n.toUInt8:=by
 apply UInt8.toNat_inj.1;rw[h];have:=UInt8.toNat_lt x;simp;omega
set_option maxRecDepth 4000 in
theorem zpc {s:Bs} (hs:s≠[]) {c k:Nat} (hd:Lib.decodeGo ⟨s.toArray⟩=(c,k)) (hn:¬ (c=65533∧k=1)):Sc c∧s=zc c++s.drop k∧k=(zc c).length:=by
 rw[zqv _ hs]at hd;unfold Lib.decodeN at hd
 have hA:1≤s.length:=by
  rcases s with _ | ⟨a,t⟩
  ·exact absurd rfl hs
  simp
 split at hd
 ·rename_i h0
  obtain⟨rfl,rfl⟩:=Prod.mk.injEq .. ▸ hd;obtain⟨a,t,rfl⟩:=(zgi s 1 hA (by omega)).1 rfl;simp only[List.getD_cons_zero]at h0 ⊢;rw[enc_one (by omega) (by omega)];refine⟨by unfold Sc;omega,?_,rfl⟩;simp
 split at hd
 ·rename_i h0 h1
  split at hd
  ·rename_i h2
   obtain⟨rfl,rfl⟩:=Prod.mk.injEq .. ▸ hd;obtain⟨a,b,t,rfl⟩:=(zgi s 2 (by omega) (by omega)).2.1 rfl;simp only[List.getD_cons_zero,List.getD_cons_succ]at h0 h1 h2 ⊢;have ha:=UInt8.toNat_lt a;have hb:=UInt8.toNat_lt b;rw[zgb (by omega) (by omega)];refine⟨by unfold Sc;omega,?_,rfl⟩;simp only[List.drop_succ_cons,List.drop_zero,List.cons_append,List.nil_append]
   congr 1
   ·exact zk4 (by omega)
   congr 1
   exact zk4 (by omega)
  simp only[Prod.mk.injEq]at hd;omega
 split at hd
 ·rename_i h0 h1 h2
  split at hd
  ·rename_i h3
   obtain⟨rfl,rfl⟩:=Prod.mk.injEq .. ▸ hd;obtain⟨a,b,d,t,rfl⟩:=(zgi s 3 (by omega) (by omega)).2.2.1 rfl;simp only[List.getD_cons_zero,List.getD_cons_succ]at h0 h1 h2 h3 ⊢;have ha:=UInt8.toNat_lt a;have hb:=UInt8.toNat_lt b;have hB:=UInt8.toNat_lt d;rw[zdh (by omega)];refine⟨by unfold Sc;omega,?_,rfl⟩;simp only[List.drop_succ_cons,List.drop_zero,List.cons_append,List.nil_append]
   congr 1
   ·exact zk4 (by omega)
   congr 1
   ·exact zk4 (by omega)
   congr 1
   exact zk4 (by omega)
  simp only[Prod.mk.injEq]at hd;omega
 split at hd
 ·rename_i h0 h1 h2 h3
  split at hd
  ·rename_i h4
   obtain⟨rfl,rfl⟩:=Prod.mk.injEq .. ▸ hd;obtain⟨a,b,d,e,t,rfl⟩:=(zgi s 4 (by omega) (by omega)).2.2.2 rfl;simp only[List.getD_cons_zero,List.getD_cons_succ]at h0 h1 h2 h3 h4 ⊢;have ha:=UInt8.toNat_lt a;have hb:=UInt8.toNat_lt b;have hB:=UInt8.toNat_lt d;have hel:=UInt8.toNat_lt e;rw[zem (by omega) (by omega)];refine⟨by unfold Sc;omega,?_,rfl⟩;simp only[List.drop_succ_cons,List.drop_zero,List.cons_append,List.nil_append]
   congr 1
   ·exact zk4 (by omega)
   congr 1
   ·exact zk4 (by omega)
   congr 1
   ·exact zk4 (by omega)
   congr 1
   exact zk4 (by omega)
  simp only[Prod.mk.injEq]at hd;omega
 simp only[Prod.mk.injEq]at hd;omega
theorem z26 (l:Bs)(h:l≠[]):Lib.decodeL l=Lib.decodeGo ⟨l.toArray⟩:=by
 unfold Lib.decodeGo;rw[if_neg (by show ¬ l.length=0;simpa using h)];rfl
theorem zre:∀ (n:Nat) (l:Bs),l.length≤n→(Lib.validGoD n l=true↔Vl l):=by
 intro n
 induction n with
 | zero =>
   intro l h;have:l=[]:=List.length_eq_zero_iff.1 (by omega);subst this;exact⟨fun _ => .nil,fun _=>rfl⟩
 | succ n ih =>
   intro l h;unfold Lib.validGoD;by_cases hl:l=[]
   ·subst hl;exact⟨fun _ => .nil,fun _=>by simp⟩
   rw[if_neg hl,z26 l hl];constructor
   ·intro hv;split at hv
    ·cases hv
    rename_i hb
    obtain⟨hc,hs,hk⟩:=zpc hl (c:=(Lib.decodeGo ⟨l.toArray⟩).1) (k:=(Lib.decodeGo ⟨l.toArray⟩).2) rfl hb;have hp:=zjr ((Lib.decodeGo ⟨l.toArray⟩).1:Int);have:=(ih (l.drop (Lib.decodeGo ⟨l.toArray⟩).2) (by rw[List.length_drop];omega)).1 hv;rw[hs];exact .cons _ hc _ this
   intro hv;cases hv with
   | nil=>exact absurd rfl hl
   | cons c hc r hr =>
     rw[zl3 hc];have hp:=zjr c;rw[if_neg,List.drop_left]
     ·exact(ih r (by simp at h;omega)).2 hr
     simp only;rintro⟨h1,h2⟩;have:c=65533:=by unfold Sc at hc;omega
     subst this
     revert h2
     decide
theorem zih (l:Bs):Lib.validD l=true↔Vl l:=zre _ l (Nat.le_refl _)
theorem Vl.append {a b:Bs}(ha:Vl a)(hb:Vl b):Vl (a++b):=by
 induction ha with
 | nil=>exact hb
 | cons c hc l _ ih=>rw[List.append_assoc];exact .cons c hc _ ih
theorem Vl.rune (r:Int):Vl (zc r):=by
 by_cases h:Sc r
 ·have:=Vl.cons r h [] .nil
  rwa [List.append_nil]at this
 have:zc r=zc 65533:=by
  unfold zc;rw[Lib.encodeRuneZ_bad (by unfold Sc at h;omega)];rfl
 rw[this];have:=Vl.cons 65533 (by unfold Sc;omega) [] .nil
 rwa [List.append_nil]at this
/-! ### the reference's signs -/
def zb8 (s:Bs):Int × Nat :=
 if s=[] then (0,0) else if (Lib.decodeGo ⟨s.toArray⟩).1=65533∧(Lib.decodeGo ⟨s.toArray⟩).2=1 then (0,0) else (((Lib.decodeGo ⟨s.toArray⟩).1:Int),(Lib.decodeGo ⟨s.toArray⟩).2)
theorem zsw {c:Int}(h:Sc c)(r:Bs):zb8 (zc c++r)=(c,(zc c).length):=by
 have hp:=zjr c;unfold zb8;rw[if_neg (by intro e;have:=congrArg List.length e;simp at this;rw[this.1]at hp;simp at hp),zl3 h,if_neg]
 ·simp only[Prod.mk.injEq,and_true];unfold Sc at h;omega
 rintro⟨h1,h2⟩;have:c=65533:=by unfold Sc at h;simp only at h1;omega
 subst this
 revert h2;decide
theorem zkx {s:Bs}{c:Int}{k:Nat}(h:zb8 s=(c,k))(hk:k≠0):Sc c∧s=zc c++s.drop k∧k=(zc c).length:=by
 unfold zb8 at h;split at h
 ·simp only[Prod.mk.injEq]at h;omega
 rename_i hs
 split at h
 ·simp only[Prod.mk.injEq]at h;omega
 rename_i hb
 obtain⟨rfl,rfl⟩:=Prod.mk.injEq .. ▸ h;exact zpc hs rfl hb
theorem zpd {s:Bs}(h:∀ c r,Sc c→s≠zc c++r):zb8 s=(0,0):=by
 unfold zb8;split
 ·rfl
 rename_i hs
 split
 ·rfl
 rename_i hb
 obtain⟨h1,h2,_⟩:=zpc hs (c:=(Lib.decodeGo ⟨s.toArray⟩).1) (k:=(Lib.decodeGo ⟨s.toArray⟩).2) rfl hb;exact absurd h2 (h _ _ h1)
theorem zng {s:Bs} {c:Int} {k:Nat} (h:zb8 s=(c,k)):k≤4∧k≤s.length∧0≤c∧c≤1114111∧(k=0→c=0):=by
 by_cases hk:k=0
 ·subst hk
  have:c=0:=by
   unfold zb8 at h;split at h
   ·cases h;rfl
   rename_i hs
   split at h
   ·cases h;rfl
   simp only[Prod.mk.injEq]at h;have:=(zfj s).2.2.2 hs;omega
  subst this;exact⟨by omega,by omega,by omega,by omega,fun _=>rfl⟩
 obtain⟨h1,h2,h3⟩:=zkx h hk;have:=zbo c;refine⟨by omega,?_,by unfold Sc at h1;omega,by unfold Sc at h1;omega,fun e=>absurd e hk⟩;rw[h2,zq];omega
def zcx:Int→Bs→Option Int
 | c,[]=>some c
 | c,x :: l=>if x.toNat<128∨191<x.toNat then none else zcx (64 * c+x.toNat - 128) l
def zca (b:Nat):Int × Nat:=if b<192 then (b,1) else if b<224 then (b - 192,2) else if b<240 then (b - 224,3) else (b - 240,4)
def zi9 (c:Int):Prop:=1114111<c∨(55296≤c∧c≤57343)
instance (c:Int):Decidable (zi9 c):=by unfold zi9;exact inferInstance
def zgp (s:Bs):Int × Nat :=
 match s with
 | []=>(0,0)
 | b :: t =>
   if ((zca b.toNat).2=1∧128≤b.toNat)∨t.length+1<(zca b.toNat).2 then (0,0)
   else match zcx (zca b.toNat).1 (t.take ((zca b.toNat).2 - 1)) with
    | none=>(0,0)
    | some c=>if zi9 c∨zc c≠(b :: t).take (zca b.toNat).2 then (0,0) else (c,(zca b.toNat).2)
theorem zmt:∀ (l:Bs) (c c':Int),0≤c→zcx c l=some c'→0≤c':=by
 intro l
 induction l with
 | nil=>intro c c' h e;unfold zcx at e;cases e;exact h
 | cons x l ih =>
   intro c c' h e;unfold zcx at e;split at e
   ·cases e
   exact ih _ _ (by omega) e
theorem zms (b:Nat):0≤(zca b).1:=by
 unfold zca
 repeat' split
 all_goals (simp only;omega)
theorem zt4 (s:Bs):zgp s=zb8 s:=by
 by_cases hA:∃ c r,Sc c∧s=zc c++r
 ·obtain ⟨c,r,hc,rfl⟩:=hA;rw[zsw hc];rcases zgm hc with h | h | h | h
  ·rw[enc_one h.1 h.2];unfold zgp;simp only[List.cons_append,List.nil_append];rw[zad c h.1 (by omega)];have e:zca c.toNat=(c,1):=by unfold zca;rw[if_pos (by omega)];congr 1;omega
   rw[e];simp only[zo,Nat.sub_self,List.take_zero,zcx,enc_one h.1 h.2,List.take_succ_cons];rw[if_neg (by omega),if_neg (by unfold zi9;simp;omega)];rfl
  ·rw[zgb h.1 h.2];unfold zgp;simp only[List.cons_append,List.nil_append];rw[zad (192+c / 64) (by omega) (by omega)];have e:zca (192+c / 64).toNat=(c / 64,2):=by unfold zca;rw[if_neg (by omega),if_pos (by omega)];congr 1;omega
   rw[e];simp only[zo,Nat.add_one_sub_one,List.take_zero,List.take_succ_cons,zcx];rw[zad (128+c % 64) (by omega) (by omega),if_neg (by omega),if_neg (by omega)];have e2:64 * (c / 64)+((128+c % 64).toNat:Int) - 128=c:=by omega
   simp only[e2];rw[zgb h.1 h.2,if_neg (by unfold zi9;simp;omega)];rfl
  ·rw[zdh h];unfold zgp;simp only[List.cons_append,List.nil_append];rw[zad (224+c / 4096) (by omega) (by omega)];have e:zca (224+c / 4096).toNat=(c / 4096,3):=by unfold zca;rw[if_neg (by omega),if_neg (by omega),if_pos (by omega)];congr 1;omega
   rw[e];simp only[zo,Nat.add_one_sub_one,List.take_zero,List.take_succ_cons,zcx];rw[zad (128+c / 64 % 64) (by omega) (by omega),zad (128+c % 64) (by omega) (by omega),if_neg (by omega),if_neg (by omega),if_neg (by omega)];have e2:64 * (64 * (c / 4096)+((128+c / 64 % 64).toNat:Int) - 128)+((128+c % 64).toNat:Int) - 128=c:=by omega
   simp only[e2];rw[zdh h,if_neg (by unfold zi9;simp;omega)];rfl
  rw[zem h.1 h.2];unfold zgp;simp only[List.cons_append,List.nil_append];rw[zad (240+c / 262144) (by omega) (by omega)];have e:zca (240+c / 262144).toNat=(c / 262144,4):=by unfold zca;rw[if_neg (by omega),if_neg (by omega),if_neg (by omega)];congr 1;omega
  rw[e];simp only[zo,Nat.add_one_sub_one,List.take_zero,List.take_succ_cons,zcx];rw[zad (128+c / 4096 % 64) (by omega) (by omega),zad (128+c / 64 % 64) (by omega) (by omega),zad (128+c % 64) (by omega) (by omega),if_neg (by omega),if_neg (by omega),if_neg (by omega),if_neg (by omega)];have e2:64 * (64 * (64 * (c / 262144)+((128+c / 4096 % 64).toNat:Int) - 128)+((128+c / 64 % 64).toNat:Int) - 128)+((128+c % 64).toNat:Int) - 128=c:=by omega
  simp only[e2];rw[zem h.1 h.2,if_neg (by unfold zi9;simp;omega)];rfl
 rw[zpd (fun c r hc e=>hA ⟨c,r,hc,e⟩)];unfold zgp;split
 ·rfl
 rename_i b t
 split
 ·rfl
 split
 ·rfl
 rename_i c hcc
 split
 ·rfl
 rename_i hno
 exfalso;apply hA;have h0:=zmt _ _ _ (zms _) hcc;refine⟨c,(b :: t).drop (zca b.toNat).2,?_,?_⟩
 ·have:¬ zi9 c:=fun h=>hno (.inl h)
  unfold zi9 at this;unfold Sc;omega
 have:zc c=(b :: t).take (zca b.toNat).2:=Classical.byContradiction fun h=>hno (.inr h)
 rw[this,List.take_append_drop]
end
end Go.Proofs.YtmgfncjfgkllcaaGreatDoor
