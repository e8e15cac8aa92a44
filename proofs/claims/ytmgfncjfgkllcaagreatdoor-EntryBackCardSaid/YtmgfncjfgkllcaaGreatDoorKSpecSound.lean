/-
 What the calls of package json come to,on lists of bytes: plain functions;no program in sight.
-/
import Derived.Lib.RuneBytes
import Derived.Lib.Strings
import Derived.Shelf.Unicode.DecodeSlow
import Derived.Lib.SlTrimSet
import Derived.Lib.TrimU
import Derived.Lib.ValidU
open Go.Lib renaming encodeRune→zc
namespace Go.Proofs.YtmgfncjfgkllcaaGreatDoor
set_option linter.unusedVariables false
set_option linter.unusedSimpArgs false
set_option linter.unusedSectionVars false
section

abbrev Bs:=List UInt8
structure St where
 s:Bs
 bad:Bool
def jg (s:Bs):Bs:=Lib.trimLeftS s [32,9,10,13]
def zc4 (c:UInt8) (s:Bs):Option Bs :=
 match jg s with
 | []=>none
 | x :: l=>if x=c then some l else none
def zaj (p:Bs) (st:St):St:=if Lib.hasPrefix st.s p then ⟨Lib.trimPrefix st.s p,st.bad⟩ else ⟨st.s,true⟩
def zm0 (x:UInt8):Option Nat :=
 if 48≤x.toNat∧x.toNat≤57 then some (x.toNat - 48)
 else if 97≤(x.toNat ||| 32)∧(x.toNat ||| 32)≤102 then some ((x.toNat ||| 32) - 87)
 else none
def zfl:Nat→Nat→St→Nat × St
 | 0,n,st=>(n,st)
 | k + 1,n,st =>
   match st.s with
   | []=>(0,⟨[],true⟩)
   | x :: l=>match zm0 x with
     | some v=>zfl k (16 * n+v) ⟨l,st.bad⟩
     | none=>(0,⟨x :: l,true⟩)
def zgd (st:St):Nat × St :=
 match zfl 4 0 st with
 | (n,st1) =>
   if n<55296∨57344≤n then (n,st1)
   else if 56320≤n then (0,⟨st1.s,true⟩)
   else match zfl 4 0 (zaj [92,117] st1) with
    | (low,st2)=>if st2.bad∨low<56320∨57344≤low then (0,⟨st2.s,true⟩) else (65536+(n - 55296) * 1024+low - 56320,st2)
def zc6 (c:UInt8):Option Nat :=
 if c=34 then some 34 else if c=92 then some 92 else if c=47 then some 47
 else if c=98 then some 8 else if c=102 then some 12 else if c=110 then some 10 else if c=114 then some 13 else if c=116 then some 9 else none
def qh (st:St):Nat × St :=
 match st.s with
 | []=>(0,⟨[],true⟩)
 | c :: l=>match zc6 c with
   | some v=>(v,⟨l,st.bad⟩)
   | none=>if c=117 then zgd ⟨l,st.bad⟩ else (0,⟨l,true⟩)
def qg (out:Bs) (st:St):Option Bs × Bs × St :=
 let c:=(Lib.decodeGo ⟨st.s.toArray⟩).1
 let size:=(Lib.decodeGo ⟨st.s.toArray⟩).2
 let l:=st.s.drop size
 if size=0∨c<32∨(c=65533∧size=1) then (none,out,⟨l,true⟩)
 else if c=34 then (some out,out,⟨l,st.bad⟩)
 else if c=92 then (none,out++zc (qh ⟨l,st.bad⟩).1,(qh ⟨l,st.bad⟩).2)
 else (none,out++zc c,⟨l,st.bad⟩)
def j3:Nat→Bs→St→Bs × St
 | 0,_,st=>([],st)
 | k + 1,out,st =>
   if st.bad then ([],st)
   else match qg out st with
    | (some r,_,st')=>(r,st')
    | (none,out',st')=>j3 k out' st'
def zbj (st:St):Bs × St:=j3 (st.s.length+2) [] (zaj [34] st)
theorem zus (n b0 b1 b2 b3:Nat):(Lib.decodeN n b0 b1 b2 b3).2≤4:=by
 unfold Lib.decodeN
 repeat' split
 all_goals simp
theorem zss (n b0 b1 b2 b3:Nat)(hn:1≤n):(Lib.decodeN n b0 b1 b2 b3).2≤n:=by
 unfold Lib.decodeN
 repeat' split
 all_goals (simp only;omega)
theorem zh0 (s:Bs):(Lib.decodeGo ⟨s.toArray⟩).1≤1114111∧(Lib.decodeGo ⟨s.toArray⟩).2≤s.length∧(Lib.decodeGo ⟨s.toArray⟩).2≤4∧(s≠[]→1≤(Lib.decodeGo ⟨s.toArray⟩).2):=by
 have hA:(ByteArray.mk s.toArray).size=s.length:=rfl;unfold Lib.decodeGo;split
 ·rename_i h0
  refine⟨by simp,by simp,by simp,fun h=>?_⟩;rw[hA]at h0;exact absurd (List.length_eq_zero_iff.1 h0) h
 rename_i h0
 rw[hA]at h0;rw[Lib.decode_at,hA];exact⟨Lib.decodeN_rune_le _ _ _ _ _ (UInt8.toNat_lt _),zss _ _ _ _ _ (by omega),zus _ _ _ _ _,fun _=>Lib.decodeN_ge1 _ _ _ _ _⟩
theorem zc7 (p:Bs) (st:St):(zaj p st).s.length≤st.s.length:=by
 unfold zaj;split
 ·unfold Lib.trimPrefix;split
  ·simp
  simp
 simp
theorem zr7:∀ (k n:Nat) (st:St),(zfl k n st).2.s.length≤st.s.length:=by
 intro k
 induction k with
 | zero=>intro n st;simp[zfl]
 | succ k ih =>
   intro n st;unfold zfl;split
   ·simp
   rename_i x l hl
   rw[hl];split
   ·rename_i v hv
    have:=ih (16 * n+v) ⟨l,st.bad⟩;exact Nat.le_trans this (by simp)
   simp
theorem ztm (st:St):(zgd st).2.s.length≤st.s.length:=by
 unfold zgd;have h1:=zr7 4 0 st;generalize zfl 4 0 st=G at *;obtain⟨n,hA⟩:=G;simp only at h1 ⊢;split
 ·exact h1
 split
 ·exact h1
 have h2:=zr7 4 0 (zaj [92,117] hA);have h3:=zc7 [92,117] hA;generalize zfl 4 0 (zaj [92,117] hA)=G2 at *;obtain⟨n2,st2⟩:=G2;simp only at h2 ⊢;split
 ·exact Nat.le_trans h2 (Nat.le_trans h3 h1)
 exact Nat.le_trans h2 (Nat.le_trans h3 h1)
theorem zfv (st:St):(qh st).2.s.length≤st.s.length:=by
 unfold qh;split
 ·simp
 rename_i c l hl
 rw[hl];split
 ·simp
 split
 ·exact Nat.le_trans (ztm _) (by simp)
 simp
theorem zb7 (r:Int):(zc r).length≤4:=by
 unfold zc;rw[List.length_map];unfold Lib.encodeRuneZ
 repeat' split
 all_goals simp
end
section

inductive J where
 | mk (kind int:Int) (text:Bs) (list:List J) (pairs:List (Bs × J))
namespace J
def kind:J→Int | mk k _ _ _ _=>k
def int:J→Int | mk _ n _ _ _=>n
def text:J→Bs | mk _ _ t _ _=>t
def list:J→List J | mk _ _ _ l _=>l
def pairs:J→List (Bs × J) | mk _ _ _ _ p=>p
def zero:J:=mk 0 0 [] [] []
end J

def qk:Nat→Nat→Bs→Nat × Nat × Bs
 | n,k,[]=>(n,k,[])
 | n,k,x :: l=>if 48≤x.toNat∧x.toNat≤57 then qk (if n≤9007199254740991 then 10 * n+(x.toNat - 48) else n) (k+1) l else (n,k,x :: l)
def zcm (minus:Bool) (bad:Bool) (s:Bs):J × St :=
 match s with
 | []=>(J.zero,⟨[],true⟩)
 | y :: m =>
   if 48≤y.toNat∧y.toNat≤57 then
    match qk 0 0 (y :: m) with
    | (n,k,s2)=>(.mk 2 (if minus then -(n:Int) else n) [] [] [],⟨s2,bad||(decide (9007199254740991<n)||(decide (y=48)&&(decide (1<k)||minus)))⟩)
   else (J.zero,⟨y :: m,true⟩)
def za8 (st:St):J × St :=
 match st.s with
 | []=>(J.zero,st)
 | x :: l=>if x=45 then zcm true st.bad l else zcm false st.bad (x :: l)
section
variable {α:Type}
def zb9 (one:St→α→St × α) (shut:UInt8):Nat→St→α→St × α
 | 0,st,a=>(st,a)
 | k + 1,st,a =>
   if st.bad then (st,a) else
   match one st a with
   | (st1,a1) =>
     if st1.bad then (st1,a1) else
     match zc4 shut st1.s with
     | some l=>(⟨l,false⟩,a1)
     | none=>match zc4 44 (jg st1.s) with
       | some l=>zb9 one shut k ⟨l,false⟩ a1
       | none=>zb9 one shut k ⟨jg (jg st1.s),true⟩ a1
def zbv (op:UInt8) (d:Int) (st:St):St :=
 match zc4 op st.s with
 | some l=>⟨l,st.bad||decide (8<d)⟩
 | none=>⟨jg st.s,true⟩
def za9 (one:St→α→St × α) (op shut:UInt8) (d:Int) (st:St) (a:α):St × α :=
 match zc4 shut (zbv op d st).s with
 | some l=>(⟨l,(zbv op d st).bad⟩,a)
 | none=>zb9 one shut ((zbv op d st).s.length+2) ⟨jg (zbv op d st).s,(zbv op d st).bad⟩ a
end
def zcv (val:St→J × St) (st:St) (a:List J):St × List J:=((val st).2,a++[(val st).1])
def zcn (names:List Bs) (nm:Bs) (st:St):St :=
 if names.contains nm then ⟨st.s,true⟩
 else match zc4 58 st.s with
  | some l=>⟨l,st.bad⟩
  | none=>⟨jg st.s,true⟩
def zb2 (val:St→J × St) (st:St) (a:List (Bs × J)):St × List (Bs × J) :=
 match zbj ⟨jg st.s,st.bad⟩ with
 | (nm,st1)=>match val (zcn (a.map (·.1)) nm st1) with
   | (x,st2)=>(st2,a++[(nm,x)])
def zmj:Bs:=[110,117,108,108]
def zmi:Bs:=[116,114,117,101]
def zhh:Bs:=[102,97,108,115,101]
def zia (val:St→J × St) (d:Int) (c:UInt8) (st:St):J × St :=
 if c=110 then (J.zero,zaj zmj st)
 else if c=116 then (.mk 1 1 [] [] [],zaj zmi st)
 else if c=102 then (.mk 1 0 [] [] [],zaj zhh st)
 else if c=34 then (.mk 3 0 (zbj st).1 [] [],(zbj st).2)
 else if c=91 then (.mk 4 0 [] (za9 (zcv val) 91 93 (d+1) st []).2 [],(za9 (zcv val) 91 93 (d+1) st []).1)
 else if c=123 then (.mk 5 0 [] [] (za9 (zb2 val) 123 125 (d+1) st []).2,(za9 (zb2 val) 123 125 (d+1) st []).1)
 else za8 st
def jz:Nat→Int→St→J × St
 | 0,_,st=>(J.zero,st)
 | f+1,d,st =>
   match jg st.s with
   | []=>(J.zero,⟨[],true⟩)
   | c :: l=>if st.bad then (J.zero,⟨c :: l,true⟩) else zia (jz f (d+1)) d c ⟨c :: l,false⟩
def zhg (s:Bs):Option J :=
 match jz 10 0 ⟨s,false⟩ with
 | (v,st)=>if st.bad∨jg st.s≠[] then none else some v
end
section
theorem zi8 (out:Bs)(st:St):(∀ r o st',qg out st=(some r,o,st')→r.length≤out.length∧st'.s.length≤st.s.length) ∧
 (∀ o st',qg out st=(none,o,st')→o.length+4 * st'.s.length≤out.length+4 * st.s.length∧st'.s.length≤st.s.length):=by
 obtain⟨d1,d2,d3,d4⟩:=zh0 st.s;unfold qg;dsimp only;generalize hc:(Lib.decodeGo ⟨st.s.toArray⟩).1=c at *;generalize hs:(Lib.decodeGo ⟨st.s.toArray⟩).2=size at *;have hl:(st.s.drop size).length=st.s.length - size:=by simp
 have hA:=zfv ⟨st.s.drop size,st.bad⟩;generalize st.s.drop size=l at *;simp only at hA ⊢;have e1:=zb7 c;have e2:=zb7 ((qh ⟨l,st.bad⟩).1);generalize qh ⟨l,st.bad⟩=E at *;split
 ·refine⟨by simp,?_⟩;rintro o st' h;simp at h;obtain⟨rfl,rfl⟩:=h;simp only;omega
 rename_i hn
 have hs1:1≤size:=by omega
 split
 ·refine⟨?_,by simp⟩;rintro r o st' h;simp at h;obtain⟨rfl,rfl,rfl⟩:=h;simp only;omega
 split
 ·refine⟨by simp,?_⟩;rintro o st' h;simp at h;obtain⟨rfl,rfl⟩:=h;simp only[List.length_append];omega
 refine⟨by simp,?_⟩;rintro o st' h;simp at h;obtain⟨rfl,rfl⟩:=h;simp only[List.length_append];omega
theorem zew:∀ (k:Nat) (out:Bs) (st:St),(j3 k out st).1.length≤out.length+4 * st.s.length∧(j3 k out st).2.s.length≤st.s.length:=by
 intro k
 induction k with
 | zero=>intro out st;simp[j3]
 | succ k ih =>
   intro out st;obtain⟨h1,h2⟩:=zi8 out st;unfold j3;split
   ·simp
   split
   ·rename_i r o st' he
    have:=h1 _ _ _ he;simp only;omega
   rename_i o st' he
   have:=h2 _ _ he;have:=ih o st';omega
theorem zi9 (st:St):(zbj st).1.length≤4 * st.s.length:=by
 have h1:=(zew (st.s.length+2) [] (zaj [34] st)).1;have h2:=zc7 [34] st;simp only[List.length_nil]at h1;unfold zbj;omega
theorem zja (st:St):(zbj st).2.s.length≤st.s.length:=by
 have h1:=(zew (st.s.length+2) [] (zaj [34] st)).2;have h2:=zc7 [34] st;unfold zbj;omega
end
section

theorem qv (s:Bs):(jg s).length≤s.length:=by
 unfold jg Lib.trimLeftS;exact List.Sublist.length_le (List.dropWhile_sublist _)
theorem zk6 {c:UInt8}{s l:Bs}(h:zc4 c s=some l):l.length≤s.length:=by
 unfold zc4 at h;have hb:=qv s;split at h
 ·simp at h
 rename_i x m hm
 rw[hm]at hb;split at h
 ·simp at h;subst h;simp at hb;omega
 simp at h
theorem zk7:∀ (s:Bs) (n k:Nat),(qk n k s).2.2.length≤s.length:=by
 intro s
 induction s with
 | nil=>intro n k;simp[qk]
 | cons x l ih =>
   intro n k;unfold qk;split
   ·exact Nat.le_trans (ih _ _) (by simp)
   simp
theorem zn4 (m b:Bool)(s:Bs):(zcm m b s).2.s.length≤s.length:=by
 unfold zcm;split
 ·simp
 rename_i y l
 split
 ·have:=zk7 (y :: l) 0 0;generalize qk 0 0 (y :: l)=G at *;obtain⟨n,k,s2⟩:=G;exact this
 simp
theorem zrp (st:St):(za8 st).2.s.length≤st.s.length:=by
 unfold za8;split
 ·simp
 rename_i x l hl
 rw[hl];split
 ·exact Nat.le_trans (zn4 _ _ _) (by simp)
 exact zn4 _ _ _
section
variable {α:Type} {one:St→α→St × α}
theorem zwa (h:∀ st a,(one st a).1.s.length≤st.s.length) (shut:UInt8):∀ (k:Nat) (st:St) (a:α),(zb9 one shut k st a).1.s.length≤st.s.length:=by
 intro k
 induction k with
 | zero=>intro st a;simp[zb9]
 | succ k ih =>
   intro st a;unfold zb9;split
   ·simp
   have h1:=h st a;generalize one st a=G at *;obtain⟨hA,a1⟩:=G;simp only at h1 ⊢;split
   ·exact h1
   split
   ·rename_i l hl
    exact Nat.le_trans (zk6 hl) h1
   have hb:=qv hA.s;split
   ·rename_i l hl
    have:=zk6 hl;have:=ih ⟨l,false⟩ a1;simp only at this;omega
   have:=ih ⟨jg (jg hA.s),true⟩ a1;have h2:=qv (jg hA.s);simp only at this;omega
theorem zv7 (op:UInt8)(d:Int)(st:St):(zbv op d st).s.length≤st.s.length:=by
 unfold zbv;split
 ·rename_i l hl;exact zk6 hl
 exact qv _
theorem zsq (h:∀ st a,(one st a).1.s.length≤st.s.length) (op shut:UInt8) (d:Int) (st:St) (a:α):(za9 one op shut d st a).1.s.length≤st.s.length:=by
 unfold za9;have h1:=zv7 op d st;generalize zbv op d st=G at *;split
 ·rename_i l hl
  have:=zk6 hl;simp only;omega
 have h2:=zwa h shut (G.s.length+2) ⟨jg G.s,G.bad⟩ a;have:=qv G.s;simp only at h2;omega
end
theorem zut (names:List Bs)(nm:Bs)(st:St):(zcn names nm st).s.length≤st.s.length:=by
 unfold zcn;split
 ·simp
 split
 ·rename_i l hl;exact zk6 hl
 exact qv _
theorem zr0 {val:St→J × St}(h:∀ st,(val st).2.s.length≤st.s.length)(st:St)(a:List J):(zcv val st a).1.s.length≤st.s.length:=h st
theorem zrg {val:St→J × St}(h:∀ st,(val st).2.s.length≤st.s.length)(st:St)(a:List (Bs × J)):(zb2 val st a).1.s.length≤st.s.length:=by
 unfold zb2;have h1:=zja ⟨jg st.s,st.bad⟩;have hb:=qv st.s;generalize zbj ⟨jg st.s,st.bad⟩=G at *;obtain⟨nm,hA⟩:=G;simp only at h1 ⊢;have h2:=zut (a.map (·.1)) nm hA;generalize zcn (a.map (·.1)) nm hA=C at *;have h3:=h C;generalize val C=V at *;obtain⟨x,st2⟩:=V;simp only at h3 ⊢;omega
theorem zrf {val:St→J × St}(st:St)(a:List (Bs × J)):(zb2 val st a).2.length=a.length+1:=by
 unfold zb2;generalize zbj ⟨jg st.s,st.bad⟩=G at *;obtain⟨nm,hA⟩:=G;simp only;generalize val (zcn (a.map (·.1)) nm hA)=V at *;obtain⟨x,st2⟩:=V;simp
theorem zvz {val:St→J × St}(h:∀ st,(val st).2.s.length≤st.s.length)(d:Int)(c:UInt8)(st:St):(zia val d c st).2.s.length≤st.s.length:=by
 unfold zia;split
 ·exact zc7 _ _
 split
 ·exact zc7 _ _
 split
 ·exact zc7 _ _
 split
 ·exact zja _
 split
 ·exact zsq (zr0 h) _ _ _ _ _
 split
 ·exact zsq (zrg h) _ _ _ _ _
 exact zrp _
theorem znm:∀ (f:Nat) (d:Int) (st:St),(jz f d st).2.s.length≤st.s.length:=by
 intro f
 induction f with
 | zero=>intro d st;simp[jz]
 | succ f ih =>
   intro d st;have hb:=qv st.s;unfold jz;split
   ·simp
   rename_i c l hl
   rw[hl]at hb;split
   ·exact hb
   exact Nat.le_trans (zvz (ih (d+1)) _ _ _) hb
end
section

mutual
def jr:Int→J→Bool
 | d,.mk k n t l p =>
   if k=0 then (n==0)&&((t==[])&&(l.isEmpty&&p.isEmpty))
   else if k=1 then ((n==0)||(n==1))&&((t==[])&&(l.isEmpty&&p.isEmpty))
   else if k=2 then decide (-9007199254740991≤n)&&(decide (n≤9007199254740991)&&((t==[])&&(l.isEmpty&&p.isEmpty)))
   else if k=3 then (n==0)&&(Lib.validD t&&(l.isEmpty&&p.isEmpty))
   else if n≠0∨t≠[]∨8≤d then false
   else if k=4 then zae (d+1) l&&p.isEmpty
   else if k=5 then qp (d+1) [] p&&l.isEmpty
   else false
def zae:Int→List J→Bool
 | _,[]=>true
 | d,j :: js=>jr d j&&zae d js
def qp:Int→List Bs→List (Bs × J)→Bool
 | _,_,[]=>true
 | d,names,(nm,j) :: ps=>!names.contains nm&&(Lib.validD nm&&(jr d j&&qp d (names++[nm]) ps))
end

mutual
def fits:Nat→J→Bool
 | N,.mk _ n t l p=>(decide (-9223372036854775808≤n)&&decide (n≤9223372036854775807))&&(decide (t.length≤N)&&(decide (l.length≤N)&&(decide (p.length≤N)&&(fitsl N l&&fitsp N p))))
def fitsl:Nat→List J→Bool
 | _,[]=>true
 | N,j :: js=>fits N j&&fitsl N js
def fitsp:Nat→List (Bs × J)→Bool
 | _,[]=>true
 | N,(nm,j) :: ps=>decide (nm.length≤N)&&(fits N j&&fitsp N ps)
end
theorem fits.open {N:Nat}{k n:Int}{t:Bs}{l:List J}{p:List (Bs × J)}(h:fits N (.mk k n t l p)=true):t.length≤N∧l.length≤N∧p.length≤N∧fitsl N l=true∧fitsp N p=true:=by
 unfold fits at h;rw[Bool.and_eq_true]at h;simpa using h.2
theorem fits.int {N:Nat}{k n:Int}{t:Bs}{l:List J}{p:List (Bs × J)}(h:fits N (.mk k n t l p)=true) : -9223372036854775808≤n∧n≤9223372036854775807:=by
 unfold fits at h;rw[Bool.and_eq_true]at h;simpa using h.1
theorem fitsl.at {N:Nat}:∀ (l:List J),fitsl N l=true→∀ (i:Nat) (j:J),l[i]? = some j→fits N j=true:=by
 intro l
 induction l with
 | nil=>intro _ i j h;simp at h
 | cons x l ih =>
   intro h i j hi;unfold fitsl at h;simp at h;cases i with
   | zero=>simp at hi;subst hi;exact h.1
   | succ i=>exact ih h.2 i j (by simpa using hi)
theorem fitsp.at {N:Nat}:∀ (l:List (Bs × J)),fitsp N l=true→∀ (i:Nat) (nm:Bs) (j:J),l[i]? = some (nm,j)→nm.length≤N∧fits N j=true:=by
 intro l
 induction l with
 | nil=>intro _ i nm j h;simp at h
 | cons x l ih =>
   obtain⟨xn,xj⟩:=x;intro h i nm j hi;unfold fitsp at h;simp at h;cases i with
   | zero=>simp at hi;obtain⟨rfl,rfl⟩:=hi;exact⟨h.1,h.2.1⟩
   | succ i=>exact ih h.2.2 i nm j (by simpa using hi)
end
end Go.Proofs.YtmgfncjfgkllcaaGreatDoor
