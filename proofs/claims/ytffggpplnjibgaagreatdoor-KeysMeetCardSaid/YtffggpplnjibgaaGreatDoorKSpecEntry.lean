/-
 What the calls of package json come to,on lists of bytes: plain functions;no program in sight.
-/
import Derived.Lib.RuneBytes
import Derived.Lib.Strings
import Derived.Shelf.Unicode.DecodeSlow
import Derived.Lib.SlTrimSet
import Derived.Lib.TrimU
import Derived.Lib.ValidU
import Derived.Shelf.GgClosure.StringsIndexFunc
import Derived.Lib.DecodeN
open Go.Lib renaming encodeRune→zk
namespace Go.Proofs.YtffggpplnjibgaaGreatDoor
set_option linter.unusedVariables false
set_option linter.unusedSimpArgs false
set_option linter.unusedSectionVars false
section

abbrev Bs:=List UInt8
structure St where
 s:Bs
 bad:Bool
def jq (s:Bs):Bs:=Lib.trimLeftS s [32,9,10,13]
def zel (c:UInt8) (s:Bs):Option Bs :=
 match jq s with
 | []=>none
 | x :: l=>if x=c then some l else none
def zaa (p:Bs) (st:St):St:=if Lib.hasPrefix st.s p then ⟨Lib.trimPrefix st.s p,st.bad⟩ else ⟨st.s,true⟩
def zhh (x:UInt8):Option Nat :=
 if 48≤x.toNat∧x.toNat≤57 then some (x.toNat - 48)
 else if 97≤(x.toNat ||| 32)∧(x.toNat ||| 32)≤102 then some ((x.toNat ||| 32) - 87)
 else none
def zb6:Nat→Nat→St→Nat × St
 | 0,n,st=>(n,st)
 | k + 1,n,st =>
   match st.s with
   | []=>(0,⟨[],true⟩)
   | x :: l=>match zhh x with
     | some v=>zb6 k (16 * n+v) ⟨l,st.bad⟩
     | none=>(0,⟨x :: l,true⟩)
def zds (st:St):Nat × St :=
 match zb6 4 0 st with
 | (n,st1) =>
   if n<55296∨57344≤n then (n,st1)
   else if 56320≤n then (0,⟨st1.s,true⟩)
   else match zb6 4 0 (zaa [92,117] st1) with
    | (low,st2)=>if st2.bad∨low<56320∨57344≤low then (0,⟨st2.s,true⟩) else (65536+(n - 55296) * 1024+low - 56320,st2)
def zcq (c:UInt8):Option Nat :=
 if c=34 then some 34 else if c=92 then some 92 else if c=47 then some 47
 else if c=98 then some 8 else if c=102 then some 12 else if c=110 then some 10 else if c=114 then some 13 else if c=116 then some 9 else none
def qf (st:St):Nat × St :=
 match st.s with
 | []=>(0,⟨[],true⟩)
 | c :: l=>match zcq c with
   | some v=>(v,⟨l,st.bad⟩)
   | none=>if c=117 then zds ⟨l,st.bad⟩ else (0,⟨l,true⟩)
def zao (out:Bs) (st:St):Option Bs × Bs × St :=
 let c:=(Lib.decodeGo ⟨st.s.toArray⟩).1
 let size:=(Lib.decodeGo ⟨st.s.toArray⟩).2
 let l:=st.s.drop size
 if size=0∨c<32∨(c=65533∧size=1) then (none,out,⟨l,true⟩)
 else if c=34 then (some out,out,⟨l,st.bad⟩)
 else if c=92 then (none,out++zk (qf ⟨l,st.bad⟩).1,(qf ⟨l,st.bad⟩).2)
 else (none,out++zk c,⟨l,st.bad⟩)
def qe:Nat→Bs→St→Bs × St
 | 0,_,st=>([],st)
 | k + 1,out,st =>
   if st.bad then ([],st)
   else match zao out st with
    | (some r,_,st')=>(r,st')
    | (none,out',st')=>qe k out' st'
def zbc (st:St):Bs × St:=qe (st.s.length+2) [] (zaa [34] st)
theorem zuq (n b0 b1 b2 b3:Nat):(Lib.decodeN n b0 b1 b2 b3).2≤4:=by
 unfold Lib.decodeN
 repeat' split
 all_goals simp
theorem zsp (n b0 b1 b2 b3:Nat)(hn:1≤n):(Lib.decodeN n b0 b1 b2 b3).2≤n:=by
 unfold Lib.decodeN
 repeat' split
 all_goals (simp only;omega)
theorem zey (s:Bs):(Lib.decodeGo ⟨s.toArray⟩).1≤1114111∧(Lib.decodeGo ⟨s.toArray⟩).2≤s.length∧(Lib.decodeGo ⟨s.toArray⟩).2≤4∧(s≠[]→1≤(Lib.decodeGo ⟨s.toArray⟩).2):=by
 have hB:(ByteArray.mk s.toArray).size=s.length:=rfl;unfold Lib.decodeGo;split
 ·rename_i h0
  refine⟨by simp,by simp,by simp,fun h=>?_⟩;rw[hB]at h0;exact absurd (List.length_eq_zero_iff.1 h0) h
 rename_i h0
 rw[hB]at h0;rw[Lib.decode_at,hB];exact⟨Lib.decodeN_rune_le _ _ _ _ _ (UInt8.toNat_lt _),zsp _ _ _ _ _ (by omega),zuq _ _ _ _ _,fun _=>Lib.decodeN_ge1 _ _ _ _ _⟩
theorem zd6 (p:Bs) (st:St):(zaa p st).s.length≤st.s.length:=by
 unfold zaa;split
 ·unfold Lib.trimPrefix;split
  ·simp
  simp
 simp
theorem zsb:∀ (k n:Nat) (st:St),(zb6 k n st).2.s.length≤st.s.length:=by
 intro k
 induction k with
 | zero=>intro n st;simp[zb6]
 | succ k ih =>
   intro n st;unfold zb6;split
   ·simp
   rename_i x l hl
   rw[hl];split
   ·rename_i v hv
    have:=ih (16 * n+v) ⟨l,st.bad⟩;exact Nat.le_trans this (by simp)
   simp
theorem ztk (st:St):(zds st).2.s.length≤st.s.length:=by
 unfold zds;have h1:=zsb 4 0 st;generalize zb6 4 0 st=G at *;obtain⟨n,hB⟩:=G;simp only at h1 ⊢;split
 ·exact h1
 split
 ·exact h1
 have h2:=zsb 4 0 (zaa [92,117] hB);have h3:=zd6 [92,117] hB;generalize zb6 4 0 (zaa [92,117] hB)=G2 at *;obtain⟨n2,st2⟩:=G2;simp only at h2 ⊢;split
 ·exact Nat.le_trans h2 (Nat.le_trans h3 h1)
 exact Nat.le_trans h2 (Nat.le_trans h3 h1)
theorem zfb (st:St):(qf st).2.s.length≤st.s.length:=by
 unfold qf;split
 ·simp
 rename_i c l hl
 rw[hl];split
 ·simp
 split
 ·exact Nat.le_trans (ztk _) (by simp)
 simp
theorem za7 (r:Int):(zk r).length≤4:=by
 unfold zk;rw[List.length_map];unfold Lib.encodeRuneZ
 repeat' split
 all_goals simp
end
section

inductive J where
 | mk (kind int:Int) (text:Bs) (list:List J) (pairs:List (Bs × J))
namespace J
def kind:J→Int | mk k _ _ _ _=>k
def int:J→Int | mk _ n _ _ _=>n
def text:J→Bs | mk _ _ t _ _=>t
def list:J→List J | mk _ _ _ l _=>l
def pairs:J→List (Bs × J) | mk _ _ _ _ p=>p
def zero:J:=mk 0 0 [] [] []
end J

def qj:Nat→Nat→Bs→Nat × Nat × Bs
 | n,k,[]=>(n,k,[])
 | n,k,x :: l=>if 48≤x.toNat∧x.toNat≤57 then qj (if n≤9007199254740991 then 10 * n+(x.toNat - 48) else n) (k+1) l else (n,k,x :: l)
def zbx (minus:Bool) (bad:Bool) (s:Bs):J × St :=
 match s with
 | []=>(J.zero,⟨[],true⟩)
 | y :: m =>
   if 48≤y.toNat∧y.toNat≤57 then
    match qj 0 0 (y :: m) with
    | (n,k,s2)=>(.mk 2 (if minus then -(n:Int) else n) [] [] [],⟨s2,bad||(decide (9007199254740991<n)||(decide (y=48)&&(decide (1<k)||minus)))⟩)
   else (J.zero,⟨y :: m,true⟩)
def zcl (st:St):J × St :=
 match st.s with
 | []=>(J.zero,st)
 | x :: l=>if x=45 then zbx true st.bad l else zbx false st.bad (x :: l)
section
variable {α:Type}
def zbz (one:St→α→St × α) (shut:UInt8):Nat→St→α→St × α
 | 0,st,a=>(st,a)
 | k + 1,st,a =>
   if st.bad then (st,a) else
   match one st a with
   | (st1,a1) =>
     if st1.bad then (st1,a1) else
     match zel shut st1.s with
     | some l=>(⟨l,false⟩,a1)
     | none=>match zel 44 (jq st1.s) with
       | some l=>zbz one shut k ⟨l,false⟩ a1
       | none=>zbz one shut k ⟨jq (jq st1.s),true⟩ a1
def zcf (op:UInt8) (d:Int) (st:St):St :=
 match zel op st.s with
 | some l=>⟨l,st.bad||decide (8<d)⟩
 | none=>⟨jq st.s,true⟩
def zaj (one:St→α→St × α) (op shut:UInt8) (d:Int) (st:St) (a:α):St × α :=
 match zel shut (zcf op d st).s with
 | some l=>(⟨l,(zcf op d st).bad⟩,a)
 | none=>zbz one shut ((zcf op d st).s.length+2) ⟨jq (zcf op d st).s,(zcf op d st).bad⟩ a
end
def zbq (val:St→J × St) (st:St) (a:List J):St × List J:=((val st).2,a++[(val st).1])
def zbn (names:List Bs) (nm:Bs) (st:St):St :=
 if names.contains nm then ⟨st.s,true⟩
 else match zel 58 st.s with
  | some l=>⟨l,st.bad⟩
  | none=>⟨jq st.s,true⟩
def za2 (val:St→J × St) (st:St) (a:List (Bs × J)):St × List (Bs × J) :=
 match zbc ⟨jq st.s,st.bad⟩ with
 | (nm,st1)=>match val (zbn (a.map (·.1)) nm st1) with
   | (x,st2)=>(st2,a++[(nm,x)])
def zlg:Bs:=[110,117,108,108]
def zlf:Bs:=[116,114,117,101]
def zg5:Bs:=[102,97,108,115,101]
def zcw (val:St→J × St) (d:Int) (c:UInt8) (st:St):J × St :=
 if c=110 then (J.zero,zaa zlg st)
 else if c=116 then (.mk 1 1 [] [] [],zaa zlf st)
 else if c=102 then (.mk 1 0 [] [] [],zaa zg5 st)
 else if c=34 then (.mk 3 0 (zbc st).1 [] [],(zbc st).2)
 else if c=91 then (.mk 4 0 [] (zaj (zbq val) 91 93 (d+1) st []).2 [],(zaj (zbq val) 91 93 (d+1) st []).1)
 else if c=123 then (.mk 5 0 [] [] (zaj (za2 val) 123 125 (d+1) st []).2,(zaj (za2 val) 123 125 (d+1) st []).1)
 else zcl st
def jy:Nat→Int→St→J × St
 | 0,_,st=>(J.zero,st)
 | f+1,d,st =>
   match jq st.s with
   | []=>(J.zero,⟨[],true⟩)
   | c :: l=>if st.bad then (J.zero,⟨c :: l,true⟩) else zcw (jy f (d+1)) d c ⟨c :: l,false⟩
def zjo (s:Bs):Option J :=
 match jy 10 0 ⟨s,false⟩ with
 | (v,st)=>if st.bad∨jq st.s≠[] then none else some v
end
section
theorem zj8 (out:Bs)(st:St):(∀ r o st',zao out st=(some r,o,st')→r.length≤out.length∧st'.s.length≤st.s.length) ∧
 (∀ o st',zao out st=(none,o,st')→o.length+4 * st'.s.length≤out.length+4 * st.s.length∧st'.s.length≤st.s.length):=by
 obtain⟨d1,d2,d3,d4⟩:=zey st.s;unfold zao;dsimp only;generalize hc:(Lib.decodeGo ⟨st.s.toArray⟩).1=c at *;generalize hs:(Lib.decodeGo ⟨st.s.toArray⟩).2=size at *;have hl:(st.s.drop size).length=st.s.length - size:=by simp
 have hB:=zfb ⟨st.s.drop size,st.bad⟩;generalize st.s.drop size=l at *;simp only at hB ⊢;have e1:=za7 c;have e2:=za7 ((qf ⟨l,st.bad⟩).1);generalize qf ⟨l,st.bad⟩=E at *;split
 ·refine⟨by simp,?_⟩;rintro o st' h;simp at h;obtain⟨rfl,rfl⟩:=h;simp only;omega
 rename_i hn
 have hs1:1≤size:=by omega
 split
 ·refine⟨?_,by simp⟩;rintro r o st' h;simp at h;obtain⟨rfl,rfl,rfl⟩:=h;simp only;omega
 split
 ·refine⟨by simp,?_⟩;rintro o st' h;simp at h;obtain⟨rfl,rfl⟩:=h;simp only[List.length_append];omega
 refine⟨by simp,?_⟩;rintro o st' h;simp at h;obtain⟨rfl,rfl⟩:=h;simp only[List.length_append];omega
theorem zf1:∀ (k:Nat) (out:Bs) (st:St),(qe k out st).1.length≤out.length+4 * st.s.length∧(qe k out st).2.s.length≤st.s.length:=by
 intro k
 induction k with
 | zero=>intro out st;simp[qe]
 | succ k ih =>
   intro out st;obtain⟨h1,h2⟩:=zj8 out st;unfold qe;split
   ·simp
   split
   ·rename_i r o st' he
    have:=h1 _ _ _ he;simp only;omega
   rename_i o st' he
   have:=h2 _ _ he;have:=ih o st';omega
theorem zj9 (st:St):(zbc st).1.length≤4 * st.s.length:=by
 have h1:=(zf1 (st.s.length+2) [] (zaa [34] st)).1;have h2:=zd6 [34] st;simp only[List.length_nil]at h1;unfold zbc;omega
theorem zka (st:St):(zbc st).2.s.length≤st.s.length:=by
 have h1:=(zf1 (st.s.length+2) [] (zaa [34] st)).2;have h2:=zd6 [34] st;unfold zbc;omega
end
section

theorem zab (s:Bs):(jq s).length≤s.length:=by
 unfold jq Lib.trimLeftS;exact List.Sublist.length_le (List.dropWhile_sublist _)
theorem zl4 {c:UInt8}{s l:Bs}(h:zel c s=some l):l.length≤s.length:=by
 unfold zel at h;have hb:=zab s;split at h
 ·simp at h
 rename_i x m hm
 rw[hm]at hb;split at h
 ·simp at h;subst h;simp at hb;omega
 simp at h
theorem zl6:∀ (s:Bs) (n k:Nat),(qj n k s).2.2.length≤s.length:=by
 intro s
 induction s with
 | nil=>intro n k;simp[qj]
 | cons x l ih =>
   intro n k;unfold qj;split
   ·exact Nat.le_trans (ih _ _) (by simp)
   simp
theorem zol (m b:Bool)(s:Bs):(zbx m b s).2.s.length≤s.length:=by
 unfold zbx;split
 ·simp
 rename_i y l
 split
 ·have:=zl6 (y :: l) 0 0;generalize qj 0 0 (y :: l)=G at *;obtain⟨n,k,s2⟩:=G;exact this
 simp
theorem zrq (st:St):(zcl st).2.s.length≤st.s.length:=by
 unfold zcl;split
 ·simp
 rename_i x l hl
 rw[hl];split
 ·exact Nat.le_trans (zol _ _ _) (by simp)
 exact zol _ _ _
section
variable {α:Type} {one:St→α→St × α}
theorem zwp (h:∀ st a,(one st a).1.s.length≤st.s.length) (shut:UInt8):∀ (k:Nat) (st:St) (a:α),(zbz one shut k st a).1.s.length≤st.s.length:=by
 intro k
 induction k with
 | zero=>intro st a;simp[zbz]
 | succ k ih =>
   intro st a;unfold zbz;split
   ·simp
   have h1:=h st a;generalize one st a=G at *;obtain⟨hB,a1⟩:=G;simp only at h1 ⊢;split
   ·exact h1
   split
   ·rename_i l hl
    exact Nat.le_trans (zl4 hl) h1
   have hb:=zab hB.s;split
   ·rename_i l hl
    have:=zl4 hl;have:=ih ⟨l,false⟩ a1;simp only at this;omega
   have:=ih ⟨jq (jq hB.s),true⟩ a1;have h2:=zab (jq hB.s);simp only at this;omega
theorem zwk (op:UInt8)(d:Int)(st:St):(zcf op d st).s.length≤st.s.length:=by
 unfold zcf;split
 ·rename_i l hl;exact zl4 hl
 exact zab _
theorem zsn (h:∀ st a,(one st a).1.s.length≤st.s.length) (op shut:UInt8) (d:Int) (st:St) (a:α):(zaj one op shut d st a).1.s.length≤st.s.length:=by
 unfold zaj;have h1:=zwk op d st;generalize zcf op d st=G at *;split
 ·rename_i l hl
  have:=zl4 hl;simp only;omega
 have h2:=zwp h shut (G.s.length+2) ⟨jq G.s,G.bad⟩ a;have:=zab G.s;simp only at h2;omega
end
theorem zus (names:List Bs)(nm:Bs)(st:St):(zbn names nm st).s.length≤st.s.length:=by
 unfold zbn;split
 ·simp
 split
 ·rename_i l hl;exact zl4 hl
 exact zab _
theorem zr7 {val:St→J × St}(h:∀ st,(val st).2.s.length≤st.s.length)(st:St)(a:List J):(zbq val st a).1.s.length≤st.s.length:=h st
theorem znc {val:St→J × St}(h:∀ st,(val st).2.s.length≤st.s.length)(st:St)(a:List (Bs × J)):(za2 val st a).1.s.length≤st.s.length:=by
 unfold za2;have h1:=zka ⟨jq st.s,st.bad⟩;have hb:=zab st.s;generalize zbc ⟨jq st.s,st.bad⟩=G at *;obtain⟨nm,hB⟩:=G;simp only at h1 ⊢;have h2:=zus (a.map (·.1)) nm hB;generalize zbn (a.map (·.1)) nm hB=C at *;have h3:=h C;generalize val C=V at *;obtain⟨x,st2⟩:=V;simp only at h3 ⊢;omega
theorem zrh {val:St→J × St}(st:St)(a:List (Bs × J)):(za2 val st a).2.length=a.length+1:=by
 unfold za2;generalize zbc ⟨jq st.s,st.bad⟩=G at *;obtain⟨nm,hB⟩:=G;simp only;generalize val (zbn (a.map (·.1)) nm hB)=V at *;obtain⟨x,st2⟩:=V;simp
theorem zv7 {val:St→J × St}(h:∀ st,(val st).2.s.length≤st.s.length)(d:Int)(c:UInt8)(st:St):(zcw val d c st).2.s.length≤st.s.length:=by
 unfold zcw;split
 ·exact zd6 _ _
 split
 ·exact zd6 _ _
 split
 ·exact zd6 _ _
 split
 ·exact zka _
 split
 ·exact zsn (zr7 h) _ _ _ _ _
 split
 ·exact zsn (znc h) _ _ _ _ _
 exact zrq _
theorem zht:∀ (f:Nat) (d:Int) (st:St),(jy f d st).2.s.length≤st.s.length:=by
 intro f
 induction f with
 | zero=>intro d st;simp[jy]
 | succ f ih =>
   intro d st;have hb:=zab st.s;unfold jy;split
   ·simp
   rename_i c l hl
   rw[hl]at hb;split
   ·exact hb
   exact Nat.le_trans (zv7 (ih (d+1)) _ _ _) hb
end
section

mutual
def zbe:Int→J→Bool
 | d,.mk k n t l p =>
   if k=0 then (n==0)&&((t==[])&&(l.isEmpty&&p.isEmpty))
   else if k=1 then ((n==0)||(n==1))&&((t==[])&&(l.isEmpty&&p.isEmpty))
   else if k=2 then decide (-9007199254740991≤n)&&(decide (n≤9007199254740991)&&((t==[])&&(l.isEmpty&&p.isEmpty)))
   else if k=3 then (n==0)&&(Lib.validD t&&(l.isEmpty&&p.isEmpty))
   else if n≠0∨t≠[]∨8≤d then false
   else if k=4 then zfs (d+1) l&&p.isEmpty
   else if k=5 then zft (d+1) [] p&&l.isEmpty
   else false
def zfs:Int→List J→Bool
 | _,[]=>true
 | d,j :: js=>zbe d j&&zfs d js
def zft:Int→List Bs→List (Bs × J)→Bool
 | _,_,[]=>true
 | d,names,(nm,j) :: ps=>!names.contains nm&&(Lib.validD nm&&(zbe d j&&zft d (names++[nm]) ps))
end

mutual
def fits:Nat→J→Bool
 | N,.mk _ n t l p=>(decide (-9223372036854775808≤n)&&decide (n≤9223372036854775807))&&(decide (t.length≤N)&&(decide (l.length≤N)&&(decide (p.length≤N)&&(fitsl N l&&fitsp N p))))
def fitsl:Nat→List J→Bool
 | _,[]=>true
 | N,j :: js=>fits N j&&fitsl N js
def fitsp:Nat→List (Bs × J)→Bool
 | _,[]=>true
 | N,(nm,j) :: ps=>decide (nm.length≤N)&&(fits N j&&fitsp N ps)
end
theorem fits.open {N:Nat}{k n:Int}{t:Bs}{l:List J}{p:List (Bs × J)}(h:fits N (.mk k n t l p)=true):t.length≤N∧l.length≤N∧p.length≤N∧fitsl N l=true∧fitsp N p=true:=by
 unfold fits at h;rw[Bool.and_eq_true]at h;simpa using h.2
theorem fits.int {N:Nat}{k n:Int}{t:Bs}{l:List J}{p:List (Bs × J)}(h:fits N (.mk k n t l p)=true) : -9223372036854775808≤n∧n≤9223372036854775807:=by
 unfold fits at h;rw[Bool.and_eq_true]at h;simpa using h.1
theorem fitsl.at {N:Nat}:∀ (l:List J),fitsl N l=true→∀ (i:Nat) (j:J),l[i]? = some j→fits N j=true:=by
 intro l
 induction l with
 | nil=>intro _ i j h;simp at h
 | cons x l ih =>
   intro h i j hi;unfold fitsl at h;simp at h;cases i with
   | zero=>simp at hi;subst hi;exact h.1
   | succ i=>exact ih h.2 i j (by simpa using hi)
theorem fitsp.at {N:Nat}:∀ (l:List (Bs × J)),fitsp N l=true→∀ (i:Nat) (nm:Bs) (j:J),l[i]? = some (nm,j)→nm.length≤N∧fits N j=true:=by
 intro l
 induction l with
 | nil=>intro _ i nm j h;simp at h
 | cons x l ih =>
   obtain⟨xn,xj⟩:=x;intro h i nm j hi;unfold fitsp at h;simp at h;cases i with
   | zero=>simp at hi;obtain⟨rfl,rfl⟩:=hi;exact⟨h.1,h.2.1⟩
   | succ i=>exact ih h.2.2 i nm j (by simpa using hi)
end
section
def sgn (signs:Bs) (n:Nat):UInt8:=signs.getD n 0
def zfe (signs:Bs) (nb:Nat):Nat→Nat→Nat→Bs × Nat × Nat
 | 0,bits,h=>([],bits,h)
 | k+1,bits,h=>if nb≤h then (sgn signs (bits / 2 ^ (h - nb)) :: (zfe signs nb k (bits % 2 ^ (h - nb)) (h - nb)).1,(zfe signs nb k (bits % 2 ^ (h - nb)) (h - nb)).2) else ([],bits,h)
def zje (signs:Bs) (nb:Nat):Nat→Nat→Bs→Bs
 | bits,h,[]=>if 0<h then [sgn signs (bits * 2 ^ (nb - h))] else []
 | bits,h,c :: l=>(zfe signs nb (h+9) (bits * 256+c.toNat) (h+8)).1++zje signs nb (zfe signs nb (h+9) (bits * 256+c.toNat) (h+8)).2.1 (zfe signs nb (h+9) (bits * 256+c.toNat) (h+8)).2.2 l
def hexes:Bs:=[48,49,50,51,52,53,54,55,56,57,97,98,99,100,101,102]
def zat:Bs→Bs
 | []=>[]
 | c :: l=>sgn hexes (c.toNat / 16) :: sgn hexes (c.toNat % 16) :: zat l
theorem zfa (l:Bs):(zat l).length=2 * l.length:=by
 induction l with
 | nil=>rfl
 | cons c l ih=>simp[zat,ih];omega
theorem zuo (n:Nat)(hn:n<256):zfe hexes 4 9 n 8=([sgn hexes (n / 16),sgn hexes (n % 16)],0,0):=by
 have e1:n % 16 % 2 ^ (4 - 4)=0:=by simp[Nat.mod_one]
 simp only[zfe,Nat.le_refl,if_true,show(4:Nat)≤8 by omega,show 8 - 4=4 from rfl,show(2:Nat) ^ 4=16 from rfl,show 4 - 4=0 from rfl,show(2:Nat) ^ 0=1 from rfl,Nat.div_one,Nat.mod_one];simp
theorem zut (l:Bs):zje hexes 4 0 0 l=zat l:=by
 induction l with
 | nil=>rfl
 | cons c l ih =>
   have h:=zuo c.toNat (UInt8.toNat_lt c);simp only[zje,Nat.zero_mul,Nat.zero_add,h,ih,zat];rfl
def idx (signs:Bs) (c:UInt8):Option Nat:=if signs.idxOf c<signs.length then some (signs.idxOf c) else none
def zec (signs:Bs) (nb:Nat):Nat→Nat→Bs→Bs→Option Bs
 | bits,h,out,[]=>if nb≤h∨bits≠0 then none else some out
 | bits,h,out,c :: l=>match idx signs c with
   | none=>none
   | some k=>if 8≤h+nb then zec signs nb ((bits * 2 ^ nb+k) % 2 ^ (h+nb - 8)) (h+nb - 8) (out++[UInt8.ofNat ((bits * 2 ^ nb+k) / 2 ^ (h+nb - 8))]) l
     else zec signs nb (bits * 2 ^ nb+k) (h+nb) out l
def zep (s:Bs):Option Bs:=zec hexes 4 0 0 [] s
theorem zon:∀ n:Fin 16,idx hexes (sgn hexes n.val)=some n.val:=by decide +kernel
theorem ztn:∀ c:Fin 256,∀ k,idx hexes (UInt8.ofNat c.val)=some k→k<16∧sgn hexes k=UInt8.ofNat c.val:=by
 have h:∀ c:Fin 256,(match idx hexes (UInt8.ofNat c.val) with | none=>true | some k=>decide (k<16)&&(sgn hexes k==UInt8.ofNat c.val))=true:=by decide +kernel
 intro c k hk;have:=h c;rw[hk]at this;simpa using this
theorem zqz {c:UInt8}{k:Nat}(h:idx hexes c=some k):k<16∧sgn hexes k=c:=by
 have:=ztn ⟨c.toNat,UInt8.toNat_lt c⟩ k (by simpa using h);simpa using this
theorem zs9 (l out:Bs):zec hexes 4 0 0 out (zat l)=some (out++l):=by
 induction l generalizing out with
 | nil=>simp[zat,zec]
 | cons c l ih =>
   have hc:=UInt8.toNat_lt c;have h1:=zon ⟨c.toNat / 16,by omega⟩;have h2:=zon ⟨c.toNat % 16,by omega⟩;simp only at h1 h2;have e1:(0 * 2 ^ 4+c.toNat / 16) * 2 ^ 4+c.toNat % 16=c.toNat:=by omega
   simp only[zat,zec,h1,h2,show ¬ (8≤0+4) by omega,if_false,show 8≤0+4+4 by omega,if_true,e1,show 0+4+4 - 8=0 from rfl,show(2:Nat) ^ 0=1 from rfl,Nat.mod_one,Nat.div_one];rw[ih];simp
theorem zqj:∀ (n:Nat) (s out l:Bs),s.length≤n→zec hexes 4 0 0 out s=some l→∃ m,l=out++m∧s=zat m:=by
 intro n
 induction n with
 | zero =>
   intro s out l hn h;obtain rfl:s=[]:=List.length_eq_zero_iff.1 (by omega);simp[zec]at h;exact⟨[],by simp[h],rfl⟩
 | succ n ih =>
   intro s out l hn h
   match s with
   | [] =>
     simp[zec]at h;exact⟨[],by simp[h],rfl⟩
   | [c] =>
     simp only[zec]at h;cases hc:idx hexes c with
     | none=>rw[hc]at h;simp at h
     | some k=>rw[hc]at h;simp[zec]at h
   | c :: d :: t =>
     simp only[zec]at h;cases hc:idx hexes c with
     | none=>rw[hc]at h;simp at h
     | some k =>
       rw[hc]at h;simp only[show ¬ (8≤0+4) by omega,if_false]at h;cases hd:idx hexes d with
       | none=>rw[hd]at h;simp at h
       | some j =>
         rw[hd]at h;obtain⟨k1,k2⟩:=zqz hc;obtain⟨j1,j2⟩:=zqz hd;have e1:(0 * 2 ^ 4+k) * 2 ^ 4+j=16 * k+j:=by omega
         simp only[show 8≤0+4+4 by omega,if_true,e1,show 0+4+4 - 8=0 from rfl,show(2:Nat) ^ 0=1 from rfl,Nat.mod_one,Nat.div_one]at h;obtain⟨m,rfl,rfl⟩:=ih t _ l (by simp at hn;omega) h;refine⟨UInt8.ofNat (16 * k+j) :: m,by simp,?_⟩;have hv:(UInt8.ofNat (16 * k+j)).toNat=16 * k+j:=by simp only[UInt8.toNat_ofNat'];omega
         simp only[zat,hv];rw[show(16 * k+j) / 16=k by omega,show(16 * k+j) % 16=j by omega,k2,j2]
theorem zeo (s l:Bs):zep s=some l↔s=zat l:=by
 constructor
 ·intro h;obtain⟨m,h1,h2⟩:=zqj s.length s [] l (Nat.le_refl _) h;simp at h1;rw[h1];exact h2
 rintro rfl;have:=zs9 l [];unfold zep;simpa using this
theorem zqi (f:Bs→Bs) (hf:∀ m,f (zat m)=m) (s:Bs):(if zat (f s)=s then some (f s) else none)=zep s:=by
 by_cases h:zat (f s)=s
 ·rw[if_pos h];exact((zeo s (f s)).2 h.symm).symm
 rw[if_neg h];cases hu:zep s with
 | none=>rfl
 | some l =>
   have:=(zeo s l).1 hu;subst this;rw[hf]at h;exact absurd rfl h
def zkb (s:Bs):Option Bs:=match zep s with
 | some l=>if l.length=32 then some l else none
 | none=>none
theorem zhv (s l:Bs):zkb s=some l↔s=zat l∧l.length=32:=by
 unfold zkb;cases h:zep s with
 | none =>
   simp only[reduceCtorEq,false_iff];rintro⟨h1,-⟩;rw[(zeo s l).2 h1]at h;simp at h
 | some m =>
   have hm:=(zeo s m).1 h;simp only;constructor
   ·intro h2;split at h2
    ·simp at h2;subst h2;exact⟨hm,by assumption⟩
    simp at h2
   rintro⟨h1,h2⟩
   have:m=l:=by
    have h3:=(zeo s l).2 h1;rw[h]at h3;simpa using h3
   subst this;rw[if_pos h2]
end
section
structure Sg where
 id:Bs
 key:Bs
 sig:Bs
structure En where
 kind:Int
 digest:Bs
 typ:Bs
 payload:Bs
 op:Int
 ident:Bs
 key:Bs
 sigs:List Sg
def Sg.ok (s:Sg):Prop:=s.key.length=32∧s.sig.length=64
def En.ok (e:En):Prop:=e.digest.length=32∧e.key.length=32∧∀ s∈e.sigs,s.ok
def zdd (n:Nat):Bool:=(decide (97≤n)&&decide (n≤122))||((decide (48≤n)&&decide (n≤57))||(n==46||(n==45||(n==95||n==64))))
def zf0 (n:Nat):Bool:=decide (33≤n)&&decide (n≤126)
def zcn (s:Bs):Bool:=!s.isEmpty&&(decide (s.length≤64)&&s.all (fun c=>zdd c.toNat))
def sReserved:Bs:=[99,97,99,104,101,116,47]
def zci (s:Bs):Bool:=!s.isEmpty&&(decide (s.length≤64)&&(s.all (fun c=>zf0 c.toNat) && !Lib.hasPrefix s sReserved))
def zhw:Bs:=[107,101,121,58]
def j5 (s:Sg):Bs:=if s.id=[] then zhw++zat s.key else s.id
theorem zp7 {s:ByteArray}{i:Nat}(h:(s.get! i).toNat<128):Utf8.decode s i=((s.get! i).toNat,1):=by
 rw[Lib.decode_at,Lib.decodeN,if_pos h]
theorem znu {s:ByteArray}{i:Nat}(h:128≤(s.get! i).toNat):128≤(Utf8.decode s i).1:=by
 rw[Lib.decode_at,Lib.decodeN,if_neg (by omega)]
 repeat' split
 all_goals (simp only;omega)
theorem zx5 (s:Bs){i:Nat}(h:i<s.length):(ByteArray.mk s.toArray).get! i=s[i]:=by
 show(s.toArray)[i]! = s[i];rw[getElem!_pos _ _ (by simpa using h)];simp
theorem zwt (p:Nat→Bool) (hp:∀ r,128≤r→p r=true) (s:Bs):∀ (f pos:Nat),s.length≤pos+f →
 decide (0≤Lib.idxFuncFrom p true ⟨s.toArray⟩ f pos)=(s.drop pos).any (fun c=>p c.toNat):=by
 intro f
 induction f with
 | zero =>
   intro pos h;rw[List.drop_eq_nil_of_le (by omega)];rfl
 | succ f ih =>
   intro pos h;unfold Lib.idxFuncFrom;have hC:(ByteArray.mk s.toArray).size=s.length:=rfl;rw[hC];by_cases hB:pos<s.length
   ·rw [if_pos hB,List.drop_eq_getElem_cons hB,List.any_cons];have hg:=zx5 s hB;by_cases h8:s[pos].toNat<128
    ·rw [zp7 (by rw[hg];exact h8)];simp only;rw[hg];cases hpx:p s[pos].toNat with
     | true=>simp
     | false =>
       rw[if_neg (by simp),ih (pos+1) (by omega)];simp
    have h1:=hp _ (znu (s:=⟨s.toArray⟩) (i:=pos) (by rw[hg];omega));have h2:=hp s[pos].toNat (by omega);rw[h1,h2];simp
   rw[if_neg hB,List.drop_eq_nil_of_le (by omega)];rfl
theorem zr8 (p:Nat→Bool)(hp:∀ r,128≤r→p r=true)(s:Bs):decide (0≤Lib.idxFunc p true ⟨s.toArray⟩)=s.any (fun c=>p c.toNat):=by
 have h:=zwt p hp s s.length 0 (by omega);rw[List.drop_zero]at h;exact h
end
end Go.Proofs.YtffggpplnjibgaaGreatDoor
