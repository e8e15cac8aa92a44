/-
 What the calls of package json come to,on lists of bytes: plain functions;no program in sight.
-/
import Derived.Lib.RuneBytes
import Derived.Lib.Strings
import Derived.Shelf.Unicode.DecodeSlow
import Derived.Lib.SlTrimSet
import Derived.Lib.TrimU
import Derived.Lib.ValidU
import Derived.Shelf.GgClosure.StringsIndexFunc
import Derived.Lib.DecodeN
open Go.Lib renaming encodeRune→zc
namespace Go.Proofs.YtcddlemkimbkcaaGreatDoor
set_option linter.unusedVariables false
set_option linter.unusedSimpArgs false
set_option linter.unusedSectionVars false
section

abbrev Bs:=List UInt8
structure St where
 s:Bs
 bad:Bool
def jj (s:Bs):Bs:=Lib.trimLeftS s [32,9,10,13]
def zdx (c:UInt8) (s:Bs):Option Bs :=
 match jj s with
 | []=>none
 | x :: l=>if x=c then some l else none
def qm (p:Bs) (st:St):St:=if Lib.hasPrefix st.s p then ⟨Lib.trimPrefix st.s p,st.bad⟩ else ⟨st.s,true⟩
def zgu (x:UInt8):Option Nat :=
 if 48≤x.toNat∧x.toNat≤57 then some (x.toNat - 48)
 else if 97≤(x.toNat ||| 32)∧(x.toNat ||| 32)≤102 then some ((x.toNat ||| 32) - 87)
 else none
def zbw:Nat→Nat→St→Nat × St
 | 0,n,st=>(n,st)
 | k + 1,n,st =>
   match st.s with
   | []=>(0,⟨[],true⟩)
   | x :: l=>match zgu x with
     | some v=>zbw k (16 * n+v) ⟨l,st.bad⟩
     | none=>(0,⟨x :: l,true⟩)
def zc5 (st:St):Nat × St :=
 match zbw 4 0 st with
 | (n,st1) =>
   if n<55296∨57344≤n then (n,st1)
   else if 56320≤n then (0,⟨st1.s,true⟩)
   else match zbw 4 0 (qm [92,117] st1) with
    | (low,st2)=>if st2.bad∨low<56320∨57344≤low then (0,⟨st2.s,true⟩) else (65536+(n - 55296) * 1024+low - 56320,st2)
def zcc (c:UInt8):Option Nat :=
 if c=34 then some 34 else if c=92 then some 92 else if c=47 then some 47
 else if c=98 then some 8 else if c=102 then some 12 else if c=110 then some 10 else if c=114 then some 13 else if c=116 then some 9 else none
def j4 (st:St):Nat × St :=
 match st.s with
 | []=>(0,⟨[],true⟩)
 | c :: l=>match zcc c with
   | some v=>(v,⟨l,st.bad⟩)
   | none=>if c=117 then zc5 ⟨l,st.bad⟩ else (0,⟨l,true⟩)
def zae (out:Bs) (st:St):Option Bs × Bs × St :=
 let c:=(Lib.decodeGo ⟨st.s.toArray⟩).1
 let size:=(Lib.decodeGo ⟨st.s.toArray⟩).2
 let l:=st.s.drop size
 if size=0∨c<32∨(c=65533∧size=1) then (none,out,⟨l,true⟩)
 else if c=34 then (some out,out,⟨l,st.bad⟩)
 else if c=92 then (none,out++zc (j4 ⟨l,st.bad⟩).1,(j4 ⟨l,st.bad⟩).2)
 else (none,out++zc c,⟨l,st.bad⟩)
def j3:Nat→Bs→St→Bs × St
 | 0,_,st=>([],st)
 | k + 1,out,st =>
   if st.bad then ([],st)
   else match zae out st with
    | (some r,_,st')=>(r,st')
    | (none,out',st')=>j3 k out' st'
def zay (st:St):Bs × St:=j3 (st.s.length+2) [] (qm [34] st)
theorem zta (n b0 b1 b2 b3:Nat):(Lib.decodeN n b0 b1 b2 b3).2≤4:=by
 unfold Lib.decodeN
 repeat' split
 all_goals simp
theorem zrd (n b0 b1 b2 b3:Nat)(hn:1≤n):(Lib.decodeN n b0 b1 b2 b3).2≤n:=by
 unfold Lib.decodeN
 repeat' split
 all_goals (simp only;omega)
theorem zef (s:Bs):(Lib.decodeGo ⟨s.toArray⟩).1≤1114111∧(Lib.decodeGo ⟨s.toArray⟩).2≤s.length∧(Lib.decodeGo ⟨s.toArray⟩).2≤4∧(s≠[]→1≤(Lib.decodeGo ⟨s.toArray⟩).2):=by
 have hA:(ByteArray.mk s.toArray).size=s.length:=rfl;unfold Lib.decodeGo;split
 ·rename_i h0
  refine⟨by simp,by simp,by simp,fun h=>?_⟩;rw[hA]at h0;exact absurd (List.length_eq_zero_iff.1 h0) h
 rename_i h0
 rw[hA]at h0;rw[Lib.decode_at,hA];exact⟨Lib.decodeN_rune_le _ _ _ _ _ (UInt8.toNat_lt _),zrd _ _ _ _ _ (by omega),zta _ _ _ _ _,fun _=>Lib.decodeN_ge1 _ _ _ _ _⟩
theorem zdg (p:Bs) (st:St):(qm p st).s.length≤st.s.length:=by
 unfold qm;split
 ·unfold Lib.trimPrefix;split
  ·simp
  simp
 simp
theorem zqx:∀ (k n:Nat) (st:St),(zbw k n st).2.s.length≤st.s.length:=by
 intro k
 induction k with
 | zero=>intro n st;simp[zbw]
 | succ k ih =>
   intro n st;unfold zbw;split
   ·simp
   rename_i x l hl
   rw[hl];split
   ·rename_i v hv
    have:=ih (16 * n+v) ⟨l,st.bad⟩;exact Nat.le_trans this (by simp)
   simp
theorem zr3 (st:St):(zc5 st).2.s.length≤st.s.length:=by
 unfold zc5;have h1:=zqx 4 0 st;generalize zbw 4 0 st=G at *;obtain⟨n,hA⟩:=G;simp only at h1 ⊢;split
 ·exact h1
 split
 ·exact h1
 have h2:=zqx 4 0 (qm [92,117] hA);have h3:=zdg [92,117] hA;generalize zbw 4 0 (qm [92,117] hA)=G2 at *;obtain⟨n2,st2⟩:=G2;simp only at h2 ⊢;split
 ·exact Nat.le_trans h2 (Nat.le_trans h3 h1)
 exact Nat.le_trans h2 (Nat.le_trans h3 h1)
theorem zeq (st:St):(j4 st).2.s.length≤st.s.length:=by
 unfold j4;split
 ·simp
 rename_i c l hl
 rw[hl];split
 ·simp
 split
 ·exact Nat.le_trans (zr3 _) (by simp)
 simp
theorem zat (r:Int):(zc r).length≤4:=by
 unfold zc;rw[List.length_map];unfold Lib.encodeRuneZ
 repeat' split
 all_goals simp
end
section

inductive J where
 | mk (kind int:Int) (text:Bs) (list:List J) (pairs:List (Bs × J))
namespace J
def kind:J→Int | mk k _ _ _ _=>k
def int:J→Int | mk _ n _ _ _=>n
def text:J→Bs | mk _ _ t _ _=>t
def list:J→List J | mk _ _ _ l _=>l
def pairs:J→List (Bs × J) | mk _ _ _ _ p=>p
def zero:J:=mk 0 0 [] [] []
end J

def j6:Nat→Nat→Bs→Nat × Nat × Bs
 | n,k,[]=>(n,k,[])
 | n,k,x :: l=>if 48≤x.toNat∧x.toNat≤57 then j6 (if n≤9007199254740991 then 10 * n+(x.toNat - 48) else n) (k+1) l else (n,k,x :: l)
def zbl (minus:Bool) (bad:Bool) (s:Bs):J × St :=
 match s with
 | []=>(J.zero,⟨[],true⟩)
 | y :: m =>
   if 48≤y.toNat∧y.toNat≤57 then
    match j6 0 0 (y :: m) with
    | (n,k,s2)=>(.mk 2 (if minus then -(n:Int) else n) [] [] [],⟨s2,bad||(decide (9007199254740991<n)||(decide (y=48)&&(decide (1<k)||minus)))⟩)
   else (J.zero,⟨y :: m,true⟩)
def zb9 (st:St):J × St :=
 match st.s with
 | []=>(J.zero,st)
 | x :: l=>if x=45 then zbl true st.bad l else zbl false st.bad (x :: l)
section
variable {α:Type}
def zbp (one:St→α→St × α) (shut:UInt8):Nat→St→α→St × α
 | 0,st,a=>(st,a)
 | k + 1,st,a =>
   if st.bad then (st,a) else
   match one st a with
   | (st1,a1) =>
     if st1.bad then (st1,a1) else
     match zdx shut st1.s with
     | some l=>(⟨l,false⟩,a1)
     | none=>match zdx 44 (jj st1.s) with
       | some l=>zbp one shut k ⟨l,false⟩ a1
       | none=>zbp one shut k ⟨jj (jj st1.s),true⟩ a1
def zb4 (op:UInt8) (d:Int) (st:St):St :=
 match zdx op st.s with
 | some l=>⟨l,st.bad||decide (8<d)⟩
 | none=>⟨jj st.s,true⟩
def zac (one:St→α→St × α) (op shut:UInt8) (d:Int) (st:St) (a:α):St × α :=
 match zdx shut (zb4 op d st).s with
 | some l=>(⟨l,(zb4 op d st).bad⟩,a)
 | none=>zbp one shut ((zb4 op d st).s.length+2) ⟨jj (zb4 op d st).s,(zb4 op d st).bad⟩ a
end
def zbd (val:St→J × St) (st:St) (a:List J):St × List J:=((val st).2,a++[(val st).1])
def za8 (names:List Bs) (nm:Bs) (st:St):St :=
 if names.contains nm then ⟨st.s,true⟩
 else match zdx 58 st.s with
  | some l=>⟨l,st.bad⟩
  | none=>⟨jj st.s,true⟩
def zao (val:St→J × St) (st:St) (a:List (Bs × J)):St × List (Bs × J) :=
 match zay ⟨jj st.s,st.bad⟩ with
 | (nm,st1)=>match val (za8 (a.map (·.1)) nm st1) with
   | (x,st2)=>(st2,a++[(nm,x)])
def zkg:Bs:=[110,117,108,108]
def zkf:Bs:=[116,114,117,101]
def zgh:Bs:=[102,97,108,115,101]
def zci (val:St→J × St) (d:Int) (c:UInt8) (st:St):J × St :=
 if c=110 then (J.zero,qm zkg st)
 else if c=116 then (.mk 1 1 [] [] [],qm zkf st)
 else if c=102 then (.mk 1 0 [] [] [],qm zgh st)
 else if c=34 then (.mk 3 0 (zay st).1 [] [],(zay st).2)
 else if c=91 then (.mk 4 0 [] (zac (zbd val) 91 93 (d+1) st []).2 [],(zac (zbd val) 91 93 (d+1) st []).1)
 else if c=123 then (.mk 5 0 [] [] (zac (zao val) 123 125 (d+1) st []).2,(zac (zao val) 123 125 (d+1) st []).1)
 else zb9 st
def jw:Nat→Int→St→J × St
 | 0,_,st=>(J.zero,st)
 | f+1,d,st =>
   match jj st.s with
   | []=>(J.zero,⟨[],true⟩)
   | c :: l=>if st.bad then (J.zero,⟨c :: l,true⟩) else zci (jw f (d+1)) d c ⟨c :: l,false⟩
def ziq (s:Bs):Option J :=
 match jw 10 0 ⟨s,false⟩ with
 | (v,st)=>if st.bad∨jj st.s≠[] then none else some v
end
section
theorem zi8 (out:Bs)(st:St):(∀ r o st',zae out st=(some r,o,st')→r.length≤out.length∧st'.s.length≤st.s.length) ∧
 (∀ o st',zae out st=(none,o,st')→o.length+4 * st'.s.length≤out.length+4 * st.s.length∧st'.s.length≤st.s.length):=by
 obtain⟨d1,d2,d3,d4⟩:=zef st.s;unfold zae;dsimp only;generalize hc:(Lib.decodeGo ⟨st.s.toArray⟩).1=c at *;generalize hs:(Lib.decodeGo ⟨st.s.toArray⟩).2=size at *;have hl:(st.s.drop size).length=st.s.length - size:=by simp
 have hA:=zeq ⟨st.s.drop size,st.bad⟩;generalize st.s.drop size=l at *;simp only at hA ⊢;have e1:=zat c;have e2:=zat ((j4 ⟨l,st.bad⟩).1);generalize j4 ⟨l,st.bad⟩=E at *;split
 ·refine⟨by simp,?_⟩;rintro o st' h;simp at h;obtain⟨rfl,rfl⟩:=h;simp only;omega
 rename_i hn
 have hs1:1≤size:=by omega
 split
 ·refine⟨?_,by simp⟩;rintro r o st' h;simp at h;obtain⟨rfl,rfl,rfl⟩:=h;simp only;omega
 split
 ·refine⟨by simp,?_⟩;rintro o st' h;simp at h;obtain⟨rfl,rfl⟩:=h;simp only[List.length_append];omega
 refine⟨by simp,?_⟩;rintro o st' h;simp at h;obtain⟨rfl,rfl⟩:=h;simp only[List.length_append];omega
theorem zfc:∀ (k:Nat) (out:Bs) (st:St),(j3 k out st).1.length≤out.length+4 * st.s.length∧(j3 k out st).2.s.length≤st.s.length:=by
 intro k
 induction k with
 | zero=>intro out st;simp[j3]
 | succ k ih =>
   intro out st;obtain⟨h1,h2⟩:=zi8 out st;unfold j3;split
   ·simp
   split
   ·rename_i r o st' he
    have:=h1 _ _ _ he;simp only;omega
   rename_i o st' he
   have:=h2 _ _ he;have:=ih o st';omega
theorem zi9 (st:St):(zay st).1.length≤4 * st.s.length:=by
 have h1:=(zfc (st.s.length+2) [] (qm [34] st)).1;have h2:=zdg [34] st;simp only[List.length_nil]at h1;unfold zay;omega
theorem zja (st:St):(zay st).2.s.length≤st.s.length:=by
 have h1:=(zfc (st.s.length+2) [] (qm [34] st)).2;have h2:=zdg [34] st;unfold zay;omega
end
section

theorem qs (s:Bs):(jj s).length≤s.length:=by
 unfold jj Lib.trimLeftS;exact List.Sublist.length_le (List.dropWhile_sublist _)
theorem zk7 {c:UInt8}{s l:Bs}(h:zdx c s=some l):l.length≤s.length:=by
 unfold zdx at h;have hb:=qs s;split at h
 ·simp at h
 rename_i x m hm
 rw[hm]at hb;split at h
 ·simp at h;subst h;simp at hb;omega
 simp at h
theorem zla:∀ (s:Bs) (n k:Nat),(j6 n k s).2.2.length≤s.length:=by
 intro s
 induction s with
 | nil=>intro n k;simp[j6]
 | cons x l ih =>
   intro n k;unfold j6;split
   ·exact Nat.le_trans (ih _ _) (by simp)
   simp
theorem znp (m b:Bool)(s:Bs):(zbl m b s).2.s.length≤s.length:=by
 unfold zbl;split
 ·simp
 rename_i y l
 split
 ·have:=zla (y :: l) 0 0;generalize j6 0 0 (y :: l)=G at *;obtain⟨n,k,s2⟩:=G;exact this
 simp
theorem zqe (st:St):(zb9 st).2.s.length≤st.s.length:=by
 unfold zb9;split
 ·simp
 rename_i x l hl
 rw[hl];split
 ·exact Nat.le_trans (znp _ _ _) (by simp)
 exact znp _ _ _
section
variable {α:Type} {one:St→α→St × α}
theorem zu5 (h:∀ st a,(one st a).1.s.length≤st.s.length) (shut:UInt8):∀ (k:Nat) (st:St) (a:α),(zbp one shut k st a).1.s.length≤st.s.length:=by
 intro k
 induction k with
 | zero=>intro st a;simp[zbp]
 | succ k ih =>
   intro st a;unfold zbp;split
   ·simp
   have h1:=h st a;generalize one st a=G at *;obtain⟨hA,a1⟩:=G;simp only at h1 ⊢;split
   ·exact h1
   split
   ·rename_i l hl
    exact Nat.le_trans (zk7 hl) h1
   have hb:=qs hA.s;split
   ·rename_i l hl
    have:=zk7 hl;have:=ih ⟨l,false⟩ a1;simp only at this;omega
   have:=ih ⟨jj (jj hA.s),true⟩ a1;have h2:=qs (jj hA.s);simp only at this;omega
theorem zuw (op:UInt8)(d:Int)(st:St):(zb4 op d st).s.length≤st.s.length:=by
 unfold zb4;split
 ·rename_i l hl;exact zk7 hl
 exact qs _
theorem zrb (h:∀ st a,(one st a).1.s.length≤st.s.length) (op shut:UInt8) (d:Int) (st:St) (a:α):(zac one op shut d st a).1.s.length≤st.s.length:=by
 unfold zac;have h1:=zuw op d st;generalize zb4 op d st=G at *;split
 ·rename_i l hl
  have:=zk7 hl;simp only;omega
 have h2:=zu5 h shut (G.s.length+2) ⟨jj G.s,G.bad⟩ a;have:=qs G.s;simp only at h2;omega
end
theorem ztb (names:List Bs)(nm:Bs)(st:St):(za8 names nm st).s.length≤st.s.length:=by
 unfold za8;split
 ·simp
 split
 ·rename_i l hl;exact zk7 hl
 exact qs _
theorem zqq {val:St→J × St}(h:∀ st,(val st).2.s.length≤st.s.length)(st:St)(a:List J):(zbd val st a).1.s.length≤st.s.length:=h st
theorem zmg {val:St→J × St}(h:∀ st,(val st).2.s.length≤st.s.length)(st:St)(a:List (Bs × J)):(zao val st a).1.s.length≤st.s.length:=by
 unfold zao;have h1:=zja ⟨jj st.s,st.bad⟩;have hb:=qs st.s;generalize zay ⟨jj st.s,st.bad⟩=G at *;obtain⟨nm,hA⟩:=G;simp only at h1 ⊢;have h2:=ztb (a.map (·.1)) nm hA;generalize za8 (a.map (·.1)) nm hA=C at *;have h3:=h C;generalize val C=V at *;obtain⟨x,st2⟩:=V;simp only at h3 ⊢;omega
theorem zp4 {val:St→J × St}(st:St)(a:List (Bs × J)):(zao val st a).2.length=a.length+1:=by
 unfold zao;generalize zay ⟨jj st.s,st.bad⟩=G at *;obtain⟨nm,hA⟩:=G;simp only;generalize val (za8 (a.map (·.1)) nm hA)=V at *;obtain⟨x,st2⟩:=V;simp
theorem zuj {val:St→J × St}(h:∀ st,(val st).2.s.length≤st.s.length)(d:Int)(c:UInt8)(st:St):(zci val d c st).2.s.length≤st.s.length:=by
 unfold zci;split
 ·exact zdg _ _
 split
 ·exact zdg _ _
 split
 ·exact zdg _ _
 split
 ·exact zja _
 split
 ·exact zrb (zqq h) _ _ _ _ _
 split
 ·exact zrb (zmg h) _ _ _ _ _
 exact zqe _
theorem zg5:∀ (f:Nat) (d:Int) (st:St),(jw f d st).2.s.length≤st.s.length:=by
 intro f
 induction f with
 | zero=>intro d st;simp[jw]
 | succ f ih =>
   intro d st;have hb:=qs st.s;unfold jw;split
   ·simp
   rename_i c l hl
   rw[hl]at hb;split
   ·exact hb
   exact Nat.le_trans (zuj (ih (d+1)) _ _ _) hb
end
section

mutual
def za0:Int→J→Bool
 | d,.mk k n t l p =>
   if k=0 then (n==0)&&((t==[])&&(l.isEmpty&&p.isEmpty))
   else if k=1 then ((n==0)||(n==1))&&((t==[])&&(l.isEmpty&&p.isEmpty))
   else if k=2 then decide (-9007199254740991≤n)&&(decide (n≤9007199254740991)&&((t==[])&&(l.isEmpty&&p.isEmpty)))
   else if k=3 then (n==0)&&(Lib.validD t&&(l.isEmpty&&p.isEmpty))
   else if n≠0∨t≠[]∨8≤d then false
   else if k=4 then ze2 (d+1) l&&p.isEmpty
   else if k=5 then ze3 (d+1) [] p&&l.isEmpty
   else false
def ze2:Int→List J→Bool
 | _,[]=>true
 | d,j :: js=>za0 d j&&ze2 d js
def ze3:Int→List Bs→List (Bs × J)→Bool
 | _,_,[]=>true
 | d,names,(nm,j) :: ps=>!names.contains nm&&(Lib.validD nm&&(za0 d j&&ze3 d (names++[nm]) ps))
end

mutual
def fits:Nat→J→Bool
 | N,.mk _ n t l p=>(decide (-9223372036854775808≤n)&&decide (n≤9223372036854775807))&&(decide (t.length≤N)&&(decide (l.length≤N)&&(decide (p.length≤N)&&(fitsl N l&&fitsp N p))))
def fitsl:Nat→List J→Bool
 | _,[]=>true
 | N,j :: js=>fits N j&&fitsl N js
def fitsp:Nat→List (Bs × J)→Bool
 | _,[]=>true
 | N,(nm,j) :: ps=>decide (nm.length≤N)&&(fits N j&&fitsp N ps)
end
theorem fits.open {N:Nat}{k n:Int}{t:Bs}{l:List J}{p:List (Bs × J)}(h:fits N (.mk k n t l p)=true):t.length≤N∧l.length≤N∧p.length≤N∧fitsl N l=true∧fitsp N p=true:=by
 unfold fits at h;rw[Bool.and_eq_true]at h;simpa using h.2
theorem fits.int {N:Nat}{k n:Int}{t:Bs}{l:List J}{p:List (Bs × J)}(h:fits N (.mk k n t l p)=true) : -9223372036854775808≤n∧n≤9223372036854775807:=by
 unfold fits at h;rw[Bool.and_eq_true]at h;simpa using h.1
theorem fitsl.at {N:Nat}:∀ (l:List J),fitsl N l=true→∀ (i:Nat) (j:J),l[i]? = some j→fits N j=true:=by
 intro l
 induction l with
 | nil=>intro _ i j h;simp at h
 | cons x l ih =>
   intro h i j hi;unfold fitsl at h;simp at h;cases i with
   | zero=>simp at hi;subst hi;exact h.1
   | succ i=>exact ih h.2 i j (by simpa using hi)
theorem fitsp.at {N:Nat}:∀ (l:List (Bs × J)),fitsp N l=true→∀ (i:Nat) (nm:Bs) (j:J),l[i]? = some (nm,j)→nm.length≤N∧fits N j=true:=by
 intro l
 induction l with
 | nil=>intro _ i nm j h;simp at h
 | cons x l ih =>
   obtain⟨xn,xj⟩:=x;intro h i nm j hi;unfold fitsp at h;simp at h;cases i with
   | zero=>simp at hi;obtain⟨rfl,rfl⟩:=hi;exact⟨h.1,h.2.1⟩
   | succ i=>exact ih h.2.2 i nm j (by simpa using hi)
end
section
def sgn (signs:Bs) (n:Nat):UInt8:=signs.getD n 0
def zes (signs:Bs) (nb:Nat):Nat→Nat→Nat→Bs × Nat × Nat
 | 0,bits,h=>([],bits,h)
 | k+1,bits,h=>if nb≤h then (sgn signs (bits / 2 ^ (h - nb)) :: (zes signs nb k (bits % 2 ^ (h - nb)) (h - nb)).1,(zes signs nb k (bits % 2 ^ (h - nb)) (h - nb)).2) else ([],bits,h)
def zii (signs:Bs) (nb:Nat):Nat→Nat→Bs→Bs
 | bits,h,[]=>if 0<h then [sgn signs (bits * 2 ^ (nb - h))] else []
 | bits,h,c :: l=>(zes signs nb (h+9) (bits * 256+c.toNat) (h+8)).1++zii signs nb (zes signs nb (h+9) (bits * 256+c.toNat) (h+8)).2.1 (zes signs nb (h+9) (bits * 256+c.toNat) (h+8)).2.2 l
def hexes:Bs:=[48,49,50,51,52,53,54,55,56,57,97,98,99,100,101,102]
def zcl:Bs→Bs
 | []=>[]
 | c :: l=>sgn hexes (c.toNat / 16) :: sgn hexes (c.toNat % 16) :: zcl l
theorem znt (l:Bs):(zcl l).length=2 * l.length:=by
 induction l with
 | nil=>rfl
 | cons c l ih=>simp[zcl,ih];omega
theorem zs8 (n:Nat)(hn:n<256):zes hexes 4 9 n 8=([sgn hexes (n / 16),sgn hexes (n % 16)],0,0):=by
 have e1:n % 16 % 2 ^ (4 - 4)=0:=by simp[Nat.mod_one]
 simp only[zes,Nat.le_refl,if_true,show(4:Nat)≤8 by omega,show 8 - 4=4 from rfl,show(2:Nat) ^ 4=16 from rfl,show 4 - 4=0 from rfl,show(2:Nat) ^ 0=1 from rfl,Nat.div_one,Nat.mod_one];simp
theorem ztc (l:Bs):zii hexes 4 0 0 l=zcl l:=by
 induction l with
 | nil=>rfl
 | cons c l ih =>
   have h:=zs8 c.toNat (UInt8.toNat_lt c);simp only[zii,Nat.zero_mul,Nat.zero_add,h,ih,zcl];rfl
def idx (signs:Bs) (c:UInt8):Option Nat:=if signs.idxOf c<signs.length then some (signs.idxOf c) else none
def zdl (signs:Bs) (nb:Nat):Nat→Nat→Bs→Bs→Option Bs
 | bits,h,out,[]=>if nb≤h∨bits≠0 then none else some out
 | bits,h,out,c :: l=>match idx signs c with
   | none=>none
   | some k=>if 8≤h+nb then zdl signs nb ((bits * 2 ^ nb+k) % 2 ^ (h+nb - 8)) (h+nb - 8) (out++[UInt8.ofNat ((bits * 2 ^ nb+k) / 2 ^ (h+nb - 8))]) l
     else zdl signs nb (bits * 2 ^ nb+k) (h+nb) out l
def zd3 (s:Bs):Option Bs:=zdl hexes 4 0 0 [] s
theorem zns:∀ n:Fin 16,idx hexes (sgn hexes n.val)=some n.val:=by decide +kernel
theorem zr6:∀ c:Fin 256,∀ k,idx hexes (UInt8.ofNat c.val)=some k→k<16∧sgn hexes k=UInt8.ofNat c.val:=by
 have h:∀ c:Fin 256,(match idx hexes (UInt8.ofNat c.val) with | none=>true | some k=>decide (k<16)&&(sgn hexes k==UInt8.ofNat c.val))=true:=by decide +kernel
 intro c k hk;have:=h c;rw[hk]at this;simpa using this
theorem zpn {c:UInt8}{k:Nat}(h:idx hexes c=some k):k<16∧sgn hexes k=c:=by
 have:=zr6 ⟨c.toNat,UInt8.toNat_lt c⟩ k (by simpa using h);simpa using this
theorem zrv (l out:Bs):zdl hexes 4 0 0 out (zcl l)=some (out++l):=by
 induction l generalizing out with
 | nil=>simp[zcl,zdl]
 | cons c l ih =>
   have hc:=UInt8.toNat_lt c;have h1:=zns ⟨c.toNat / 16,by omega⟩;have h2:=zns ⟨c.toNat % 16,by omega⟩;simp only at h1 h2;have e1:(0 * 2 ^ 4+c.toNat / 16) * 2 ^ 4+c.toNat % 16=c.toNat:=by omega
   simp only[zcl,zdl,h1,h2,show ¬ (8≤0+4) by omega,if_false,show 8≤0+4+4 by omega,if_true,e1,show 0+4+4 - 8=0 from rfl,show(2:Nat) ^ 0=1 from rfl,Nat.mod_one,Nat.div_one];rw[ih];simp
theorem zo9:∀ (n:Nat) (s out l:Bs),s.length≤n→zdl hexes 4 0 0 out s=some l→∃ m,l=out++m∧s=zcl m:=by
 intro n
 induction n with
 | zero =>
   intro s out l hn h;obtain rfl:s=[]:=List.length_eq_zero_iff.1 (by omega);simp[zdl]at h;exact⟨[],by simp[h],rfl⟩
 | succ n ih =>
   intro s out l hn h
   match s with
   | [] =>
     simp[zdl]at h;exact⟨[],by simp[h],rfl⟩
   | [c] =>
     simp only[zdl]at h;cases hc:idx hexes c with
     | none=>rw[hc]at h;simp at h
     | some k=>rw[hc]at h;simp[zdl]at h
   | c :: d :: t =>
     simp only[zdl]at h;cases hc:idx hexes c with
     | none=>rw[hc]at h;simp at h
     | some k =>
       rw[hc]at h;simp only[show ¬ (8≤0+4) by omega,if_false]at h;cases hd:idx hexes d with
       | none=>rw[hd]at h;simp at h
       | some j =>
         rw[hd]at h;obtain⟨k1,k2⟩:=zpn hc;obtain⟨j1,j2⟩:=zpn hd;have e1:(0 * 2 ^ 4+k) * 2 ^ 4+j=16 * k+j:=by omega
         simp only[show 8≤0+4+4 by omega,if_true,e1,show 0+4+4 - 8=0 from rfl,show(2:Nat) ^ 0=1 from rfl,Nat.mod_one,Nat.div_one]at h;obtain⟨m,rfl,rfl⟩:=ih t _ l (by simp at hn;omega) h;refine⟨UInt8.ofNat (16 * k+j) :: m,by simp,?_⟩;have hv:(UInt8.ofNat (16 * k+j)).toNat=16 * k+j:=by simp only[UInt8.toNat_ofNat'];omega
         simp only[zcl,hv];rw[show(16 * k+j) / 16=k by omega,show(16 * k+j) % 16=j by omega,k2,j2]
theorem zd2 (s l:Bs):zd3 s=some l↔s=zcl l:=by
 constructor
 ·intro h;obtain⟨m,h1,h2⟩:=zo9 s.length s [] l (Nat.le_refl _) h;simp at h1;rw[h1];exact h2
 rintro rfl;have:=zrv l [];unfold zd3;simpa using this
theorem zo8 (f:Bs→Bs) (hf:∀ m,f (zcl m)=m) (s:Bs):(if zcl (f s)=s then some (f s) else none)=zd3 s:=by
 by_cases h:zcl (f s)=s
 ·rw[if_pos h];exact((zd2 s (f s)).2 h.symm).symm
 rw[if_neg h];cases hu:zd3 s with
 | none=>rfl
 | some l =>
   have:=(zd2 s l).1 hu;subst this;rw[hf]at h;exact absurd rfl h
def zj6 (s:Bs):Option Bs:=match zd3 s with
 | some l=>if l.length=32 then some l else none
 | none=>none
theorem zg6 (s l:Bs):zj6 s=some l↔s=zcl l∧l.length=32:=by
 unfold zj6;cases h:zd3 s with
 | none =>
   simp only[reduceCtorEq,false_iff];rintro⟨h1,-⟩;rw[(zd2 s l).2 h1]at h;simp at h
 | some m =>
   have hm:=(zd2 s m).1 h;simp only;constructor
   ·intro h2;split at h2
    ·simp at h2;subst h2;exact⟨hm,by assumption⟩
    simp at h2
   rintro⟨h1,h2⟩
   have:m=l:=by
    have h3:=(zd2 s l).2 h1;rw[h]at h3;simpa using h3
   subst this;rw[if_pos h2]
end
section
structure Sg where
 id:Bs
 key:Bs
 sig:Bs
structure En where
 kind:Int
 digest:Bs
 typ:Bs
 payload:Bs
 op:Int
 ident:Bs
 key:Bs
 sigs:List Sg
def Sg.ok (s:Sg):Prop:=s.key.length=32∧s.sig.length=64
def En.ok (e:En):Prop:=e.digest.length=32∧e.key.length=32∧∀ s∈e.sigs,s.ok
def zcs (n:Nat):Bool:=(decide (97≤n)&&decide (n≤122))||((decide (48≤n)&&decide (n≤57))||(n==46||(n==45||(n==95||n==64))))
def zfb (n:Nat):Bool:=decide (33≤n)&&decide (n≤126)
def zbn (s:Bs):Bool:=!s.isEmpty&&(decide (s.length≤64)&&s.all (fun c=>zcs c.toNat))
def sReserved:Bs:=[99,97,99,104,101,116,47]
def zck (s:Bs):Bool:=!s.isEmpty&&(decide (s.length≤64)&&(s.all (fun c=>zfb c.toNat) && !Lib.hasPrefix s sReserved))
def zje:Bs:=[107,101,121,58]
def jm (s:Sg):Bs:=if s.id=[] then zje++zcl s.key else s.id
theorem zoz {s:ByteArray}{i:Nat}(h:(s.get! i).toNat<128):Utf8.decode s i=((s.get! i).toNat,1):=by
 rw[Lib.decode_at,Lib.decodeN,if_pos h]
theorem zmz {s:ByteArray}{i:Nat}(h:128≤(s.get! i).toNat):128≤(Utf8.decode s i).1:=by
 rw[Lib.decode_at,Lib.decodeN,if_neg (by omega)]
 repeat' split
 all_goals (simp only;omega)
theorem zwn (s:Bs){i:Nat}(h:i<s.length):(ByteArray.mk s.toArray).get! i=s[i]:=by
 show(s.toArray)[i]! = s[i];rw[getElem!_pos _ _ (by simpa using h)];simp
theorem zu9 (p:Nat→Bool) (hp:∀ r,128≤r→p r=true) (s:Bs):∀ (f pos:Nat),s.length≤pos+f →
 decide (0≤Lib.idxFuncFrom p true ⟨s.toArray⟩ f pos)=(s.drop pos).any (fun c=>p c.toNat):=by
 intro f
 induction f with
 | zero =>
   intro pos h;rw[List.drop_eq_nil_of_le (by omega)];rfl
 | succ f ih =>
   intro pos h;unfold Lib.idxFuncFrom;have hB:(ByteArray.mk s.toArray).size=s.length:=rfl;rw[hB];by_cases hA:pos<s.length
   ·rw [if_pos hA,List.drop_eq_getElem_cons hA,List.any_cons];have hg:=zwn s hA;by_cases h8:s[pos].toNat<128
    ·rw [zoz (by rw[hg];exact h8)];simp only;rw[hg];cases hpx:p s[pos].toNat with
     | true=>simp
     | false =>
       rw[if_neg (by simp),ih (pos+1) (by omega)];simp
    have h1:=hp _ (zmz (s:=⟨s.toArray⟩) (i:=pos) (by rw[hg];omega));have h2:=hp s[pos].toNat (by omega);rw[h1,h2];simp
   rw[if_neg hA,List.drop_eq_nil_of_le (by omega)];rfl
theorem zqr (p:Nat→Bool)(hp:∀ r,128≤r→p r=true)(s:Bs):decide (0≤Lib.idxFunc p true ⟨s.toArray⟩)=s.any (fun c=>p c.toNat):=by
 have h:=zu9 p hp s s.length 0 (by omega);rw[List.drop_zero]at h;exact h
end
end Go.Proofs.YtcddlemkimbkcaaGreatDoor
