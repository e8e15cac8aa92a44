/-
 What the calls of package json come to,on lists of bytes: plain functions;no program in sight.
-/
import Derived.Lib.RuneBytes
import Derived.Lib.Strings
import Derived.Shelf.Unicode.DecodeSlow
import Derived.Lib.SlTrimSet
import Derived.Lib.TrimU
import Derived.Lib.ValidU
namespace Go.Proofs.YtmgfncjfgkllcaaGreatDoor
set_option linter.unusedVariables false
set_option linter.unusedSimpArgs false
set_option linter.unusedSectionVars false

abbrev Bs:=List UInt8
structure St where
 s:Bs
 bad:Bool
def je (s:Bs):Bs:=Lib.trimLeftS s [32,9,10,13]
def zcz (c:UInt8) (s:Bs):Option Bs :=
 match je s with
 | []=>none
 | x :: l=>if x=c then some l else none
def zah (p:Bs) (st:St):St:=if Lib.hasPrefix st.s p then ⟨Lib.trimPrefix st.s p,st.bad⟩ else ⟨st.s,true⟩
def zln (x:UInt8):Option Nat :=
 if 48≤x.toNat∧x.toNat≤57 then some (x.toNat - 48)
 else if 97≤(x.toNat ||| 32)∧(x.toNat ||| 32)≤102 then some ((x.toNat ||| 32) - 87)
 else none
def ze5:Nat→Nat→St→Nat × St
 | 0,n,st=>(n,st)
 | k + 1,n,st =>
   match st.s with
   | []=>(0,⟨[],true⟩)
   | x :: l=>match zln x with
     | some v=>ze5 k (16 * n+v) ⟨l,st.bad⟩
     | none=>(0,⟨x :: l,true⟩)
def zfw (st:St):Nat × St :=
 match ze5 4 0 st with
 | (n,st1) =>
   if n<55296∨57344≤n then (n,st1)
   else if 56320≤n then (0,⟨st1.s,true⟩)
   else match ze5 4 0 (zah [92,117] st1) with
    | (low,st2)=>if st2.bad∨low<56320∨57344≤low then (0,⟨st2.s,true⟩) else (65536+(n - 55296) * 1024+low - 56320,st2)
def zc1 (c:UInt8):Option Nat :=
 if c=34 then some 34 else if c=92 then some 92 else if c=47 then some 47
 else if c=98 then some 8 else if c=102 then some 12 else if c=110 then some 10 else if c=114 then some 13 else if c=116 then some 9 else none
def qe (st:St):Nat × St :=
 match st.s with
 | []=>(0,⟨[],true⟩)
 | c :: l=>match zc1 c with
   | some v=>(v,⟨l,st.bad⟩)
   | none=>if c=117 then zfw ⟨l,st.bad⟩ else (0,⟨l,true⟩)
def qd (out:Bs) (st:St):Option Bs × Bs × St :=
 let c:=(Lib.decodeGo ⟨st.s.toArray⟩).1
 let size:=(Lib.decodeGo ⟨st.s.toArray⟩).2
 let l:=st.s.drop size
 if size=0∨c<32∨(c=65533∧size=1) then (none,out,⟨l,true⟩)
 else if c=34 then (some out,out,⟨l,st.bad⟩)
 else if c=92 then (none,out++Lib.encodeRune (qe ⟨l,st.bad⟩).1,(qe ⟨l,st.bad⟩).2)
 else (none,out++Lib.encodeRune c,⟨l,st.bad⟩)
def jz:Nat→Bs→St→Bs × St
 | 0,_,st=>([],st)
 | k + 1,out,st =>
   if st.bad then ([],st)
   else match qd out st with
    | (some r,_,st')=>(r,st')
    | (none,out',st')=>jz k out' st'
def zbg (st:St):Bs × St:=jz (st.s.length+2) [] (zah [34] st)
theorem zs9 (n b0 b1 b2 b3:Nat):(Lib.decodeN n b0 b1 b2 b3).2≤4:=by
 unfold Lib.decodeN
 repeat' split
 all_goals simp
theorem zq8 (n b0 b1 b2 b3:Nat)(hn:1≤n):(Lib.decodeN n b0 b1 b2 b3).2≤n:=by
 unfold Lib.decodeN
 repeat' split
 all_goals (simp only;omega)
theorem zg8 (s:Bs):(Lib.decodeGo ⟨s.toArray⟩).1≤1114111∧(Lib.decodeGo ⟨s.toArray⟩).2≤s.length∧(Lib.decodeGo ⟨s.toArray⟩).2≤4∧(s≠[]→1≤(Lib.decodeGo ⟨s.toArray⟩).2):=by
 have hA:(ByteArray.mk s.toArray).size=s.length:=rfl;unfold Lib.decodeGo;split
 ·rename_i h0
  refine⟨by simp,by simp,by simp,fun h=>?_⟩;rw[hA]at h0;exact absurd (List.length_eq_zero_iff.1 h0) h
 rename_i h0
 rw[hA]at h0;rw[Lib.decode_at,hA];exact⟨Lib.decodeN_rune_le _ _ _ _ _ (UInt8.toNat_lt _),zq8 _ _ _ _ _ (by omega),zs9 _ _ _ _ _,fun _=>Lib.decodeN_ge1 _ _ _ _ _⟩
theorem zc3 (p:Bs) (st:St):(zah p st).s.length≤st.s.length:=by
 unfold zah;split
 ·unfold Lib.trimPrefix;split
  ·simp
  simp
 simp
theorem zqp:∀ (k n:Nat) (st:St),(ze5 k n st).2.s.length≤st.s.length:=by
 intro k
 induction k with
 | zero=>intro n st;simp[ze5]
 | succ k ih =>
   intro n st;unfold ze5;split
   ·simp
   rename_i x l hl
   rw[hl];split
   ·rename_i v hv
    have:=ih (16 * n+v) ⟨l,st.bad⟩;exact Nat.le_trans this (by simp)
   simp
theorem zr1 (st:St):(zfw st).2.s.length≤st.s.length:=by
 unfold zfw;have h1:=zqp 4 0 st;generalize ze5 4 0 st=G at *;obtain⟨n,hA⟩:=G;simp only at h1 ⊢;split
 ·exact h1
 split
 ·exact h1
 have h2:=zqp 4 0 (zah [92,117] hA);have h3:=zc3 [92,117] hA;generalize ze5 4 0 (zah [92,117] hA)=G2 at *;obtain⟨n2,st2⟩:=G2;simp only at h2 ⊢;split
 ·exact Nat.le_trans h2 (Nat.le_trans h3 h1)
 exact Nat.le_trans h2 (Nat.le_trans h3 h1)
theorem zfh (st:St):(qe st).2.s.length≤st.s.length:=by
 unfold qe;split
 ·simp
 rename_i c l hl
 rw[hl];split
 ·simp
 split
 ·exact Nat.le_trans (zr1 _) (by simp)
 simp
theorem zb0 (r:Int):(Lib.encodeRune r).length≤4:=by
 unfold Lib.encodeRune;rw[List.length_map];unfold Lib.encodeRuneZ
 repeat' split
 all_goals simp
end Go.Proofs.YtmgfncjfgkllcaaGreatDoor
namespace Go.Proofs.YtmgfncjfgkllcaaGreatDoor
set_option linter.unusedVariables false
set_option linter.unusedSimpArgs false
set_option linter.unusedSectionVars false

inductive J where
 | mk (kind int:Int) (text:Bs) (list:List J) (pairs:List (Bs × J))
namespace J
def kind:J→Int | mk k _ _ _ _=>k
def int:J→Int | mk _ n _ _ _=>n
def text:J→Bs | mk _ _ t _ _=>t
def list:J→List J | mk _ _ _ l _=>l
def pairs:J→List (Bs × J) | mk _ _ _ _ p=>p
def zero:J:=mk 0 0 [] [] []
end J

def qj:Nat→Nat→Bs→Nat × Nat × Bs
 | n,k,[]=>(n,k,[])
 | n,k,x :: l=>if 48≤x.toNat∧x.toNat≤57 then qj (if n≤9007199254740991 then 10 * n+(x.toNat - 48) else n) (k+1) l else (n,k,x :: l)
def zcg (minus:Bool) (bad:Bool) (s:Bs):J × St :=
 match s with
 | []=>(J.zero,⟨[],true⟩)
 | y :: m =>
   if 48≤y.toNat∧y.toNat≤57 then
    match qj 0 0 (y :: m) with
    | (n,k,s2)=>(.mk 2 (if minus then -(n:Int) else n) [] [] [],⟨s2,bad||(decide (9007199254740991<n)||(decide (y=48)&&(decide (1<k)||minus)))⟩)
   else (J.zero,⟨y :: m,true⟩)
def za4 (st:St):J × St :=
 match st.s with
 | []=>(J.zero,st)
 | x :: l=>if x=45 then zcg true st.bad l else zcg false st.bad (x :: l)
section
variable {α:Type}
def zb2 (one:St→α→St × α) (shut:UInt8):Nat→St→α→St × α
 | 0,st,a=>(st,a)
 | k + 1,st,a =>
   if st.bad then (st,a) else
   match one st a with
   | (st1,a1) =>
     if st1.bad then (st1,a1) else
     match zcz shut st1.s with
     | some l=>(⟨l,false⟩,a1)
     | none=>match zcz 44 (je st1.s) with
       | some l=>zb2 one shut k ⟨l,false⟩ a1
       | none=>zb2 one shut k ⟨je (je st1.s),true⟩ a1
def zbo (op:UInt8) (d:Int) (st:St):St :=
 match zcz op st.s with
 | some l=>⟨l,st.bad||decide (8<d)⟩
 | none=>⟨je st.s,true⟩
def za5 (one:St→α→St × α) (op shut:UInt8) (d:Int) (st:St) (a:α):St × α :=
 match zcz shut (zbo op d st).s with
 | some l=>(⟨l,(zbo op d st).bad⟩,a)
 | none=>zb2 one shut ((zbo op d st).s.length+2) ⟨je (zbo op d st).s,(zbo op d st).bad⟩ a
end
def zcq (val:St→J × St) (st:St) (a:List J):St × List J:=((val st).2,a++[(val st).1])
def zch (names:List Bs) (nm:Bs) (st:St):St :=
 if names.contains nm then ⟨st.s,true⟩
 else match zcz 58 st.s with
  | some l=>⟨l,st.bad⟩
  | none=>⟨je st.s,true⟩
def zbw (val:St→J × St) (st:St) (a:List (Bs × J)):St × List (Bs × J) :=
 match zbg ⟨je st.s,st.bad⟩ with
 | (nm,st1)=>match val (zch (a.map (·.1)) nm st1) with
   | (x,st2)=>(st2,a++[(nm,x)])
def zk6:Bs:=[110,117,108,108]
def zk5:Bs:=[116,114,117,101]
def zgp:Bs:=[102,97,108,115,101]
def zhg (val:St→J × St) (d:Int) (c:UInt8) (st:St):J × St :=
 if c=110 then (J.zero,zah zk6 st)
 else if c=116 then (.mk 1 1 [] [] [],zah zk5 st)
 else if c=102 then (.mk 1 0 [] [] [],zah zgp st)
 else if c=34 then (.mk 3 0 (zbg st).1 [] [],(zbg st).2)
 else if c=91 then (.mk 4 0 [] (za5 (zcq val) 91 93 (d+1) st []).2 [],(za5 (zcq val) 91 93 (d+1) st []).1)
 else if c=123 then (.mk 5 0 [] [] (za5 (zbw val) 123 125 (d+1) st []).2,(za5 (zbw val) 123 125 (d+1) st []).1)
 else za4 st
def jw:Nat→Int→St→J × St
 | 0,_,st=>(J.zero,st)
 | f+1,d,st =>
   match je st.s with
   | []=>(J.zero,⟨[],true⟩)
   | c :: l=>if st.bad then (J.zero,⟨c :: l,true⟩) else zhg (jw f (d+1)) d c ⟨c :: l,false⟩
def zgo (s:Bs):Option J :=
 match jw 10 0 ⟨s,false⟩ with
 | (v,st)=>if st.bad∨je st.s≠[] then none else some v
end Go.Proofs.YtmgfncjfgkllcaaGreatDoor
namespace Go.Proofs.YtmgfncjfgkllcaaGreatDoor
set_option linter.unusedVariables false
set_option linter.unusedSimpArgs false
set_option linter.unusedSectionVars false
theorem zic (out:Bs)(st:St):(∀ r o st',qd out st=(some r,o,st')→r.length≤out.length∧st'.s.length≤st.s.length) ∧
 (∀ o st',qd out st=(none,o,st')→o.length+4 * st'.s.length≤out.length+4 * st.s.length∧st'.s.length≤st.s.length):=by
 obtain⟨d1,d2,d3,d4⟩:=zg8 st.s;unfold qd;dsimp only;generalize hc:(Lib.decodeGo ⟨st.s.toArray⟩).1=c at *;generalize hs:(Lib.decodeGo ⟨st.s.toArray⟩).2=size at *;have hl:(st.s.drop size).length=st.s.length - size:=by simp
 have hA:=zfh ⟨st.s.drop size,st.bad⟩;generalize st.s.drop size=l at *;simp only at hA ⊢;have e1:=zb0 c;have e2:=zb0 ((qe ⟨l,st.bad⟩).1);generalize qe ⟨l,st.bad⟩=E at *;split
 ·refine⟨by simp,?_⟩;rintro o st' h;simp at h;obtain⟨rfl,rfl⟩:=h;simp only;omega
 rename_i hn
 have hs1:1≤size:=by omega
 split
 ·refine⟨?_,by simp⟩;rintro r o st' h;simp at h;obtain⟨rfl,rfl,rfl⟩:=h;simp only;omega
 split
 ·refine⟨by simp,?_⟩;rintro o st' h;simp at h;obtain⟨rfl,rfl⟩:=h;simp only[List.length_append];omega
 refine⟨by simp,?_⟩;rintro o st' h;simp at h;obtain⟨rfl,rfl⟩:=h;simp only[List.length_append];omega
theorem zei:∀ (k:Nat) (out:Bs) (st:St),(jz k out st).1.length≤out.length+4 * st.s.length∧(jz k out st).2.s.length≤st.s.length:=by
 intro k
 induction k with
 | zero=>intro out st;simp[jz]
 | succ k ih =>
   intro out st;obtain⟨h1,h2⟩:=zic out st;unfold jz;split
   ·simp
   split
   ·rename_i r o st' he
    have:=h1 _ _ _ he;simp only;omega
   rename_i o st' he
   have:=h2 _ _ he;have:=ih o st';omega
theorem zid (st:St):(zbg st).1.length≤4 * st.s.length:=by
 have h1:=(zei (st.s.length+2) [] (zah [34] st)).1;have h2:=zc3 [34] st;simp only[List.length_nil]at h1;unfold zbg;omega
theorem zie (st:St):(zbg st).2.s.length≤st.s.length:=by
 have h1:=(zei (st.s.length+2) [] (zah [34] st)).2;have h2:=zc3 [34] st;unfold zbg;omega
end Go.Proofs.YtmgfncjfgkllcaaGreatDoor
namespace Go.Proofs.YtmgfncjfgkllcaaGreatDoor
set_option linter.unusedVariables false
set_option linter.unusedSimpArgs false
set_option linter.unusedSectionVars false

theorem qu (s:Bs):(je s).length≤s.length:=by
 unfold je Lib.trimLeftS;exact List.Sublist.length_le (List.dropWhile_sublist _)
theorem zka {c:UInt8}{s l:Bs}(h:zcz c s=some l):l.length≤s.length:=by
 unfold zcz at h;have hb:=qu s;split at h
 ·simp at h
 rename_i x m hm
 rw[hm]at hb;split at h
 ·simp at h;subst h;simp at hb;omega
 simp at h
theorem zkb:∀ (s:Bs) (n k:Nat),(qj n k s).2.2.length≤s.length:=by
 intro s
 induction s with
 | nil=>intro n k;simp[qj]
 | cons x l ih =>
   intro n k;unfold qj;split
   ·exact Nat.le_trans (ih _ _) (by simp)
   simp
theorem zmo (m b:Bool)(s:Bs):(zcg m b s).2.s.length≤s.length:=by
 unfold zcg;split
 ·simp
 rename_i y l
 split
 ·have:=zkb (y :: l) 0 0;generalize qj 0 0 (y :: l)=G at *;obtain⟨n,k,s2⟩:=G;exact this
 simp
theorem zp8 (st:St):(za4 st).2.s.length≤st.s.length:=by
 unfold za4;split
 ·simp
 rename_i x l hl
 rw[hl];split
 ·exact Nat.le_trans (zmo _ _ _) (by simp)
 exact zmo _ _ _
section
variable {α:Type} {one:St→α→St × α}
theorem zuv (h:∀ st a,(one st a).1.s.length≤st.s.length) (shut:UInt8):∀ (k:Nat) (st:St) (a:α),(zb2 one shut k st a).1.s.length≤st.s.length:=by
 intro k
 induction k with
 | zero=>intro st a;simp[zb2]
 | succ k ih =>
   intro st a;unfold zb2;split
   ·simp
   have h1:=h st a;generalize one st a=G at *;obtain⟨hA,a1⟩:=G;simp only at h1 ⊢;split
   ·exact h1
   split
   ·rename_i l hl
    exact Nat.le_trans (zka hl) h1
   have hb:=qu hA.s;split
   ·rename_i l hl
    have:=zka hl;have:=ih ⟨l,false⟩ a1;simp only at this;omega
   have:=ih ⟨je (je hA.s),true⟩ a1;have h2:=qu (je hA.s);simp only at this;omega
theorem zus (op:UInt8)(d:Int)(st:St):(zbo op d st).s.length≤st.s.length:=by
 unfold zbo;split
 ·rename_i l hl;exact zka hl
 exact qu _
theorem zq6 (h:∀ st a,(one st a).1.s.length≤st.s.length) (op shut:UInt8) (d:Int) (st:St) (a:α):(za5 one op shut d st a).1.s.length≤st.s.length:=by
 unfold za5;have h1:=zus op d st;generalize zbo op d st=G at *;split
 ·rename_i l hl
  have:=zka hl;simp only;omega
 have h2:=zuv h shut (G.s.length+2) ⟨je G.s,G.bad⟩ a;have:=qu G.s;simp only at h2;omega
end
theorem ztb (names:List Bs)(nm:Bs)(st:St):(zch names nm st).s.length≤st.s.length:=by
 unfold zch;split
 ·simp
 split
 ·rename_i l hl;exact zka hl
 exact qu _
theorem zqi {val:St→J × St}(h:∀ st,(val st).2.s.length≤st.s.length)(st:St)(a:List J):(zcq val st a).1.s.length≤st.s.length:=h st
theorem zp0 {val:St→J × St}(h:∀ st,(val st).2.s.length≤st.s.length)(st:St)(a:List (Bs × J)):(zbw val st a).1.s.length≤st.s.length:=by
 unfold zbw;have h1:=zie ⟨je st.s,st.bad⟩;have hb:=qu st.s;generalize zbg ⟨je st.s,st.bad⟩=G at *;obtain⟨nm,hA⟩:=G;simp only at h1 ⊢;have h2:=ztb (a.map (·.1)) nm hA;generalize zch (a.map (·.1)) nm hA=C at *;have h3:=h C;generalize val C=V at *;obtain⟨x,st2⟩:=V;simp only at h3 ⊢;omega
theorem zpz {val:St→J × St}(st:St)(a:List (Bs × J)):(zbw val st a).2.length=a.length+1:=by
 unfold zbw;generalize zbg ⟨je st.s,st.bad⟩=G at *;obtain⟨nm,hA⟩:=G;simp only;generalize val (zch (a.map (·.1)) nm hA)=V at *;obtain⟨x,st2⟩:=V;simp
theorem zuk {val:St→J × St}(h:∀ st,(val st).2.s.length≤st.s.length)(d:Int)(c:UInt8)(st:St):(zhg val d c st).2.s.length≤st.s.length:=by
 unfold zhg;split
 ·exact zc3 _ _
 split
 ·exact zc3 _ _
 split
 ·exact zc3 _ _
 split
 ·exact zie _
 split
 ·exact zq6 (zqi h) _ _ _ _ _
 split
 ·exact zq6 (zp0 h) _ _ _ _ _
 exact zp8 _
theorem zl7:∀ (f:Nat) (d:Int) (st:St),(jw f d st).2.s.length≤st.s.length:=by
 intro f
 induction f with
 | zero=>intro d st;simp[jw]
 | succ f ih =>
   intro d st;have hb:=qu st.s;unfold jw;split
   ·simp
   rename_i c l hl
   rw[hl]at hb;split
   ·exact hb
   exact Nat.le_trans (zuk (ih (d+1)) _ _ _) hb
end Go.Proofs.YtmgfncjfgkllcaaGreatDoor
namespace Go.Proofs.YtmgfncjfgkllcaaGreatDoor
set_option linter.unusedVariables false
set_option linter.unusedSimpArgs false
set_option linter.unusedSectionVars false

mutual
def jo:Int→J→Bool
 | d,.mk k n t l p =>
   if k=0 then (n==0)&&((t==[])&&(l.isEmpty&&p.isEmpty))
   else if k=1 then ((n==0)||(n==1))&&((t==[])&&(l.isEmpty&&p.isEmpty))
   else if k=2 then decide (-9007199254740991≤n)&&(decide (n≤9007199254740991)&&((t==[])&&(l.isEmpty&&p.isEmpty)))
   else if k=3 then (n==0)&&(Lib.validD t&&(l.isEmpty&&p.isEmpty))
   else if n≠0∨t≠[]∨8≤d then false
   else if k=4 then zad (d+1) l&&p.isEmpty
   else if k=5 then qn (d+1) [] p&&l.isEmpty
   else false
def zad:Int→List J→Bool
 | _,[]=>true
 | d,j :: js=>jo d j&&zad d js
def qn:Int→List Bs→List (Bs × J)→Bool
 | _,_,[]=>true
 | d,names,(nm,j) :: ps=>!names.contains nm&&(Lib.validD nm&&(jo d j&&qn d (names++[nm]) ps))
end

mutual
def fits:Nat→J→Bool
 | N,.mk _ n t l p=>(decide (-9223372036854775808≤n)&&decide (n≤9223372036854775807))&&(decide (t.length≤N)&&(decide (l.length≤N)&&(decide (p.length≤N)&&(fitsl N l&&fitsp N p))))
def fitsl:Nat→List J→Bool
 | _,[]=>true
 | N,j :: js=>fits N j&&fitsl N js
def fitsp:Nat→List (Bs × J)→Bool
 | _,[]=>true
 | N,(nm,j) :: ps=>decide (nm.length≤N)&&(fits N j&&fitsp N ps)
end
theorem fits.open {N:Nat}{k n:Int}{t:Bs}{l:List J}{p:List (Bs × J)}(h:fits N (.mk k n t l p)=true):t.length≤N∧l.length≤N∧p.length≤N∧fitsl N l=true∧fitsp N p=true:=by
 unfold fits at h;rw[Bool.and_eq_true]at h;simpa using h.2
theorem fits.int {N:Nat}{k n:Int}{t:Bs}{l:List J}{p:List (Bs × J)}(h:fits N (.mk k n t l p)=true) : -9223372036854775808≤n∧n≤9223372036854775807:=by
 unfold fits at h;rw[Bool.and_eq_true]at h;simpa using h.1
theorem fitsl.at {N:Nat}:∀ (l:List J),fitsl N l=true→∀ (i:Nat) (j:J),l[i]? = some j→fits N j=true:=by
 intro l
 induction l with
 | nil=>intro _ i j h;simp at h
 | cons x l ih =>
   intro h i j hi;unfold fitsl at h;simp at h;cases i with
   | zero=>simp at hi;subst hi;exact h.1
   | succ i=>exact ih h.2 i j (by simpa using hi)
theorem fitsp.at {N:Nat}:∀ (l:List (Bs × J)),fitsp N l=true→∀ (i:Nat) (nm:Bs) (j:J),l[i]? = some (nm,j)→nm.length≤N∧fits N j=true:=by
 intro l
 induction l with
 | nil=>intro _ i nm j h;simp at h
 | cons x l ih =>
   obtain⟨xn,xj⟩:=x;intro h i nm j hi;unfold fitsp at h;simp at h;cases i with
   | zero=>simp at hi;obtain⟨rfl,rfl⟩:=hi;exact⟨h.1,h.2.1⟩
   | succ i=>exact ih h.2.2 i nm j (by simpa using hi)
end Go.Proofs.YtmgfncjfgkllcaaGreatDoor
