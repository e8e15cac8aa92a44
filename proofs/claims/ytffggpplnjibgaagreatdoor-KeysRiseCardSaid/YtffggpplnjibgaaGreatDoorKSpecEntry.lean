/-
 Bytes as signs (package coder),as plain data: hexadecimal figures there and back.
-/
import Derived.Test.YtffggpplnjibgaaGreatDoorKSpecSound
import Derived.Shelf.GgClosure.StringsIndexFunc
import Derived.Lib.DecodeN
namespace Go.Proofs.YtffggpplnjibgaaGreatDoor
set_option linter.unusedVariables false
set_option linter.unusedSimpArgs false
set_option linter.unusedSectionVars false
section
def sgn (signs:Bs) (n:Nat):UInt8:=signs.getD n 0
def zc5 (signs:Bs) (nb:Nat):Nat→Nat→Nat→Bs × Nat × Nat
 | 0,bits,h=>([],bits,h)
 | k+1,bits,h=>if nb≤h then (sgn signs (bits / 2 ^ (h - nb)) :: (zc5 signs nb k (bits % 2 ^ (h - nb)) (h - nb)).1,(zc5 signs nb k (bits % 2 ^ (h - nb)) (h - nb)).2) else ([],bits,h)
def zf6 (signs:Bs) (nb:Nat):Nat→Nat→Bs→Bs
 | bits,h,[]=>if 0<h then [sgn signs (bits * 2 ^ (nb - h))] else []
 | bits,h,c :: l=>(zc5 signs nb (h+9) (bits * 256+c.toNat) (h+8)).1++zf6 signs nb (zc5 signs nb (h+9) (bits * 256+c.toNat) (h+8)).2.1 (zc5 signs nb (h+9) (bits * 256+c.toNat) (h+8)).2.2 l
def hexes:Bs:=[48,49,50,51,52,53,54,55,56,57,97,98,99,100,101,102]
def za9:Bs→Bs
 | []=>[]
 | c :: l=>sgn hexes (c.toNat / 16) :: sgn hexes (c.toNat % 16) :: za9 l
theorem ze1 (l:Bs):(za9 l).length=2 * l.length:=by
 induction l with
 | nil=>rfl
 | cons c l ih=>simp[za9,ih];omega
theorem zoo (n:Nat)(hn:n<256):zc5 hexes 4 9 n 8=([sgn hexes (n / 16),sgn hexes (n % 16)],0,0):=by
 have e1:n % 16 % 2 ^ (4 - 4)=0:=by simp[Nat.mod_one]
 simp only[zc5,Nat.le_refl,if_true,show(4:Nat)≤8 by omega,show 8 - 4=4 from rfl,show(2:Nat) ^ 4=16 from rfl,show 4 - 4=0 from rfl,show(2:Nat) ^ 0=1 from rfl,Nat.div_one,Nat.mod_one];simp
theorem zot (l:Bs):zf6 hexes 4 0 0 l=za9 l:=by
 induction l with
 | nil=>rfl
 | cons c l ih =>
   have h:=zoo c.toNat (UInt8.toNat_lt c);simp only[zf6,Nat.zero_mul,Nat.zero_add,h,ih,za9];rfl
def idx (signs:Bs) (c:UInt8):Option Nat:=if signs.idxOf c<signs.length then some (signs.idxOf c) else none
def zb4 (signs:Bs) (nb:Nat):Nat→Nat→Bs→Bs→Option Bs
 | bits,h,out,[]=>if nb≤h∨bits≠0 then none else some out
 | bits,h,out,c :: l=>match idx signs c with
   | none=>none
   | some k=>if 8≤h+nb then zb4 signs nb ((bits * 2 ^ nb+k) % 2 ^ (h+nb - 8)) (h+nb - 8) (out++[UInt8.ofNat ((bits * 2 ^ nb+k) / 2 ^ (h+nb - 8))]) l
     else zb4 signs nb (bits * 2 ^ nb+k) (h+nb) out l
def ze8 (s:Bs):Option Bs:=zb4 hexes 4 0 0 [] s
theorem zjy:∀ n:Fin 16,idx hexes (sgn hexes n.val)=some n.val:=by decide +kernel
theorem zns:∀ c:Fin 256,∀ k,idx hexes (UInt8.ofNat c.val)=some k→k<16∧sgn hexes k=UInt8.ofNat c.val:=by
 have h:∀ c:Fin 256,(match idx hexes (UInt8.ofNat c.val) with | none=>true | some k=>decide (k<16)&&(sgn hexes k==UInt8.ofNat c.val))=true:=by decide +kernel
 intro c k hk;have:=h c;rw[hk]at this;simpa using this
theorem zlo {c:UInt8}{k:Nat}(h:idx hexes c=some k):k<16∧sgn hexes k=c:=by
 have:=zns ⟨c.toNat,UInt8.toNat_lt c⟩ k (by simpa using h);simpa using this
theorem zni (l out:Bs):zb4 hexes 4 0 0 out (za9 l)=some (out++l):=by
 induction l generalizing out with
 | nil=>simp[za9,zb4]
 | cons c l ih =>
   have hc:=UInt8.toNat_lt c;have h1:=zjy ⟨c.toNat / 16,by omega⟩;have h2:=zjy ⟨c.toNat % 16,by omega⟩;simp only at h1 h2;have e1:(0 * 2 ^ 4+c.toNat / 16) * 2 ^ 4+c.toNat % 16=c.toNat:=by omega
   simp only[za9,zb4,h1,h2,show ¬ (8≤0+4) by omega,if_false,show 8≤0+4+4 by omega,if_true,e1,show 0+4+4 - 8=0 from rfl,show(2:Nat) ^ 0=1 from rfl,Nat.mod_one,Nat.div_one];rw[ih];simp
theorem zld:∀ (n:Nat) (s out l:Bs),s.length≤n→zb4 hexes 4 0 0 out s=some l→∃ m,l=out++m∧s=za9 m:=by
 intro n
 induction n with
 | zero =>
   intro s out l hn h;obtain rfl:s=[]:=List.length_eq_zero_iff.1 (by omega);simp[zb4]at h;exact⟨[],by simp[h],rfl⟩
 | succ n ih =>
   intro s out l hn h
   match s with
   | [] =>
     simp[zb4]at h;exact⟨[],by simp[h],rfl⟩
   | [c] =>
     simp only[zb4]at h;cases hc:idx hexes c with
     | none=>rw[hc]at h;simp at h
     | some k=>rw[hc]at h;simp[zb4]at h
   | c :: d :: t =>
     simp only[zb4]at h;cases hc:idx hexes c with
     | none=>rw[hc]at h;simp at h
     | some k =>
       rw[hc]at h;simp only[show ¬ (8≤0+4) by omega,if_false]at h;cases hd:idx hexes d with
       | none=>rw[hd]at h;simp at h
       | some j =>
         rw[hd]at h;obtain⟨k1,k2⟩:=zlo hc;obtain⟨j1,j2⟩:=zlo hd;have e1:(0 * 2 ^ 4+k) * 2 ^ 4+j=16 * k+j:=by omega
         simp only[show 8≤0+4+4 by omega,if_true,e1,show 0+4+4 - 8=0 from rfl,show(2:Nat) ^ 0=1 from rfl,Nat.mod_one,Nat.div_one]at h;obtain⟨m,rfl,rfl⟩:=ih t _ l (by simp at hn;omega) h;refine⟨UInt8.ofNat (16 * k+j) :: m,by simp,?_⟩;have hv:(UInt8.ofNat (16 * k+j)).toNat=16 * k+j:=by simp only[UInt8.toNat_ofNat'];omega
         simp only[za9,hv];rw[show(16 * k+j) / 16=k by omega,show(16 * k+j) % 16=j by omega,k2,j2]
theorem ze7 (s l:Bs):ze8 s=some l↔s=za9 l:=by
 constructor
 ·intro h;obtain⟨m,h1,h2⟩:=zld s.length s [] l (Nat.le_refl _) h;simp at h1;rw[h1];exact h2
 rintro rfl;have:=zni l [];unfold ze8;simpa using this
def zf3 (s:Bs):Option Bs:=match ze8 s with
 | some l=>if l.length=32 then some l else none
 | none=>none
theorem zbd (s l:Bs):zf3 s=some l↔s=za9 l∧l.length=32:=by
 unfold zf3;cases h:ze8 s with
 | none =>
   simp only[reduceCtorEq,false_iff];rintro⟨h1,-⟩;rw[(ze7 s l).2 h1]at h;simp at h
 | some m =>
   have hm:=(ze7 s m).1 h;simp only;constructor
   ·intro h2;split at h2
    ·simp at h2;subst h2;exact⟨hm,by assumption⟩
    simp at h2
   rintro⟨h1,h2⟩
   have:m=l:=by
    have h3:=(ze7 s l).2 h1;rw[h]at h3;simpa using h3
   subst this;rw[if_pos h2]
end
section
structure Sg where
 id:Bs
 key:Bs
 sig:Bs
structure En where
 kind:Int
 digest:Bs
 typ:Bs
 payload:Bs
 op:Int
 ident:Bs
 key:Bs
 sigs:List Sg
def Sg.ok (s:Sg):Prop:=s.key.length=32∧s.sig.length=64
def En.ok (e:En):Prop:=e.digest.length=32∧e.key.length=32∧∀ s∈e.sigs,s.ok
def zc8 (n:Nat):Bool:=(decide (97≤n)&&decide (n≤122))||((decide (48≤n)&&decide (n≤57))||(n==46||(n==45||(n==95||n==64))))
def zf2 (n:Nat):Bool:=decide (33≤n)&&decide (n≤126)
def zbh (s:Bs):Bool:=!s.isEmpty&&(decide (s.length≤64)&&s.all (fun c=>zc8 c.toNat))
def sReserved:Bs:=[99,97,99,104,101,116,47]
def zfh (s:Bs):Bool:=!s.isEmpty&&(decide (s.length≤64)&&(s.all (fun c=>zf2 c.toNat) && !Lib.hasPrefix s sReserved))
def sKey:Bs:=[107,101,121,58]
def zai (s:Sg):Bs:=if s.id=[] then sKey++za9 s.key else s.id
theorem zk6 {s:ByteArray}{i:Nat}(h:(s.get! i).toNat<128):Utf8.decode s i=((s.get! i).toNat,1):=by
 rw[Lib.decode_at,Lib.decodeN,if_pos h]
theorem zje {s:ByteArray}{i:Nat}(h:128≤(s.get! i).toNat):128≤(Utf8.decode s i).1:=by
 rw[Lib.decode_at,Lib.decodeN,if_neg (by omega)]
 repeat' split
 all_goals (simp only;omega)
theorem zq7 (s:Bs){i:Nat}(h:i<s.length):(ByteArray.mk s.toArray).get! i=s[i]:=by
 show(s.toArray)[i]! = s[i];rw[getElem!_pos _ _ (by simpa using h)];simp
theorem zp7 (p:Nat→Bool) (hp:∀ r,128≤r→p r=true) (s:Bs):∀ (f pos:Nat),s.length≤pos+f →
 decide (0≤Lib.idxFuncFrom p true ⟨s.toArray⟩ f pos)=(s.drop pos).any (fun c=>p c.toNat):=by
 intro f
 induction f with
 | zero =>
   intro pos h;rw[List.drop_eq_nil_of_le (by omega)];rfl
 | succ f ih =>
   intro pos h;unfold Lib.idxFuncFrom;have hB:(ByteArray.mk s.toArray).size=s.length:=rfl;rw[hB];by_cases hA:pos<s.length
   ·rw [if_pos hA,List.drop_eq_getElem_cons hA,List.any_cons];have hg:=zq7 s hA;by_cases h8:s[pos].toNat<128
    ·rw [zk6 (by rw[hg];exact h8)];simp only;rw[hg];cases hpx:p s[pos].toNat with
     | true=>simp
     | false =>
       rw[if_neg (by simp),ih (pos+1) (by omega)];simp
    have h1:=hp _ (zje (s:=⟨s.toArray⟩) (i:=pos) (by rw[hg];omega));have h2:=hp s[pos].toNat (by omega);rw[h1,h2];simp
   rw[if_neg hA,List.drop_eq_nil_of_le (by omega)];rfl
theorem zmm (p:Nat→Bool)(hp:∀ r,128≤r→p r=true)(s:Bs):decide (0≤Lib.idxFunc p true ⟨s.toArray⟩)=s.any (fun c=>p c.toNat):=by
 have h:=zp7 p hp s s.length 0 (by omega);rw[List.drop_zero]at h;exact h
end
end Go.Proofs.YtffggpplnjibgaaGreatDoor
