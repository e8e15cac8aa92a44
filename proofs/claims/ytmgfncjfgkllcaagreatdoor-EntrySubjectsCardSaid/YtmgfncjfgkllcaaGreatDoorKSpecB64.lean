/-
 Bytes as signs (package coder),as plain data: hexadecimal figures there and back.
-/
import Derived.Test.YtmgfncjfgkllcaaGreatDoorKUtf
import Derived.Shelf.GgClosure.StringsIndexFunc
import Derived.Lib.DecodeN
open Nat renaming le_refl→zt
namespace Go.Proofs.YtmgfncjfgkllcaaGreatDoor
set_option linter.unusedVariables false
set_option linter.unusedSimpArgs false
set_option linter.unusedSectionVars false
section
def sgn (signs:Bs) (n:Nat):UInt8:=signs.getD n 0
def zdq (signs:Bs) (nb:Nat):Nat→Nat→Nat→Bs × Nat × Nat
 | 0,bits,h=>([],bits,h)
 | k+1,bits,h=>if nb≤h then (sgn signs (bits / 2 ^ (h - nb)) :: (zdq signs nb k (bits % 2 ^ (h - nb)) (h - nb)).1,(zdq signs nb k (bits % 2 ^ (h - nb)) (h - nb)).2) else ([],bits,h)
def zg8 (signs:Bs) (nb:Nat):Nat→Nat→Bs→Bs
 | bits,h,[]=>if 0<h then [sgn signs (bits * 2 ^ (nb - h))] else []
 | bits,h,c :: l=>(zdq signs nb (h+9) (bits * 256+c.toNat) (h+8)).1++zg8 signs nb (zdq signs nb (h+9) (bits * 256+c.toNat) (h+8)).2.1 (zdq signs nb (h+9) (bits * 256+c.toNat) (h+8)).2.2 l
def hexes:Bs:=[48,49,50,51,52,53,54,55,56,57,97,98,99,100,101,102]
def zdf:Bs→Bs
 | []=>[]
 | c :: l=>sgn hexes (c.toNat / 16) :: sgn hexes (c.toNat % 16) :: zdf l
theorem zgy (l:Bs):(zdf l).length=2 * l.length:=by
 induction l with
 | nil=>rfl
 | cons c l ih=>simp[zdf,ih];omega
theorem zxz (n:Nat)(hn:n<256):zdq hexes 4 9 n 8=([sgn hexes (n / 16),sgn hexes (n % 16)],0,0):=by
 have e1:n % 16 % 2 ^ (4 - 4)=0:=by simp[Nat.mod_one]
 simp only[zdq,zt,if_true,show(4:Nat)≤8 by omega,show 8 - 4=4 from rfl,show(2:Nat) ^ 4=16 from rfl,show 4 - 4=0 from rfl,show(2:Nat) ^ 0=1 from rfl,Nat.div_one,Nat.mod_one];simp
theorem zx2 (l:Bs):zg8 hexes 4 0 0 l=zdf l:=by
 induction l with
 | nil=>rfl
 | cons c l ih =>
   have h:=zxz c.toNat (UInt8.toNat_lt c);simp only[zg8,Nat.zero_mul,Nat.zero_add,h,ih,zdf];rfl
def idx (signs:Bs) (c:UInt8):Option Nat:=if signs.idxOf c<signs.length then some (signs.idxOf c) else none
def zap (signs:Bs) (nb:Nat):Nat→Nat→Bs→Bs→Option Bs
 | bits,h,out,[]=>if nb≤h∨bits≠0 then none else some out
 | bits,h,out,c :: l=>match idx signs c with
   | none=>none
   | some k=>if 8≤h+nb then zap signs nb ((bits * 2 ^ nb+k) % 2 ^ (h+nb - 8)) (h+nb - 8) (out++[UInt8.ofNat ((bits * 2 ^ nb+k) / 2 ^ (h+nb - 8))]) l
     else zap signs nb (bits * 2 ^ nb+k) (h+nb) out l
def ze6 (s:Bs):Option Bs:=zap hexes 4 0 0 [] s
theorem zqh:∀ n:Fin 16,idx hexes (sgn hexes n.val)=some n.val:=by decide +kernel
theorem zwr:∀ c:Fin 256,∀ k,idx hexes (UInt8.ofNat c.val)=some k→k<16∧sgn hexes k=UInt8.ofNat c.val:=by
 have h:∀ c:Fin 256,(match idx hexes (UInt8.ofNat c.val) with | none=>true | some k=>decide (k<16)&&(sgn hexes k==UInt8.ofNat c.val))=true:=by decide +kernel
 intro c k hk;have:=h c;rw[hk]at this;simpa using this
theorem ztv {c:UInt8}{k:Nat}(h:idx hexes c=some k):k<16∧sgn hexes k=c:=by
 have:=zwr ⟨c.toNat,UInt8.toNat_lt c⟩ k (by simpa using h);simpa using this
theorem zv9 (l out:Bs):zap hexes 4 0 0 out (zdf l)=some (out++l):=by
 induction l generalizing out with
 | nil=>simp[zdf,zap]
 | cons c l ih =>
   have hc:=UInt8.toNat_lt c;have h1:=zqh ⟨c.toNat / 16,by omega⟩;have h2:=zqh ⟨c.toNat % 16,by omega⟩;simp only at h1 h2;have e1:(0 * 2 ^ 4+c.toNat / 16) * 2 ^ 4+c.toNat % 16=c.toNat:=by omega
   simp only[zdf,zap,h1,h2,show ¬ (8≤0+4) by omega,if_false,show 8≤0+4+4 by omega,if_true,e1,show 0+4+4 - 8=0 from rfl,show(2:Nat) ^ 0=1 from rfl,Nat.mod_one,Nat.div_one];rw[ih];simp
theorem ztb:∀ (n:Nat) (s out l:Bs),s.length≤n→zap hexes 4 0 0 out s=some l→∃ m,l=out++m∧s=zdf m:=by
 intro n
 induction n with
 | zero =>
   intro s out l hn h;obtain rfl:s=[]:=List.length_eq_zero_iff.1 (by omega);simp[zap]at h;exact⟨[],by simp[h],rfl⟩
 | succ n ih =>
   intro s out l hn h
   match s with
   | [] =>
     simp[zap]at h;exact⟨[],by simp[h],rfl⟩
   | [c] =>
     simp only[zap]at h;cases hc:idx hexes c with
     | none=>rw[hc]at h;simp at h
     | some k=>rw[hc]at h;simp[zap]at h
   | c :: d :: t =>
     simp only[zap]at h;cases hc:idx hexes c with
     | none=>rw[hc]at h;simp at h
     | some k =>
       rw[hc]at h;simp only[show ¬ (8≤0+4) by omega,if_false]at h;cases hd:idx hexes d with
       | none=>rw[hd]at h;simp at h
       | some j =>
         rw[hd]at h;obtain⟨k1,k2⟩:=ztv hc;obtain⟨j1,j2⟩:=ztv hd;have e1:(0 * 2 ^ 4+k) * 2 ^ 4+j=16 * k+j:=by omega
         simp only[show 8≤0+4+4 by omega,if_true,e1,show 0+4+4 - 8=0 from rfl,show(2:Nat) ^ 0=1 from rfl,Nat.mod_one,Nat.div_one]at h;obtain⟨m,rfl,rfl⟩:=ih t _ l (by simp at hn;omega) h;refine⟨UInt8.ofNat (16 * k+j) :: m,by simp,?_⟩;have hv:(UInt8.ofNat (16 * k+j)).toNat=16 * k+j:=by simp only[UInt8.toNat_ofNat'];omega
         simp only[zdf,hv];rw[show(16 * k+j) / 16=k by omega,show(16 * k+j) % 16=j by omega,k2,j2]
theorem ze5 (s l:Bs):ze6 s=some l↔s=zdf l:=by
 constructor
 ·intro h;obtain⟨m,h1,h2⟩:=ztb s.length s [] l (zt _) h;simp at h1;rw[h1];exact h2
 rintro rfl;have:=zv9 l [];unfold ze6;simpa using this
theorem zta (f:Bs→Bs) (hf:∀ m,f (zdf m)=m) (s:Bs):(if zdf (f s)=s then some (f s) else none)=ze6 s:=by
 by_cases h:zdf (f s)=s
 ·rw[if_pos h];exact((ze5 s (f s)).2 h.symm).symm
 rw[if_neg h];cases hu:ze6 s with
 | none=>rfl
 | some l =>
   have:=(ze5 s l).1 hu;subst this;rw[hf]at h;exact absurd rfl h
def zii (s:Bs):Option Bs:=match ze6 s with
 | some l=>if l.length=32 then some l else none
 | none=>none
theorem zc4 (s l:Bs):zii s=some l↔s=zdf l∧l.length=32:=by
 unfold zii;cases h:ze6 s with
 | none =>
   simp only[reduceCtorEq,false_iff];rintro⟨h1,-⟩;rw[(ze5 s l).2 h1]at h;simp at h
 | some m =>
   have hm:=(ze5 s m).1 h;simp only;constructor
   ·intro h2;split at h2
    ·simp at h2;subst h2;exact⟨hm,by assumption⟩
    simp at h2
   rintro⟨h1,h2⟩
   have:m=l:=by
    have h3:=(ze5 s l).2 h1;rw[h]at h3;simpa using h3
   subst this;rw[if_pos h2]
end
section
structure Sg where
 id:Bs
 key:Bs
 sig:Bs
structure En where
 kind:Int
 digest:Bs
 typ:Bs
 payload:Bs
 op:Int
 ident:Bs
 key:Bs
 sigs:List Sg
def Sg.ok (s:Sg):Prop:=s.key.length=32∧s.sig.length=64
def En.ok (e:En):Prop:=e.digest.length=32∧e.key.length=32∧∀ s∈e.sigs,s.ok
def zff (n:Nat):Bool:=(decide (97≤n)&&decide (n≤122))||((decide (48≤n)&&decide (n≤57))||(n==46||(n==45||(n==95||n==64))))
def zf0 (n:Nat):Bool:=decide (33≤n)&&decide (n≤126)
def za0 (s:Bs):Bool:=!s.isEmpty&&(decide (s.length≤64)&&s.all (fun c=>zff c.toNat))
def sReserved:Bs:=[99,97,99,104,101,116,47]
def zcd (s:Bs):Bool:=!s.isEmpty&&(decide (s.length≤64)&&(s.all (fun c=>zf0 c.toNat) && !Lib.hasPrefix s sReserved))
def zp3:Bs:=[107,101,121,58]
def zal (s:Sg):Bs:=if s.id=[] then zp3++zdf s.key else s.id
theorem zsv {s:ByteArray}{i:Nat}(h:(s.get! i).toNat<128):Utf8.decode s i=((s.get! i).toNat,1):=by
 rw[Lib.decode_at,Lib.decodeN,if_pos h]
theorem zpb {s:ByteArray}{i:Nat}(h:128≤(s.get! i).toNat):128≤(Utf8.decode s i).1:=by
 rw[Lib.decode_at,Lib.decodeN,if_neg (by omega)]
 repeat' split
 all_goals (simp only;omega)
theorem z1g (s:Bs){i:Nat}(h:i<s.length):(ByteArray.mk s.toArray).get! i=s[i]:=by
 show(s.toArray)[i]! = s[i];rw[getElem!_pos _ _ (by simpa using h)];simp
theorem zz5 (p:Nat→Bool) (hp:∀ r,128≤r→p r=true) (s:Bs):∀ (f pos:Nat),s.length≤pos+f →
 decide (0≤Lib.idxFuncFrom p true ⟨s.toArray⟩ f pos)=(s.drop pos).any (fun c=>p c.toNat):=by
 intro f
 induction f with
 | zero =>
   intro pos h;rw[List.drop_eq_nil_of_le (by omega)];rfl
 | succ f ih =>
   intro pos h;unfold Lib.idxFuncFrom;have hB:(ByteArray.mk s.toArray).size=s.length:=rfl;rw[hB];by_cases hA:pos<s.length
   ·rw [if_pos hA,List.drop_eq_getElem_cons hA,List.any_cons];have hg:=z1g s hA;by_cases h8:s[pos].toNat<128
    ·rw [zsv (by rw[hg];exact h8)];simp only;rw[hg];cases hpx:p s[pos].toNat with
     | true=>simp
     | false =>
       rw[if_neg (by simp),ih (pos+1) (by omega)];simp
    have h1:=hp _ (zpb (s:=⟨s.toArray⟩) (i:=pos) (by rw[hg];omega));have h2:=hp s[pos].toNat (by omega);rw[h1,h2];simp
   rw[if_neg hA,List.drop_eq_nil_of_le (by omega)];rfl
theorem zu0 (p:Nat→Bool)(hp:∀ r,128≤r→p r=true)(s:Bs):decide (0≤Lib.idxFunc p true ⟨s.toArray⟩)=s.any (fun c=>p c.toNat):=by
 have h:=zz5 p hp s s.length 0 (by omega);rw[List.drop_zero]at h;exact h
end
section
def sixes:Bs:=[65,66,67,68,69,70,71,72,73,74,75,76,77,78,79,80,81,82,83,84,85,86,87,88,89,90,97,98,99,100,101,102,103,104,105,106,107,108,109,110,111,112,113,114,115,116,117,118,119,120,121,122,48,49,50,51,52,53,54,55,56,57,43,47]
def b64C:Bs→Bs
 | []=>[]
 | [a]=>[sgn sixes (a.toNat / 4),sgn sixes (a.toNat % 4 * 16)]
 | [a,b]=>[sgn sixes (a.toNat / 4),sgn sixes (a.toNat % 4 * 16+b.toNat / 16),sgn sixes (b.toNat % 16 * 4)]
 | a :: b :: c :: l=>sgn sixes (a.toNat / 4) :: sgn sixes (a.toNat % 4 * 16+b.toNat / 16) :: sgn sixes (b.toNat % 16 * 4+c.toNat / 64) :: sgn sixes (c.toNat % 64) :: b64C l
def zm4 (s:Bs):Bs:=List.replicate ((4 - s.length % 4) % 4) 61
def zhp (l:Bs):Bs:=b64C l++zm4 (b64C l)
theorem zvn (n:Nat)(hn:n<256):zdq sixes 6 9 n 8=([sgn sixes (n / 4)],n % 4,2):=by
 simp only[zdq,show(6:Nat)≤8 by omega,if_true,show 8 - 6=2 from rfl,show(2:Nat) ^ 2=4 from rfl,show ¬ (6:Nat)≤2 by omega,if_false]
theorem zyv (n:Nat)(hn:n<1024):zdq sixes 6 11 n 10=([sgn sixes (n / 16)],n % 16,4):=by
 simp only[zdq,show(6:Nat)≤10 by omega,if_true,show 10 - 6=4 from rfl,show(2:Nat) ^ 4=16 from rfl,show ¬ (6:Nat)≤4 by omega,if_false]
theorem z1k (n:Nat)(hn:n<4096):zdq sixes 6 13 n 12=([sgn sixes (n / 64),sgn sixes (n % 64)],0,0):=by
 simp only[zdq,show(6:Nat)≤12 by omega,if_true,show 12 - 6=6 from rfl,show(2:Nat) ^ 6=64 from rfl,zt,Nat.sub_self,Nat.pow_zero,Nat.div_one,Nat.mod_one,show ¬ (6:Nat)≤0 by omega,if_false]
theorem zqx:∀ l:Bs,zg8 sixes 6 0 0 l=b64C l
 | []=>rfl
 | [a]=>by
   have ha:=UInt8.toNat_lt a;simp only[zg8,Nat.zero_mul,Nat.zero_add,zvn _ ha,b64C,show(0:Nat)<2 by omega,if_true,show 6 - 2=4 from rfl,show(2:Nat) ^ 4=16 from rfl];rfl
 | [a,b]=>by
   have ha:=UInt8.toNat_lt a;have hb:=UInt8.toNat_lt b;simp only[zg8,Nat.zero_mul,Nat.zero_add,zvn _ ha,b64C,show 2+9=11 from rfl,show 2+8=10 from rfl,zyv (a.toNat % 4 * 256+b.toNat) (by omega),show(0:Nat)<4 by omega,if_true,show 6 - 4=2 from rfl,show(2:Nat) ^ 2=4 from rfl];rw[show(a.toNat % 4 * 256+b.toNat) / 16=a.toNat % 4 * 16+b.toNat / 16 by omega,show(a.toNat % 4 * 256+b.toNat) % 16=b.toNat % 16 by omega];rfl
 | a :: b :: c :: l=>by
   have ha:=UInt8.toNat_lt a;have hb:=UInt8.toNat_lt b;have hc:=UInt8.toNat_lt c;simp only[zg8,Nat.zero_mul,Nat.zero_add,zvn _ ha,b64C,show 2+9=11 from rfl,show 2+8=10 from rfl,zyv (a.toNat % 4 * 256+b.toNat) (by omega)];rw[show(a.toNat % 4 * 256+b.toNat) / 16=a.toNat % 4 * 16+b.toNat / 16 by omega,show(a.toNat % 4 * 256+b.toNat) % 16=b.toNat % 16 by omega];simp only[show 4+9=13 from rfl,show 4+8=12 from rfl,z1k (b.toNat % 16 * 256+c.toNat) (by omega)];rw[show(b.toNat % 16 * 256+c.toNat) / 64=b.toNat % 16 * 4+c.toNat / 64 by omega,show(b.toNat % 16 * 256+c.toNat) % 64=c.toNat % 64 by omega,zqx l];rfl
theorem zqg:∀ n:Fin 64,idx sixes (sgn sixes n.val)=some n.val∧sgn sixes n.val≠61:=by decide +kernel
theorem zel {n:Nat}(h:n<64):idx sixes (sgn sixes n)=some n:=(zqg ⟨n,h⟩).1
theorem zhj {n:Nat}(h:n<64):sgn sixes n≠61:=(zqg ⟨n,h⟩).2
theorem zrt:∀ c:Fin 256,(match idx sixes (UInt8.ofNat c.val) with | none=>true | some k=>decide (k<64)&&(sgn sixes k==UInt8.ofNat c.val))=true:=by decide +kernel
theorem zla {c:UInt8}{k:Nat}(h:idx sixes c=some k):k<64∧sgn sixes k=c:=by
 have hn:=zrt ⟨c.toNat,UInt8.toNat_lt c⟩;simp only[UInt8.ofNat_toNat,h]at hn;simpa using hn
theorem dL0 (out s:Bs)(c:UInt8)(k:Nat)(h:idx sixes c=some k):zap sixes 6 0 0 out (c :: s)=zap sixes 6 k 6 out s:=by
 simp only[zap,h,show ¬ (8≤0+6) by omega,if_false,Nat.zero_mul,Nat.zero_add]
theorem dL6 (out s:Bs)(c:UInt8)(x k:Nat)(h:idx sixes c=some k):zap sixes 6 x 6 out (c :: s)=zap sixes 6 ((x * 64+k) % 16) 4 (out++[UInt8.ofNat ((x * 64+k) / 16)]) s:=by
 simp only[zap,h,show 8≤6+6 by omega,if_true,show 6+6 - 8=4 from rfl,show(2:Nat) ^ 6=64 from rfl,show(2:Nat) ^ 4=16 from rfl]
theorem dL4 (out s:Bs)(c:UInt8)(x k:Nat)(h:idx sixes c=some k):zap sixes 6 x 4 out (c :: s)=zap sixes 6 ((x * 64+k) % 4) 2 (out++[UInt8.ofNat ((x * 64+k) / 4)]) s:=by
 simp only[zap,h,show 8≤4+6 by omega,if_true,show 4+6 - 8=2 from rfl,show(2:Nat) ^ 6=64 from rfl,show(2:Nat) ^ 2=4 from rfl]
theorem dL2 (out s:Bs)(c:UInt8)(x k:Nat)(h:idx sixes c=some k):zap sixes 6 x 2 out (c :: s)=zap sixes 6 0 0 (out++[UInt8.ofNat (x * 64+k)]) s:=by
 simp only[zap,h,show 8≤2+6 by omega,if_true,show 2+6 - 8=0 from rfl,show(2:Nat) ^ 6=64 from rfl,Nat.pow_zero,Nat.mod_one,Nat.div_one]
theorem dLn (out s:Bs)(c:UInt8)(x h:Nat)(hn:idx sixes c=none):zap sixes 6 x h out (c :: s)=none:=by
 simp only[zap,hn]
theorem zye:∀ (l out:Bs),zap sixes 6 0 0 out (b64C l)=some (out++l)
 | [],out=>by simp[b64C,zap]
 | [a],out=>by
   have ha:=UInt8.toNat_lt a;rw[b64C,dL0 _ _ _ _ (zel (by omega)),dL6 _ _ _ _ _ (zel (by omega)),show(a.toNat / 4 * 64+a.toNat % 4 * 16) % 16=0 by omega,show(a.toNat / 4 * 64+a.toNat % 4 * 16) / 16=a.toNat by omega];simp[zap]
 | [a,b],out=>by
   have ha:=UInt8.toNat_lt a;have hb:=UInt8.toNat_lt b
   rw [b64C,dL0 _ _ _ _ (zel (by omega)),dL6 _ _ _ _ _ (zel (by omega)),dL4 _ _ _ _ _ (zel (by omega)),
    show(a.toNat / 4 * 64+(a.toNat % 4 * 16+b.toNat / 16)) / 16=a.toNat by omega,show(a.toNat / 4 * 64+(a.toNat % 4 * 16+b.toNat / 16)) % 16=b.toNat / 16 by omega,
    show(b.toNat / 16 * 64+b.toNat % 16 * 4) % 4=0 by omega,show(b.toNat / 16 * 64+b.toNat % 16 * 4) / 4=b.toNat by omega]
   simp[zap]
 | a :: b :: c :: l,out=>by
   have ha:=UInt8.toNat_lt a;have hb:=UInt8.toNat_lt b;have hc:=UInt8.toNat_lt c
   rw [b64C,dL0 _ _ _ _ (zel (by omega)),dL6 _ _ _ _ _ (zel (by omega)),dL4 _ _ _ _ _ (zel (by omega)),dL2 _ _ _ _ _ (zel (by omega)),
    show(a.toNat / 4 * 64+(a.toNat % 4 * 16+b.toNat / 16)) / 16=a.toNat by omega,show(a.toNat / 4 * 64+(a.toNat % 4 * 16+b.toNat / 16)) % 16=b.toNat / 16 by omega,
    show(b.toNat / 16 * 64+(b.toNat % 16 * 4+c.toNat / 64)) / 4=b.toNat by omega,show(b.toNat / 16 * 64+(b.toNat % 16 * 4+c.toNat / 64)) % 4=c.toNat / 64 by omega,
    show c.toNat / 64 * 64+c.toNat % 64=c.toNat by omega,zye l]
   simp
theorem zlk {n:Nat}(h:n<256):(UInt8.ofNat n).toNat=n:=by simp only[UInt8.toNat_ofNat'];omega
theorem zy7 : ∀ (n : Nat) (s out l:Bs),s.length≤n→zap sixes 6 0 0 out s=some l→∃ m,l=out++m∧s=b64C m:=by
 intro n
 induction n with
 | zero =>
   intro s out l hn h;obtain rfl:s=[]:=List.length_eq_zero_iff.1 (by omega);simp[zap]at h;exact⟨[],by simp[h],rfl⟩
 | succ n ih =>
   intro s out l hn h;cases s with
   | nil =>
     simp[zap]at h;exact⟨[],by simp[h],rfl⟩
   | cons c s =>
     cases hc:idx sixes c with
     | none=>rw[dLn _ _ _ _ _ hc]at h;cases h
     | some k =>
       obtain⟨k1,k2⟩:=zla hc;rw[dL0 _ _ _ _ hc]at h;cases s with
       | nil=>simp[zap]at h
       | cons d s =>
         cases hd:idx sixes d with
         | none=>rw[dLn _ _ _ _ _ hd]at h;cases h
         | some j =>
           obtain⟨j1,j2⟩:=zla hd;rw[dL6 _ _ _ _ _ hd]at h;have hx:(UInt8.ofNat ((k * 64+j) / 16)).toNat=(k * 64+j) / 16:=zlk (by omega);cases s with
           | nil =>
             simp only[zap,show ¬ (6:Nat)≤4 by omega,false_or]at h;split at h
             ·cases h
             rename_i h0
             refine⟨[UInt8.ofNat ((k * 64+j) / 16)],by simpa using h.symm,?_⟩;simp only[b64C,hx];rw[show(k * 64+j) / 16 / 4=k by omega,show(k * 64+j) / 16 % 4 * 16=j by omega,k2,j2]
           | cons e s =>
             cases he:idx sixes e with
             | none=>rw[dLn _ _ _ _ _ he]at h;cases h
             | some i =>
               obtain⟨i1,i2⟩:=zla he;rw[dL4 _ _ _ _ _ he]at h;have hy:(UInt8.ofNat (((k * 64+j) % 16 * 64+i) / 4)).toNat=((k * 64+j) % 16 * 64+i) / 4:=zlk (by omega);cases s with
               | nil =>
                 simp only[zap,show ¬ (6:Nat)≤2 by omega,false_or]at h;split at h
                 ·cases h
                 rename_i h0
                 refine⟨[UInt8.ofNat ((k * 64+j) / 16),UInt8.ofNat (((k * 64+j) % 16 * 64+i) / 4)],by simpa using h.symm,?_⟩;simp only[b64C,hx,hy];rw[show(k * 64+j) / 16 / 4=k by omega,show(k * 64+j) / 16 % 4 * 16+((k * 64+j) % 16 * 64+i) / 4 / 16=j by omega,show((k * 64+j) % 16 * 64+i) / 4 % 16 * 4=i by omega,k2,j2,i2]
               | cons f s =>
                 cases hf:idx sixes f with
                 | none=>rw[dLn _ _ _ _ _ hf]at h;cases h
                 | some q =>
                   obtain⟨q1,q2⟩:=zla hf;rw[dL2 _ _ _ _ _ hf]at h;have hz:(UInt8.ofNat (((k * 64+j) % 16 * 64+i) % 4 * 64+q)).toNat=((k * 64+j) % 16 * 64+i) % 4 * 64+q:=zlk (by omega);obtain⟨m,h1,h2⟩:=ih s _ l (by simp at hn;omega) h;refine⟨UInt8.ofNat ((k * 64+j) / 16) :: UInt8.ofNat (((k * 64+j) % 16 * 64+i) / 4) :: UInt8.ofNat (((k * 64+j) % 16 * 64+i) % 4 * 64+q) :: m,by rw[h1];simp,?_⟩;simp only[b64C,hx,hy,hz]
                   rw [show(k * 64+j) / 16 / 4=k by omega,show(k * 64+j) / 16 % 4 * 16+((k * 64+j) % 16 * 64+i) / 4 / 16=j by omega,
                    show((k * 64+j) % 16 * 64+i) / 4 % 16 * 4+(((k * 64+j) % 16 * 64+i) % 4 * 64+q) / 64=i by omega,show(((k * 64+j) % 16 * 64+i) % 4 * 64+q) % 64=q by omega,k2,j2,i2,q2,h2]
def zpx (s:Bs):Option Bs:=zap sixes 6 0 0 [] s
theorem zkg (s l:Bs):zpx s=some l↔s=b64C l:=by
 constructor
 ·intro h;obtain⟨m,h1,h2⟩:=zy7 s.length s [] l (zt _) h;simp at h1;rw[h1];exact h2
 rintro rfl;have:=zye l [];unfold zpx;simpa using this
def zk5 (s:Bs):Bs:=(s.reverse.dropWhile (· == 61)).reverse
def zet (s:Bs):Option Bs:=if zk5 s++zm4 (zk5 s)=s then zpx (zk5 s) else none
theorem zvu:∀ (l:Bs),∀ c∈b64C l,c≠61
 | [],c,h=>by cases h
 | [a],c,h=>by
   have ha:=UInt8.toNat_lt a;simp only[b64C,List.mem_cons,List.not_mem_nil,or_false]at h;rcases h with rfl | rfl<;>exact zhj (by omega)
 | [a,b],c,h=>by
   have ha:=UInt8.toNat_lt a;have hb:=UInt8.toNat_lt b;simp only[b64C,List.mem_cons,List.not_mem_nil,or_false]at h;rcases h with rfl | rfl | rfl<;>exact zhj (by omega)
 | a :: b :: d :: l,c,h=>by
   have ha:=UInt8.toNat_lt a;have hb:=UInt8.toNat_lt b;have hd:=UInt8.toNat_lt d;simp only[b64C,List.mem_cons]at h;rcases h with rfl | rfl | rfl | rfl | h
   iterate 4 exact zhj (by omega)
   exact zvu l c h
theorem zwd (s:Bs) (n:Nat) (h:∀ c∈s,c≠61):zk5 (s++List.replicate n 61)=s:=by
 unfold zk5;rw[List.reverse_append,List.reverse_replicate]
 have h1:∀ (n:Nat) (t:Bs),(List.replicate n (61:UInt8)++t).dropWhile (· == 61)=t.dropWhile (· == 61):=by
  intro n t
  induction n with
  | zero=>rfl
  | succ n ih=>rw[List.replicate_succ,List.cons_append,List.dropWhile_cons,if_pos (by rfl),ih]
 rw[h1];cases hr:s.reverse with
 | nil=>rw[List.reverse_eq_nil_iff]at hr;subst hr;rfl
 | cons a t =>
   have ha:a≠61:=h a (by rw[← List.mem_reverse,hr];simp);rw[List.dropWhile_cons,if_neg (by simpa using ha),← hr,List.reverse_reverse]
theorem ze7 (s l:Bs):zet s=some l↔s=zhp l:=by
 unfold zet zhp;constructor
 ·intro h;split at h
  ·rename_i h1
   have h2:=(zkg _ _).1 h;rw[h2]at h1;exact h1.symm
  cases h
 rintro rfl;have ht:=zwd (b64C l) ((4 - (b64C l).length % 4) % 4) (zvu l);unfold zm4;rw[ht,if_pos rfl];exact(zkg _ _).2 rfl
def zj2 (s:Bs):Option Bs:=match zet s with
 | some l=>if l.length=64 then some l else none
 | none=>none
theorem zgg (s l:Bs):zj2 s=some l↔s=zhp l∧l.length=64:=by
 unfold zj2;cases h:zet s with
 | none =>
   simp only[reduceCtorEq,false_iff];rintro⟨h1,-⟩;rw[(ze7 s l).2 h1]at h;cases h
 | some m =>
   have hm:=(ze7 s m).1 h;simp only;constructor
   ·intro h2;split at h2
    ·simp at h2;subst h2;exact⟨hm,by assumption⟩
    cases h2
   rintro⟨h1,h2⟩
   have:m=l:=by
    have h3:=(ze7 s l).2 h1;rw[h]at h3;simpa using h3
   subst this;rw[if_pos h2]
theorem zq1:∀ l:Bs,(b64C l).length=(l.length * 4+2) / 3
 | []=>rfl
 | [a]=>by simp[b64C]
 | [a,b]=>by simp[b64C]
 | a :: b :: c :: l=>by
   simp only[b64C,List.length_cons,zq1 l];omega
end
end Go.Proofs.YtmgfncjfgkllcaaGreatDoor
