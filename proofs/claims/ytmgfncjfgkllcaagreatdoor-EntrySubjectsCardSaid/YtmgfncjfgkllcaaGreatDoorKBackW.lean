/-
 (what is written is read back) What is written is read back;sorted values;the same values: plain laws.
-/
import Derived.Test.YtmgfncjfgkllcaaGreatDoorKStart5
import Derived.Test.YtmgfncjfgkllcaaGreatDoorKUtf
import Derived.Test.YtmgfncjfgkllcaaGreatDoorKGet
open Go.Lib renaming encodeRune→zc
namespace Go.Proofs.YtmgfncjfgkllcaaGreatDoor
set_option linter.unusedVariables false
set_option linter.unusedSimpArgs false
set_option linter.unusedSectionVars false

/-! ### texts -/
theorem zbh {c:UInt8}{l:Bs}(h:c≠32∧c≠9∧c≠10∧c≠13):ja (c :: l)=c :: l:=by
 unfold ja Lib.trimLeftS;rw[List.dropWhile_cons_of_neg];simp[h.1,h.2.1,h.2.2.1,h.2.2.2]
theorem zcj {c:UInt8}{l:Bs}(h:c≠32∧c≠9∧c≠10∧c≠13):zdn c (c :: l)=some l:=by
 unfold zdn;rw[zbh h];simp
theorem zl0 {c d:UInt8}{l:Bs}(h:d≠32∧d≠9∧d≠10∧d≠13)(hd:d≠c):zdn c (d :: l)=none:=by
 unfold zdn;rw[zbh h];simp[hd]
theorem zin (p r:Bs)(b:Bool):zaa p ⟨p++r,b⟩=⟨r,b⟩:=by
 unfold zaa Lib.trimPrefix Lib.hasPrefix;have:p.isPrefixOf (p++r)=true:=by rw[List.isPrefixOf_iff_prefix];exact List.prefix_append _ _
 simp[this]
theorem zlz {c:UInt8}(h:c.toNat<128):zc (c.toNat:Int)=[c]:=by
 rw[enc_one (by omega) (by omega)];simp
theorem zl1 {c:UInt8}(h:c.toNat<128)(r:Bs):Lib.decodeGo ⟨(c :: r).toArray⟩=(c.toNat,1):=by
 have:=zl3 (c:=(c.toNat:Int)) (by unfold Sc;omega) r;rw[zlz h]at this;simpa using this
theorem zu5 {n:Nat}(h:n<16):zgz (fig n)=some n:=by
 have:n=0∨n=1∨n=2∨n=3∨n=4∨n=5∨n=6∨n=7∨n=8∨n=9∨n=10∨n=11∨n=12∨n=13∨n=14∨n=15:=by omega
 rcases this with h | h | h | h | h | h | h | h | h | h | h | h | h | h | h | h<;>subst h<;>decide
theorem z2e (c:UInt8)(h:c.toNat<32)(r:Bs):zdo ⟨48 :: 48 :: fig (c.toNat / 16) :: fig (c.toNat % 16) :: r,false⟩=(c.toNat,⟨r,false⟩):=by
 unfold zdo;have hA:zgz 48=some 0:=by decide
 simp only[zcp,hA,zu5 (show c.toNat / 16<16 by omega),zu5 (show c.toNat % 16<16 by omega)];rw[if_pos (by omega)]
 congr 1
 omega
theorem zwf (c:UInt8) (hc:c.toNat<128) (out r:Bs):qf out ⟨(if zma c=[] then [c] else zma c)++r,false⟩=(none,out++[c],⟨r,false⟩):=by
 have hA:∀ x:UInt8,zcc x=some c.toNat→qf out ⟨92 :: x :: r,false⟩=(none,out++[c],⟨r,false⟩):=by
  intro x hx;unfold qf;simp only[zl1 (show(92:UInt8).toNat<128 by decide)];rw[if_neg (by decide),if_neg (by decide),if_pos (by decide)];unfold j5;simp only[List.drop_succ_cons,List.drop_zero,hx];rw[zlz hc]
 unfold zma;by_cases h1:c=34
 ·subst h1;exact hA 34 (by decide)
 by_cases h2:c=92
 ·subst h2;exact hA 92 (by decide)
 by_cases h3:c=8
 ·subst h3;exact hA 98 (by decide)
 by_cases h4:c=9
 ·subst h4;exact hA 116 (by decide)
 by_cases h5:c=10
 ·subst h5;exact hA 110 (by decide)
 by_cases h6:c=12
 ·subst h6;exact hA 102 (by decide)
 by_cases h7:c=13
 ·subst h7;exact hA 114 (by decide)
 simp only[h1,h2,h3,h4,h5,h6,h7,if_false];by_cases h8:c.toNat<32
 ·rw[if_pos h8,if_neg (by simp)];unfold qf;simp only[List.cons_append,List.nil_append,zl1 (show(92:UInt8).toNat<128 by decide)];rw[if_neg (by decide),if_neg (by decide),if_pos (by decide)];unfold j5;simp only[List.drop_succ_cons,List.drop_zero];rw[show zcc 117=none by decide];simp only[if_true];rw[z2e c h8,zlz hc]
 rw[if_neg h8,if_pos rfl];unfold qf;simp only[List.cons_append,List.nil_append,zl1 hc];have n1:¬ c.toNat=34:=fun h=>h1 (UInt8.toNat_inj.1 h)
 have n2:¬ c.toNat=92:=fun h=>h2 (UInt8.toNat_inj.1 h)
 rw[if_neg (by omega),if_neg n1,if_neg n2,zlz hc];rfl
theorem ztl (c:Int) (hc:Sc c) (h:128≤c) (out r:Bs):qf out ⟨zc c++r,false⟩=(none,out++zc c,⟨r,false⟩):=by
 unfold qf;simp only[zl3 hc]
 have hp:2≤(zc c).length:=by
  rcases zgm hc with h' | h' | h' | h'
  ·omega
  ·rw[zgb h'.1 h'.2];simp
  ·rw[zdh h'];simp
  rw[zem h'.1 h'.2];simp
 rw[if_neg (by omega),if_neg (by omega),if_neg (by omega),List.drop_left]
 congr 2
 congr 1
 congr 1
 unfold Sc at hc;omega
theorem zwg (out r:Bs):qf out ⟨34 :: r,false⟩=(some out,out,⟨r,false⟩):=by
 unfold qf;simp only[zl1 (show(34:UInt8).toNat<128 by decide)];rw[if_neg (by decide),if_pos (by decide)];rfl
theorem zjp (a b:Bs):zc0 (a++b)=zc0 a++zc0 b:=by
 induction a with
 | nil=>rfl
 | cons c a ih=>simp only[List.cons_append,zc0,ih,List.append_assoc]
theorem zxu {c:UInt8}(h:128≤c.toNat):zma c=[]:=by
 unfold zma;have e:∀ x:UInt8,x.toNat<128→¬ c=x:=fun x hx e=>by subst e;omega
 rw[if_neg (e 34 (by decide)),if_neg (e 92 (by decide)),if_neg (e 8 (by decide)),if_neg (e 9 (by decide)),if_neg (e 10 (by decide)),if_neg (e 12 (by decide)),if_neg (e 13 (by decide)),if_neg (by omega)]
theorem zvg (l:Bs) (h:∀ c∈l,128≤c.toNat):zc0 l=l:=by
 induction l with
 | nil=>rfl
 | cons c l ih =>
   rw[zc0,zxu (h c (by simp)),ih (fun x hx=>h x (by simp[hx]))];rfl
theorem zvk {c:Int}(hc:Sc c)(h:128≤c):∀ x∈zc c,128≤x.toNat:=by
 intro x hx;rcases zgm hc with h' | h' | h' | h'
 ·omega
 ·rw[zgb h'.1 h'.2]at hx;simp only[List.mem_cons,List.not_mem_nil,or_false]at hx;rcases hx with rfl | rfl<;>(rw[zad _ (by omega) (by omega)];omega)
 ·rw[zdh h']at hx;simp only[List.mem_cons,List.not_mem_nil,or_false]at hx;rcases hx with rfl | rfl | rfl<;>(rw[zad _ (by omega) (by omega)];omega)
 rw[zem h'.1 h'.2]at hx;simp only[List.mem_cons,List.not_mem_nil,or_false]at hx;rcases hx with rfl | rfl | rfl | rfl<;>(rw[zad _ (by omega) (by omega)];omega)
theorem zse {s:Bs} (hs:Vl s):∀ (out r:Bs) (k:Nat),(zc0 s).length+1≤k→j4 k out ⟨zc0 s++34 :: r,false⟩=(out++s,⟨r,false⟩):=by
 induction hs with
 | nil =>
   intro out r k hk;obtain⟨k,rfl⟩:∃ m,k=m+1:=⟨k - 1,by simp[zc0]at hk;omega⟩;simp only[zc0,List.nil_append,j4,zwg,Bool.false_eq_true,if_false,List.append_nil]
 | cons c hc l hl ih =>
   intro out r k hk;rw[zjp]at hk;rw[List.length_append]at hk;obtain⟨k,rfl⟩:∃ m,k=m+1:=⟨k - 1,by omega⟩;rw[zjp,List.append_assoc];unfold j4;simp only[Bool.false_eq_true,if_false];by_cases hlow:c<128
   ·have h0:0≤c:=by unfold Sc at hc;omega
    have e1:zc c=[c.toNat.toUInt8]:=enc_one h0 (by omega);have e2:(c.toNat.toUInt8).toNat=c.toNat:=zad c h0 (by omega);have e3:zc0 (zc c)=(if zma c.toNat.toUInt8=[] then [c.toNat.toUInt8] else zma c.toNat.toUInt8):=by rw[e1];simp[zc0]
    have e4:1≤(zc0 (zc c)).length:=by
     rw[e3];split
     ·simp
     rename_i h
     exact List.length_pos_iff.2 h
    rw[e3,zwf _ (by rw[e2];omega)];simp only;rw[ih _ _ _ (by omega),e1,List.append_assoc]
   rw[zvg _ (zvk hc (by omega))]at hk ⊢;have:=zjr c;rw[ztl c hc (by omega)];simp only;rw[ih _ _ _ (by omega),List.append_assoc]
theorem zki {s:Bs}(hs:Vl s)(r:Bs):zbk ⟨zby s++r,false⟩=(s,⟨r,false⟩):=by
 unfold zbk zby
 have e:34 :: zc0 s++[34]++r=[34]++(zc0 s++34 :: r):=by simp
 rw[e,zin,zse hs]
 ·rfl
 simp;omega
/-! ### numbers -/
def zlr (x:UInt8):Prop:=48≤x.toNat∧x.toNat≤57
def Rok:Bs→Prop
 | []=>True
 | x :: _=>¬ zlr x
theorem zqt {n:Nat}(h:n<10):(UInt8.ofNat (48+n)).toNat=48+n:=by simp;omega
theorem zst (u:Nat):∀ (a k:Nat) (r:Bs),a * 10 ^ Lib.nDigits u+u≤9007199254740991→j6 a k (Lib.decDigits u++r)=j6 (a * 10 ^ Lib.nDigits u+u) (k+Lib.nDigits u) r:=by
 induction u using Nat.strongRecOn with
 | _ u ih =>
   intro a k r h;by_cases hu:u<10
   ·rw[Lib.nDigits_small hu]at h ⊢;rw[Lib.decDigits,dif_pos hu];simp only[List.cons_append,List.nil_append,j6,zqt hu];rw[if_pos (by omega),if_pos (by omega)]
    congr 1
    omega
   rw[Lib.nDigits_big hu]at h ⊢;rw[Nat.pow_succ]at h ⊢;rw[Lib.decDigits,dif_neg hu,List.append_assoc];have e:a * (10 ^ Lib.nDigits (u / 10) * 10)=a * 10 ^ Lib.nDigits (u / 10) * 10:=by rw[Nat.mul_assoc]
   rw[e]at h ⊢;have i:=ih (u / 10) (by omega) a k (UInt8.ofNat (48+u % 10) :: r);generalize a * 10 ^ Lib.nDigits (u / 10)=A at h i ⊢;rw[List.cons_append,List.nil_append,i (by omega)];simp only[j6,zqt (show u % 10<10 by omega)];rw[if_pos (by omega),if_pos (by omega)]
   congr 1
   omega
theorem zl2 {u:Nat} (h:0<u):∃ y m,Lib.decDigits u=y :: m∧zlr y∧y≠48:=by
 induction u using Nat.strongRecOn with
 | _ u ih =>
   by_cases hu:u<10
   ·refine⟨_,[],by rw[Lib.decDigits,dif_pos hu],?_,?_⟩
    ·unfold zlr;rw[zqt hu];omega
    intro e;have:=congrArg UInt8.toNat e;rw[zqt hu]at this;simp at this;omega
   obtain⟨y,m,e,h1,h2⟩:=ih (u / 10) (by omega) (by omega);exact⟨y,m++[UInt8.ofNat (48+u % 10)],by rw[Lib.decDigits,dif_neg hu,e];rfl,h1,h2⟩
theorem zss {r:Bs}(h:Rok r)(a k:Nat):j6 a k r=(a,k,r):=by
 cases r with
 | nil=>rfl
 | cons x l=>unfold j6;exact if_neg h
theorem zmy (m:Bool) (u:Nat) (hu:u≤9007199254740991) (hm:m=true→0<u) {r:Bs} (hr:Rok r) :
 zbv m false (Lib.decDigits u++r)=(.mk 2 (if m then -(u:Int) else u) [] [] [],⟨r,false⟩):=by
 have hd:=zst u 0 0 r (by simpa using hu);rw[zss hr]at hd;simp only[Nat.zero_mul,Nat.zero_add]at hd;by_cases h0:u=0
 ·subst h0;have hA:m=false:=by cases m<;>simp at hm ⊢
  subst hA;have e:Lib.decDigits 0=[48]:=by rw[Lib.decDigits];rfl
  rw[e]at hd ⊢;unfold zbv;simp only[List.cons_append,List.nil_append]at hd ⊢;rw[if_pos (by decide),hd,Lib.nDigits_small (by decide)];rfl
 obtain⟨y,t,e,h1,h2⟩:=zl2 (by omega:0<u);rw[e]at hd ⊢;unfold zbv;simp only[List.cons_append]at hd ⊢;rw[if_pos (show 48≤y.toNat∧y.toNat≤57 from h1),hd];simp only[h2,decide_false,Bool.false_and,Bool.or_false,Bool.false_or];rw[decide_eq_false (by omega)]
theorem zox {n:Int} (h1 : -9007199254740991≤n) (h2:n≤9007199254740991) {r:Bs} (hr:Rok r) :
 zb1 ⟨Lib.itoa n++r,false⟩=(.mk 2 n [] [] [],⟨r,false⟩):=by
 unfold Lib.itoa;by_cases hn:n<0
 ·rw[if_pos hn];unfold zb1;simp only[List.cons_append,if_true];rw[zmy true n.natAbs (by omega) (fun _=>by omega) hr]
  congr 2
  simp only[if_true];omega
 rw[if_neg hn];have hd:=zmy false n.toNat (by omega) (fun h=>by cases h) hr;unfold zb1;by_cases h0:n.toNat=0
 ·rw[h0]at hd ⊢;have e:Lib.decDigits 0=[48]:=by rw[Lib.decDigits];rfl
  rw[e]at hd ⊢;simp only[List.cons_append,List.nil_append]at hd ⊢;rw[if_neg (by decide),hd]
  congr 2
  simp;omega
 obtain⟨y,t,e,h3,h4⟩:=zl2 (by omega:0<n.toNat);rw[e]at hd ⊢;simp only[List.cons_append]at hd ⊢;rw[if_neg (by rintro rfl;unfold zlr at h3;revert h3;decide),hd]
 congr 2
 simp;omega
theorem zm1 (n:Int):∃ y t,Lib.itoa n=y :: t∧(zlr y∨y=45):=by
 unfold Lib.itoa;split
 ·exact⟨_,_,rfl,.inr rfl⟩
 by_cases h0:n.toNat=0
 ·rw[h0];exact⟨48,[],by rw[Lib.decDigits];rfl,.inl (by unfold zlr;decide)⟩
 obtain⟨y,t,e,h3,h4⟩:=zl2 (by omega:0<n.toNat);exact⟨y,t,e,.inl h3⟩
/-! ### values -/
def Vh (c:UInt8):Prop:=(c≠32∧c≠9∧c≠10∧c≠13)∧c≠93∧c≠125
theorem zyd {y:UInt8}(h:zlr y∨y=45):Vh y∧y≠110∧y≠116∧y≠102∧y≠34∧y≠91∧y≠123:=by
 unfold Vh zlr at *;refine⟨⟨⟨?_,?_,?_,?_⟩,?_,?_⟩,?_,?_,?_,?_,?_,?_⟩<;>(rintro rfl;revert h;decide)
theorem zkb (d:Int) (j:J) (h:j0 d j=true):∃ c t,jz j=c :: t∧Vh c:=by
 obtain⟨k,n,t,l,p⟩:=j;unfold j0 at h;unfold jz;split at h
 ·subst k;exact⟨110,_,rfl,by unfold Vh;decide⟩
 split at h
 ·subst k;cases(n==1)
  ·exact⟨102,_,rfl,by unfold Vh;decide⟩
  exact⟨116,_,rfl,by unfold Vh;decide⟩
 split at h
 ·subst k;obtain⟨y,t,e,hy⟩:=zm1 n;exact⟨y,t,e,(zyd hy).1⟩
 split at h
 ·subst k;exact⟨34,_,rfl,by unfold Vh;decide⟩
 split at h
 ·cases h
 split at h
 ·subst k;cases l with
  | nil=>exact⟨91,_,rfl,by unfold Vh;decide⟩
  | cons x l=>exact⟨91,_,rfl,by unfold Vh;decide⟩
 split at h
 ·subst k;cases p with
  | nil=>exact⟨123,_,rfl,by unfold Vh;decide⟩
  | cons x l=>obtain⟨nm,x⟩:=x;exact⟨123,_,rfl,by unfold Vh;decide⟩
 cases h
theorem zp4 {c:UInt8}{l:Bs}(h:c=44∨c=93∨c=125):Rok (c :: l):=by
 unfold Rok zlr;rcases h with rfl | rfl | rfl<;>(simp only;decide)
theorem zux {val:St→J × St}{st st':St}{x:J}(h:val st=(x,st'))(a:List J):zbn val st a=(st',a++[x]):=by unfold zbn;rw[h]
theorem zmq {α:Type}{one:St→α→St × α}{shut:UInt8}{k:Nat}{st:St}{a a1:α}{s1 l:Bs}(h0:st.bad=false)(h1:one st a=(⟨s1,false⟩,a1))(h2:zdn shut s1=some l):zbm one shut (k+1) st a=(⟨l,false⟩,a1):=by
 unfold zbm;simp[h0,h1,h2]
theorem zp2 {α:Type}{one:St→α→St × α}{shut:UInt8}{k:Nat}{st:St}{a a1:α}{s1 l:Bs}(h0:st.bad=false)(h1:one st a=(⟨s1,false⟩,a1))(h2:zdn shut s1=none)(h3:zdn 44 (ja s1)=some l):zbm one shut (k+1) st a=zbm one shut k ⟨l,false⟩ a1:=by
 rw[zbm];simp[h0,h1,h2,h3]
def zx9 (val:St→J × St) (j:J):Prop:=∀ r,Rok r→val ⟨jz j++r,false⟩=(j,⟨r,false⟩)
theorem zus {val:St→J × St} (d:Int):∀ (js:List J) (j:J) (r:Bs) (a:List J) (k:Nat),(∀ x∈j :: js,j0 d x=true)→(∀ x∈j :: js,zx9 val x)→js.length+1≤k →
 zbm (zbn val) 93 k ⟨jz j++(zaj 44 js++93 :: r),false⟩ a=(⟨r,false⟩,a++j :: js):=by
 intro js
 induction js with
 | nil =>
   intro j r a k hs hr hk;obtain⟨k,rfl⟩:∃ m,k=m+1:=⟨k - 1,by omega⟩;exact zmq rfl (zux (hr j (by simp) _ (zp4 (by simp))) a) (zcj (by decide))
 | cons j2 js ih =>
   intro j r a k hs hr hk;obtain⟨k,rfl⟩:∃ m,k=m+1:=⟨k - 1,by omega⟩;have e:zaj 44 (j2 :: js)++93 :: r=44 :: (jz j2++(zaj 44 js++93 :: r)):=by simp[zaj]
   rw[e,zp2 rfl (zux (hr j (by simp) _ (zp4 (by simp))) a) (zl0 (by decide) (by decide)) (by rw[zbh (by decide)];exact zcj (by decide))];rw[ih j2 r (a++[j]) k (fun x hx=>hs x (by simp at hx ⊢;exact .inr hx)) (fun x hx=>hr x (by simp at hx ⊢;exact .inr hx)) (by simp at hk;omega)];simp
theorem zsf {val:St→J × St} (d:Int):∀ (ps:List (Bs × J)) (nm:Bs) (j:J) (r:Bs) (a:List (Bs × J)) (k:Nat),(∀ q∈(nm,j) :: ps,Vl q.1∧j0 d q.2=true)→(∀ q∈(nm,j) :: ps,zx9 val q.2) →
 ((a++(nm,j) :: ps).map (·.1)).Nodup→ps.length+1≤k →
 zbm (za4 val) 125 k ⟨zby nm++(58 :: (jz j++(zak 44 ps++125 :: r))),false⟩ a=(⟨r,false⟩,a++(nm,j) :: ps):=by
 have hB:∀ (ps:List (Bs × J)) (nm:Bs) (j:J) (r:Bs) (a:List (Bs × J)),(∀ q∈(nm,j) :: ps,Vl q.1∧j0 d q.2=true)→zx9 val j→((a++(nm,j) :: ps).map (·.1)).Nodup→Rok r →
  za4 val ⟨zby nm++(58 :: (jz j++r)),false⟩ a=(⟨r,false⟩,a++[(nm,j)]):=by
  intro ps nm j r a hs hr hn hC;unfold za4
  have hq:ja (zby nm++(58 :: (jz j++r)))=zby nm++(58 :: (jz j++r)):=by
   unfold zby;simp only[List.cons_append];exact zbh (by decide)
  simp only[hq];rw[zki (hs (nm,j) (by simp)).1];simp only;unfold zbw;rw[if_neg,zcj (by decide)]
  ·simp only;rw[hr _ hC]
  intro hc;rw[List.contains_iff_mem]at hc;rw[List.map_append,List.nodup_append]at hn;exact hn.2.2 nm hc nm (by simp) rfl
 intro ps
 induction ps with
 | nil =>
   intro nm j r a k hs hr hn hk;obtain⟨k,rfl⟩:∃ m,k=m+1:=⟨k - 1,by omega⟩;exact zmq rfl (hB [] nm j _ a hs (hr (nm,j) (by simp)) hn (zp4 (by simp))) (zcj (by decide))
 | cons q2 ps ih =>
   obtain⟨hA,j2⟩:=q2;intro nm j r a k hs hr hn hk;obtain⟨k,rfl⟩:∃ m,k=m+1:=⟨k - 1,by omega⟩;have e:zak 44 ((hA,j2) :: ps)++125 :: r=44 :: (zby hA++(58 :: (jz j2++(zak 44 ps++125 :: r)))):=by simp[zak]
   rw[e,zp2 rfl (hB _ nm j _ a hs (hr (nm,j) (by simp)) hn (zp4 (by simp))) (zl0 (by decide) (by decide)) (by rw[zbh (by decide)];exact zcj (by decide))];rw[ih hA j2 r (a++[(nm,j)]) k (fun x hx=>hs x (by simp at hx ⊢;exact .inr hx)) (fun x hx=>hr x (by simp at hx ⊢;exact .inr hx)) (by simpa using hn) (by simp at hk;omega)];simp
theorem zrr (d:Int):∀ (p:List (Bs × J)) (names:List Bs),zao d names p=true↔(∀ q∈p,Vl q.1∧j0 d q.2=true)∧(p.map (·.1)).Nodup∧∀ q∈p,q.1 ∉ names:=by
 intro p
 induction p with
 | nil=>intro names;simp[zao]
 | cons q p ih =>
   obtain⟨nm,j⟩:=q;intro names;unfold zao;simp only[Bool.and_eq_true,Bool.not_eq_true',ih,zih,List.map_cons,List.nodup_cons,List.mem_cons,forall_eq_or_imp,List.mem_append,List.mem_singleton,not_or,List.mem_map,not_exists,not_and];constructor
   ·rintro⟨h1,h2,h3,h4,h5,h6⟩;refine⟨⟨⟨h2,h3⟩,h4⟩,⟨fun x hx e=>(h6 x hx).2.1 e,h5⟩,by simpa using h1,fun x hx=>(h6 x hx).1⟩
   rintro⟨⟨⟨h2,h3⟩,h4⟩,⟨h7,h5⟩,h1,h6⟩;exact⟨by simpa using h1,h2,h3,h4,h5,fun x hx=>⟨h6 x hx,h7 x hx,by simp⟩⟩
theorem zrq (d:Int):∀ (l:List J),za5 d l=true ↔ ∀ j∈l,j0 d j=true:=by
 intro l
 induction l with
 | nil=>simp[za5]
 | cons j l ih=>unfold za5;simp[ih]
theorem zq6 (js:List J)(c:UInt8):js.length≤(zaj c js).length:=by
 induction js generalizing c with
 | nil=>simp[zaj]
 | cons j js ih=>have:=ih 44;simp[zaj];omega
theorem zq7 (js:List (Bs × J))(c:UInt8):js.length≤(zak c js).length:=by
 induction js generalizing c with
 | nil=>simp[zak]
 | cons j js ih=>obtain⟨nm,j⟩:=j;have:=ih 44;simp[zak];omega
theorem zoe:∀ (f:Nat) (d:Int) (j:J),9≤d+f→j0 d j=true→d≤8→zx9 (jg f d) j:=by
 intro f
 induction f with
 | zero=>intro d j h1 _ h2;omega
 | succ f ih =>
   intro d j hf hs hd r hr;obtain⟨c0,t0,e0,hC⟩:=zkb d j hs;unfold jg;rw[e0];simp only[List.cons_append];rw[zbh hC.1];simp only[Bool.false_eq_true,if_false];rw[← List.cons_append,← e0];obtain⟨k,n,t,l,p⟩:=j;unfold j0 at hs;unfold zc5;split at hs
   ·subst k;simp only[Bool.and_eq_true,beq_iff_eq,List.isEmpty_iff]at hs;obtain⟨rfl,rfl,rfl,rfl⟩:=hs;have e1:jz (.mk 0 0 [] [] [])=zlc:=by unfold jz;rfl
    rw[e1]at e0 ⊢;obtain⟨rfl,rfl⟩:=List.cons.inj e0;rw[if_pos rfl,zin];rfl
   split at hs
   ·subst k;simp only[Bool.and_eq_true,Bool.or_eq_true,beq_iff_eq,List.isEmpty_iff]at hs;obtain⟨hn,rfl,rfl,rfl⟩:=hs;rcases hn with rfl | rfl
    ·have e1:jz (.mk 1 0 [] [] [])=zgn:=by unfold jz;rfl
     rw[e1]at e0 ⊢;obtain⟨rfl,rfl⟩:=List.cons.inj e0;rw[if_neg (by decide),if_neg (by decide),if_pos rfl,zin]
    have e1:jz (.mk 1 1 [] [] [])=zlb:=by unfold jz;rfl
    rw[e1]at e0 ⊢;obtain⟨rfl,rfl⟩:=List.cons.inj e0;rw[if_neg (by decide),if_pos rfl,zin]
   split at hs
   ·subst k;simp only[Bool.and_eq_true,decide_eq_true_eq,beq_iff_eq,List.isEmpty_iff]at hs;obtain⟨h1,h2,rfl,rfl,rfl⟩:=hs;have e1:jz (.mk 2 n [] [] [])=Lib.itoa n:=by unfold jz;rfl
    rw[e1]at e0 ⊢;obtain⟨y,t,e2,hy⟩:=zm1 n;rw[e0]at e2;obtain⟨rfl,rfl⟩:=List.cons.inj e2;obtain⟨_,a1,a2,a3,a4,a5,a6⟩:=zyd hy;rw[if_neg a1,if_neg a2,if_neg a3,if_neg a4,if_neg a5,if_neg a6];exact zox h1 h2 hr
   split at hs
   ·subst k;simp only[Bool.and_eq_true,beq_iff_eq,List.isEmpty_iff]at hs;obtain⟨rfl,ht,rfl,rfl⟩:=hs;have e1:jz (.mk 3 0 t [] [])=zby t:=by unfold jz;rfl
    rw[e1]at e0 ⊢;obtain⟨rfl,-⟩:=List.cons.inj e0;rw[if_neg (by decide),if_neg (by decide),if_neg (by decide),if_pos rfl];rw[zki ((zih t).1 ht)]
   split at hs
   ·cases hs
   rename_i hno
   have hF:n=0:=Classical.byContradiction fun h=>hno (.inl h)
   have hD:t=[]:=Classical.byContradiction fun h=>hno (.inr (.inl h))
   have hd8:d<8:=by
    rcases Int.lt_or_le d 8 with h | h
    ·exact h
    exact absurd (.inr (.inr h)) hno
   subst hF hD;split at hs
   ·subst k;simp only[Bool.and_eq_true,List.isEmpty_iff]at hs;obtain⟨hl,rfl⟩:=hs;rw[zrq]at hl;have e1:jz (.mk 4 0 [] l [])=(if l.isEmpty then [91] else zaj 91 l)++[93]:=by unfold jz;rfl
    rw[e1]at e0 ⊢;cases l with
    | nil =>
      obtain⟨rfl,-⟩:=List.cons.inj e0;rw[if_neg (by decide),if_neg (by decide),if_neg (by decide),if_neg (by decide),if_pos rfl];unfold zae zb9;simp only[List.isEmpty_nil,if_true,List.cons_append,List.nil_append];rw[zcj (by decide)];simp only;rw[zcj (by decide)];simp only[Bool.false_or];rw[decide_eq_false (by omega)]
    | cons x l =>
      have hx:=hl x (by simp);obtain⟨c1,t1,e2,hB⟩:=zkb (d+1) x hx;simp only[List.isEmpty_cons,Bool.false_eq_true,if_false,zaj,List.cons_append,List.nil_append,List.append_assoc]at e0 ⊢;obtain⟨rfl,-⟩:=List.cons.inj e0;rw[if_neg (by decide),if_neg (by decide),if_neg (by decide),if_neg (by decide),if_pos rfl]
      have hA:zae (zbn (jg f (d+1))) 91 93 (d+1) ⟨91 :: (jz x++(zaj 44 l++93 :: r)),false⟩ []=(⟨r,false⟩,x :: l):=by
       unfold zae zb9;rw[zcj (by decide)];simp only[Bool.false_or];rw[decide_eq_false (by omega)];rw[show zdn 93 (jz x++(zaj 44 l++93 :: r))=none by rw[e2];exact zl0 hB.1 hB.2.1];simp only;rw[show ja (jz x++(zaj 44 l++93 :: r))=jz x++(zaj 44 l++93 :: r) by rw[e2];exact zbh hB.1];rw[zus (d+1) l x r [] _ hl (fun y hy=>ih (d+1) y (by omega) (hl y hy) (by omega))]
       ·rfl
       have:=zq6 l 44;simp;omega
      rw[hA]
   split at hs
   ·subst k;simp only[Bool.and_eq_true,List.isEmpty_iff]at hs;obtain⟨hp,rfl⟩:=hs;rw[zrr]at hp;obtain⟨hp,hE,-⟩:=hp;have e1:jz (.mk 5 0 [] [] p)=(if p.isEmpty then [123] else zak 123 p)++[125]:=by unfold jz;rfl
    rw[e1]at e0 ⊢;cases p with
    | nil =>
      obtain⟨rfl,-⟩:=List.cons.inj e0;rw[if_neg (by decide),if_neg (by decide),if_neg (by decide),if_neg (by decide),if_neg (by decide),if_pos rfl];unfold zae zb9;simp only[List.isEmpty_nil,if_true,List.cons_append,List.nil_append];rw[zcj (by decide)];simp only;rw[zcj (by decide)];simp only[Bool.false_or];rw[decide_eq_false (by omega)]
    | cons q p =>
      obtain⟨nm,x⟩:=q;simp only[List.isEmpty_cons,Bool.false_eq_true,if_false,zak,List.cons_append,List.nil_append,List.append_assoc]at e0 ⊢;obtain⟨rfl,-⟩:=List.cons.inj e0;rw[if_neg (by decide),if_neg (by decide),if_neg (by decide),if_neg (by decide),if_neg (by decide),if_pos rfl]
      have hA:zae (za4 (jg f (d+1))) 123 125 (d+1) ⟨123 :: (zby nm++(58 :: (jz x++(zak 44 p++125 :: r)))),false⟩ []=(⟨r,false⟩,(nm,x) :: p):=by
       unfold zae zb9;rw[zcj (by decide)];simp only[Bool.false_or];rw[decide_eq_false (by omega)];rw[show zdn 125 (zby nm++(58 :: (jz x++(zak 44 p++125 :: r))))=none from zl0 (d:=34) (by decide) (by decide)];simp only;rw[show ja (zby nm++(58 :: (jz x++(zak 44 p++125 :: r))))=zby nm++(58 :: (jz x++(zak 44 p++125 :: r))) from zbh (by decide)];rw[zsf (d+1) p nm x r [] _ hp (fun y hy=>ih (d+1) y.2 (by omega) (hp y hy).2 (by omega)) (by simpa using hE)]
       ·rfl
       have:=zq7 p 44;simp;omega
      rw[hA]
   cases hs
theorem zos (j:J)(h:j0 0 j=true):zht (jz j)=some j:=by
 have:=zoe 10 0 j (by omega) h (by omega) [] trivial;unfold zht;rw[List.append_nil]at this;rw[this];simp[ja,Lib.trimLeftS]
end Go.Proofs.YtmgfncjfgkllcaaGreatDoor
