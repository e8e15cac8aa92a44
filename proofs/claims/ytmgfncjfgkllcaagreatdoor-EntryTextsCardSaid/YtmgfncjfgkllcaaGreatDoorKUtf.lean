/-
 Signs in UTF-8,as plain data.
-/
import Derived.Test.YtmgfncjfgkllcaaGreatDoorKSpecSound
open Go.Lib renaming encodeRune→zc
open List renaming length_cons→zo
namespace Go.Proofs.YtmgfncjfgkllcaaGreatDoor
set_option linter.unusedVariables false
set_option linter.unusedSimpArgs false
set_option linter.unusedSectionVars false

def Sc (c:Int):Prop:=(0≤c∧c<55296)∨(57344≤c∧c≤1114111)
inductive Vl:Bs→Prop
 | nil:Vl []
 | cons (c:Int) (hc:Sc c) (l:Bs) (h:Vl l):Vl (zc c++l)
theorem zr3 (l:Bs)(k:Nat):(ByteArray.mk l.toArray).get! k=l.getD k 0:=by
 simp only[ByteArray.get!];show l.toArray[k]! = _;rw[List.getElem!_toArray];simp[List.getD,getElem!_def];rfl
theorem zog (l:Bs)(h:l≠[]):Lib.decodeGo ⟨l.toArray⟩=Lib.decodeN l.length (l.getD 0 0).toNat (l.getD 1 0).toNat (l.getD 2 0).toNat (l.getD 3 0).toNat:=by
 unfold Lib.decodeGo;rw[if_neg (by show ¬ l.length=0;simpa using h),Lib.decode_at];simp only[zr3];rfl
theorem zce (x:Int)(h0:0≤x)(h1:x<256):(x.toNat.toUInt8).toNat=x.toNat:=by
 simp;omega
theorem enc_one {c:Int}(h0:0≤c)(h1:c≤127):zc c=[c.toNat.toUInt8]:=by unfold zc;rw[Lib.encodeRuneZ_one h0 h1];rfl
theorem zjr {c:Int}(h0:128≤c)(h1:c≤2047):zc c=[(192+c / 64).toNat.toUInt8,(128+c % 64).toNat.toUInt8]:=by unfold zc;rw[Lib.encodeRuneZ_two h0 h1];rfl
theorem zfb {c:Int}(h:(2048≤c∧c<55296)∨(57343<c∧c≤65535)):zc c=[(224+c / 4096).toNat.toUInt8,(128+c / 64 % 64).toNat.toUInt8,(128+c % 64).toNat.toUInt8]:=by unfold zc;rw[Lib.encodeRuneZ_three h];rfl
theorem zgw {c:Int}(h0:65536≤c)(h1:c≤1114111):zc c=[(240+c / 262144).toNat.toUInt8,(128+c / 4096 % 64).toNat.toUInt8,(128+c / 64 % 64).toNat.toUInt8,(128+c % 64).toNat.toUInt8]:=by unfold zc;rw[Lib.encodeRuneZ_four h0 h1];rfl
theorem zi7 {c:Int}(h:Sc c):(0≤c∧c≤127)∨(128≤c∧c≤2047)∨((2048≤c∧c<55296)∨(57343<c∧c≤65535))∨(65536≤c∧c≤1114111):=by
 unfold Sc at h;omega
theorem zjs (c:Int):1≤(zc c).length:=by
 unfold zc;rw[List.length_map];exact(Lib.encodeRuneZ_length c).1
set_option maxRecDepth 4000 in
theorem zm0 {c:Int} (h:Sc c) (r:Bs):Lib.decodeGo ⟨(zc c++r).toArray⟩=(c.toNat,(zc c).length):=by
 have hA:zc c++r≠[]:=by
  have:=zjs c;intro e;have:=congrArg List.length e;simp at this;simp[this]at *
 rw[zog _ hA];rcases zi7 h with h | h | h | h
 ·rw[enc_one h.1 h.2];simp only[List.cons_append,List.nil_append,List.getD_cons_zero,zce c h.1 (by omega)];unfold Lib.decodeN;rw[if_pos (by omega)];rfl
 ·rw[zjr h.1 h.2];simp only[List.cons_append,List.nil_append,List.getD_cons_zero,List.getD_cons_succ,zo,zce (192+c / 64) (by omega) (by omega),zce (128+c % 64) (by omega) (by omega)];unfold Lib.decodeN;rw[if_neg (by omega),if_pos (by omega),if_pos (by omega)];apply Prod.ext
  ·simp only;omega
  rfl
 ·rw[zfb h];simp only[List.cons_append,List.nil_append,List.getD_cons_zero,List.getD_cons_succ,zo,zce (224+c / 4096) (by omega) (by omega),zce (128+c / 64 % 64) (by omega) (by omega),zce (128+c % 64) (by omega) (by omega)];unfold Lib.decodeN;rw[if_neg (by omega),if_neg (by omega),if_pos (by omega),if_pos (by omega)];apply Prod.ext
  ·simp only;omega
  rfl
 rw[zgw h.1 h.2];simp only[List.cons_append,List.nil_append,List.getD_cons_zero,List.getD_cons_succ,zo,zce (240+c / 262144) (by omega) (by omega),zce (128+c / 4096 % 64) (by omega) (by omega),zce (128+c / 64 % 64) (by omega) (by omega),zce (128+c % 64) (by omega) (by omega)];unfold Lib.decodeN;rw[if_neg (by omega),if_neg (by omega),if_neg (by omega),if_pos (by omega),if_pos (by omega)];apply Prod.ext
 ·simp only;omega
 rfl
theorem zew (l:Bs)(k:Nat)(h:k≤l.length)(hk:k=1∨k=2∨k=3∨k=4) :
 (k=1→∃ a t,l=a :: t)∧(k=2→∃ a b t,l=a :: b :: t)∧(k=3→∃ a b c t,l=a :: b :: c :: t)∧(k=4→∃ a b c d t,l=a :: b :: c :: d :: t):=by
 rcases l with _ | ⟨a,_ | ⟨b,_ | ⟨c,_ | ⟨d,t⟩⟩⟩⟩<;>simp at h ⊢<;>omega
theorem zi0 {x:UInt8}{n:Nat}(h:x.toNat=n):x=n.toUInt8:=by
 apply UInt8.toNat_inj.1;rw[h];have:=UInt8.toNat_lt x;simp;omega
set_option maxRecDepth 4000 in
theorem zwc {s:Bs} (hs:s≠[]) {c k:Nat} (hd:Lib.decodeGo ⟨s.toArray⟩=(c,k)) (hn:¬ (c=65533∧k=1)):Sc c∧s=zc c++s.drop k∧k=(zc c).length:=by
 rw[zog _ hs]at hd;unfold Lib.decodeN at hd
 have hA:1≤s.length:=by
  rcases s with _ | ⟨a,t⟩
  ·exact absurd rfl hs
  simp
 split at hd
 ·rename_i h0
  obtain⟨rfl,rfl⟩:=Prod.mk.injEq .. ▸ hd;obtain⟨a,t,rfl⟩:=(zew s 1 hA (by omega)).1 rfl;simp only[List.getD_cons_zero]at h0 ⊢;rw[enc_one (by omega) (by omega)];refine⟨by unfold Sc;omega,?_,rfl⟩;simp
 split at hd
 ·rename_i h0 h1
  split at hd
  ·rename_i h2
   obtain⟨rfl,rfl⟩:=Prod.mk.injEq .. ▸ hd;obtain⟨a,b,t,rfl⟩:=(zew s 2 (by omega) (by omega)).2.1 rfl;simp only[List.getD_cons_zero,List.getD_cons_succ]at h0 h1 h2 ⊢;have ha:=UInt8.toNat_lt a;have hb:=UInt8.toNat_lt b;rw[zjr (by omega) (by omega)];refine⟨by unfold Sc;omega,?_,rfl⟩;simp only[List.drop_succ_cons,List.drop_zero,List.cons_append,List.nil_append]
   congr 1
   ·exact zi0 (by omega)
   congr 1
   exact zi0 (by omega)
  simp only[Prod.mk.injEq]at hd;omega
 split at hd
 ·rename_i h0 h1 h2
  split at hd
  ·rename_i h3
   obtain⟨rfl,rfl⟩:=Prod.mk.injEq .. ▸ hd;obtain⟨a,b,d,t,rfl⟩:=(zew s 3 (by omega) (by omega)).2.2.1 rfl;simp only[List.getD_cons_zero,List.getD_cons_succ]at h0 h1 h2 h3 ⊢;have ha:=UInt8.toNat_lt a;have hb:=UInt8.toNat_lt b;have hB:=UInt8.toNat_lt d;rw[zfb (by omega)];refine⟨by unfold Sc;omega,?_,rfl⟩;simp only[List.drop_succ_cons,List.drop_zero,List.cons_append,List.nil_append]
   congr 1
   ·exact zi0 (by omega)
   congr 1
   ·exact zi0 (by omega)
   congr 1
   exact zi0 (by omega)
  simp only[Prod.mk.injEq]at hd;omega
 split at hd
 ·rename_i h0 h1 h2 h3
  split at hd
  ·rename_i h4
   obtain⟨rfl,rfl⟩:=Prod.mk.injEq .. ▸ hd;obtain⟨a,b,d,e,t,rfl⟩:=(zew s 4 (by omega) (by omega)).2.2.2 rfl;simp only[List.getD_cons_zero,List.getD_cons_succ]at h0 h1 h2 h3 h4 ⊢;have ha:=UInt8.toNat_lt a;have hb:=UInt8.toNat_lt b;have hB:=UInt8.toNat_lt d;have hel:=UInt8.toNat_lt e;rw[zgw (by omega) (by omega)];refine⟨by unfold Sc;omega,?_,rfl⟩;simp only[List.drop_succ_cons,List.drop_zero,List.cons_append,List.nil_append]
   congr 1
   ·exact zi0 (by omega)
   congr 1
   ·exact zi0 (by omega)
   congr 1
   ·exact zi0 (by omega)
   congr 1
   exact zi0 (by omega)
  simp only[Prod.mk.injEq]at hd;omega
 simp only[Prod.mk.injEq]at hd;omega
theorem zye (l:Bs)(h:l≠[]):Lib.decodeL l=Lib.decodeGo ⟨l.toArray⟩:=by
 unfold Lib.decodeGo;rw[if_neg (by show ¬ l.length=0;simpa using h)];rfl
theorem zoz:∀ (n:Nat) (l:Bs),l.length≤n→(Lib.validGoD n l=true↔Vl l):=by
 intro n
 induction n with
 | zero =>
   intro l h;have:l=[]:=List.length_eq_zero_iff.1 (by omega);subst this;exact⟨fun _ => .nil,fun _=>rfl⟩
 | succ n ih =>
   intro l h;unfold Lib.validGoD;by_cases hl:l=[]
   ·subst hl;exact⟨fun _ => .nil,fun _=>by simp⟩
   rw[if_neg hl,zye l hl];constructor
   ·intro hv;split at hv
    ·cases hv
    rename_i hb
    obtain⟨hc,hs,hk⟩:=zwc hl (c:=(Lib.decodeGo ⟨l.toArray⟩).1) (k:=(Lib.decodeGo ⟨l.toArray⟩).2) rfl hb;have hp:=zjs ((Lib.decodeGo ⟨l.toArray⟩).1:Int);have:=(ih (l.drop (Lib.decodeGo ⟨l.toArray⟩).2) (by rw[List.length_drop];omega)).1 hv;rw[hs];exact .cons _ hc _ this
   intro hv;cases hv with
   | nil=>exact absurd rfl hl
   | cons c hc r hr =>
     rw[zm0 hc];have hp:=zjs c;rw[if_neg,List.drop_left]
     ·exact(ih r (by simp at h;omega)).2 hr
     simp only;rintro⟨h1,h2⟩;have:c=65533:=by unfold Sc at hc;omega
     subst this
     revert h2
     decide
theorem zgo (l:Bs):Lib.validD l=true↔Vl l:=zoz _ l (Nat.le_refl _)
theorem Vl.append {a b:Bs}(ha:Vl a)(hb:Vl b):Vl (a++b):=by
 induction ha with
 | nil=>exact hb
 | cons c hc l _ ih=>rw[List.append_assoc];exact .cons c hc _ ih
theorem Vl.rune (r:Int):Vl (zc r):=by
 by_cases h:Sc r
 ·have:=Vl.cons r h [] .nil
  rwa [List.append_nil]at this
 have:zc r=zc 65533:=by
  unfold zc;rw[Lib.encodeRuneZ_bad (by unfold Sc at h;omega)];rfl
 rw[this];have:=Vl.cons 65533 (by unfold Sc;omega) [] .nil
 rwa [List.append_nil]at this
/-! ### the reference's signs -/
def zx7 (c:Int):Prop:=1114111<c∨(55296≤c∧c≤57343)
instance (c:Int):Decidable (zx7 c):=by unfold zx7;exact inferInstance
end Go.Proofs.YtmgfncjfgkllcaaGreatDoor
