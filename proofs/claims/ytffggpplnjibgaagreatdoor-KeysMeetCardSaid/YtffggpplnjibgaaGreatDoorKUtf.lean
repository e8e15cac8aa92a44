/-
 Signs in UTF-8,as plain data.
-/
import Derived.Test.YtffggpplnjibgaaGreatDoorKSpecEntry
open Go.Lib renaming encodeRune→zk
open List renaming length_cons→zx
namespace Go.Proofs.YtffggpplnjibgaaGreatDoor
set_option linter.unusedVariables false
set_option linter.unusedSimpArgs false
set_option linter.unusedSectionVars false

def Sc (c:Int):Prop:=(0≤c∧c<55296)∨(57344≤c∧c≤1114111)
inductive Vl:Bs→Prop
 | nil:Vl []
 | cons (c:Int) (hc:Sc c) (l:Bs) (h:Vl l):Vl (zk c++l)
theorem zse (l:Bs)(k:Nat):(ByteArray.mk l.toArray).get! k=l.getD k 0:=by
 simp only[ByteArray.get!];show l.toArray[k]! = _;rw[List.getElem!_toArray];simp[List.getD,getElem!_def];rfl
theorem zox (l:Bs)(h:l≠[]):Lib.decodeGo ⟨l.toArray⟩=Lib.decodeN l.length (l.getD 0 0).toNat (l.getD 1 0).toNat (l.getD 2 0).toNat (l.getD 3 0).toNat:=by
 unfold Lib.decodeGo;rw[if_neg (by show ¬ l.length=0;simpa using h),Lib.decode_at];simp only[zse];rfl
theorem zag (x:Int)(h0:0≤x)(h1:x<256):(x.toNat.toUInt8).toNat=x.toNat:=by
 simp;omega
theorem enc_one {c:Int}(h0:0≤c)(h1:c≤127):zk c=[c.toNat.toUInt8]:=by unfold zk;rw[Lib.encodeRuneZ_one h0 h1];rfl
theorem ziz {c:Int}(h0:128≤c)(h1:c≤2047):zk c=[(192+c / 64).toNat.toUInt8,(128+c % 64).toNat.toUInt8]:=by unfold zk;rw[Lib.encodeRuneZ_two h0 h1];rfl
theorem zew {c:Int}(h:(2048≤c∧c<55296)∨(57343<c∧c≤65535)):zk c=[(224+c / 4096).toNat.toUInt8,(128+c / 64 % 64).toNat.toUInt8,(128+c % 64).toNat.toUInt8]:=by unfold zk;rw[Lib.encodeRuneZ_three h];rfl
theorem zgk {c:Int}(h0:65536≤c)(h1:c≤1114111):zk c=[(240+c / 262144).toNat.toUInt8,(128+c / 4096 % 64).toNat.toUInt8,(128+c / 64 % 64).toNat.toUInt8,(128+c % 64).toNat.toUInt8]:=by unfold zk;rw[Lib.encodeRuneZ_four h0 h1];rfl
theorem zkg {c:Int}(h:Sc c):(0≤c∧c≤127)∨(128≤c∧c≤2047)∨((2048≤c∧c<55296)∨(57343<c∧c≤65535))∨(65536≤c∧c≤1114111):=by
 unfold Sc at h;omega
theorem zkv (c:Int):1≤(zk c).length:=by
 unfold zk;rw[List.length_map];exact(Lib.encodeRuneZ_length c).1
set_option maxRecDepth 4000 in
theorem zso {c:Int} (h:Sc c) (r:Bs):Lib.decodeGo ⟨(zk c++r).toArray⟩=(c.toNat,(zk c).length):=by
 have hB:zk c++r≠[]:=by
  have:=zkv c;intro e;have:=congrArg List.length e;simp at this;simp[this]at *
 rw[zox _ hB];rcases zkg h with h | h | h | h
 ·rw[enc_one h.1 h.2];simp only[List.cons_append,List.nil_append,List.getD_cons_zero,zag c h.1 (by omega)];unfold Lib.decodeN;rw[if_pos (by omega)];rfl
 ·rw[ziz h.1 h.2];simp only[List.cons_append,List.nil_append,List.getD_cons_zero,List.getD_cons_succ,zx,zag (192+c / 64) (by omega) (by omega),zag (128+c % 64) (by omega) (by omega)];unfold Lib.decodeN;rw[if_neg (by omega),if_pos (by omega),if_pos (by omega)];apply Prod.ext
  ·simp only;omega
  rfl
 ·rw[zew h];simp only[List.cons_append,List.nil_append,List.getD_cons_zero,List.getD_cons_succ,zx,zag (224+c / 4096) (by omega) (by omega),zag (128+c / 64 % 64) (by omega) (by omega),zag (128+c % 64) (by omega) (by omega)];unfold Lib.decodeN;rw[if_neg (by omega),if_neg (by omega),if_pos (by omega),if_pos (by omega)];apply Prod.ext
  ·simp only;omega
  rfl
 rw[zgk h.1 h.2];simp only[List.cons_append,List.nil_append,List.getD_cons_zero,List.getD_cons_succ,zx,zag (240+c / 262144) (by omega) (by omega),zag (128+c / 4096 % 64) (by omega) (by omega),zag (128+c / 64 % 64) (by omega) (by omega),zag (128+c % 64) (by omega) (by omega)];unfold Lib.decodeN;rw[if_neg (by omega),if_neg (by omega),if_neg (by omega),if_pos (by omega),if_pos (by omega)];apply Prod.ext
 ·simp only;omega
 rfl
theorem zf2 (l:Bs)(k:Nat)(h:k≤l.length)(hk:k=1∨k=2∨k=3∨k=4) :
 (k=1→∃ a t,l=a :: t)∧(k=2→∃ a b t,l=a :: b :: t)∧(k=3→∃ a b c t,l=a :: b :: c :: t)∧(k=4→∃ a b c d t,l=a :: b :: c :: d :: t):=by
 rcases l with _ | ⟨a,_ | ⟨b,_ | ⟨c,_ | ⟨d,t⟩⟩⟩⟩<;>simp at h ⊢<;>omega
theorem zj7 {x:UInt8}{n:Nat}(h:x.toNat=n):x=n.toUInt8:=by
 apply UInt8.toNat_inj.1;rw[h];have:=UInt8.toNat_lt x;simp;omega
set_option maxRecDepth 4000 in
theorem znv {s:Bs} (hs:s≠[]) {c k:Nat} (hd:Lib.decodeGo ⟨s.toArray⟩=(c,k)) (hn:¬ (c=65533∧k=1)):Sc c∧s=zk c++s.drop k∧k=(zk c).length:=by
 rw[zox _ hs]at hd;unfold Lib.decodeN at hd
 have hB:1≤s.length:=by
  rcases s with _ | ⟨a,t⟩
  ·exact absurd rfl hs
  simp
 split at hd
 ·rename_i h0
  obtain⟨rfl,rfl⟩:=Prod.mk.injEq .. ▸ hd;obtain⟨a,t,rfl⟩:=(zf2 s 1 hB (by omega)).1 rfl;simp only[List.getD_cons_zero]at h0 ⊢;rw[enc_one (by omega) (by omega)];refine⟨by unfold Sc;omega,?_,rfl⟩;simp
 split at hd
 ·rename_i h0 h1
  split at hd
  ·rename_i h2
   obtain⟨rfl,rfl⟩:=Prod.mk.injEq .. ▸ hd;obtain⟨a,b,t,rfl⟩:=(zf2 s 2 (by omega) (by omega)).2.1 rfl;simp only[List.getD_cons_zero,List.getD_cons_succ]at h0 h1 h2 ⊢;have ha:=UInt8.toNat_lt a;have hb:=UInt8.toNat_lt b;rw[ziz (by omega) (by omega)];refine⟨by unfold Sc;omega,?_,rfl⟩;simp only[List.drop_succ_cons,List.drop_zero,List.cons_append,List.nil_append]
   congr 1
   ·exact zj7 (by omega)
   congr 1
   exact zj7 (by omega)
  simp only[Prod.mk.injEq]at hd;omega
 split at hd
 ·rename_i h0 h1 h2
  split at hd
  ·rename_i h3
   obtain⟨rfl,rfl⟩:=Prod.mk.injEq .. ▸ hd;obtain⟨a,b,d,t,rfl⟩:=(zf2 s 3 (by omega) (by omega)).2.2.1 rfl;simp only[List.getD_cons_zero,List.getD_cons_succ]at h0 h1 h2 h3 ⊢;have ha:=UInt8.toNat_lt a;have hb:=UInt8.toNat_lt b;have hC:=UInt8.toNat_lt d;rw[zew (by omega)];refine⟨by unfold Sc;omega,?_,rfl⟩;simp only[List.drop_succ_cons,List.drop_zero,List.cons_append,List.nil_append]
   congr 1
   ·exact zj7 (by omega)
   congr 1
   ·exact zj7 (by omega)
   congr 1
   exact zj7 (by omega)
  simp only[Prod.mk.injEq]at hd;omega
 split at hd
 ·rename_i h0 h1 h2 h3
  split at hd
  ·rename_i h4
   obtain⟨rfl,rfl⟩:=Prod.mk.injEq .. ▸ hd;obtain⟨a,b,d,e,t,rfl⟩:=(zf2 s 4 (by omega) (by omega)).2.2.2 rfl;simp only[List.getD_cons_zero,List.getD_cons_succ]at h0 h1 h2 h3 h4 ⊢;have ha:=UInt8.toNat_lt a;have hb:=UInt8.toNat_lt b;have hC:=UInt8.toNat_lt d;have hel:=UInt8.toNat_lt e;rw[zgk (by omega) (by omega)];refine⟨by unfold Sc;omega,?_,rfl⟩;simp only[List.drop_succ_cons,List.drop_zero,List.cons_append,List.nil_append]
   congr 1
   ·exact zj7 (by omega)
   congr 1
   ·exact zj7 (by omega)
   congr 1
   ·exact zj7 (by omega)
   congr 1
   exact zj7 (by omega)
  simp only[Prod.mk.injEq]at hd;omega
 simp only[Prod.mk.injEq]at hd;omega
theorem zzk (l:Bs)(h:l≠[]):Lib.decodeL l=Lib.decodeGo ⟨l.toArray⟩:=by
 unfold Lib.decodeGo;rw[if_neg (by show ¬ l.length=0;simpa using h)];rfl
theorem zo7:∀ (n:Nat) (l:Bs),l.length≤n→(Lib.validGoD n l=true↔Vl l):=by
 intro n
 induction n with
 | zero =>
   intro l h;have:l=[]:=List.length_eq_zero_iff.1 (by omega);subst this;exact⟨fun _ => .nil,fun _=>rfl⟩
 | succ n ih =>
   intro l h;unfold Lib.validGoD;by_cases hl:l=[]
   ·subst hl;exact⟨fun _ => .nil,fun _=>by simp⟩
   rw[if_neg hl,zzk l hl];constructor
   ·intro hv;split at hv
    ·cases hv
    rename_i hb
    obtain⟨hc,hs,hk⟩:=znv hl (c:=(Lib.decodeGo ⟨l.toArray⟩).1) (k:=(Lib.decodeGo ⟨l.toArray⟩).2) rfl hb;have hp:=zkv ((Lib.decodeGo ⟨l.toArray⟩).1:Int);have:=(ih (l.drop (Lib.decodeGo ⟨l.toArray⟩).2) (by rw[List.length_drop];omega)).1 hv;rw[hs];exact .cons _ hc _ this
   intro hv;cases hv with
   | nil=>exact absurd rfl hl
   | cons c hc r hr =>
     rw[zso hc];have hp:=zkv c;rw[if_neg,List.drop_left]
     ·exact(ih r (by simp at h;omega)).2 hr
     simp only;rintro⟨h1,h2⟩;have:c=65533:=by unfold Sc at hc;omega
     subst this
     revert h2
     decide
theorem zn6 (l:Bs):Lib.validD l=true↔Vl l:=zo7 _ l (Nat.le_refl _)
theorem Vl.append {a b:Bs}(ha:Vl a)(hb:Vl b):Vl (a++b):=by
 induction ha with
 | nil=>exact hb
 | cons c hc l _ ih=>rw[List.append_assoc];exact .cons c hc _ ih
theorem Vl.rune (r:Int):Vl (zk r):=by
 by_cases h:Sc r
 ·have:=Vl.cons r h [] .nil
  rwa [List.append_nil]at this
 have:zk r=zk 65533:=by
  unfold zk;rw[Lib.encodeRuneZ_bad (by unfold Sc at h;omega)];rfl
 rw[this];have:=Vl.cons 65533 (by unfold Sc;omega) [] .nil
 rwa [List.append_nil]at this
/-! ### the reference's signs -/
def zbp (s:Bs):Int × Nat :=
 if s=[] then (0,0) else if (Lib.decodeGo ⟨s.toArray⟩).1=65533∧(Lib.decodeGo ⟨s.toArray⟩).2=1 then (0,0) else (((Lib.decodeGo ⟨s.toArray⟩).1:Int),(Lib.decodeGo ⟨s.toArray⟩).2)
theorem zp8 {c:Int}(h:Sc c)(r:Bs):zbp (zk c++r)=(c,(zk c).length):=by
 have hp:=zkv c;unfold zbp;rw[if_neg (by intro e;have:=congrArg List.length e;simp at this;rw[this.1]at hp;simp at hp),zso h,if_neg]
 ·simp only[Prod.mk.injEq,and_true];unfold Sc at h;omega
 rintro⟨h1,h2⟩;have:c=65533:=by unfold Sc at h;simp only at h1;omega
 subst this
 revert h2;decide
theorem zj1 {s:Bs}{c:Int}{k:Nat}(h:zbp s=(c,k))(hk:k≠0):Sc c∧s=zk c++s.drop k∧k=(zk c).length:=by
 unfold zbp at h;split at h
 ·simp only[Prod.mk.injEq]at h;omega
 rename_i hs
 split at h
 ·simp only[Prod.mk.injEq]at h;omega
 rename_i hb
 obtain⟨rfl,rfl⟩:=Prod.mk.injEq .. ▸ h;exact znv hs rfl hb
theorem znw {s:Bs}(h:∀ c r,Sc c→s≠zk c++r):zbp s=(0,0):=by
 unfold zbp;split
 ·rfl
 rename_i hs
 split
 ·rfl
 rename_i hb
 obtain⟨h1,h2,_⟩:=znv hs (c:=(Lib.decodeGo ⟨s.toArray⟩).1) (k:=(Lib.decodeGo ⟨s.toArray⟩).2) rfl hb;exact absurd h2 (h _ _ h1)
theorem zl8 {s:Bs} {c:Int} {k:Nat} (h:zbp s=(c,k)):k≤4∧k≤s.length∧0≤c∧c≤1114111∧(k=0→c=0):=by
 by_cases hk:k=0
 ·subst hk
  have:c=0:=by
   unfold zbp at h;split at h
   ·cases h;rfl
   rename_i hs
   split at h
   ·cases h;rfl
   simp only[Prod.mk.injEq]at h;have:=(zey s).2.2.2 hs;omega
  subst this;exact⟨by omega,by omega,by omega,by omega,fun _=>rfl⟩
 obtain⟨h1,h2,h3⟩:=zj1 h hk;have:=za7 c;refine⟨by omega,?_,by unfold Sc at h1;omega,by unfold Sc at h1;omega,fun e=>absurd e hk⟩;rw[h2,List.length_append];omega
def zch:Int→Bs→Option Int
 | c,[]=>some c
 | c,x :: l=>if x.toNat<128∨191<x.toNat then none else zch (64 * c+x.toNat - 128) l
def zbr (b:Nat):Int × Nat:=if b<192 then (b,1) else if b<224 then (b - 192,2) else if b<240 then (b - 224,3) else (b - 240,4)
def zih (c:Int):Prop:=1114111<c∨(55296≤c∧c≤57343)
instance (c:Int):Decidable (zih c):=by unfold zih;exact inferInstance
def zgb (s:Bs):Int × Nat :=
 match s with
 | []=>(0,0)
 | b :: t =>
   if ((zbr b.toNat).2=1∧128≤b.toNat)∨t.length+1<(zbr b.toNat).2 then (0,0)
   else match zch (zbr b.toNat).1 (t.take ((zbr b.toNat).2 - 1)) with
    | none=>(0,0)
    | some c=>if zih c∨zk c≠(b :: t).take (zbr b.toNat).2 then (0,0) else (c,(zbr b.toNat).2)
theorem zlo:∀ (l:Bs) (c c':Int),0≤c→zch c l=some c'→0≤c':=by
 intro l
 induction l with
 | nil=>intro c c' h e;unfold zch at e;cases e;exact h
 | cons x l ih =>
   intro c c' h e;unfold zch at e;split at e
   ·cases e
   exact ih _ _ (by omega) e
theorem zll (b:Nat):0≤(zbr b).1:=by
 unfold zbr
 repeat' split
 all_goals (simp only;omega)
theorem zrd (s:Bs):zgb s=zbp s:=by
 by_cases hB:∃ c r,Sc c∧s=zk c++r
 ·obtain ⟨c,r,hc,rfl⟩:=hB;rw[zp8 hc];rcases zkg hc with h | h | h | h
  ·rw[enc_one h.1 h.2];unfold zgb;simp only[List.cons_append,List.nil_append];rw[zag c h.1 (by omega)];have e:zbr c.toNat=(c,1):=by unfold zbr;rw[if_pos (by omega)];congr 1;omega
   rw[e];simp only[zx,Nat.sub_self,List.take_zero,zch,enc_one h.1 h.2,List.take_succ_cons];rw[if_neg (by omega),if_neg (by unfold zih;simp;omega)];rfl
  ·rw[ziz h.1 h.2];unfold zgb;simp only[List.cons_append,List.nil_append];rw[zag (192+c / 64) (by omega) (by omega)];have e:zbr (192+c / 64).toNat=(c / 64,2):=by unfold zbr;rw[if_neg (by omega),if_pos (by omega)];congr 1;omega
   rw[e];simp only[zx,Nat.add_one_sub_one,List.take_zero,List.take_succ_cons,zch];rw[zag (128+c % 64) (by omega) (by omega),if_neg (by omega),if_neg (by omega)];have e2:64 * (c / 64)+((128+c % 64).toNat:Int) - 128=c:=by omega
   simp only[e2];rw[ziz h.1 h.2,if_neg (by unfold zih;simp;omega)];rfl
  ·rw[zew h];unfold zgb;simp only[List.cons_append,List.nil_append];rw[zag (224+c / 4096) (by omega) (by omega)];have e:zbr (224+c / 4096).toNat=(c / 4096,3):=by unfold zbr;rw[if_neg (by omega),if_neg (by omega),if_pos (by omega)];congr 1;omega
   rw[e];simp only[zx,Nat.add_one_sub_one,List.take_zero,List.take_succ_cons,zch];rw[zag (128+c / 64 % 64) (by omega) (by omega),zag (128+c % 64) (by omega) (by omega),if_neg (by omega),if_neg (by omega),if_neg (by omega)];have e2:64 * (64 * (c / 4096)+((128+c / 64 % 64).toNat:Int) - 128)+((128+c % 64).toNat:Int) - 128=c:=by omega
   simp only[e2];rw[zew h,if_neg (by unfold zih;simp;omega)];rfl
  rw[zgk h.1 h.2];unfold zgb;simp only[List.cons_append,List.nil_append];rw[zag (240+c / 262144) (by omega) (by omega)];have e:zbr (240+c / 262144).toNat=(c / 262144,4):=by unfold zbr;rw[if_neg (by omega),if_neg (by omega),if_neg (by omega)];congr 1;omega
  rw[e];simp only[zx,Nat.add_one_sub_one,List.take_zero,List.take_succ_cons,zch];rw[zag (128+c / 4096 % 64) (by omega) (by omega),zag (128+c / 64 % 64) (by omega) (by omega),zag (128+c % 64) (by omega) (by omega),if_neg (by omega),if_neg (by omega),if_neg (by omega),if_neg (by omega)];have e2:64 * (64 * (64 * (c / 262144)+((128+c / 4096 % 64).toNat:Int) - 128)+((128+c / 64 % 64).toNat:Int) - 128)+((128+c % 64).toNat:Int) - 128=c:=by omega
  simp only[e2];rw[zgk h.1 h.2,if_neg (by unfold zih;simp;omega)];rfl
 rw[znw (fun c r hc e=>hB ⟨c,r,hc,e⟩)];unfold zgb;split
 ·rfl
 rename_i b t
 split
 ·rfl
 split
 ·rfl
 rename_i c hcc
 split
 ·rfl
 rename_i hno
 exfalso;apply hB;have h0:=zlo _ _ _ (zll _) hcc;refine⟨c,(b :: t).drop (zbr b.toNat).2,?_,?_⟩
 ·have:¬ zih c:=fun h=>hno (.inl h)
  unfold zih at this;unfold Sc;omega
 have:zk c=(b :: t).take (zbr b.toNat).2:=Classical.byContradiction fun h=>hno (.inr h)
 rw[this,List.take_append_drop]
end Go.Proofs.YtffggpplnjibgaaGreatDoor
