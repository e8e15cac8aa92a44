/-
 What is parsed is sound,and not much longer than its text: plain laws.
-/
import Derived.Test.YtffggpplnjibgaaGreatDoorKUtf
import Derived.Test.YtffggpplnjibgaaGreatDoorKSpecSound
import Derived.Test.YtffggpplnjibgaaGreatDoorKKeysS
namespace Go.Proofs.YtffggpplnjibgaaGreatDoor
set_option linter.unusedVariables false
set_option linter.unusedSimpArgs false
set_option linter.unusedSectionVars false

theorem zi2 (d:Int):∀ (p:List (Bs × J)) (names:List Bs),zdf d names p=true↔(∀ q∈p,Vl q.1∧q9 d q.2=true)∧(p.map (·.1)).Nodup∧∀ q∈p,q.1 ∉ names:=by
 intro p
 induction p with
 | nil=>intro names;simp[zdf]
 | cons q p ih =>
   obtain⟨nm,j⟩:=q;intro names;unfold zdf;simp only[Bool.and_eq_true,Bool.not_eq_true',ih,zjn,List.map_cons,List.nodup_cons,List.mem_cons,forall_eq_or_imp,List.mem_append,List.mem_singleton,not_or,List.mem_map,not_exists,not_and];constructor
   ·rintro⟨h1,h2,h3,h4,h5,h6⟩;refine⟨⟨⟨h2,h3⟩,h4⟩,⟨fun x hx e=>(h6 x hx).2.1 e,h5⟩,by simpa using h1,fun x hx=>(h6 x hx).1⟩
   rintro⟨⟨⟨h2,h3⟩,h4⟩,⟨h7,h5⟩,h1,h6⟩;exact⟨by simpa using h1,h2,h3,h4,h5,fun x hx=>⟨h6 x hx,h7 x hx,by simp⟩⟩
theorem zi1 (d:Int):∀ (l:List J),zde d l=true ↔ ∀ j∈l,q9 d j=true:=by
 intro l
 induction l with
 | nil=>simp[zde]
 | cons j l ih=>unfold zde;simp[ih]
/-! ### what is parsed is sound, and not much longer than its text -/
mutual
def wt:J→Nat
 | .mk _ _ t l p=>1+t.length+wtl l+wtp p
def wtl:List J→Nat
 | []=>0
 | j :: js=>wt j+wtl js
def wtp:List (Bs × J)→Nat
 | []=>0
 | (nm,j) :: ps=>1+nm.length+wt j+wtp ps
end
theorem zj9 (a b:List J):wtl (a++b)=wtl a+wtl b:=by
 induction a with
 | nil=>simp[wtl]
 | cons x a ih=>simp[wtl,ih];omega
theorem zj8 (a b:List (Bs × J)):wtp (a++b)=wtp a+wtp b:=by
 induction a with
 | nil=>simp[wtp]
 | cons x a ih=>obtain⟨nm,j⟩:=x;simp[wtp,ih];omega
theorem zqk (j:J):1≤wt j:=by cases j;unfold wt;omega
theorem zlj (out:Bs) (st:St) {o:Option Bs} {r:Bs} {st':St} (h:zas out st=(o,r,st')) :
 (Vl out→Vl r)∧(∀ x,o=some x→x=out∧st'.s.length+1≤st.s.length)∧r.length+4 * st'.s.length≤out.length+4 * st.s.length:=by
 obtain⟨h1,h2,h3,h4⟩:=zfv st.s;unfold zas at h;simp only at h;have hd:(st.s.drop (Lib.decodeGo ⟨st.s.toArray⟩).2).length=st.s.length - (Lib.decodeGo ⟨st.s.toArray⟩).2:=List.length_drop;split at h
 ·simp only[Prod.mk.injEq]at h;obtain⟨rfl,rfl,rfl⟩:=h;refine⟨id,by simp,?_⟩;simp only[hd];omega
 rename_i h5
 have hs:1≤(Lib.decodeGo ⟨st.s.toArray⟩).2:=by omega
 split at h
 ·simp only[Prod.mk.injEq]at h;obtain⟨rfl,rfl,rfl⟩:=h;refine⟨id,?_,?_⟩
  ·rintro x hx;simp only[Option.some.injEq]at hx;refine⟨hx.symm,?_⟩;simp only[hd];omega
  simp only[hd];omega
 split at h
 ·simp only[Prod.mk.injEq]at h;obtain⟨rfl,rfl,rfl⟩:=h;refine⟨fun hv=>hv.append (Vl.rune _),by simp,?_⟩;have he:=zec ⟨st.s.drop (Lib.decodeGo ⟨st.s.toArray⟩).2,st.bad⟩;have hr:=za2 (qd ⟨st.s.drop (Lib.decodeGo ⟨st.s.toArray⟩).2,st.bad⟩).1;rw[List.length_append];simp only[hd]at he;omega
 simp only[Prod.mk.injEq]at h;obtain⟨rfl,rfl,rfl⟩:=h;refine⟨fun hv=>hv.append (Vl.rune _),by simp,?_⟩;have hr:=za2 (Lib.decodeGo ⟨st.s.toArray⟩).1;rw[List.length_append];simp only[hd];omega
theorem zke:∀ (k:Nat) (out:Bs) (st:St),(Vl out→Vl (qa k out st).1)∧(qa k out st).1.length+4 * (qa k out st).2.s.length≤out.length+4 * st.s.length:=by
 intro k
 induction k with
 | zero=>intro out st;refine⟨fun _=>?_,?_⟩<;>simp[qa,Vl.nil]
 | succ k ih =>
   intro out st;unfold qa;split
   ·refine⟨fun _=>Vl.nil,?_⟩;simp
   have hg:=@zlj out st;generalize hG:zas out st=G at *;obtain⟨o,r,hA⟩:=G;obtain⟨g1,g2,g3⟩:=hg rfl;cases o with
   | none =>
     simp only;obtain⟨i1,i2⟩:=ih r hA;exact⟨fun hv=>i1 (g1 hv),by omega⟩
   | some x =>
     simp only;obtain⟨rfl,g4⟩:=g2 x rfl;exact⟨id,by omega⟩
theorem zhh (s:Bs):Vl (zav ⟨s,false⟩).1∧((zav ⟨s,false⟩).2.bad=false→(zav ⟨s,false⟩).1.length+4 * (zav ⟨s,false⟩).2.s.length+4≤4 * s.length):=by
 unfold zav;obtain⟨h1,h2⟩:=zke ((⟨s,false⟩:St).s.length+2) [] (qu [34] ⟨s,false⟩);refine⟨h1 .nil,fun hb=>?_⟩;by_cases hp:Lib.hasPrefix s [34]=true
 ·have:qu [34] ⟨s,false⟩=⟨Lib.trimPrefix s [34],false⟩:=by unfold qu;rw[if_pos hp]
  rw[this]at h2
  have:(Lib.trimPrefix s [34]).length+1≤s.length:=by
   cases s with
   | nil=>simp[Lib.hasPrefix]at hp
   | cons x l=>unfold Lib.trimPrefix;rw[if_pos hp];simp
  simp only[List.length_nil]at h2;rw[show qu [34] ⟨s,false⟩=⟨Lib.trimPrefix s [34],false⟩ by assumption];simp only at h2 ⊢;omega
 have:qu [34] ⟨s,false⟩=⟨s,true⟩:=by unfold qu;rw[if_neg hp]
 rw[this]at hb;simp[qa]at hb
theorem zn4 {s:Bs} (hs:s≠[]) {j:J} {r:Bs} (h:za4 ⟨s,false⟩=(j,⟨r,false⟩)) :
 (∃ n,j = .mk 2 n [] [] [] ∧ -9007199254740991≤n∧n≤9007199254740991)∧r.length+1≤s.length:=by
 have hA:∀ (m:Bool) (s:Bs) (j:J) (r:Bs),zci m false s=(j,⟨r,false⟩)→(∃ n,j = .mk 2 n [] [] [] ∧ -9007199254740991≤n∧n≤9007199254740991)∧r.length+1≤s.length:=by
  intro m s j r h;unfold zci at h;cases s with
  | nil=>simp at h
  | cons y t =>
    simp only at h;split at h
    ·rename_i hy
     have hd:(qv 0 0 (y :: t)).2.2.length≤t.length:=by
      rw[qv,if_pos hy];exact zh1 _ _ _
     generalize qv 0 0 (y :: t)=G at *;obtain⟨n,k,s2⟩:=G;simp only[Prod.mk.injEq,St.mk.injEq,Bool.false_or,Bool.or_eq_false_iff,decide_eq_false_iff_not]at h;obtain⟨rfl,rfl,h1,-⟩:=h;refine⟨⟨_,rfl,?_,?_⟩,by simpa using hd⟩<;>(split<;>omega)
    simp at h
 unfold za4 at h;cases s with
 | nil=>exact absurd rfl hs
 | cons x l =>
   simp only at h;split at h
   ·obtain⟨h1,h2⟩:=hA _ _ _ _ h;exact⟨h1,by simp;omega⟩
   exact hA _ _ _ _ h
section
variable {α:Type} {one:St→α→St × α} {shut:UInt8}
theorem zg3 (k:Nat)(s:Bs)(a:α):(zc4 one shut k ⟨s,true⟩ a).1.bad=true:=by
 cases k<;>simp[zc4]
theorem zhy {c:UInt8} {s l:Bs} (h:zdb c s=some l):l.length+1≤s.length:=by
 unfold zdb at h;have hb:=qf s;generalize jr s=t at *;cases t with
 | nil=>simp at h
 | cons x m =>
   simp only at h;split at h
   ·simp only[Option.some.injEq]at h;subst h;simpa using hb
   simp at h
theorem zob (Q:α→Nat→Prop) (hmono:∀ a m n,Q a m→n≤m→Q a n) (hone:∀ s a s1 a1,Q a s.length→one ⟨s,false⟩ a=(⟨s1,false⟩,a1)→Q a1 s1.length) :
 ∀ (k:Nat) (s:Bs) (a:α) (r:Bs) (a':α),Q a s.length→zc4 one shut k ⟨s,false⟩ a=(⟨r,false⟩,a')→Q a' r.length:=by
 intro k
 induction k with
 | zero =>
   intro s a r a' hq h;simp only[zc4,Prod.mk.injEq,St.mk.injEq,and_true]at h;obtain⟨rfl,rfl⟩:=h;exact hq
 | succ k ih =>
   intro s a r a' hq h;rw[zc4]at h;simp only[Bool.false_eq_true,if_false]at h;have h1:=hone s a;generalize one ⟨s,false⟩ a=G at *;obtain⟨⟨s1,b1⟩,a1⟩:=G;simp only at h;cases b1 with
   | true=>simp at h
   | false =>
     have hA:=h1 s1 a1 hq rfl;simp only[Bool.false_eq_true,if_false]at h;cases he:zdb shut s1 with
     | some l =>
       rw[he]at h;simp only[Prod.mk.injEq,St.mk.injEq,and_true]at h;obtain⟨rfl,rfl⟩:=h;exact hmono _ _ _ hA (by have:=zhy he;omega)
     | none =>
       rw[he]at h;simp only at h;cases hc:zdb 44 (jr s1) with
       | some l =>
         rw[hc]at h;refine ih l a1 r a' (hmono _ _ _ hA ?_) h;have:=zhy hc;have:=qf s1;omega
       | none =>
         rw[hc]at h;simp only at h;have:=zg3 (one:=one) (shut:=shut) k (jr (jr s1)) a1;rw[h]at this;simp at this
theorem ze2 (Q:α→Nat→Prop) (hmono:∀ a m n,Q a m→n≤m→Q a n) (hone:∀ s a s1 a1,Q a s.length→one ⟨s,false⟩ a=(⟨s1,false⟩,a1)→Q a1 s1.length)
 {op:UInt8} {d:Int} {s:Bs} {a:α} {r:Bs} {a':α} (h:za5 one op shut d ⟨s,false⟩ a=(⟨r,false⟩,a')):d≤8∧(Q a (s.length - 1)→Q a' r.length)∧1≤s.length:=by
 unfold za5 at h;cases he:zdb op s with
 | none =>
   have ho:zbb op d ⟨s,false⟩=⟨jr s,true⟩:=by unfold zbb;rw[he]
   rw[ho]at h;simp only at h;split at h
   ·simp at h
   have:=zg3 (one:=one) (shut:=shut) ((jr s).length+2) (jr (jr s)) a;rw[h]at this;simp at this
 | some l =>
   have ho:zbb op d ⟨s,false⟩=⟨l,decide (8<d)⟩:=by unfold zbb;rw[he];simp
   rw[ho]at h;have hl:=zhy he;simp only at h;by_cases hd:8<d
   ·rw[decide_eq_true hd]at h;split at h
    ·simp at h
    have:=zg3 (one:=one) (shut:=shut) (l.length+2) (jr l) a;rw[h]at this;simp at this
   rw[decide_eq_false hd]at h;refine⟨by omega,fun hq=>?_,by omega⟩;have hq:Q a l.length:=hmono _ _ _ hq (by omega);cases hs:zdb shut l with
   | some m =>
     rw[hs]at h;simp only[Prod.mk.injEq,St.mk.injEq,and_true]at h;obtain⟨rfl,rfl⟩:=h;exact hmono _ _ _ hq (by have:=zhy hs;omega)
   | none =>
     rw[hs]at h;exact zob Q hmono hone _ _ _ _ _ (hmono _ _ _ hq (qf l)) h
end
theorem zmb {p:Bs} {s r:Bs} (h:qu p ⟨s,false⟩=⟨r,false⟩):r.length+p.length≤s.length:=by
 unfold qu at h;split at h
 ·rename_i hp
  simp only[St.mk.injEq,and_true]at h;subst h;unfold Lib.trimPrefix;rw[if_pos hp]
  have:p.length≤s.length:=by
   rw[Lib.hasPrefix]at hp;exact(List.isPrefixOf_iff_prefix.1 hp).length_le
  simp;omega
 simp at h
def zrx (val:St→J × St) (d:Int):Prop:=(∀ s j r,val ⟨s,false⟩=(j,⟨r,false⟩)→q9 d j=true∧wt j+4 * r.length≤4 * s.length)∧∀ s,(val ⟨s,true⟩).2.bad=true
theorem zis (f:Nat)(d:Int)(s:Bs):(j6 f d ⟨s,true⟩).2.bad=true:=by
 cases f with
 | zero=>rfl
 | succ f=>unfold j6;split<;>simp
theorem zlz {val:St→J × St} {d:Int} (hv:zrx val d) {s:Bs} {a:List (Bs × J)} {s1:Bs} {a1:List (Bs × J)} (h:zbp val ⟨s,false⟩ a=(⟨s1,false⟩,a1)) :
 ∃ nm x,a1=a++[(nm,x)]∧nm ∉ a.map (·.1)∧Vl nm∧q9 d x=true∧1+nm.length+wt x+4 * s1.length≤4 * s.length:=by
 unfold zbp at h;have ht:=zhh (jr s);generalize zav ⟨jr s,false⟩=T at *;obtain⟨nm,hA⟩:=T;simp only at h ht
 have hc:(zbq (a.map (·.1)) nm hA).bad=false→nm ∉ a.map (·.1)∧hA.bad=false∧(zbq (a.map (·.1)) nm hA).s.length+1≤hA.s.length:=by
  intro hb;unfold zbq at hb ⊢;split at hb
  ·simp at hb
  rename_i hn
  rw[if_neg hn];cases he:zdb 58 hA.s with
  | none=>rw[he]at hb;simp at hb
  | some l =>
    rw[he]at hb;refine⟨by simpa using hn,hb,?_⟩;exact zhy he
 generalize zbq (a.map (·.1)) nm hA=C at *;obtain⟨cs,cb⟩:=C;cases cb with
 | true =>
   have:=hv.2 cs;generalize val ⟨cs,true⟩=V at *;obtain⟨x,hB⟩:=V;simp only[Prod.mk.injEq]at h this;rw[h.1]at this;simp at this
 | false =>
   obtain⟨h1,h2,h3⟩:=hc rfl;have:=hv.1 cs;generalize val ⟨cs,false⟩=V at *;obtain⟨x,hB⟩:=V;simp only[Prod.mk.injEq]at h;obtain⟨rfl,rfl⟩:=h;obtain⟨h4,h5⟩:=this x s1 rfl;refine⟨nm,x,rfl,h1,ht.1,h4,?_⟩;have h6:=ht.2 h2;have h7:=qf s;simp only at h3;omega
theorem zkb:∀ (f:Nat) (d:Int),10≤d+f→d≤8→zrx (j6 f d) d:=by
 intro f
 induction f with
 | zero=>intro d h1 h2;omega
 | succ f ih =>
   intro d h1 h2;refine⟨fun s j r h=>?_,zis _ _⟩;unfold j6 at h;have hb:=qf s;simp only at h;generalize jr s=t at *;cases t with
   | nil=>simp at h
   | cons c l =>
     simp only[Bool.false_eq_true,if_false]at h
     suffices q9 d j=true∧wt j+4 * r.length≤4 * (c :: l).length from ⟨this.1,by omega⟩
     clear hb
     have hA:∀ (p:Bs) (n k:Int),1≤p.length→(J.mk k n [] [] [],qu p ⟨c :: l,false⟩)=(j,(⟨r,false⟩:St))→(q9 d (.mk k n [] [] [])=true)→q9 d j=true∧wt j+4 * r.length≤4 * (c :: l).length:=by
      intro p n k hp h' hs;simp only[Prod.mk.injEq]at h';obtain⟨rfl,h'⟩:=h';refine⟨hs,?_⟩;have:=zmb h';simp only[wt,wtl,wtp,List.length_nil];omega
     unfold zgu at h;split at h
     ·exact hA zkl 0 0 (by decide) h (by simp[q9])
     split at h
     ·exact hA zkk 1 1 (by decide) h (by simp[q9])
     split at h
     ·exact hA zge 0 1 (by decide) h (by simp[q9])
     split at h
     ·obtain⟨h3,h4⟩:=zhh (c :: l);generalize zav ⟨c :: l,false⟩=T at *;obtain⟨t,st⟩:=T;simp only[Prod.mk.injEq]at h;obtain⟨rfl,rfl⟩:=h;refine⟨by simp[q9,(zjn t).2 h3],?_⟩;have:=h4 rfl;simp only[wt,wtl,wtp]at this ⊢;omega
     split at h
     ·generalize hE:za5 (zcj (j6 f (d+1))) 91 93 (d+1) ⟨c :: l,false⟩ []=E at h;obtain⟨st,a⟩:=E;simp only[Prod.mk.injEq]at h;obtain⟨rfl,rfl⟩:=h
      have hB:=fun hg=>ze2 (one:=zcj (j6 f (d+1))) (shut:=93) (Q:=fun a m=>(∀ x∈a,q9 (d+1) x=true)∧wtl a+4 * m+4≤4 * (c :: l).length)
       (fun a m n hq hn=>⟨hq.1,by omega⟩) hg hE
      have hd:d+1≤8:=by
       have:=ze2 (one:=zcj (j6 f (d+1))) (shut:=93) (Q:=fun _ _=>True) (fun _ _ _ _ _=>trivial) (fun _ _ _ _ _ _=>trivial) hE;exact this.1
      obtain ⟨-,hB,hl⟩:=hB (by
       intro s a s1 a1 hq ho;unfold zcj at ho;have hv:=(ih (d+1) (by omega) hd).1 s;generalize j6 f (d+1) ⟨s,false⟩=V at *;obtain⟨x,st2⟩:=V;simp only[Prod.mk.injEq]at ho;obtain⟨rfl,rfl⟩:=ho;obtain⟨h4,h5⟩:=hv x s1 rfl;refine⟨?_,?_⟩
       ·intro y hy;rcases List.mem_append.1 hy with hy | hy
        ·exact hq.1 y hy
        rw[List.mem_singleton.1 hy];exact h4
       rw[zj9];simp only[wtl];have:=hq.2
       omega)
      obtain⟨k1,k2⟩:=hB ⟨fun x hx=>by simp at hx,by simp only[wtl,List.length_cons];omega⟩;refine⟨?_,?_⟩
      ·unfold q9;simp only[show ¬ (8≤d) by omega];simp[(zi1 (d+1) a).2 k1]
      simp only[wt,wtp,List.length_nil];omega
     split at h
     ·generalize hE:za5 (zbp (j6 f (d+1))) 123 125 (d+1) ⟨c :: l,false⟩ []=E at h;obtain⟨st,a⟩:=E;simp only[Prod.mk.injEq]at h;obtain⟨rfl,rfl⟩:=h
      have hd:d+1≤8:=by
       have:=ze2 (one:=zbp (j6 f (d+1))) (shut:=125) (Q:=fun _ _=>True) (fun _ _ _ _ _=>trivial) (fun _ _ _ _ _ _=>trivial) hE;exact this.1
      obtain ⟨-,hB,hl⟩:=ze2 (one:=zbp (j6 f (d+1))) (shut:=125) (Q:=fun a m=>((∀ q∈a,Vl q.1∧q9 (d+1) q.2=true)∧(a.map (fun q:Bs × J=>q.1)).Nodup)∧wtp a+4 * m+4≤4 * (c :: l).length)
       (fun a m n hq hn=>⟨hq.1,by omega⟩) (by
       intro s a s1 a1 hq ho;obtain⟨nm,x,rfl,h3,h4,h5,h6⟩:=zlz (ih (d+1) (by omega) hd) ho;refine⟨⟨?_,?_⟩,?_⟩
       ·intro y hy;rcases List.mem_append.1 hy with hy | hy
        ·exact hq.1.1 y hy
        rw[List.mem_singleton.1 hy];exact⟨h4,h5⟩
       ·rw[List.map_append,List.nodup_append];refine⟨hq.1.2,by simp,?_⟩;intro y hy z hz e;simp at hz;subst hz;subst e;exact h3 hy
       rw[zj8];simp only[wtp];have:=hq.2
       omega) hE
      obtain⟨⟨k1,hC⟩,k2⟩:=hB ⟨⟨fun x hx=>by simp at hx,by simp⟩,by simp only[wtp,List.length_cons];omega⟩;refine⟨?_,?_⟩
      ·unfold q9;simp only[show ¬ (8≤d) by omega];simp[(zi2 (d+1) a []).2 ⟨k1,hC,by simp⟩]
      simp only[wt,wtl,List.length_nil];omega
     obtain⟨⟨n,rfl,h3,h4⟩,h5⟩:=zn4 (by simp) h;refine⟨by simp[q9,h3,h4],?_⟩;simp only[wt,wtl,wtp,List.length_nil];omega
theorem zkr {s:Bs}{j:J}(h:zhl s=some j):q9 0 j=true∧wt j≤4 * s.length:=by
 unfold zhl at h;have hv:=(zkb 10 0 (by omega) (by omega)).1 s;generalize j6 10 0 ⟨s,false⟩=V at *;obtain⟨v,⟨r,b⟩⟩:=V;simp only at h;split at h
 ·simp at h
 rename_i hb
 simp only[not_or,Bool.not_eq_true]at hb;obtain⟨rfl,-⟩:=hb;obtain rfl:=Option.some.inj h;obtain⟨h1,h2⟩:=hv v r rfl;exact⟨h1,by omega⟩
mutual
theorem zg7 {N:Nat}:∀ (j:J),zpb j=true→wt j≤N→fits N j=true
 | .mk k n t l p,hi,hw=>by
   unfold zpb at hi;simp only[Bool.and_eq_true,decide_eq_true_eq]at hi;obtain⟨⟨h1,h2⟩,h3,h4⟩:=hi;unfold wt at hw;obtain⟨hl,hl'⟩:=zj1 (N:=N) l h3 (by omega);obtain⟨hp,hp'⟩:=zj0 (N:=N) p h4 (by omega);unfold fits;simp[h1,h2,hl,hp];omega
theorem zj1 {N:Nat}:∀ (l:List J),zdu l=true→wtl l≤N→fitsl N l=true∧l.length≤wtl l
 | [],_,_=>by simp[fitsl]
 | j :: js,hi,hw=>by
   unfold zdu at hi;rw[Bool.and_eq_true]at hi;unfold wtl at hw ⊢;have h1:=zg7 (N:=N) j hi.1 (by omega);have h2:=zj1 (N:=N) js hi.2 (by omega);have:=zqk j;unfold fitsl;simp[h1,h2.1];omega
theorem zj0 {N:Nat}:∀ (l:List (Bs × J)),zdt l=true→wtp l≤N→fitsp N l=true∧l.length≤wtp l
 | [],_,_=>by simp[fitsp]
 | (nm,j) :: js,hi,hw=>by
   unfold zdt at hi;rw[Bool.and_eq_true]at hi;unfold wtp at hw ⊢;have h1:=zg7 (N:=N) j hi.1 (by omega);have h2:=zj0 (N:=N) js hi.2 (by omega);unfold fitsp;simp[h1,h2.1];omega
end
mutual
theorem zd3:∀ (j:J) (d:Int),q9 d j=true→zpb j=true
 | .mk k n t l p,d,h=>by
   unfold q9 at h;unfold zpb;split at h
   ·simp at h;obtain⟨rfl,rfl,rfl,rfl⟩:=h;simp[zdu,zdt]
   split at h
   ·simp at h;obtain⟨h0,rfl,rfl,rfl⟩:=h;simp[zdu,zdt];omega
   split at h
   ·simp at h;obtain⟨h0,h1,rfl,rfl,rfl⟩:=h;simp[zdu,zdt];omega
   split at h
   ·simp at h;obtain⟨rfl,h1,rfl,rfl⟩:=h;simp[zdu,zdt]
   split at h
   ·simp at h
   rename_i h0
   have h0:n=0:=by omega
   subst h0;split at h
   ·simp at h;obtain⟨h1,rfl⟩:=h;simp[zdt,zfb l _ h1]
   split at h
   ·simp at h;obtain⟨h1,rfl⟩:=h;simp[zdu,zfc p _ _ h1]
   simp at h
theorem zfb:∀ (l:List J) (d:Int),zde d l=true→zdu l=true
 | [],_,_=>by simp[zdu]
 | j :: js,d,h=>by
   unfold zde at h;rw[Bool.and_eq_true]at h;simp[zdu,zd3 j d h.1,zfb js d h.2]
theorem zfc:∀ (l:List (Bs × J)) (d:Int) (ns:List Bs),zdf d ns l=true→zdt l=true
 | [],_,_,_=>by simp[zdt]
 | (nm,j) :: js,d,ns,h=>by
   unfold zdf at h;simp only[Bool.and_eq_true]at h;simp[zdt,zd3 j d h.2.2.1,zfc js d _ h.2.2.2]
end
end Go.Proofs.YtffggpplnjibgaaGreatDoor
