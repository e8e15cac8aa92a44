/-
 What is parsed is sound,and not much longer than its text: plain laws.
-/
import Derived.Test.YtmgfncjfgkllcaaGreatDoorKUtf
import Derived.Test.YtmgfncjfgkllcaaGreatDoorKStart5
namespace Go.Proofs.YtmgfncjfgkllcaaGreatDoor
set_option linter.unusedVariables false
set_option linter.unusedSimpArgs false
set_option linter.unusedSectionVars false

theorem zor (d:Int):∀ (p:List (Bs × J)) (names:List Bs),zao d names p=true↔(∀ q∈p,Vl q.1∧j0 d q.2=true)∧(p.map (·.1)).Nodup∧∀ q∈p,q.1 ∉ names:=by
 intro p
 induction p with
 | nil=>intro names;simp[zao]
 | cons q p ih =>
   obtain⟨nm,j⟩:=q;intro names;unfold zao;simp only[Bool.and_eq_true,Bool.not_eq_true',ih,zih,List.map_cons,List.nodup_cons,List.mem_cons,forall_eq_or_imp,List.mem_append,List.mem_singleton,not_or,List.mem_map,not_exists,not_and];constructor
   ·rintro⟨h1,h2,h3,h4,h5,h6⟩;refine⟨⟨⟨h2,h3⟩,h4⟩,⟨fun x hx e=>(h6 x hx).2.1 e,h5⟩,by simpa using h1,fun x hx=>(h6 x hx).1⟩
   rintro⟨⟨⟨h2,h3⟩,h4⟩,⟨h7,h5⟩,h1,h6⟩;exact⟨by simpa using h1,h2,h3,h4,h5,fun x hx=>⟨h6 x hx,h7 x hx,by simp⟩⟩
theorem zoq (d:Int):∀ (l:List J),za5 d l=true ↔ ∀ j∈l,j0 d j=true:=by
 intro l
 induction l with
 | nil=>simp[za5]
 | cons j l ih=>unfold za5;simp[ih]
/-! ### what is parsed is sound, and not much longer than its text -/
mutual
def wt:J→Nat
 | .mk _ _ t l p=>1+t.length+wtl l+wtp p
def wtl:List J→Nat
 | []=>0
 | j :: js=>wt j+wtl js
def wtp:List (Bs × J)→Nat
 | []=>0
 | (nm,j) :: ps=>1+nm.length+wt j+wtp ps
end
theorem zq5 (a b:List J):wtl (a++b)=wtl a+wtl b:=by
 induction a with
 | nil=>simp[wtl]
 | cons x a ih=>simp[wtl,ih];omega
theorem zq4 (a b:List (Bs × J)):wtp (a++b)=wtp a+wtp b:=by
 induction a with
 | nil=>simp[wtp]
 | cons x a ih=>obtain⟨nm,j⟩:=x;simp[wtp,ih];omega
theorem z0n (j:J):1≤wt j:=by cases j;unfold wt;omega
theorem ztm (out:Bs) (st:St) {o:Option Bs} {r:Bs} {st':St} (h:qf out st=(o,r,st')) :
 (Vl out→Vl r)∧(∀ x,o=some x→x=out∧st'.s.length+1≤st.s.length)∧r.length+4 * st'.s.length≤out.length+4 * st.s.length:=by
 obtain⟨h1,h2,h3,h4⟩:=zfj st.s;unfold qf at h;simp only at h;have hd:(st.s.drop (Lib.decodeGo ⟨st.s.toArray⟩).2).length=st.s.length - (Lib.decodeGo ⟨st.s.toArray⟩).2:=List.length_drop;split at h
 ·simp only[Prod.mk.injEq]at h;obtain⟨rfl,rfl,rfl⟩:=h;refine⟨id,by simp,?_⟩;simp only[hd];omega
 rename_i h5
 have hs:1≤(Lib.decodeGo ⟨st.s.toArray⟩).2:=by omega
 split at h
 ·simp only[Prod.mk.injEq]at h;obtain⟨rfl,rfl,rfl⟩:=h;refine⟨id,?_,?_⟩
  ·rintro x hx;simp only[Option.some.injEq]at hx;refine⟨hx.symm,?_⟩;simp only[hd];omega
  simp only[hd];omega
 split at h
 ·simp only[Prod.mk.injEq]at h;obtain⟨rfl,rfl,rfl⟩:=h;refine⟨fun hv=>hv.append (Vl.rune _),by simp,?_⟩;have he:=zfu ⟨st.s.drop (Lib.decodeGo ⟨st.s.toArray⟩).2,st.bad⟩;have hr:=zbo (j5 ⟨st.s.drop (Lib.decodeGo ⟨st.s.toArray⟩).2,st.bad⟩).1;rw[List.length_append];simp only[hd]at he;omega
 simp only[Prod.mk.injEq]at h;obtain⟨rfl,rfl,rfl⟩:=h;refine⟨fun hv=>hv.append (Vl.rune _),by simp,?_⟩;have hr:=zbo (Lib.decodeGo ⟨st.s.toArray⟩).1;rw[List.length_append];simp only[hd];omega
theorem zrl:∀ (k:Nat) (out:Bs) (st:St),(Vl out→Vl (j4 k out st).1)∧(j4 k out st).1.length+4 * (j4 k out st).2.s.length≤out.length+4 * st.s.length:=by
 intro k
 induction k with
 | zero=>intro out st;refine⟨fun _=>?_,?_⟩<;>simp[j4,Vl.nil]
 | succ k ih =>
   intro out st;unfold j4;split
   ·refine⟨fun _=>Vl.nil,?_⟩;simp
   have hg:=@ztm out st;generalize hG:qf out st=G at *;obtain⟨o,r,hA⟩:=G;obtain⟨g1,g2,g3⟩:=hg rfl;cases o with
   | none =>
     simp only;obtain⟨i1,i2⟩:=ih r hA;exact⟨fun hv=>i1 (g1 hv),by omega⟩
   | some x =>
     simp only;obtain⟨rfl,g4⟩:=g2 x rfl;exact⟨id,by omega⟩
theorem zmj (s:Bs):Vl (zbk ⟨s,false⟩).1∧((zbk ⟨s,false⟩).2.bad=false→(zbk ⟨s,false⟩).1.length+4 * (zbk ⟨s,false⟩).2.s.length+4≤4 * s.length):=by
 unfold zbk;obtain⟨h1,h2⟩:=zrl ((⟨s,false⟩:St).s.length+2) [] (zaa [34] ⟨s,false⟩);refine⟨h1 .nil,fun hb=>?_⟩;by_cases hp:Lib.hasPrefix s [34]=true
 ·have:zaa [34] ⟨s,false⟩=⟨Lib.trimPrefix s [34],false⟩:=by unfold zaa;rw[if_pos hp]
  rw[this]at h2
  have:(Lib.trimPrefix s [34]).length+1≤s.length:=by
   cases s with
   | nil=>simp[Lib.hasPrefix]at hp
   | cons x l=>unfold Lib.trimPrefix;rw[if_pos hp];simp
  simp only[List.length_nil]at h2;rw[show zaa [34] ⟨s,false⟩=⟨Lib.trimPrefix s [34],false⟩ by assumption];simp only at h2 ⊢;omega
 have:zaa [34] ⟨s,false⟩=⟨s,true⟩:=by unfold zaa;rw[if_neg hp]
 rw[this]at hb;simp[j4]at hb
theorem zw7 {s:Bs} (hs:s≠[]) {j:J} {r:Bs} (h:zb1 ⟨s,false⟩=(j,⟨r,false⟩)) :
 (∃ n,j = .mk 2 n [] [] [] ∧ -9007199254740991≤n∧n≤9007199254740991)∧r.length+1≤s.length:=by
 have hA:∀ (m:Bool) (s:Bs) (j:J) (r:Bs),zbv m false s=(j,⟨r,false⟩)→(∃ n,j = .mk 2 n [] [] [] ∧ -9007199254740991≤n∧n≤9007199254740991)∧r.length+1≤s.length:=by
  intro m s j r h;unfold zbv at h;cases s with
  | nil=>simp at h
  | cons y t =>
    simp only at h;split at h
    ·rename_i hy
     have hd:(j6 0 0 (y :: t)).2.2.length≤t.length:=by
      rw[j6,if_pos hy];exact zne _ _ _
     generalize j6 0 0 (y :: t)=G at *;obtain⟨n,k,s2⟩:=G;simp only[Prod.mk.injEq,St.mk.injEq,Bool.false_or,Bool.or_eq_false_iff,decide_eq_false_iff_not]at h;obtain⟨rfl,rfl,h1,-⟩:=h;refine⟨⟨_,rfl,?_,?_⟩,by simpa using hd⟩<;>(split<;>omega)
    simp at h
 unfold zb1 at h;cases s with
 | nil=>exact absurd rfl hs
 | cons x l =>
   simp only at h;split at h
   ·obtain⟨h1,h2⟩:=hA _ _ _ _ h;exact⟨h1,by simp;omega⟩
   exact hA _ _ _ _ h
section
variable {α:Type} {one:St→α→St × α} {shut:UInt8}
theorem zgt (k:Nat)(s:Bs)(a:α):(zbm one shut k ⟨s,true⟩ a).1.bad=true:=by
 cases k<;>simp[zbm]
theorem znb {c:UInt8} {s l:Bs} (h:zdn c s=some l):l.length+1≤s.length:=by
 unfold zdn at h;have hb:=zac s;generalize ja s=t at *;cases t with
 | nil=>simp at h
 | cons x m =>
   simp only at h;split at h
   ·simp only[Option.some.injEq]at h;subst h;simpa using hb
   simp at h
theorem zxe (Q:α→Nat→Prop) (hmono:∀ a m n,Q a m→n≤m→Q a n) (hone:∀ s a s1 a1,Q a s.length→one ⟨s,false⟩ a=(⟨s1,false⟩,a1)→Q a1 s1.length) :
 ∀ (k:Nat) (s:Bs) (a:α) (r:Bs) (a':α),Q a s.length→zbm one shut k ⟨s,false⟩ a=(⟨r,false⟩,a')→Q a' r.length:=by
 intro k
 induction k with
 | zero =>
   intro s a r a' hq h;simp only[zbm,Prod.mk.injEq,St.mk.injEq,and_true]at h;obtain⟨rfl,rfl⟩:=h;exact hq
 | succ k ih =>
   intro s a r a' hq h;rw[zbm]at h;simp only[Bool.false_eq_true,if_false]at h;have h1:=hone s a;generalize one ⟨s,false⟩ a=G at *;obtain⟨⟨s1,b1⟩,a1⟩:=G;simp only at h;cases b1 with
   | true=>simp at h
   | false =>
     have hA:=h1 s1 a1 hq rfl;simp only[Bool.false_eq_true,if_false]at h;cases he:zdn shut s1 with
     | some l =>
       rw[he]at h;simp only[Prod.mk.injEq,St.mk.injEq,and_true]at h;obtain⟨rfl,rfl⟩:=h;exact hmono _ _ _ hA (by have:=znb he;omega)
     | none =>
       rw[he]at h;simp only at h;cases hc:zdn 44 (ja s1) with
       | some l =>
         rw[hc]at h;refine ih l a1 r a' (hmono _ _ _ hA ?_) h;have:=znb hc;have:=zac s1;omega
       | none =>
         rw[hc]at h;simp only at h;have:=zgt (one:=one) (shut:=shut) k (ja (ja s1)) a1;rw[h]at this;simp at this
theorem zis (Q:α→Nat→Prop) (hmono:∀ a m n,Q a m→n≤m→Q a n) (hone:∀ s a s1 a1,Q a s.length→one ⟨s,false⟩ a=(⟨s1,false⟩,a1)→Q a1 s1.length)
 {op:UInt8} {d:Int} {s:Bs} {a:α} {r:Bs} {a':α} (h:zae one op shut d ⟨s,false⟩ a=(⟨r,false⟩,a')):d≤8∧(Q a (s.length - 1)→Q a' r.length)∧1≤s.length:=by
 unfold zae at h;cases he:zdn op s with
 | none =>
   have ho:zb9 op d ⟨s,false⟩=⟨ja s,true⟩:=by unfold zb9;rw[he]
   rw[ho]at h;simp only at h;split at h
   ·simp at h
   have:=zgt (one:=one) (shut:=shut) ((ja s).length+2) (ja (ja s)) a;rw[h]at this;simp at this
 | some l =>
   have ho:zb9 op d ⟨s,false⟩=⟨l,decide (8<d)⟩:=by unfold zb9;rw[he];simp
   rw[ho]at h;have hl:=znb he;simp only at h;by_cases hd:8<d
   ·rw[decide_eq_true hd]at h;split at h
    ·simp at h
    have:=zgt (one:=one) (shut:=shut) (l.length+2) (ja l) a;rw[h]at this;simp at this
   rw[decide_eq_false hd]at h;refine⟨by omega,fun hq=>?_,by omega⟩;have hq:Q a l.length:=hmono _ _ _ hq (by omega);cases hs:zdn shut l with
   | some m =>
     rw[hs]at h;simp only[Prod.mk.injEq,St.mk.injEq,and_true]at h;obtain⟨rfl,rfl⟩:=h;exact hmono _ _ _ hq (by have:=znb hs;omega)
   | none =>
     rw[hs]at h;exact zxe Q hmono hone _ _ _ _ _ (hmono _ _ _ hq (zac l)) h
end
theorem zup {p:Bs} {s r:Bs} (h:zaa p ⟨s,false⟩=⟨r,false⟩):r.length+p.length≤s.length:=by
 unfold zaa at h;split at h
 ·rename_i hp
  simp only[St.mk.injEq,and_true]at h;subst h;unfold Lib.trimPrefix;rw[if_pos hp]
  have:p.length≤s.length:=by
   rw[Lib.hasPrefix]at hp;exact(List.isPrefixOf_iff_prefix.1 hp).length_le
  simp;omega
 simp at h
def z2h (val:St→J × St) (d:Int):Prop:=(∀ s j r,val ⟨s,false⟩=(j,⟨r,false⟩)→j0 d j=true∧wt j+4 * r.length≤4 * s.length)∧∀ s,(val ⟨s,true⟩).2.bad=true
theorem zix (f:Nat)(d:Int)(s:Bs):(jg f d ⟨s,true⟩).2.bad=true:=by
 cases f with
 | zero=>rfl
 | succ f=>unfold jg;split<;>simp
theorem zud {val:St→J × St} {d:Int} (hv:z2h val d) {s:Bs} {a:List (Bs × J)} {s1:Bs} {a1:List (Bs × J)} (h:za4 val ⟨s,false⟩ a=(⟨s1,false⟩,a1)) :
 ∃ nm x,a1=a++[(nm,x)]∧nm ∉ a.map (·.1)∧Vl nm∧j0 d x=true∧1+nm.length+wt x+4 * s1.length≤4 * s.length:=by
 unfold za4 at h;have ht:=zmj (ja s);generalize zbk ⟨ja s,false⟩=T at *;obtain⟨nm,hA⟩:=T;simp only at h ht
 have hc:(zbw (a.map (·.1)) nm hA).bad=false→nm ∉ a.map (·.1)∧hA.bad=false∧(zbw (a.map (·.1)) nm hA).s.length+1≤hA.s.length:=by
  intro hb;unfold zbw at hb ⊢;split at hb
  ·simp at hb
  rename_i hn
  rw[if_neg hn];cases he:zdn 58 hA.s with
  | none=>rw[he]at hb;simp at hb
  | some l =>
    rw[he]at hb;refine⟨by simpa using hn,hb,?_⟩;exact znb he
 generalize zbw (a.map (·.1)) nm hA=C at *;obtain⟨cs,cb⟩:=C;cases cb with
 | true =>
   have:=hv.2 cs;generalize val ⟨cs,true⟩=V at *;obtain⟨x,hB⟩:=V;simp only[Prod.mk.injEq]at h this;rw[h.1]at this;simp at this
 | false =>
   obtain⟨h1,h2,h3⟩:=hc rfl;have:=hv.1 cs;generalize val ⟨cs,false⟩=V at *;obtain⟨x,hB⟩:=V;simp only[Prod.mk.injEq]at h;obtain⟨rfl,rfl⟩:=h;obtain⟨h4,h5⟩:=this x s1 rfl;refine⟨nm,x,rfl,h1,ht.1,h4,?_⟩;have h6:=ht.2 h2;have h7:=zac s;simp only at h3;omega
theorem zrc:∀ (f:Nat) (d:Int),10≤d+f→d≤8→z2h (jg f d) d:=by
 intro f
 induction f with
 | zero=>intro d h1 h2;omega
 | succ f ih =>
   intro d h1 h2;refine⟨fun s j r h=>?_,zix _ _⟩;unfold jg at h;have hb:=zac s;simp only at h;generalize ja s=t at *;cases t with
   | nil=>simp at h
   | cons c l =>
     simp only[Bool.false_eq_true,if_false]at h
     suffices j0 d j=true∧wt j+4 * r.length≤4 * (c :: l).length from ⟨this.1,by omega⟩
     clear hb
     have hA:∀ (p:Bs) (n k:Int),1≤p.length→(J.mk k n [] [] [],zaa p ⟨c :: l,false⟩)=(j,(⟨r,false⟩:St))→(j0 d (.mk k n [] [] [])=true)→j0 d j=true∧wt j+4 * r.length≤4 * (c :: l).length:=by
      intro p n k hp h' hs;simp only[Prod.mk.injEq]at h';obtain⟨rfl,h'⟩:=h';refine⟨hs,?_⟩;have:=zup h';simp only[wt,wtl,wtp,List.length_nil];omega
     unfold zc5 at h;split at h
     ·exact hA zlc 0 0 (by decide) h (by simp[j0])
     split at h
     ·exact hA zlb 1 1 (by decide) h (by simp[j0])
     split at h
     ·exact hA zgn 0 1 (by decide) h (by simp[j0])
     split at h
     ·obtain⟨h3,h4⟩:=zmj (c :: l);generalize zbk ⟨c :: l,false⟩=T at *;obtain⟨t,st⟩:=T;simp only[Prod.mk.injEq]at h;obtain⟨rfl,rfl⟩:=h;refine⟨by simp[j0,(zih t).2 h3],?_⟩;have:=h4 rfl;simp only[wt,wtl,wtp]at this ⊢;omega
     split at h
     ·generalize hE:zae (zbn (jg f (d+1))) 91 93 (d+1) ⟨c :: l,false⟩ []=E at h;obtain⟨st,a⟩:=E;simp only[Prod.mk.injEq]at h;obtain⟨rfl,rfl⟩:=h
      have hB:=fun hg=>zis (one:=zbn (jg f (d+1))) (shut:=93) (Q:=fun a m=>(∀ x∈a,j0 (d+1) x=true)∧wtl a+4 * m+4≤4 * (c :: l).length)
       (fun a m n hq hn=>⟨hq.1,by omega⟩) hg hE
      have hd:d+1≤8:=by
       have:=zis (one:=zbn (jg f (d+1))) (shut:=93) (Q:=fun _ _=>True) (fun _ _ _ _ _=>trivial) (fun _ _ _ _ _ _=>trivial) hE;exact this.1
      obtain ⟨-,hB,hl⟩:=hB (by
       intro s a s1 a1 hq ho;unfold zbn at ho;have hv:=(ih (d+1) (by omega) hd).1 s;generalize jg f (d+1) ⟨s,false⟩=V at *;obtain⟨x,st2⟩:=V;simp only[Prod.mk.injEq]at ho;obtain⟨rfl,rfl⟩:=ho;obtain⟨h4,h5⟩:=hv x s1 rfl;refine⟨?_,?_⟩
       ·intro y hy;rcases List.mem_append.1 hy with hy | hy
        ·exact hq.1 y hy
        rw[List.mem_singleton.1 hy];exact h4
       rw[zq5];simp only[wtl];have:=hq.2
       omega)
      obtain⟨k1,k2⟩:=hB ⟨fun x hx=>by simp at hx,by simp only[wtl,List.length_cons];omega⟩;refine⟨?_,?_⟩
      ·unfold j0;simp only[show ¬ (8≤d) by omega];simp[(zoq (d+1) a).2 k1]
      simp only[wt,wtp,List.length_nil];omega
     split at h
     ·generalize hE:zae (za4 (jg f (d+1))) 123 125 (d+1) ⟨c :: l,false⟩ []=E at h;obtain⟨st,a⟩:=E;simp only[Prod.mk.injEq]at h;obtain⟨rfl,rfl⟩:=h
      have hd:d+1≤8:=by
       have:=zis (one:=za4 (jg f (d+1))) (shut:=125) (Q:=fun _ _=>True) (fun _ _ _ _ _=>trivial) (fun _ _ _ _ _ _=>trivial) hE;exact this.1
      obtain ⟨-,hB,hl⟩:=zis (one:=za4 (jg f (d+1))) (shut:=125) (Q:=fun a m=>((∀ q∈a,Vl q.1∧j0 (d+1) q.2=true)∧(a.map (fun q:Bs × J=>q.1)).Nodup)∧wtp a+4 * m+4≤4 * (c :: l).length)
       (fun a m n hq hn=>⟨hq.1,by omega⟩) (by
       intro s a s1 a1 hq ho;obtain⟨nm,x,rfl,h3,h4,h5,h6⟩:=zud (ih (d+1) (by omega) hd) ho;refine⟨⟨?_,?_⟩,?_⟩
       ·intro y hy;rcases List.mem_append.1 hy with hy | hy
        ·exact hq.1.1 y hy
        rw[List.mem_singleton.1 hy];exact⟨h4,h5⟩
       ·rw[List.map_append,List.nodup_append];refine⟨hq.1.2,by simp,?_⟩;intro y hy z hz e;simp at hz;subst hz;subst e;exact h3 hy
       rw[zq4];simp only[wtp];have:=hq.2
       omega) hE
      obtain⟨⟨k1,hC⟩,k2⟩:=hB ⟨⟨fun x hx=>by simp at hx,by simp⟩,by simp only[wtp,List.length_cons];omega⟩;refine⟨?_,?_⟩
      ·unfold j0;simp only[show ¬ (8≤d) by omega];simp[(zor (d+1) a []).2 ⟨k1,hC,by simp⟩]
      simp only[wt,wtl,List.length_nil];omega
     obtain⟨⟨n,rfl,h3,h4⟩,h5⟩:=zw7 (by simp) h;refine⟨by simp[j0,h3,h4],?_⟩;simp only[wt,wtl,wtp,List.length_nil];omega
theorem zr8 {s:Bs}{j:J}(h:zht s=some j):j0 0 j=true∧wt j≤4 * s.length:=by
 unfold zht at h;have hv:=(zrc 10 0 (by omega) (by omega)).1 s;generalize jg 10 0 ⟨s,false⟩=V at *;obtain⟨v,⟨r,b⟩⟩:=V;simp only at h;split at h
 ·simp at h
 rename_i hb
 simp only[not_or,Bool.not_eq_true]at hb;obtain⟨rfl,-⟩:=hb;obtain rfl:=Option.some.inj h;obtain⟨h1,h2⟩:=hv v r rfl;exact⟨h1,by omega⟩
mutual
theorem zlx {N:Nat}:∀ (j:J),zyp j=true→wt j≤N→fits N j=true
 | .mk k n t l p,hi,hw=>by
   unfold zyp at hi;simp only[Bool.and_eq_true,decide_eq_true_eq]at hi;obtain⟨⟨h1,h2⟩,h3,h4⟩:=hi;unfold wt at hw;obtain⟨hl,hl'⟩:=zql (N:=N) l h3 (by omega);obtain⟨hp,hp'⟩:=zqk (N:=N) p h4 (by omega);unfold fits;simp[h1,h2,hl,hp];omega
theorem zql {N:Nat}:∀ (l:List J),zgx l=true→wtl l≤N→fitsl N l=true∧l.length≤wtl l
 | [],_,_=>by simp[fitsl]
 | j :: js,hi,hw=>by
   unfold zgx at hi;rw[Bool.and_eq_true]at hi;unfold wtl at hw ⊢;have h1:=zlx (N:=N) j hi.1 (by omega);have h2:=zql (N:=N) js hi.2 (by omega);have:=z0n j;unfold fitsl;simp[h1,h2.1];omega
theorem zqk {N:Nat}:∀ (l:List (Bs × J)),zgw l=true→wtp l≤N→fitsp N l=true∧l.length≤wtp l
 | [],_,_=>by simp[fitsp]
 | (nm,j) :: js,hi,hw=>by
   unfold zgw at hi;rw[Bool.and_eq_true]at hi;unfold wtp at hw ⊢;have h1:=zlx (N:=N) j hi.1 (by omega);have h2:=zqk (N:=N) js hi.2 (by omega);unfold fitsp;simp[h1,h2.1];omega
end
mutual
theorem zhg:∀ (j:J) (d:Int),j0 d j=true→zyp j=true
 | .mk k n t l p,d,h=>by
   unfold j0 at h;unfold zyp;split at h
   ·simp at h;obtain⟨rfl,rfl,rfl,rfl⟩:=h;simp[zgx,zgw]
   split at h
   ·simp at h;obtain⟨h0,rfl,rfl,rfl⟩:=h;simp[zgx,zgw];omega
   split at h
   ·simp at h;obtain⟨h0,h1,rfl,rfl,rfl⟩:=h;simp[zgx,zgw];omega
   split at h
   ·simp at h;obtain⟨rfl,h1,rfl,rfl⟩:=h;simp[zgx,zgw]
   split at h
   ·simp at h
   rename_i h0
   have h0:n=0:=by omega
   subst h0;split at h
   ·simp at h;obtain⟨h1,rfl⟩:=h;simp[zgw,zi2 l _ h1]
   split at h
   ·simp at h;obtain⟨h1,rfl⟩:=h;simp[zgx,zi3 p _ _ h1]
   simp at h
theorem zi2:∀ (l:List J) (d:Int),za5 d l=true→zgx l=true
 | [],_,_=>by simp[zgx]
 | j :: js,d,h=>by
   unfold za5 at h;rw[Bool.and_eq_true]at h;simp[zgx,zhg j d h.1,zi2 js d h.2]
theorem zi3:∀ (l:List (Bs × J)) (d:Int) (ns:List Bs),zao d ns l=true→zgw l=true
 | [],_,_,_=>by simp[zgw]
 | (nm,j) :: js,d,ns,h=>by
   unfold zao at h;simp only[Bool.and_eq_true]at h;simp[zgw,zhg j d h.2.2.1,zi3 js d _ h.2.2.2]
end
end Go.Proofs.YtmgfncjfgkllcaaGreatDoor
