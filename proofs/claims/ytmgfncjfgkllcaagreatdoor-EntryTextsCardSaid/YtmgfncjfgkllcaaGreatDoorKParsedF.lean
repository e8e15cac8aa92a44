/-
 What is parsed is sound,and not much longer than its text: plain laws.
-/
import Derived.Test.YtmgfncjfgkllcaaGreatDoorKUtf
import Derived.Test.YtmgfncjfgkllcaaGreatDoorKSpecSound
import Derived.Test.YtmgfncjfgkllcaaGreatDoorKFits
namespace Go.Proofs.YtmgfncjfgkllcaaGreatDoor
set_option linter.unusedVariables false
set_option linter.unusedSimpArgs false
set_option linter.unusedSectionVars false

theorem zmj (d:Int):∀ (p:List (Bs × J)) (names:List Bs),qp d names p=true↔(∀ q∈p,Vl q.1∧jq d q.2=true)∧(p.map (·.1)).Nodup∧∀ q∈p,q.1 ∉ names:=by
 intro p
 induction p with
 | nil=>intro names;simp[qp]
 | cons q p ih =>
   obtain⟨nm,j⟩:=q;intro names;unfold qp;simp only[Bool.and_eq_true,Bool.not_eq_true',ih,zgo,List.map_cons,List.nodup_cons,List.mem_cons,forall_eq_or_imp,List.mem_append,List.mem_singleton,not_or,List.mem_map,not_exists,not_and];constructor
   ·rintro⟨h1,h2,h3,h4,h5,h6⟩;refine⟨⟨⟨h2,h3⟩,h4⟩,⟨fun x hx e=>(h6 x hx).2.1 e,h5⟩,by simpa using h1,fun x hx=>(h6 x hx).1⟩
   rintro⟨⟨⟨h2,h3⟩,h4⟩,⟨h7,h5⟩,h1,h6⟩;exact⟨by simpa using h1,h2,h3,h4,h5,fun x hx=>⟨h6 x hx,h7 x hx,by simp⟩⟩
theorem zmi (d:Int):∀ (l:List J),zag d l=true ↔ ∀ j∈l,jq d j=true:=by
 intro l
 induction l with
 | nil=>simp[zag]
 | cons j l ih=>unfold zag;simp[ih]
/-! ### what is parsed is sound, and not much longer than its text -/
mutual
def wt:J→Nat
 | .mk _ _ t l p=>1+t.length+wtl l+wtp p
def wtl:List J→Nat
 | []=>0
 | j :: js=>wt j+wtl js
def wtp:List (Bs × J)→Nat
 | []=>0
 | (nm,j) :: ps=>1+nm.length+wt j+wtp ps
end
theorem zoq (a b:List J):wtl (a++b)=wtl a+wtl b:=by
 induction a with
 | nil=>simp[wtl]
 | cons x a ih=>simp[wtl,ih];omega
theorem zop (a b:List (Bs × J)):wtp (a++b)=wtp a+wtp b:=by
 induction a with
 | nil=>simp[wtp]
 | cons x a ih=>obtain⟨nm,j⟩:=x;simp[wtp,ih];omega
theorem zwl (j:J):1≤wt j:=by cases j;unfold wt;omega
theorem zqn (out:Bs) (st:St) {o:Option Bs} {r:Bs} {st':St} (h:qe out st=(o,r,st')) :
 (Vl out→Vl r)∧(∀ x,o=some x→x=out∧st'.s.length+1≤st.s.length)∧r.length+4 * st'.s.length≤out.length+4 * st.s.length:=by
 obtain⟨h1,h2,h3,h4⟩:=zhu st.s;unfold qe at h;simp only at h;have hd:(st.s.drop (Lib.decodeGo ⟨st.s.toArray⟩).2).length=st.s.length - (Lib.decodeGo ⟨st.s.toArray⟩).2:=List.length_drop;split at h
 ·simp only[Prod.mk.injEq]at h;obtain⟨rfl,rfl,rfl⟩:=h;refine⟨id,by simp,?_⟩;simp only[hd];omega
 rename_i h5
 have hs:1≤(Lib.decodeGo ⟨st.s.toArray⟩).2:=by omega
 split at h
 ·simp only[Prod.mk.injEq]at h;obtain⟨rfl,rfl,rfl⟩:=h;refine⟨id,?_,?_⟩
  ·rintro x hx;simp only[Option.some.injEq]at hx;refine⟨hx.symm,?_⟩;simp only[hd];omega
  simp only[hd];omega
 split at h
 ·simp only[Prod.mk.injEq]at h;obtain⟨rfl,rfl,rfl⟩:=h;refine⟨fun hv=>hv.append (Vl.rune _),by simp,?_⟩;have he:=zfs ⟨st.s.drop (Lib.decodeGo ⟨st.s.toArray⟩).2,st.bad⟩;have hr:=zb1 (qf ⟨st.s.drop (Lib.decodeGo ⟨st.s.toArray⟩).2,st.bad⟩).1;rw[List.length_append];simp only[hd]at he;omega
 simp only[Prod.mk.injEq]at h;obtain⟨rfl,rfl,rfl⟩:=h;refine⟨fun hv=>hv.append (Vl.rune _),by simp,?_⟩;have hr:=zb1 (Lib.decodeGo ⟨st.s.toArray⟩).1;rw[List.length_append];simp only[hd];omega
theorem zo5:∀ (k:Nat) (out:Bs) (st:St),(Vl out→Vl (j0 k out st).1)∧(j0 k out st).1.length+4 * (j0 k out st).2.s.length≤out.length+4 * st.s.length:=by
 intro k
 induction k with
 | zero=>intro out st;refine⟨fun _=>?_,?_⟩<;>simp[j0,Vl.nil]
 | succ k ih =>
   intro out st;unfold j0;split
   ·refine⟨fun _=>Vl.nil,?_⟩;simp
   have hg:=@zqn out st;generalize hG:qe out st=G at *;obtain⟨o,r,hA⟩:=G;obtain⟨g1,g2,g3⟩:=hg rfl;cases o with
   | none =>
     simp only;obtain⟨i1,i2⟩:=ih r hA;exact⟨fun hv=>i1 (g1 hv),by omega⟩
   | some x =>
     simp only;obtain⟨rfl,g4⟩:=g2 x rfl;exact⟨id,by omega⟩
theorem zka (s:Bs):Vl (zbh ⟨s,false⟩).1∧((zbh ⟨s,false⟩).2.bad=false→(zbh ⟨s,false⟩).1.length+4 * (zbh ⟨s,false⟩).2.s.length+4≤4 * s.length):=by
 unfold zbh;obtain⟨h1,h2⟩:=zo5 ((⟨s,false⟩:St).s.length+2) [] (zak [34] ⟨s,false⟩);refine⟨h1 .nil,fun hb=>?_⟩;by_cases hp:Lib.hasPrefix s [34]=true
 ·have:zak [34] ⟨s,false⟩=⟨Lib.trimPrefix s [34],false⟩:=by unfold zak;rw[if_pos hp]
  rw[this]at h2
  have:(Lib.trimPrefix s [34]).length+1≤s.length:=by
   cases s with
   | nil=>simp[Lib.hasPrefix]at hp
   | cons x l=>unfold Lib.trimPrefix;rw[if_pos hp];simp
  simp only[List.length_nil]at h2;rw[show zak [34] ⟨s,false⟩=⟨Lib.trimPrefix s [34],false⟩ by assumption];simp only at h2 ⊢;omega
 have:zak [34] ⟨s,false⟩=⟨s,true⟩:=by unfold zak;rw[if_neg hp]
 rw[this]at hb;simp[j0]at hb
theorem zts {s:Bs} (hs:s≠[]) {j:J} {r:Bs} (h:za6 ⟨s,false⟩=(j,⟨r,false⟩)) :
 (∃ n,j = .mk 2 n [] [] [] ∧ -9007199254740991≤n∧n≤9007199254740991)∧r.length+1≤s.length:=by
 have hA:∀ (m:Bool) (s:Bs) (j:J) (r:Bs),zci m false s=(j,⟨r,false⟩)→(∃ n,j = .mk 2 n [] [] [] ∧ -9007199254740991≤n∧n≤9007199254740991)∧r.length+1≤s.length:=by
  intro m s j r h;unfold zci at h;cases s with
  | nil=>simp at h
  | cons y t =>
    simp only at h;split at h
    ·rename_i hy
     have hd:(qk 0 0 (y :: t)).2.2.length≤t.length:=by
      rw[qk,if_pos hy];exact zk2 _ _ _
     generalize qk 0 0 (y :: t)=G at *;obtain⟨n,k,s2⟩:=G;simp only[Prod.mk.injEq,St.mk.injEq,Bool.false_or,Bool.or_eq_false_iff,decide_eq_false_iff_not]at h;obtain⟨rfl,rfl,h1,-⟩:=h;refine⟨⟨_,rfl,?_,?_⟩,by simpa using hd⟩<;>(split<;>omega)
    simp at h
 unfold za6 at h;cases s with
 | nil=>exact absurd rfl hs
 | cons x l =>
   simp only at h;split at h
   ·obtain⟨h1,h2⟩:=hA _ _ _ _ h;exact⟨h1,by simp;omega⟩
   exact hA _ _ _ _ h
section
variable {α:Type} {one:St→α→St × α} {shut:UInt8}
theorem zji (k:Nat)(s:Bs)(a:α):(zb3 one shut k ⟨s,true⟩ a).1.bad=true:=by
 cases k<;>simp[zb3]
theorem zk0 {c:UInt8} {s l:Bs} (h:zc2 c s=some l):l.length+1≤s.length:=by
 unfold zc2 at h;have hb:=qv s;generalize jg s=t at *;cases t with
 | nil=>simp at h
 | cons x m =>
   simp only at h;split at h
   ·simp only[Option.some.injEq]at h;subst h;simpa using hb
   simp at h
theorem ztz (Q:α→Nat→Prop) (hmono:∀ a m n,Q a m→n≤m→Q a n) (hone:∀ s a s1 a1,Q a s.length→one ⟨s,false⟩ a=(⟨s1,false⟩,a1)→Q a1 s1.length) :
 ∀ (k:Nat) (s:Bs) (a:α) (r:Bs) (a':α),Q a s.length→zb3 one shut k ⟨s,false⟩ a=(⟨r,false⟩,a')→Q a' r.length:=by
 intro k
 induction k with
 | zero =>
   intro s a r a' hq h;simp only[zb3,Prod.mk.injEq,St.mk.injEq,and_true]at h;obtain⟨rfl,rfl⟩:=h;exact hq
 | succ k ih =>
   intro s a r a' hq h;rw[zb3]at h;simp only[Bool.false_eq_true,if_false]at h;have h1:=hone s a;generalize one ⟨s,false⟩ a=G at *;obtain⟨⟨s1,b1⟩,a1⟩:=G;simp only at h;cases b1 with
   | true=>simp at h
   | false =>
     have hA:=h1 s1 a1 hq rfl;simp only[Bool.false_eq_true,if_false]at h;cases he:zc2 shut s1 with
     | some l =>
       rw[he]at h;simp only[Prod.mk.injEq,St.mk.injEq,and_true]at h;obtain⟨rfl,rfl⟩:=h;exact hmono _ _ _ hA (by have:=zk0 he;omega)
     | none =>
       rw[he]at h;simp only at h;cases hc:zc2 44 (jg s1) with
       | some l =>
         rw[hc]at h;refine ih l a1 r a' (hmono _ _ _ hA ?_) h;have:=zk0 hc;have:=qv s1;omega
       | none =>
         rw[hc]at h;simp only at h;have:=zji (one:=one) (shut:=shut) k (jg (jg s1)) a1;rw[h]at this;simp at this
theorem zgx (Q:α→Nat→Prop) (hmono:∀ a m n,Q a m→n≤m→Q a n) (hone:∀ s a s1 a1,Q a s.length→one ⟨s,false⟩ a=(⟨s1,false⟩,a1)→Q a1 s1.length)
 {op:UInt8} {d:Int} {s:Bs} {a:α} {r:Bs} {a':α} (h:za7 one op shut d ⟨s,false⟩ a=(⟨r,false⟩,a')):d≤8∧(Q a (s.length - 1)→Q a' r.length)∧1≤s.length:=by
 unfold za7 at h;cases he:zc2 op s with
 | none =>
   have ho:zbp op d ⟨s,false⟩=⟨jg s,true⟩:=by unfold zbp;rw[he]
   rw[ho]at h;simp only at h;split at h
   ·simp at h
   have:=zji (one:=one) (shut:=shut) ((jg s).length+2) (jg (jg s)) a;rw[h]at this;simp at this
 | some l =>
   have ho:zbp op d ⟨s,false⟩=⟨l,decide (8<d)⟩:=by unfold zbp;rw[he];simp
   rw[ho]at h;have hl:=zk0 he;simp only at h;by_cases hd:8<d
   ·rw[decide_eq_true hd]at h;split at h
    ·simp at h
    have:=zji (one:=one) (shut:=shut) (l.length+2) (jg l) a;rw[h]at this;simp at this
   rw[decide_eq_false hd]at h;refine⟨by omega,fun hq=>?_,by omega⟩;have hq:Q a l.length:=hmono _ _ _ hq (by omega);cases hs:zc2 shut l with
   | some m =>
     rw[hs]at h;simp only[Prod.mk.injEq,St.mk.injEq,and_true]at h;obtain⟨rfl,rfl⟩:=h;exact hmono _ _ _ hq (by have:=zk0 hs;omega)
   | none =>
     rw[hs]at h;exact ztz Q hmono hone _ _ _ _ _ (hmono _ _ _ hq (qv l)) h
end
theorem zrj {p:Bs} {s r:Bs} (h:zak p ⟨s,false⟩=⟨r,false⟩):r.length+p.length≤s.length:=by
 unfold zak at h;split at h
 ·rename_i hp
  simp only[St.mk.injEq,and_true]at h;subst h;unfold Lib.trimPrefix;rw[if_pos hp]
  have:p.length≤s.length:=by
   rw[Lib.hasPrefix]at hp;exact(List.isPrefixOf_iff_prefix.1 hp).length_le
  simp;omega
 simp at h
def zx9 (val:St→J × St) (d:Int):Prop:=(∀ s j r,val ⟨s,false⟩=(j,⟨r,false⟩)→jq d j=true∧wt j+4 * r.length≤4 * s.length)∧∀ s,(val ⟨s,true⟩).2.bad=true
theorem zl3 (f:Nat)(d:Int)(s:Bs):(jy f d ⟨s,true⟩).2.bad=true:=by
 cases f with
 | zero=>rfl
 | succ f=>unfold jy;split<;>simp
theorem zq8 {val:St→J × St} {d:Int} (hv:zx9 val d) {s:Bs} {a:List (Bs × J)} {s1:Bs} {a1:List (Bs × J)} (h:zbx val ⟨s,false⟩ a=(⟨s1,false⟩,a1)) :
 ∃ nm x,a1=a++[(nm,x)]∧nm ∉ a.map (·.1)∧Vl nm∧jq d x=true∧1+nm.length+wt x+4 * s1.length≤4 * s.length:=by
 unfold zbx at h;have ht:=zka (jg s);generalize zbh ⟨jg s,false⟩=T at *;obtain⟨nm,hA⟩:=T;simp only at h ht
 have hc:(zcj (a.map (·.1)) nm hA).bad=false→nm ∉ a.map (·.1)∧hA.bad=false∧(zcj (a.map (·.1)) nm hA).s.length+1≤hA.s.length:=by
  intro hb;unfold zcj at hb ⊢;split at hb
  ·simp at hb
  rename_i hn
  rw[if_neg hn];cases he:zc2 58 hA.s with
  | none=>rw[he]at hb;simp at hb
  | some l =>
    rw[he]at hb;refine⟨by simpa using hn,hb,?_⟩;exact zk0 he
 generalize zcj (a.map (·.1)) nm hA=C at *;obtain⟨cs,cb⟩:=C;cases cb with
 | true =>
   have:=hv.2 cs;generalize val ⟨cs,true⟩=V at *;obtain⟨x,hB⟩:=V;simp only[Prod.mk.injEq]at h this;rw[h.1]at this;simp at this
 | false =>
   obtain⟨h1,h2,h3⟩:=hc rfl;have:=hv.1 cs;generalize val ⟨cs,false⟩=V at *;obtain⟨x,hB⟩:=V;simp only[Prod.mk.injEq]at h;obtain⟨rfl,rfl⟩:=h;obtain⟨h4,h5⟩:=this x s1 rfl;refine⟨nm,x,rfl,h1,ht.1,h4,?_⟩;have h6:=ht.2 h2;have h7:=qv s;simp only at h3;omega
theorem zox:∀ (f:Nat) (d:Int),10≤d+f→d≤8→zx9 (jy f d) d:=by
 intro f
 induction f with
 | zero=>intro d h1 h2;omega
 | succ f ih =>
   intro d h1 h2;refine⟨fun s j r h=>?_,zl3 _ _⟩;unfold jy at h;have hb:=qv s;simp only at h;generalize jg s=t at *;cases t with
   | nil=>simp at h
   | cons c l =>
     simp only[Bool.false_eq_true,if_false]at h
     suffices jq d j=true∧wt j+4 * r.length≤4 * (c :: l).length from ⟨this.1,by omega⟩
     clear hb
     have hA:∀ (p:Bs) (n k:Int),1≤p.length→(J.mk k n [] [] [],zak p ⟨c :: l,false⟩)=(j,(⟨r,false⟩:St))→(jq d (.mk k n [] [] [])=true)→jq d j=true∧wt j+4 * r.length≤4 * (c :: l).length:=by
      intro p n k hp h' hs;simp only[Prod.mk.injEq]at h';obtain⟨rfl,h'⟩:=h';refine⟨hs,?_⟩;have:=zrj h';simp only[wt,wtl,wtp,List.length_nil];omega
     unfold zh2 at h;split at h
     ·exact hA zmc 0 0 (by decide) h (by simp[jq])
     split at h
     ·exact hA zmb 1 1 (by decide) h (by simp[jq])
     split at h
     ·exact hA zhd 0 1 (by decide) h (by simp[jq])
     split at h
     ·obtain⟨h3,h4⟩:=zka (c :: l);generalize zbh ⟨c :: l,false⟩=T at *;obtain⟨t,st⟩:=T;simp only[Prod.mk.injEq]at h;obtain⟨rfl,rfl⟩:=h;refine⟨by simp[jq,(zgo t).2 h3],?_⟩;have:=h4 rfl;simp only[wt,wtl,wtp]at this ⊢;omega
     split at h
     ·generalize hE:za7 (zcs (jy f (d+1))) 91 93 (d+1) ⟨c :: l,false⟩ []=E at h;obtain⟨st,a⟩:=E;simp only[Prod.mk.injEq]at h;obtain⟨rfl,rfl⟩:=h
      have hB:=fun hg=>zgx (one:=zcs (jy f (d+1))) (shut:=93) (Q:=fun a m=>(∀ x∈a,jq (d+1) x=true)∧wtl a+4 * m+4≤4 * (c :: l).length)
       (fun a m n hq hn=>⟨hq.1,by omega⟩) hg hE
      have hd:d+1≤8:=by
       have:=zgx (one:=zcs (jy f (d+1))) (shut:=93) (Q:=fun _ _=>True) (fun _ _ _ _ _=>trivial) (fun _ _ _ _ _ _=>trivial) hE;exact this.1
      obtain ⟨-,hB,hl⟩:=hB (by
       intro s a s1 a1 hq ho;unfold zcs at ho;have hv:=(ih (d+1) (by omega) hd).1 s;generalize jy f (d+1) ⟨s,false⟩=V at *;obtain⟨x,st2⟩:=V;simp only[Prod.mk.injEq]at ho;obtain⟨rfl,rfl⟩:=ho;obtain⟨h4,h5⟩:=hv x s1 rfl;refine⟨?_,?_⟩
       ·intro y hy;rcases List.mem_append.1 hy with hy | hy
        ·exact hq.1 y hy
        rw[List.mem_singleton.1 hy];exact h4
       rw[zoq];simp only[wtl];have:=hq.2
       omega)
      obtain⟨k1,k2⟩:=hB ⟨fun x hx=>by simp at hx,by simp only[wtl,List.length_cons];omega⟩;refine⟨?_,?_⟩
      ·unfold jq;simp only[show ¬ (8≤d) by omega];simp[(zmi (d+1) a).2 k1]
      simp only[wt,wtp,List.length_nil];omega
     split at h
     ·generalize hE:za7 (zbx (jy f (d+1))) 123 125 (d+1) ⟨c :: l,false⟩ []=E at h;obtain⟨st,a⟩:=E;simp only[Prod.mk.injEq]at h;obtain⟨rfl,rfl⟩:=h
      have hd:d+1≤8:=by
       have:=zgx (one:=zbx (jy f (d+1))) (shut:=125) (Q:=fun _ _=>True) (fun _ _ _ _ _=>trivial) (fun _ _ _ _ _ _=>trivial) hE;exact this.1
      obtain ⟨-,hB,hl⟩:=zgx (one:=zbx (jy f (d+1))) (shut:=125) (Q:=fun a m=>((∀ q∈a,Vl q.1∧jq (d+1) q.2=true)∧(a.map (fun q:Bs × J=>q.1)).Nodup)∧wtp a+4 * m+4≤4 * (c :: l).length)
       (fun a m n hq hn=>⟨hq.1,by omega⟩) (by
       intro s a s1 a1 hq ho;obtain⟨nm,x,rfl,h3,h4,h5,h6⟩:=zq8 (ih (d+1) (by omega) hd) ho;refine⟨⟨?_,?_⟩,?_⟩
       ·intro y hy;rcases List.mem_append.1 hy with hy | hy
        ·exact hq.1.1 y hy
        rw[List.mem_singleton.1 hy];exact⟨h4,h5⟩
       ·rw[List.map_append,List.nodup_append];refine⟨hq.1.2,by simp,?_⟩;intro y hy z hz e;simp at hz;subst hz;subst e;exact h3 hy
       rw[zop];simp only[wtp];have:=hq.2
       omega) hE
      obtain⟨⟨k1,hC⟩,k2⟩:=hB ⟨⟨fun x hx=>by simp at hx,by simp⟩,by simp only[wtp,List.length_cons];omega⟩;refine⟨?_,?_⟩
      ·unfold jq;simp only[show ¬ (8≤d) by omega];simp[(zmj (d+1) a []).2 ⟨k1,hC,by simp⟩]
      simp only[wt,wtl,List.length_nil];omega
     obtain⟨⟨n,rfl,h3,h4⟩,h5⟩:=zts (by simp) h;refine⟨by simp[jq,h3,h4],?_⟩;simp only[wt,wtl,wtp,List.length_nil];omega
theorem zpm {s:Bs}{j:J}(h:zhc s=some j):jq 0 j=true∧wt j≤4 * s.length:=by
 unfold zhc at h;have hv:=(zox 10 0 (by omega) (by omega)).1 s;generalize jy 10 0 ⟨s,false⟩=V at *;obtain⟨v,⟨r,b⟩⟩:=V;simp only at h;split at h
 ·simp at h
 rename_i hb
 simp only[not_or,Bool.not_eq_true]at hb;obtain⟨rfl,-⟩:=hb;obtain rfl:=Option.some.inj h;obtain⟨h1,h2⟩:=hv v r rfl;exact⟨h1,by omega⟩
mutual
theorem zjp {N:Nat}:∀ (j:J),zu4 j=true→wt j≤N→fits N j=true
 | .mk k n t l p,hi,hw=>by
   unfold zu4 at hi;simp only[Bool.and_eq_true,decide_eq_true_eq]at hi;obtain⟨⟨h1,h2⟩,h3,h4⟩:=hi;unfold wt at hw;obtain⟨hl,hl'⟩:=zn7 (N:=N) l h3 (by omega);obtain⟨hp,hp'⟩:=zn6 (N:=N) p h4 (by omega);unfold fits;simp[h1,h2,hl,hp];omega
theorem zn7 {N:Nat}:∀ (l:List J),ze5 l=true→wtl l≤N→fitsl N l=true∧l.length≤wtl l
 | [],_,_=>by simp[fitsl]
 | j :: js,hi,hw=>by
   unfold ze5 at hi;rw[Bool.and_eq_true]at hi;unfold wtl at hw ⊢;have h1:=zjp (N:=N) j hi.1 (by omega);have h2:=zn7 (N:=N) js hi.2 (by omega);have:=zwl j;unfold fitsl;simp[h1,h2.1];omega
theorem zn6 {N:Nat}:∀ (l:List (Bs × J)),ze4 l=true→wtp l≤N→fitsp N l=true∧l.length≤wtp l
 | [],_,_=>by simp[fitsp]
 | (nm,j) :: js,hi,hw=>by
   unfold ze4 at hi;rw[Bool.and_eq_true]at hi;unfold wtp at hw ⊢;have h1:=zjp (N:=N) j hi.1 (by omega);have h2:=zn6 (N:=N) js hi.2 (by omega);unfold fitsp;simp[h1,h2.1];omega
end
mutual
theorem zfl:∀ (j:J) (d:Int),jq d j=true→zu4 j=true
 | .mk k n t l p,d,h=>by
   unfold jq at h;unfold zu4;split at h
   ·simp at h;obtain⟨rfl,rfl,rfl,rfl⟩:=h;simp[ze5,ze4]
   split at h
   ·simp at h;obtain⟨h0,rfl,rfl,rfl⟩:=h;simp[ze5,ze4];omega
   split at h
   ·simp at h;obtain⟨h0,h1,rfl,rfl,rfl⟩:=h;simp[ze5,ze4];omega
   split at h
   ·simp at h;obtain⟨rfl,h1,rfl,rfl⟩:=h;simp[ze5,ze4]
   split at h
   ·simp at h
   rename_i h0
   have h0:n=0:=by omega
   subst h0;split at h
   ·simp at h;obtain⟨h1,rfl⟩:=h;simp[ze4,zg8 l _ h1]
   split at h
   ·simp at h;obtain⟨h1,rfl⟩:=h;simp[ze5,zg9 p _ _ h1]
   simp at h
theorem zg8:∀ (l:List J) (d:Int),zag d l=true→ze5 l=true
 | [],_,_=>by simp[ze5]
 | j :: js,d,h=>by
   unfold zag at h;rw[Bool.and_eq_true]at h;simp[ze5,zfl j d h.1,zg8 js d h.2]
theorem zg9:∀ (l:List (Bs × J)) (d:Int) (ns:List Bs),qp d ns l=true→ze4 l=true
 | [],_,_,_=>by simp[ze4]
 | (nm,j) :: js,d,ns,h=>by
   unfold qp at h;simp only[Bool.and_eq_true]at h;simp[ze4,zfl j d h.2.2.1,zg9 js d _ h.2.2.2]
end
end Go.Proofs.YtmgfncjfgkllcaaGreatDoor
