/-
 What is parsed is sound,and not much longer than its text: plain laws.
-/
import Derived.Test.YtmgfncjfgkllcaaGreatDoorKUtf
import Derived.Test.YtmgfncjfgkllcaaGreatDoorKSpecSound
import Derived.Test.YtmgfncjfgkllcaaGreatDoorKFits
namespace Go.Proofs.YtmgfncjfgkllcaaGreatDoor
set_option linter.unusedVariables false
set_option linter.unusedSimpArgs false
set_option linter.unusedSectionVars false

theorem zmq (d:Int):∀ (p:List (Bs × J)) (names:List Bs),qp d names p=true↔(∀ q∈p,Vl q.1∧jr d q.2=true)∧(p.map (·.1)).Nodup∧∀ q∈p,q.1 ∉ names:=by
 intro p
 induction p with
 | nil=>intro names;simp[qp]
 | cons q p ih =>
   obtain⟨nm,j⟩:=q;intro names;unfold qp;simp only[Bool.and_eq_true,Bool.not_eq_true',ih,zgs,List.map_cons,List.nodup_cons,List.mem_cons,forall_eq_or_imp,List.mem_append,List.mem_singleton,not_or,List.mem_map,not_exists,not_and];constructor
   ·rintro⟨h1,h2,h3,h4,h5,h6⟩;refine⟨⟨⟨h2,h3⟩,h4⟩,⟨fun x hx e=>(h6 x hx).2.1 e,h5⟩,by simpa using h1,fun x hx=>(h6 x hx).1⟩
   rintro⟨⟨⟨h2,h3⟩,h4⟩,⟨h7,h5⟩,h1,h6⟩;exact⟨by simpa using h1,h2,h3,h4,h5,fun x hx=>⟨h6 x hx,h7 x hx,by simp⟩⟩
theorem zmp (d:Int):∀ (l:List J),zae d l=true ↔ ∀ j∈l,jr d j=true:=by
 intro l
 induction l with
 | nil=>simp[zae]
 | cons j l ih=>unfold zae;simp[ih]
/-! ### what is parsed is sound, and not much longer than its text -/
mutual
def wt:J→Nat
 | .mk _ _ t l p=>1+t.length+wtl l+wtp p
def wtl:List J→Nat
 | []=>0
 | j :: js=>wt j+wtl js
def wtp:List (Bs × J)→Nat
 | []=>0
 | (nm,j) :: ps=>1+nm.length+wt j+wtp ps
end
theorem zou (a b:List J):wtl (a++b)=wtl a+wtl b:=by
 induction a with
 | nil=>simp[wtl]
 | cons x a ih=>simp[wtl,ih];omega
theorem zot (a b:List (Bs × J)):wtp (a++b)=wtp a+wtp b:=by
 induction a with
 | nil=>simp[wtp]
 | cons x a ih=>obtain⟨nm,j⟩:=x;simp[wtp,ih];omega
theorem zwv (j:J):1≤wt j:=by cases j;unfold wt;omega
theorem zqv (out:Bs) (st:St) {o:Option Bs} {r:Bs} {st':St} (h:qg out st=(o,r,st')) :
 (Vl out→Vl r)∧(∀ x,o=some x→x=out∧st'.s.length+1≤st.s.length)∧r.length+4 * st'.s.length≤out.length+4 * st.s.length:=by
 obtain⟨h1,h2,h3,h4⟩:=zh0 st.s;unfold qg at h;simp only at h;have hd:(st.s.drop (Lib.decodeGo ⟨st.s.toArray⟩).2).length=st.s.length - (Lib.decodeGo ⟨st.s.toArray⟩).2:=List.length_drop;split at h
 ·simp only[Prod.mk.injEq]at h;obtain⟨rfl,rfl,rfl⟩:=h;refine⟨id,by simp,?_⟩;simp only[hd];omega
 rename_i h5
 have hs:1≤(Lib.decodeGo ⟨st.s.toArray⟩).2:=by omega
 split at h
 ·simp only[Prod.mk.injEq]at h;obtain⟨rfl,rfl,rfl⟩:=h;refine⟨id,?_,?_⟩
  ·rintro x hx;simp only[Option.some.injEq]at hx;refine⟨hx.symm,?_⟩;simp only[hd];omega
  simp only[hd];omega
 split at h
 ·simp only[Prod.mk.injEq]at h;obtain⟨rfl,rfl,rfl⟩:=h;refine⟨fun hv=>hv.append (Vl.rune _),by simp,?_⟩;have he:=zfv ⟨st.s.drop (Lib.decodeGo ⟨st.s.toArray⟩).2,st.bad⟩;have hr:=zb7 (qh ⟨st.s.drop (Lib.decodeGo ⟨st.s.toArray⟩).2,st.bad⟩).1;rw[List.length_append];simp only[hd]at he;omega
 simp only[Prod.mk.injEq]at h;obtain⟨rfl,rfl,rfl⟩:=h;refine⟨fun hv=>hv.append (Vl.rune _),by simp,?_⟩;have hr:=zb7 (Lib.decodeGo ⟨st.s.toArray⟩).1;rw[List.length_append];simp only[hd];omega
theorem zo9:∀ (k:Nat) (out:Bs) (st:St),(Vl out→Vl (j3 k out st).1)∧(j3 k out st).1.length+4 * (j3 k out st).2.s.length≤out.length+4 * st.s.length:=by
 intro k
 induction k with
 | zero=>intro out st;refine⟨fun _=>?_,?_⟩<;>simp[j3,Vl.nil]
 | succ k ih =>
   intro out st;unfold j3;split
   ·refine⟨fun _=>Vl.nil,?_⟩;simp
   have hg:=@zqv out st;generalize hG:qg out st=G at *;obtain⟨o,r,hA⟩:=G;obtain⟨g1,g2,g3⟩:=hg rfl;cases o with
   | none =>
     simp only;obtain⟨i1,i2⟩:=ih r hA;exact⟨fun hv=>i1 (g1 hv),by omega⟩
   | some x =>
     simp only;obtain⟨rfl,g4⟩:=g2 x rfl;exact⟨id,by omega⟩
theorem zkg (s:Bs):Vl (zbj ⟨s,false⟩).1∧((zbj ⟨s,false⟩).2.bad=false→(zbj ⟨s,false⟩).1.length+4 * (zbj ⟨s,false⟩).2.s.length+4≤4 * s.length):=by
 unfold zbj;obtain⟨h1,h2⟩:=zo9 ((⟨s,false⟩:St).s.length+2) [] (zaj [34] ⟨s,false⟩);refine⟨h1 .nil,fun hb=>?_⟩;by_cases hp:Lib.hasPrefix s [34]=true
 ·have:zaj [34] ⟨s,false⟩=⟨Lib.trimPrefix s [34],false⟩:=by unfold zaj;rw[if_pos hp]
  rw[this]at h2
  have:(Lib.trimPrefix s [34]).length+1≤s.length:=by
   cases s with
   | nil=>simp[Lib.hasPrefix]at hp
   | cons x l=>unfold Lib.trimPrefix;rw[if_pos hp];simp
  simp only[List.length_nil]at h2;rw[show zaj [34] ⟨s,false⟩=⟨Lib.trimPrefix s [34],false⟩ by assumption];simp only at h2 ⊢;omega
 have:zaj [34] ⟨s,false⟩=⟨s,true⟩:=by unfold zaj;rw[if_neg hp]
 rw[this]at hb;simp[j3]at hb
theorem zt3 {s:Bs} (hs:s≠[]) {j:J} {r:Bs} (h:za8 ⟨s,false⟩=(j,⟨r,false⟩)) :
 (∃ n,j = .mk 2 n [] [] [] ∧ -9007199254740991≤n∧n≤9007199254740991)∧r.length+1≤s.length:=by
 have hA:∀ (m:Bool) (s:Bs) (j:J) (r:Bs),zcm m false s=(j,⟨r,false⟩)→(∃ n,j = .mk 2 n [] [] [] ∧ -9007199254740991≤n∧n≤9007199254740991)∧r.length+1≤s.length:=by
  intro m s j r h;unfold zcm at h;cases s with
  | nil=>simp at h
  | cons y t =>
    simp only at h;split at h
    ·rename_i hy
     have hd:(qk 0 0 (y :: t)).2.2.length≤t.length:=by
      rw[qk,if_pos hy];exact zk7 _ _ _
     generalize qk 0 0 (y :: t)=G at *;obtain⟨n,k,s2⟩:=G;simp only[Prod.mk.injEq,St.mk.injEq,Bool.false_or,Bool.or_eq_false_iff,decide_eq_false_iff_not]at h;obtain⟨rfl,rfl,h1,-⟩:=h;refine⟨⟨_,rfl,?_,?_⟩,by simpa using hd⟩<;>(split<;>omega)
    simp at h
 unfold za8 at h;cases s with
 | nil=>exact absurd rfl hs
 | cons x l =>
   simp only at h;split at h
   ·obtain⟨h1,h2⟩:=hA _ _ _ _ h;exact⟨h1,by simp;omega⟩
   exact hA _ _ _ _ h
section
variable {α:Type} {one:St→α→St × α} {shut:UInt8}
theorem zjo (k:Nat)(s:Bs)(a:α):(zb9 one shut k ⟨s,true⟩ a).1.bad=true:=by
 cases k<;>simp[zb9]
theorem zk5 {c:UInt8} {s l:Bs} (h:zc4 c s=some l):l.length+1≤s.length:=by
 unfold zc4 at h;have hb:=qv s;generalize jg s=t at *;cases t with
 | nil=>simp at h
 | cons x m =>
   simp only at h;split at h
   ·simp only[Option.some.injEq]at h;subst h;simpa using hb
   simp at h
theorem zua (Q:α→Nat→Prop) (hmono:∀ a m n,Q a m→n≤m→Q a n) (hone:∀ s a s1 a1,Q a s.length→one ⟨s,false⟩ a=(⟨s1,false⟩,a1)→Q a1 s1.length) :
 ∀ (k:Nat) (s:Bs) (a:α) (r:Bs) (a':α),Q a s.length→zb9 one shut k ⟨s,false⟩ a=(⟨r,false⟩,a')→Q a' r.length:=by
 intro k
 induction k with
 | zero =>
   intro s a r a' hq h;simp only[zb9,Prod.mk.injEq,St.mk.injEq,and_true]at h;obtain⟨rfl,rfl⟩:=h;exact hq
 | succ k ih =>
   intro s a r a' hq h;rw[zb9]at h;simp only[Bool.false_eq_true,if_false]at h;have h1:=hone s a;generalize one ⟨s,false⟩ a=G at *;obtain⟨⟨s1,b1⟩,a1⟩:=G;simp only at h;cases b1 with
   | true=>simp at h
   | false =>
     have hA:=h1 s1 a1 hq rfl;simp only[Bool.false_eq_true,if_false]at h;cases he:zc4 shut s1 with
     | some l =>
       rw[he]at h;simp only[Prod.mk.injEq,St.mk.injEq,and_true]at h;obtain⟨rfl,rfl⟩:=h;exact hmono _ _ _ hA (by have:=zk5 he;omega)
     | none =>
       rw[he]at h;simp only at h;cases hc:zc4 44 (jg s1) with
       | some l =>
         rw[hc]at h;refine ih l a1 r a' (hmono _ _ _ hA ?_) h;have:=zk5 hc;have:=qv s1;omega
       | none =>
         rw[hc]at h;simp only at h;have:=zjo (one:=one) (shut:=shut) k (jg (jg s1)) a1;rw[h]at this;simp at this
theorem zg1 (Q:α→Nat→Prop) (hmono:∀ a m n,Q a m→n≤m→Q a n) (hone:∀ s a s1 a1,Q a s.length→one ⟨s,false⟩ a=(⟨s1,false⟩,a1)→Q a1 s1.length)
 {op:UInt8} {d:Int} {s:Bs} {a:α} {r:Bs} {a':α} (h:za9 one op shut d ⟨s,false⟩ a=(⟨r,false⟩,a')):d≤8∧(Q a (s.length - 1)→Q a' r.length)∧1≤s.length:=by
 unfold za9 at h;cases he:zc4 op s with
 | none =>
   have ho:zbv op d ⟨s,false⟩=⟨jg s,true⟩:=by unfold zbv;rw[he]
   rw[ho]at h;simp only at h;split at h
   ·simp at h
   have:=zjo (one:=one) (shut:=shut) ((jg s).length+2) (jg (jg s)) a;rw[h]at this;simp at this
 | some l =>
   have ho:zbv op d ⟨s,false⟩=⟨l,decide (8<d)⟩:=by unfold zbv;rw[he];simp
   rw[ho]at h;have hl:=zk5 he;simp only at h;by_cases hd:8<d
   ·rw[decide_eq_true hd]at h;split at h
    ·simp at h
    have:=zjo (one:=one) (shut:=shut) (l.length+2) (jg l) a;rw[h]at this;simp at this
   rw[decide_eq_false hd]at h;refine⟨by omega,fun hq=>?_,by omega⟩;have hq:Q a l.length:=hmono _ _ _ hq (by omega);cases hs:zc4 shut l with
   | some m =>
     rw[hs]at h;simp only[Prod.mk.injEq,St.mk.injEq,and_true]at h;obtain⟨rfl,rfl⟩:=h;exact hmono _ _ _ hq (by have:=zk5 hs;omega)
   | none =>
     rw[hs]at h;exact zua Q hmono hone _ _ _ _ _ (hmono _ _ _ hq (qv l)) h
end
theorem zrs {p:Bs} {s r:Bs} (h:zaj p ⟨s,false⟩=⟨r,false⟩):r.length+p.length≤s.length:=by
 unfold zaj at h;split at h
 ·rename_i hp
  simp only[St.mk.injEq,and_true]at h;subst h;unfold Lib.trimPrefix;rw[if_pos hp]
  have:p.length≤s.length:=by
   rw[Lib.hasPrefix]at hp;exact(List.isPrefixOf_iff_prefix.1 hp).length_le
  simp;omega
 simp at h
def zyk (val:St→J × St) (d:Int):Prop:=(∀ s j r,val ⟨s,false⟩=(j,⟨r,false⟩)→jr d j=true∧wt j+4 * r.length≤4 * s.length)∧∀ s,(val ⟨s,true⟩).2.bad=true
theorem zma (f:Nat)(d:Int)(s:Bs):(jz f d ⟨s,true⟩).2.bad=true:=by
 cases f with
 | zero=>rfl
 | succ f=>unfold jz;split<;>simp
theorem zrh {val:St→J × St} {d:Int} (hv:zyk val d) {s:Bs} {a:List (Bs × J)} {s1:Bs} {a1:List (Bs × J)} (h:zb2 val ⟨s,false⟩ a=(⟨s1,false⟩,a1)) :
 ∃ nm x,a1=a++[(nm,x)]∧nm ∉ a.map (·.1)∧Vl nm∧jr d x=true∧1+nm.length+wt x+4 * s1.length≤4 * s.length:=by
 unfold zb2 at h;have ht:=zkg (jg s);generalize zbj ⟨jg s,false⟩=T at *;obtain⟨nm,hA⟩:=T;simp only at h ht
 have hc:(zcn (a.map (·.1)) nm hA).bad=false→nm ∉ a.map (·.1)∧hA.bad=false∧(zcn (a.map (·.1)) nm hA).s.length+1≤hA.s.length:=by
  intro hb;unfold zcn at hb ⊢;split at hb
  ·simp at hb
  rename_i hn
  rw[if_neg hn];cases he:zc4 58 hA.s with
  | none=>rw[he]at hb;simp at hb
  | some l =>
    rw[he]at hb;refine⟨by simpa using hn,hb,?_⟩;exact zk5 he
 generalize zcn (a.map (·.1)) nm hA=C at *;obtain⟨cs,cb⟩:=C;cases cb with
 | true =>
   have:=hv.2 cs;generalize val ⟨cs,true⟩=V at *;obtain⟨x,hB⟩:=V;simp only[Prod.mk.injEq]at h this;rw[h.1]at this;simp at this
 | false =>
   obtain⟨h1,h2,h3⟩:=hc rfl;have:=hv.1 cs;generalize val ⟨cs,false⟩=V at *;obtain⟨x,hB⟩:=V;simp only[Prod.mk.injEq]at h;obtain⟨rfl,rfl⟩:=h;obtain⟨h4,h5⟩:=this x s1 rfl;refine⟨nm,x,rfl,h1,ht.1,h4,?_⟩;have h6:=ht.2 h2;have h7:=qv s;simp only at h3;omega
theorem zo1:∀ (f:Nat) (d:Int),10≤d+f→d≤8→zyk (jz f d) d:=by
 intro f
 induction f with
 | zero=>intro d h1 h2;omega
 | succ f ih =>
   intro d h1 h2;refine⟨fun s j r h=>?_,zma _ _⟩;unfold jz at h;have hb:=qv s;simp only at h;generalize jg s=t at *;cases t with
   | nil=>simp at h
   | cons c l =>
     simp only[Bool.false_eq_true,if_false]at h
     suffices jr d j=true∧wt j+4 * r.length≤4 * (c :: l).length from ⟨this.1,by omega⟩
     clear hb
     have hA:∀ (p:Bs) (n k:Int),1≤p.length→(J.mk k n [] [] [],zaj p ⟨c :: l,false⟩)=(j,(⟨r,false⟩:St))→(jr d (.mk k n [] [] [])=true)→jr d j=true∧wt j+4 * r.length≤4 * (c :: l).length:=by
      intro p n k hp h' hs;simp only[Prod.mk.injEq]at h';obtain⟨rfl,h'⟩:=h';refine⟨hs,?_⟩;have:=zrs h';simp only[wt,wtl,wtp,List.length_nil];omega
     unfold zia at h;split at h
     ·exact hA zmj 0 0 (by decide) h (by simp[jr])
     split at h
     ·exact hA zmi 1 1 (by decide) h (by simp[jr])
     split at h
     ·exact hA zhh 0 1 (by decide) h (by simp[jr])
     split at h
     ·obtain⟨h3,h4⟩:=zkg (c :: l);generalize zbj ⟨c :: l,false⟩=T at *;obtain⟨t,st⟩:=T;simp only[Prod.mk.injEq]at h;obtain⟨rfl,rfl⟩:=h;refine⟨by simp[jr,(zgs t).2 h3],?_⟩;have:=h4 rfl;simp only[wt,wtl,wtp]at this ⊢;omega
     split at h
     ·generalize hE:za9 (zcv (jz f (d+1))) 91 93 (d+1) ⟨c :: l,false⟩ []=E at h;obtain⟨st,a⟩:=E;simp only[Prod.mk.injEq]at h;obtain⟨rfl,rfl⟩:=h
      have hB:=fun hg=>zg1 (one:=zcv (jz f (d+1))) (shut:=93) (Q:=fun a m=>(∀ x∈a,jr (d+1) x=true)∧wtl a+4 * m+4≤4 * (c :: l).length)
       (fun a m n hq hn=>⟨hq.1,by omega⟩) hg hE
      have hd:d+1≤8:=by
       have:=zg1 (one:=zcv (jz f (d+1))) (shut:=93) (Q:=fun _ _=>True) (fun _ _ _ _ _=>trivial) (fun _ _ _ _ _ _=>trivial) hE;exact this.1
      obtain ⟨-,hB,hl⟩:=hB (by
       intro s a s1 a1 hq ho;unfold zcv at ho;have hv:=(ih (d+1) (by omega) hd).1 s;generalize jz f (d+1) ⟨s,false⟩=V at *;obtain⟨x,st2⟩:=V;simp only[Prod.mk.injEq]at ho;obtain⟨rfl,rfl⟩:=ho;obtain⟨h4,h5⟩:=hv x s1 rfl;refine⟨?_,?_⟩
       ·intro y hy;rcases List.mem_append.1 hy with hy | hy
        ·exact hq.1 y hy
        rw[List.mem_singleton.1 hy];exact h4
       rw[zou];simp only[wtl];have:=hq.2
       omega)
      obtain⟨k1,k2⟩:=hB ⟨fun x hx=>by simp at hx,by simp only[wtl,List.length_cons];omega⟩;refine⟨?_,?_⟩
      ·unfold jr;simp only[show ¬ (8≤d) by omega];simp[(zmp (d+1) a).2 k1]
      simp only[wt,wtp,List.length_nil];omega
     split at h
     ·generalize hE:za9 (zb2 (jz f (d+1))) 123 125 (d+1) ⟨c :: l,false⟩ []=E at h;obtain⟨st,a⟩:=E;simp only[Prod.mk.injEq]at h;obtain⟨rfl,rfl⟩:=h
      have hd:d+1≤8:=by
       have:=zg1 (one:=zb2 (jz f (d+1))) (shut:=125) (Q:=fun _ _=>True) (fun _ _ _ _ _=>trivial) (fun _ _ _ _ _ _=>trivial) hE;exact this.1
      obtain ⟨-,hB,hl⟩:=zg1 (one:=zb2 (jz f (d+1))) (shut:=125) (Q:=fun a m=>((∀ q∈a,Vl q.1∧jr (d+1) q.2=true)∧(a.map (fun q:Bs × J=>q.1)).Nodup)∧wtp a+4 * m+4≤4 * (c :: l).length)
       (fun a m n hq hn=>⟨hq.1,by omega⟩) (by
       intro s a s1 a1 hq ho;obtain⟨nm,x,rfl,h3,h4,h5,h6⟩:=zrh (ih (d+1) (by omega) hd) ho;refine⟨⟨?_,?_⟩,?_⟩
       ·intro y hy;rcases List.mem_append.1 hy with hy | hy
        ·exact hq.1.1 y hy
        rw[List.mem_singleton.1 hy];exact⟨h4,h5⟩
       ·rw[List.map_append,List.nodup_append];refine⟨hq.1.2,by simp,?_⟩;intro y hy z hz e;simp at hz;subst hz;subst e;exact h3 hy
       rw[zot];simp only[wtp];have:=hq.2
       omega) hE
      obtain⟨⟨k1,hC⟩,k2⟩:=hB ⟨⟨fun x hx=>by simp at hx,by simp⟩,by simp only[wtp,List.length_cons];omega⟩;refine⟨?_,?_⟩
      ·unfold jr;simp only[show ¬ (8≤d) by omega];simp[(zmq (d+1) a []).2 ⟨k1,hC,by simp⟩]
      simp only[wt,wtl,List.length_nil];omega
     obtain⟨⟨n,rfl,h3,h4⟩,h5⟩:=zt3 (by simp) h;refine⟨by simp[jr,h3,h4],?_⟩;simp only[wt,wtl,wtp,List.length_nil];omega
theorem zps {s:Bs}{j:J}(h:zhg s=some j):jr 0 j=true∧wt j≤4 * s.length:=by
 unfold zhg at h;have hv:=(zo1 10 0 (by omega) (by omega)).1 s;generalize jz 10 0 ⟨s,false⟩=V at *;obtain⟨v,⟨r,b⟩⟩:=V;simp only at h;split at h
 ·simp at h
 rename_i hb
 simp only[not_or,Bool.not_eq_true]at hb;obtain⟨rfl,-⟩:=hb;obtain rfl:=Option.some.inj h;obtain⟨h1,h2⟩:=hv v r rfl;exact⟨h1,by omega⟩
mutual
theorem zjv {N:Nat}:∀ (j:J),zvf j=true→wt j≤N→fits N j=true
 | .mk k n t l p,hi,hw=>by
   unfold zvf at hi;simp only[Bool.and_eq_true,decide_eq_true_eq]at hi;obtain⟨⟨h1,h2⟩,h3,h4⟩:=hi;unfold wt at hw;obtain⟨hl,hl'⟩:=zob (N:=N) l h3 (by omega);obtain⟨hp,hp'⟩:=zoa (N:=N) p h4 (by omega);unfold fits;simp[h1,h2,hl,hp];omega
theorem zob {N:Nat}:∀ (l:List J),ze7 l=true→wtl l≤N→fitsl N l=true∧l.length≤wtl l
 | [],_,_=>by simp[fitsl]
 | j :: js,hi,hw=>by
   unfold ze7 at hi;rw[Bool.and_eq_true]at hi;unfold wtl at hw ⊢;have h1:=zjv (N:=N) j hi.1 (by omega);have h2:=zob (N:=N) js hi.2 (by omega);have:=zwv j;unfold fitsl;simp[h1,h2.1];omega
theorem zoa {N:Nat}:∀ (l:List (Bs × J)),ze6 l=true→wtp l≤N→fitsp N l=true∧l.length≤wtp l
 | [],_,_=>by simp[fitsp]
 | (nm,j) :: js,hi,hw=>by
   unfold ze6 at hi;rw[Bool.and_eq_true]at hi;unfold wtp at hw ⊢;have h1:=zjv (N:=N) j hi.1 (by omega);have h2:=zoa (N:=N) js hi.2 (by omega);unfold fitsp;simp[h1,h2.1];omega
end
mutual
theorem zfo:∀ (j:J) (d:Int),jr d j=true→zvf j=true
 | .mk k n t l p,d,h=>by
   unfold jr at h;unfold zvf;split at h
   ·simp at h;obtain⟨rfl,rfl,rfl,rfl⟩:=h;simp[ze7,ze6]
   split at h
   ·simp at h;obtain⟨h0,rfl,rfl,rfl⟩:=h;simp[ze7,ze6];omega
   split at h
   ·simp at h;obtain⟨h0,h1,rfl,rfl,rfl⟩:=h;simp[ze7,ze6];omega
   split at h
   ·simp at h;obtain⟨rfl,h1,rfl,rfl⟩:=h;simp[ze7,ze6]
   split at h
   ·simp at h
   rename_i h0
   have h0:n=0:=by omega
   subst h0;split at h
   ·simp at h;obtain⟨h1,rfl⟩:=h;simp[ze6,zhc l _ h1]
   split at h
   ·simp at h;obtain⟨h1,rfl⟩:=h;simp[ze7,zhd p _ _ h1]
   simp at h
theorem zhc:∀ (l:List J) (d:Int),zae d l=true→ze7 l=true
 | [],_,_=>by simp[ze7]
 | j :: js,d,h=>by
   unfold zae at h;rw[Bool.and_eq_true]at h;simp[ze7,zfo j d h.1,zhc js d h.2]
theorem zhd:∀ (l:List (Bs × J)) (d:Int) (ns:List Bs),qp d ns l=true→ze6 l=true
 | [],_,_,_=>by simp[ze6]
 | (nm,j) :: js,d,ns,h=>by
   unfold qp at h;simp only[Bool.and_eq_true]at h;simp[ze6,zfo j d h.2.2.1,zhd js d _ h.2.2.2]
end
end Go.Proofs.YtmgfncjfgkllcaaGreatDoor
