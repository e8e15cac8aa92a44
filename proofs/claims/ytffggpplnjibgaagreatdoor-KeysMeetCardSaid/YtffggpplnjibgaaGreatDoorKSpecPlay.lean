/-
 What a table says of places that are past (BindPast),as plain data.
-/
import Derived.Test.YtffggpplnjibgaaGreatDoorKSpecBind
namespace Go.Proofs.YtffggpplnjibgaaGreatDoor
set_option linter.unusedVariables false
set_option linter.unusedSimpArgs false
set_option linter.unusedSectionVars false
section
def pAt (l:List Chg) (p:Int):Bs × Bool:=match l.reverse.find? (fun c=>decide (c.pos≤p)) with | some c=>(c.key,c.has) | none=>(jz,false)
def Tb.bound (t:Tb) (n:Bs):Bs × Bool:=((t.last n).key,(t.last n).has)
def Tb.runs (sub:Bs→Bool):Tb→Nat→List En→Tb
 | t,_,[]=>t
 | t,i,e :: r=>Tb.runs sub (t.take sub e i) (i+1) r
end
section
/-! the document's answer: a table is the bindings that came -/
abbrev Cm:=En × Int
def zii (m:List Cm) (n:Bs):Option Cm:=m.reverse.find? (fun c=>decide (c.1.ident=n))
def zet (m:List Cm) (n:Bs):Bs × Bool:=match zii m n with | some c=>if c.1.op=3 then (jz,false) else (c.1.key,true) | none=>(jz,false)
def zh0 (k:Bs) (c:Cm):Bool:=decide (c.1.op≠3)&&decide (c.1.key=k)
def zfg (m:List Cm) (k:Bs):Bool:=match m.find? (zh0 k) with | some c=>!(zet m c.1.ident).2||decide ((zet m c.1.ident).1≠k) | none=>false
def zkl (m:List Cm) (n:Bs):List Cm:=m.filter (fun c=>decide (c.1.ident=n))
def rAt (m:List Cm) (n:Bs) (p:Int):Bs × Bool:=match (zkl m n).reverse.find? (fun c=>decide (c.2≤p)) with | some c=>(c.1.key,decide (c.1.op≠3)) | none=>(jz,false)
structure Tied (t:Tb) (m:List Cm):Prop where
 hist:∀ n,t.hist n=(zkl m n).map (fun c=>zpz c.1 c.2)
 zero:∀ c∈m,c.1.op=3→c.1.key=jz
 was:∀ k,t.life k≠0 ↔ ∃ c∈m,zh0 k c=true
 spent:∀ k,t.life k=2↔zfg m k=true
 once:m.Pairwise (fun a b=>∀ k,¬ (zh0 k a=true∧zh0 k b=true))
theorem Tied.new:Tied Tb.new [] where
 hist n:=rfl
 zero c hc:=by cases hc
 was k:=⟨fun h=>absurd rfl h,fun⟨c,hc,_⟩=>by cases hc⟩
 spent k:=⟨fun h=>(by cases h),fun h=>(by cases h)⟩
 once:=List.Pairwise.nil
theorem zlm (m:List Cm)(n:Bs):zii m n=(zkl m n).reverse.head?:=by
 unfold zii zkl;rw[← List.filter_reverse,List.head?_filter]
theorem zr2 (l:List Cm):zws (l.map fun c=>zpz c.1 c.2)=match l.reverse.head? with | some c=>zpz c.1 c.2 | none=>Chg.zero:=by
 unfold zws;rw[List.head?_reverse,List.getLast?_map];cases l.getLast?<;>rfl
theorem Tied.last {t:Tb}{m:List Cm}(h:Tied t m)(n:Bs):t.last n=match zii m n with | some c=>zpz c.1 c.2 | none=>Chg.zero:=by
 unfold Tb.last;rw[h.hist,zr2,zlm]
theorem Tied.bound {t:Tb} {m:List Cm} (h:Tied t m) (n:Bs):t.bound n=zet m n:=by
 unfold Tb.bound zet;rw[h.last];cases zii m n with
 | none=>rfl
 | some c =>
   simp only[zpz];split<;>rfl
theorem zrb {m:List Cm}{n:Bs}{c:Cm}(h:zii m n=some c):c∈m∧c.1.ident=n:=by
 unfold zii at h;have h1:=List.mem_of_find?_eq_some h;have h2:=List.find?_some h;exact⟨by simpa using h1,by simpa using h2⟩
theorem zln (m:List Cm)(c:Cm)(n:Bs):zii (m++[c]) n=if c.1.ident=n then some c else zii m n:=by
 unfold zii;rw[List.reverse_append];show([c]++m.reverse).find? _=_;rw[List.singleton_append,List.find?_cons];by_cases h:c.1.ident=n
 ·simp[h]
 simp[h]
theorem zwm {m:List Cm} (h:m.Pairwise (fun a b=>∀ k,¬ (zh0 k a=true∧zh0 k b=true))):∀ {a b:Cm},a∈m→b∈m→∀ {k},zh0 k a=true→zh0 k b=true→a=b:=by
 induction h with
 | nil=>intro a b ha;cases ha
 | cons h1 h2 ih =>
   rename_i x l
   intro a b ha hb k ka kb;rcases List.mem_cons.1 ha with ea | ha'<;>rcases List.mem_cons.1 hb with eb | hb'
   ·rw[ea,eb]
   ·exact absurd ⟨ea▸ka,kb⟩ (h1 b hb' k)
   ·exact absurd ⟨eb▸kb,ka⟩ (h1 a ha' k)
   exact ih ha' hb' ka kb
theorem Tied.came {sub:Bs→Bool} {t:Tb} {m:List Cm} {e:En} (h:Tied t m) (hr:t.right) (hb:zpy sub t e=0) (hz:e.op=3→e.key=jz) (p:Int):Tied (t.came e p) (m++[(e,p)]):=by
 obtain⟨l1,l2,l3,l4⟩:=zst hb hr p;obtain⟨-,-,hD⟩:=zjv hb;have hB:∀ k,zh0 k (e,p)=true↔e.op≠3∧e.key=k:=fun k=>by simp[zh0]
 have hI:e.op≠3→∀ c∈m,zh0 e.key c=false:=fun h3 c hc=>by
  cases hh:zh0 e.key c with
  | false=>rfl
  | true=>exact absurd (hD h3) ((h.was _).2 ⟨c,hc,hh⟩)
 refine⟨fun n=>?_,fun c hc h3=>?_,fun k=>?_,fun k=>?_,?_⟩
 ·show upd t.hist e.ident _ n=_;unfold zkl;rw[List.filter_append,List.map_append];by_cases he:n=e.ident
  ·subst he;rw[zc5,h.hist];simp[zkl]
  rw[zan _ _ he,h.hist];have:¬ e.ident=n:=fun e'=>he e'.symm
  simp[zkl,this]
 ·rcases List.mem_append.1 hc with hc | hc
  ·exact h.zero c hc h3
  obtain rfl:c=(e,p):=by simpa using hc
  exact hz h3
 ·constructor
  ·intro hk;by_cases h0:t.life k=0
   ·-- it is new
    have hP:e.op≠3∧e.key=k:=by
     apply Decidable.byContradiction;intro hn;apply hk
     have h5:(if (t.last e.ident).has=true then upd t.life (t.last e.ident).key 2 else t.life) k=0:=by
      split
      ·rename_i hh
       rw[zan _ _ (fun e'=>hr _ hh (by rw[← e'];exact h0))];exact h0
      exact h0
     simp only[Tb.came];split
     ·exact h5
     rename_i h3
     rw[zan _ _ (fun e'=>hn ⟨h3,e'.symm⟩)];exact h5
    exact⟨(e,p),by simp,(hB k).2 hP⟩
   obtain⟨c,hc,hh⟩:=(h.was k).1 h0;exact⟨c,by simp[hc],hh⟩
  rintro⟨c,hc,hh⟩;rcases List.mem_append.1 hc with hc | hc
  ·exact l4 k ((h.was k).2 ⟨c,hc,hh⟩)
  obtain rfl:c=(e,p):=by simpa using hc
  obtain⟨h3,rfl⟩:=(hB k).1 hh;rw[l1 h3];decide
 ·-- spent
  have hE:∀ c,(m++[(e,p)]).find? (zh0 k)=some c↔(m.find? (zh0 k)=some c∨(m.find? (zh0 k)=none∧zh0 k (e,p)=true∧c=(e,p))):=by
   intro c;rw[List.find?_append];cases hf:m.find? (zh0 k) with
   | some d=>simp
   | none =>
     simp only[Option.none_or,List.find?_cons,List.find?_nil];cases hh:zh0 k (e,p) with
     | true=>simp[eq_comm]
     | false=>simp
  have hF:∀ n,zet (m++[(e,p)]) n=if e.ident=n then (if e.op=3 then (jz,false) else (e.key,true)) else zet m n:=by
   intro n;unfold zet;rw[zln];by_cases he:e.ident=n
   ·simp[he]
   simp[he]
  cases hf:m.find? (zh0 k) with
  | none =>
    have h0:t.life k=0:=Decidable.byContradiction fun hn=>by
     obtain⟨c,hc,hh⟩:=(h.was k).1 hn;exact(List.find?_eq_none.1 hf c hc) hh
    cases hh:zh0 k (e,p) with
    | true =>
      obtain⟨h3,rfl⟩:=(hB k).1 hh;have e1:=(hE (e,p)).2 (.inr ⟨hf,hh,rfl⟩);constructor
      ·intro h5;rw[l1 h3]at h5;cases h5
      intro h5;unfold zfg at h5;rw[e1]at h5;simp[hF,h3]at h5
    | false =>
      have e1:(m++[(e,p)]).find? (zh0 k)=none:=by
       rw[List.find?_append,hf];simp[hh]
      constructor
      ·intro h5;exfalso;have hn:¬ (e.op≠3∧e.key=k):=fun hx=>by have:=(hB k).2 hx;rw[hh]at this;cases this
       have h6:(if (t.last e.ident).has=true then upd t.life (t.last e.ident).key 2 else t.life) k=0:=by
        split
        ·rename_i hh
         rw[zan _ _ (fun e'=>hr _ hh (by rw[← e'];exact h0))];exact h0
        exact h0
       have h7:(t.came e p).life k=0:=by
        simp only[Tb.came];split
        ·exact h6
        rename_i h3
        rw[zan _ _ (fun e'=>hn ⟨h3,e'.symm⟩)];exact h6
       rw[h7]at h5;cases h5
      intro h5;unfold zfg at h5;rw[e1]at h5;cases h5
  | some c =>
    have hO:=List.mem_of_find?_eq_some hf;have hL:=List.find?_some hf;have e1:=(hE c).2 (.inl hf);have hcop:c.1.op≠3∧c.1.key=k:=by simpa[zh0] using hL
    have hK:t.life k≠0:=(h.was k).2 ⟨c,hO,hL⟩;have hN:¬ (e.op≠3∧e.key=k):=fun⟨h3,hk⟩=>hK (by rw[← hk];exact hD h3)
    have hM:zfg m k=(!(zet m c.1.ident).2||decide ((zet m c.1.ident).1≠k)):=by unfold zfg;rw[hf]
    have hG:zfg (m++[(e,p)]) k=(!(zet (m++[(e,p)]) c.1.ident).2||decide ((zet (m++[(e,p)]) c.1.ident).1≠k)):=by unfold zfg;rw[e1]
    have hC:(t.came e p).life k=(if (t.last e.ident).has=true then upd t.life (t.last e.ident).key 2 else t.life) k:=by
     simp only[Tb.came];split
     ·rfl
     rename_i h3
     rw[zan _ _ (fun e'=>hN ⟨h3,e'.symm⟩)]
    have hT:=h.bound e.ident;by_cases hJ:e.ident=c.1.ident
    ·have ht:zfg (m++[(e,p)]) k=true:=by
      rw[hG,hF,if_pos hJ];by_cases h3:e.op=3
      ·simp[h3]
      have:¬ e.key=k:=fun hk=>hN ⟨h3,hk⟩
      simp[h3,this]
     rw[ht];refine⟨fun _=>rfl,fun _=>?_⟩;rw[hC];by_cases hh:(t.last e.ident).has=true∧(t.last e.ident).key=k
     ·rw[if_pos hh.1,← hh.2,zc5]
     have h2:t.life k=2:=by
      rw[h.spent,hM,← hJ,← hT];unfold Tb.bound;cases hx:(t.last e.ident).has with
      | false=>rfl
      | true =>
        have:¬ (t.last e.ident).key=k:=fun e'=>hh ⟨hx,e'⟩
        simp[this]
     split
     ·rename_i hx
      rw[zan _ _ (fun e'=>hh ⟨hx,e'.symm⟩)];exact h2
     exact h2
    have hH:zfg (m++[(e,p)]) k=zfg m k:=by rw[hG,hF,if_neg hJ,hM]
    rw[hH,← h.spent,hC];split
    ·rename_i hx
     rw[zan _ _ (fun e'=>?_)]
     -- the old key is another one
     have hl:=h.last e.ident;cases hq:zii m e.ident with
     | none =>
       rw[hq]at hl;rw[hl]at hx;cases hx
     | some d =>
       rw[hq]at hl;obtain⟨hQ,hS⟩:=zrb hq;simp only at hl;by_cases h3:d.1.op=3
       ·rw[hl,zpz,if_pos h3]at hx;cases hx
       rw[hl,zpz,if_neg h3]at e'
       have hR:zh0 k d=true:=by
        have e5:d.1.key=k:=e'.symm;simp[zh0,h3,e5]
       obtain rfl:=zwm h.once hQ hO hR hL;exact hJ hS.symm
    rfl
 rw[List.pairwise_append];refine⟨h.once,List.pairwise_singleton _ _,fun a ha b hU k=>?_⟩;obtain rfl:b=(e,p):=by simpa using hU
 rintro⟨h5,h6⟩;obtain⟨h3,rfl⟩:=(hB k).1 h6;rw[hI h3 a ha]at h5;cases h5
theorem zl1 {l:List Cm} {p:Int}:(l.map fun c=>zpz c.1 c.2).reverse.find? (fun c=>decide (c.pos≤p))=(l.reverse.find? (fun c=>decide (c.2≤p))).map (fun c=>zpz c.1 c.2):=by
 rw[← List.map_reverse,List.find?_map]
 have:((fun c:Chg=>decide (c.pos≤p)) ∘ fun c:Cm=>zpz c.1 c.2)=fun c:Cm=>decide (c.2≤p):=by
  funext c
  simp only[Function.comp,zpz];split<;>rfl
 rw[this]
theorem Tied.at' {t:Tb} {m:List Cm} (h:Tied t m) (n:Bs) (p:Int):pAt (t.hist n) p=rAt m n p:=by
 unfold pAt rAt;rw[h.hist,zl1];cases hq:(zkl m n).reverse.find? (fun c=>decide (c.2≤p)) with
 | none=>rfl
 | some c =>
   have hm:=List.mem_of_find?_eq_some hq
   have hB:c∈m:=by
    have:c∈zkl m n:=by simpa using hm
    exact(List.mem_filter.1 this).1
   simp only[Option.map_some,zpz];by_cases h3:c.1.op=3
   ·simp[h3,h.zero c hB h3]
   simp[h3]
end
section
theorem znj (a b:UInt8)(x y:Bs):Op.bytesLess (a :: x) (b :: y)=(decide (a.toNat<b.toNat)||(decide (a.toNat=b.toNat)&&Op.bytesLess x y)):=by
 rw[Op.bytesLess];have h1:decide (a<b)=decide (a.toNat<b.toNat):=by rw[decide_eq_decide];exact UInt8.lt_iff_toNat_lt
 have h2:(a==b)=decide (a.toNat=b.toNat):=by rw[Bool.eq_iff_iff,beq_iff_eq,decide_eq_true_eq];exact UInt8.toNat_inj.symm
 rw[h1,h2]
theorem zlw:∀ x:Bs,Op.bytesLess x x=false:=by
 intro x
 induction x with
 | nil=>rfl
 | cons a x ih=>rw[znj,ih];simp
theorem zr0:∀ x y:Bs,Op.bytesLess x y=true→Op.bytesLess y x=false:=by
 intro x
 induction x with
 | nil=>intro y _;cases y<;>rfl
 | cons a x ih =>
   intro y h;cases y with
   | nil=>simp[Op.bytesLess]at h
   | cons b y =>
     rw[znj]at h ⊢;simp only[Bool.or_eq_true,Bool.and_eq_true,decide_eq_true_eq]at h;rw[Bool.or_eq_false_iff,decide_eq_false_iff_not];rcases h with h | ⟨h,h'⟩
     ·refine⟨by omega,?_⟩;rw[decide_eq_false (by omega),Bool.false_and]
     refine⟨by omega,?_⟩;rw[ih y h',Bool.and_false]
theorem zrz:∀ x y:Bs,Op.bytesLess x y=false→Op.bytesLess y x=false→x=y:=by
 intro x
 induction x with
 | nil=>intro y h1 h2;cases y with
   | nil=>rfl
   | cons b y=>simp[Op.bytesLess]at h1
 | cons a x ih =>
   intro y h1 h2;cases y with
   | nil=>simp[Op.bytesLess]at h2
   | cons b y =>
     rw[znj]at h1 h2;simp only[Bool.or_eq_false_iff,Bool.and_eq_false_iff,decide_eq_false_iff_not]at h1 h2;have e:a.toNat=b.toNat:=by omega
     have e2:a=b:=UInt8.toNat_inj.1 e;subst e2;rw[ih y (h1.2.resolve_left (by simp)) (h2.2.resolve_left (by simp))]
theorem zry (x y:Bs):Op.bytesLess x y = !(Op.bytesLess y x||y==x):=by
 cases h:Op.bytesLess x y with
 | true =>
   have h2:=zr0 x y h
   have h3:(y==x)=false:=by
    rw[beq_eq_false_iff_ne];rintro rfl;rw[zlw]at h;cases h
   rw[h2,h3];rfl
 | false =>
   cases h2:Op.bytesLess y x with
   | true=>rfl
   | false =>
     obtain rfl:=zrz x y h h2;simp
def zw6 (s:Sg):Bool:=s.id.isEmpty||(zcn s.id&&decide (s.key=jz))
def zm5:Option Bs→List Sg→Bool
 | _,[]=>true
 | p,s :: r=>zw6 s&&((match p with | none=>true | some q=>Op.bytesLess q (j5 s))&&zm5 (some (j5 s)) r)
def zm4 (l:List Sg):Bool:=decide (1≤l.length)&&(decide (l.length≤8)&&zm5 none l)
theorem zq9:∀ (l:List Sg) (q:Bs),zm5 (some q) l=za4 q l:=by
 intro l
 induction l with
 | nil=>intro q;rfl
 | cons s r ih =>
   intro q
   have e1:(zw6 s&&Op.bytesLess q (j5 s)) = !zq1 q s:=by
    unfold zw6 zq1;rw[zry q]
    have e2:(s.key != jz) = !decide (s.key=jz):=by
     by_cases hk:s.key=jz<;>simp[hk]
    rw[e2];generalize (Op.bytesLess (j5 s) q||j5 s==q)=A;generalize zcn s.id=B;generalize s.id.isEmpty=C;generalize decide (s.key=jz)=D;cases A<;>cases B<;>cases C<;>cases D<;>rfl
   rw[zm5,za4,ih,← Bool.and_assoc];show((zw6 s&&Op.bytesLess q (j5 s))&&_)=_;rw[e1];cases zq1 q s<;>rfl
theorem zqw (s:Sg):j5 s≠[]:=by
 unfold j5;split
 ·simp[zhw]
 assumption
theorem ztt (l:List Sg):zm4 l=zb0 l:=by
 unfold zm4 zb0;cases l with
 | nil=>rfl
 | cons s r =>
   have e:zm5 none (s :: r)=za4 [] (s :: r):=by
    rw[← zq9,zm5,zm5]
    have h:Op.bytesLess [] (j5 s)=true:=by
     have:=zqw s;cases hs:j5 s with
     | nil=>exact absurd hs this
     | cons a x=>rfl
    simp only[h]
   rw[e];generalize za4 [] (s :: r)=A;generalize decide ((s :: r).length≤8)=B;generalize decide (1≤(s :: r).length)=C;cases A<;>cases B<;>cases C<;>rfl
def zps (sub:Bs→Bool) (e:En):Bool :=
 zm4 e.sigs &&
 (let binding:=decide (e.op=0)&&(e.ident.isEmpty&&decide (e.key=jz))
  let digest:=decide (e.digest=jz)
  if e.kind=1 then e.typ.isEmpty&&(e.payload.isEmpty&&binding)
  else if e.kind=2 then digest&&(zci e.typ&&(decide (e.payload.length≤2048)&&binding))
  else if e.kind=3 then digest&&(e.typ.isEmpty&&(sub e.payload&&binding))
  else if e.kind=4 then digest&&(e.typ.isEmpty&&(e.payload.isEmpty&&(decide (1≤e.op)&&(decide (e.op≤3)&&(zcn e.ident&&(decide (e.op≠3)||decide (e.key=jz)))))))
  else false)
theorem zc1 (a b:Bs):(a==b)=decide (a=b):=by
 by_cases h:a=b<;>simp[h]
theorem zkw (a:Bs):(a==[])=a.isEmpty:=by cases a<;>rfl
theorem ztu (sub:Bs→Bool) (e:En):zps sub e=zau sub e:=by
 unfold zps zau;rw[ztt];generalize hS:zb0 e.sigs=S;generalize hA:e.typ.isEmpty=A;generalize hB:e.payload.isEmpty=B;generalize hC:e.ident.isEmpty=C;generalize hD:decide (e.op=0)=D;generalize hE:decide (e.key=jz)=E;generalize hG:decide (e.digest=jz)=G;by_cases h1:e.kind=1
 ·simp only[h1,Int.reduceEq,reduceIte,zju,zav,zp5,zdz,zcr,zc1 jz,zkw,hA,hB,hC,hD,decide_true,Bool.true_and,Bool.and_true];rw[zc1,hE]
 by_cases h2:e.kind=2
 ·simp only[h2,Int.reduceEq,reduceIte,zju,zav,zp5,zdz,zcr,zkw,hA,hB,hC,hD,decide_true,Bool.true_and,Bool.and_true,List.isEmpty_nil];rw[zc1 e.digest,hG,zc1,hE];generalize zci e.typ=T;generalize decide (e.payload.length≤2048)=P;cases S<;>cases T<;>cases P<;>cases C<;>cases D<;>cases E<;>cases G<;>rfl
 by_cases h3:e.kind=3
 ·simp only[h3,Int.reduceEq,reduceIte,zju,zav,zp5,zdz,zcr,zkw,hA,hB,hC,hD,decide_true,Bool.true_and,Bool.and_true,List.isEmpty_nil];rw[zc1 e.digest,hG,zc1,hE];generalize sub e.payload=T;cases S<;>cases T<;>cases A<;>cases C<;>cases D<;>cases E<;>cases G<;>rfl
 by_cases h4:e.kind=4
 ·simp only [h4,Int.reduceEq,reduceIte,zju,zav,zp5,zdz,zcr,zkw,hA,hB,hC,hD,decide_true,Bool.true_and,Bool.and_true,List.isEmpty_nil];rw[zc1 e.digest,hG]
  have hK:((if e.op=3 then e.key else jz)==jz)=(decide (e.op≠3)||E):=by
   by_cases h3:e.op=3
   ·rw[if_pos h3,zc1,hE];simp[h3]
   rw[if_neg h3];simp[h3]
  rw[hK];generalize decide (1≤e.op)=O1;generalize decide (e.op≤3)=O3;generalize zcn e.ident=T;generalize (decide (e.op≠3)||E)=K;cases S<;>cases T<;>cases A<;>cases B<;>cases O1<;>cases O3<;>cases G<;>cases K<;>rfl
 simp only[h1,h2,h3,h4,if_false,zju,Bool.false_and,Bool.and_false]
/-! which bindings may come -/
end
end Go.Proofs.YtffggpplnjibgaaGreatDoor
