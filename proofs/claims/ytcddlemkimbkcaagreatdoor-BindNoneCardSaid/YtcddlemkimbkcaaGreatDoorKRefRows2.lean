/-
 A table and the document's answer (cachetref17),as plain data: they say the same.
-/
import Derived.Test.YtcddlemkimbkcaaGreatDoorKAt
import Derived.Test.YtcddlemkimbkcaaGreatDoorKReadCame
import Derived.Test.YtcddlemkimbkcaaGreatDoorKTable2
import Derived.Test.YtcddlemkimbkcaaGreatDoorKNum
open Go.Lib renaming hid→za,byteCells→zb
open Go.Value renaming int→zy
open Go.IntKind renaming u8→z6
namespace Go.Proofs.YtcddlemkimbkcaaGreatDoor
set_option linter.unusedVariables false
set_option linter.unusedSimpArgs false
set_option linter.unusedSectionVars false
set_option maxRecDepth 100000
set_option maxHeartbeats 2000000
section
/-! the document's answer: a table is the bindings that came -/
abbrev Cm:=En × Int
def zc7 (m:List Cm) (n:Bs):Option Cm:=m.reverse.find? (fun c=>decide (c.1.ident=n))
def zad (m:List Cm) (n:Bs):Bs × Bool:=match zc7 m n with | some c=>if c.1.op=3 then (jo,false) else (c.1.key,true) | none=>(jo,false)
def zcb (k:Bs) (c:Cm):Bool:=decide (c.1.op≠3)&&decide (c.1.key=k)
def zbm (m:List Cm) (k:Bs):Bool:=match m.find? (zcb k) with | some c=>!(zad m c.1.ident).2||decide ((zad m c.1.ident).1≠k) | none=>false
def zf9 (m:List Cm) (n:Bs):List Cm:=m.filter (fun c=>decide (c.1.ident=n))
def rAt (m:List Cm) (n:Bs) (p:Int):Bs × Bool:=match (zf9 m n).reverse.find? (fun c=>decide (c.2≤p)) with | some c=>(c.1.key,decide (c.1.op≠3)) | none=>(jo,false)
structure Tied (t:Tb) (m:List Cm):Prop where
 hist:∀ n,t.hist n=(zf9 m n).map (fun c=>zjn c.1 c.2)
 zero:∀ c∈m,c.1.op=3→c.1.key=jo
 was:∀ k,t.life k≠0 ↔ ∃ c∈m,zcb k c=true
 spent:∀ k,t.life k=2↔zbm m k=true
 once:m.Pairwise (fun a b=>∀ k,¬ (zcb k a=true∧zcb k b=true))
theorem Tied.new:Tied Tb.new [] where
 hist n:=rfl
 zero c hc:=by cases hc
 was k:=⟨fun h=>absurd rfl h,fun⟨c,hc,_⟩=>by cases hc⟩
 spent k:=⟨fun h=>(by cases h),fun h=>(by cases h)⟩
 once:=List.Pairwise.nil
theorem zko (m:List Cm)(n:Bs):zc7 m n=(zf9 m n).reverse.head?:=by
 unfold zc7 zf9;rw[← List.filter_reverse,List.head?_filter]
theorem zqp (l:List Cm):lastC (l.map fun c=>zjn c.1 c.2)=match l.reverse.head? with | some c=>zjn c.1 c.2 | none=>Chg.zero:=by
 unfold lastC;rw[List.head?_reverse,List.getLast?_map];cases l.getLast?<;>rfl
theorem Tied.last {t:Tb}{m:List Cm}(h:Tied t m)(n:Bs):t.last n=match zc7 m n with | some c=>zjn c.1 c.2 | none=>Chg.zero:=by
 unfold Tb.last;rw[h.hist,zqp,zko]
theorem Tied.bound {t:Tb} {m:List Cm} (h:Tied t m) (n:Bs):t.bound n=zad m n:=by
 unfold Tb.bound zad;rw[h.last];cases zc7 m n with
 | none=>rfl
 | some c =>
   simp only[zjn];split<;>rfl
theorem zkn {m:List Cm}{n:Bs}{c:Cm}(h:zc7 m n=some c):c∈m∧c.1.ident=n:=by
 unfold zc7 at h;have h1:=List.mem_of_find?_eq_some h;have h2:=List.find?_some h;exact⟨by simpa using h1,by simpa using h2⟩
theorem zgj (m:List Cm)(c:Cm)(n:Bs):zc7 (m++[c]) n=if c.1.ident=n then some c else zc7 m n:=by
 unfold zc7;rw[List.reverse_append];show([c]++m.reverse).find? _=_;rw[List.singleton_append,List.find?_cons];by_cases h:c.1.ident=n
 ·simp[h]
 simp[h]
theorem zux {m:List Cm} (h:m.Pairwise (fun a b=>∀ k,¬ (zcb k a=true∧zcb k b=true))):∀ {a b:Cm},a∈m→b∈m→∀ {k},zcb k a=true→zcb k b=true→a=b:=by
 induction h with
 | nil=>intro a b ha;cases ha
 | cons h1 h2 ih =>
   rename_i x l
   intro a b ha hb k ka kb;rcases List.mem_cons.1 ha with ea | ha'<;>rcases List.mem_cons.1 hb with eb | hb'
   ·rw[ea,eb]
   ·exact absurd ⟨ea▸ka,kb⟩ (h1 b hb' k)
   ·exact absurd ⟨eb▸kb,ka⟩ (h1 a ha' k)
   exact ih ha' hb' ka kb
theorem Tied.came {sub:Bs→Bool} {t:Tb} {m:List Cm} {e:En} (h:Tied t m) (hr:t.right) (hb:zb6 sub t e=0) (hz:e.op=3→e.key=jo) (p:Int):Tied (t.came e p) (m++[(e,p)]):=by
 obtain⟨l1,l2,l3,l4⟩:=zrg hb hr p;obtain⟨-,-,hC⟩:=zgb hb;have hA:∀ k,zcb k (e,p)=true↔e.op≠3∧e.key=k:=fun k=>by simp[zcb]
 have hH:e.op≠3→∀ c∈m,zcb e.key c=false:=fun h3 c hc=>by
  cases hh:zcb e.key c with
  | false=>rfl
  | true=>exact absurd (hC h3) ((h.was _).2 ⟨c,hc,hh⟩)
 refine⟨fun n=>?_,fun c hc h3=>?_,fun k=>?_,fun k=>?_,?_⟩
 ·show upd t.hist e.ident _ n=_;unfold zf9;rw[List.filter_append,List.map_append];by_cases he:n=e.ident
  ·subst he;rw[za2,h.hist];simp[zf9]
  rw[qj _ _ he,h.hist];have:¬ e.ident=n:=fun e'=>he e'.symm
  simp[zf9,this]
 ·rcases List.mem_append.1 hc with hc | hc
  ·exact h.zero c hc h3
  obtain rfl:c=(e,p):=by simpa using hc
  exact hz h3
 ·constructor
  ·intro hk;by_cases h0:t.life k=0
   ·-- it is new
    have hO:e.op≠3∧e.key=k:=by
     apply Decidable.byContradiction;intro hn;apply hk
     have h5:(if (t.last e.ident).has=true then upd t.life (t.last e.ident).key 2 else t.life) k=0:=by
      split
      ·rename_i hh
       rw[qj _ _ (fun e'=>hr _ hh (by rw[← e'];exact h0))];exact h0
      exact h0
     simp only[Tb.came];split
     ·exact h5
     rename_i h3
     rw[qj _ _ (fun e'=>hn ⟨h3,e'.symm⟩)];exact h5
    exact⟨(e,p),by simp,(hA k).2 hO⟩
   obtain⟨c,hc,hh⟩:=(h.was k).1 h0;exact⟨c,by simp[hc],hh⟩
  rintro⟨c,hc,hh⟩;rcases List.mem_append.1 hc with hc | hc
  ·exact l4 k ((h.was k).2 ⟨c,hc,hh⟩)
  obtain rfl:c=(e,p):=by simpa using hc
  obtain⟨h3,rfl⟩:=(hA k).1 hh;rw[l1 h3];decide
 ·-- spent
  have hD:∀ c,(m++[(e,p)]).find? (zcb k)=some c↔(m.find? (zcb k)=some c∨(m.find? (zcb k)=none∧zcb k (e,p)=true∧c=(e,p))):=by
   intro c;rw[List.find?_append];cases hf:m.find? (zcb k) with
   | some d=>simp
   | none =>
     simp only[Option.none_or,List.find?_cons,List.find?_nil];cases hh:zcb k (e,p) with
     | true=>simp[eq_comm]
     | false=>simp
  have hE:∀ n,zad (m++[(e,p)]) n=if e.ident=n then (if e.op=3 then (jo,false) else (e.key,true)) else zad m n:=by
   intro n;unfold zad;rw[zgj];by_cases he:e.ident=n
   ·simp[he]
   simp[he]
  cases hf:m.find? (zcb k) with
  | none =>
    have h0:t.life k=0:=Decidable.byContradiction fun hn=>by
     obtain⟨c,hc,hh⟩:=(h.was k).1 hn;exact(List.find?_eq_none.1 hf c hc) hh
    cases hh:zcb k (e,p) with
    | true =>
      obtain⟨h3,rfl⟩:=(hA k).1 hh;have e1:=(hD (e,p)).2 (.inr ⟨hf,hh,rfl⟩);constructor
      ·intro h5;rw[l1 h3]at h5;cases h5
      intro h5;unfold zbm at h5;rw[e1]at h5;simp[hE,h3]at h5
    | false =>
      have e1:(m++[(e,p)]).find? (zcb k)=none:=by
       rw[List.find?_append,hf];simp[hh]
      constructor
      ·intro h5;exfalso;have hn:¬ (e.op≠3∧e.key=k):=fun hx=>by have:=(hA k).2 hx;rw[hh]at this;cases this
       have h6:(if (t.last e.ident).has=true then upd t.life (t.last e.ident).key 2 else t.life) k=0:=by
        split
        ·rename_i hh
         rw[qj _ _ (fun e'=>hr _ hh (by rw[← e'];exact h0))];exact h0
        exact h0
       have h7:(t.came e p).life k=0:=by
        simp only[Tb.came];split
        ·exact h6
        rename_i h3
        rw[qj _ _ (fun e'=>hn ⟨h3,e'.symm⟩)];exact h6
       rw[h7]at h5;cases h5
      intro h5;unfold zbm at h5;rw[e1]at h5;cases h5
  | some c =>
    have hN:=List.mem_of_find?_eq_some hf;have hK:=List.find?_some hf;have e1:=(hD c).2 (.inl hf);have hcop:c.1.op≠3∧c.1.key=k:=by simpa[zcb] using hK
    have hJ:t.life k≠0:=(h.was k).2 ⟨c,hN,hK⟩;have hM:¬ (e.op≠3∧e.key=k):=fun⟨h3,hk⟩=>hJ (by rw[← hk];exact hC h3)
    have hL:zbm m k=(!(zad m c.1.ident).2||decide ((zad m c.1.ident).1≠k)):=by unfold zbm;rw[hf]
    have hF:zbm (m++[(e,p)]) k=(!(zad (m++[(e,p)]) c.1.ident).2||decide ((zad (m++[(e,p)]) c.1.ident).1≠k)):=by unfold zbm;rw[e1]
    have hB:(t.came e p).life k=(if (t.last e.ident).has=true then upd t.life (t.last e.ident).key 2 else t.life) k:=by
     simp only[Tb.came];split
     ·rfl
     rename_i h3
     rw[qj _ _ (fun e'=>hM ⟨h3,e'.symm⟩)]
    have hS:=h.bound e.ident;by_cases hI:e.ident=c.1.ident
    ·have ht:zbm (m++[(e,p)]) k=true:=by
      rw[hF,hE,if_pos hI];by_cases h3:e.op=3
      ·simp[h3]
      have:¬ e.key=k:=fun hk=>hM ⟨h3,hk⟩
      simp[h3,this]
     rw[ht];refine⟨fun _=>rfl,fun _=>?_⟩;rw[hB];by_cases hh:(t.last e.ident).has=true∧(t.last e.ident).key=k
     ·rw[if_pos hh.1,← hh.2,za2]
     have h2:t.life k=2:=by
      rw[h.spent,hL,← hI,← hS];unfold Tb.bound;cases hx:(t.last e.ident).has with
      | false=>rfl
      | true =>
        have:¬ (t.last e.ident).key=k:=fun e'=>hh ⟨hx,e'⟩
        simp[this]
     split
     ·rename_i hx
      rw[qj _ _ (fun e'=>hh ⟨hx,e'.symm⟩)];exact h2
     exact h2
    have hG:zbm (m++[(e,p)]) k=zbm m k:=by rw[hF,hE,if_neg hI,hL]
    rw[hG,← h.spent,hB];split
    ·rename_i hx
     rw[qj _ _ (fun e'=>?_)]
     -- the old key is another one
     have hl:=h.last e.ident;cases hq:zc7 m e.ident with
     | none =>
       rw[hq]at hl;rw[hl]at hx;cases hx
     | some d =>
       rw[hq]at hl;obtain⟨hP,hR⟩:=zkn hq;simp only at hl;by_cases h3:d.1.op=3
       ·rw[hl,zjn,if_pos h3]at hx;cases hx
       rw[hl,zjn,if_neg h3]at e'
       have hQ:zcb k d=true:=by
        have e5:d.1.key=k:=e'.symm;simp[zcb,h3,e5]
       obtain rfl:=zux h.once hP hN hQ hK;exact hI hR.symm
    rfl
 rw[List.pairwise_append];refine⟨h.once,List.pairwise_singleton _ _,fun a ha b hT k=>?_⟩;obtain rfl:b=(e,p):=by simpa using hT
 rintro⟨h5,h6⟩;obtain⟨h3,rfl⟩:=(hA k).1 h6;rw[hH h3 a ha]at h5;cases h5
theorem zk3 {l:List Cm} {p:Int}:(l.map fun c=>zjn c.1 c.2).reverse.find? (fun c=>decide (c.pos≤p))=(l.reverse.find? (fun c=>decide (c.2≤p))).map (fun c=>zjn c.1 c.2):=by
 rw[← List.map_reverse,List.find?_map]
 have:((fun c:Chg=>decide (c.pos≤p)) ∘ fun c:Cm=>zjn c.1 c.2)=fun c:Cm=>decide (c.2≤p):=by
  funext c
  simp only[Function.comp,zjn];split<;>rfl
 rw[this]
theorem Tied.at' {t:Tb} {m:List Cm} (h:Tied t m) (n:Bs) (p:Int):pAt (t.hist n) p=rAt m n p:=by
 unfold pAt rAt;rw[h.hist,zk3];cases hq:(zf9 m n).reverse.find? (fun c=>decide (c.2≤p)) with
 | none=>rfl
 | some c =>
   have hm:=List.mem_of_find?_eq_some hq
   have hA:c∈m:=by
    have:c∈zf9 m n:=by simpa using hm
    exact(List.mem_filter.1 this).1
   simp only[Option.map_some,zjn];by_cases h3:c.1.op=3
   ·simp[h3,h.zero c hA h3]
   simp[h3]
end
section
open Go.RowKit Go.Shelf
variable [OldK]
def CameV.cm (c:CameV):Cm:=(c.e,c.pos)
structure CRow (m:List CameV) (v:Value) (w:World):Prop where
 len:m.length≤1000
 ok:∀ c∈m,c.e.ok
 one:∀ c∈m,c.pv.oneCell'=true∧c.sv.oneCell'=true
 at':∃ a cap,v = .slice a m.length cap∧(m=[]∨∃ b,a=some ⟨b,0,none⟩∧b<w.heap.size∧∀ i (hi:i<m.length),w.rangeAt b (i * 71) m[i].cells)
theorem CRow.fr {M:Nat→Obj→Prop}{m:List CameV}{v:Value}{w w':World}(h:CRow m v w)(hF:Fr M w w')(hM:∀ b o,w.heap[b]? = some o→v.ownBlock=some b→¬ M b o):CRow m v w':=by
 obtain⟨h1,h2,hA,a,hB,rfl,h3⟩:=h;refine⟨h1,h2,hA,a,hB,rfl,h3.imp id ?_⟩;rintro⟨b,rfl,hb,hr⟩;obtain⟨o,ho⟩:=zfq hb;exact⟨b,rfl,Nat.lt_of_lt_of_le hb hF.size,fun i hi=>zas (hr i hi) ((hF.block _ _ ho (hM b o ho (by simp[Value.ownBlock]))).trans ho.symm)⟩
theorem CRow.keep {m:List CameV}{v:Value}{w w':World}(h:CRow m v w)(hF:Fr NoB w w'):CRow m v w':=h.fr hF (fun _ _ _ _ h=>h)
theorem CRow.get {m:List CameV}{v:Value}{w:World}(h:CRow m v w){i:Nat}(hi:i<m.length):∃ b cap,v = .slice (some ⟨b,0,none⟩) m.length cap∧b<w.heap.size∧w.rangeAt b (i * 71) m[i].cells:=by
 obtain⟨h1,h2,h2',a,cap,rfl,h3⟩:=h;rcases h3 with rfl | ⟨b,rfl,hb,hr⟩
 ·cases hi
 exact⟨b,cap,rfl,hb,hr i hi⟩
theorem CRow.form {m:List CameV}{v:Value}{w:World}(h:CRow m v w):∃ a cap,v = .slice a m.length cap:=by
 obtain⟨h1,h2,h2',a,cap,rfl,h3⟩:=h;exact⟨a,cap,rfl⟩
theorem ze4 {w:World} {b o:Nat} {c:CameV} (hok:c.e.ok) (h:w.rangeAt b o c.cells):w.cell? ⟨b,o+35,none⟩=some (.int .i64 c.e.op)∧w.cell? ⟨b,o+36,none⟩=some (.string ⟨c.e.ident.toArray⟩)∧w.rangeAt b (o+37) (zb c.e.key)∧w.cell? ⟨b,o+70,none⟩=some (.int .i64 c.pos):=by
 obtain⟨k1,k2,-⟩:=hok;unfold CameV.cells En.cells at h;rw[range_append,range_append,range_append,range_append,range_append]at h;obtain⟨⟨h0,h1,h2,h3,h4⟩,h5⟩:=h;simp only[List.length_append,List.length_cons,List.length_nil,ja,k1,k2,Nat.zero_add,Nat.reduceAdd]at h2 h3 h5;have e2:=h2 2 (.int .i64 c.e.op) rfl;have e3:=h2 3 (.string ⟨c.e.ident.toArray⟩) rfl;have e5:=h5 0 (.int .i64 c.pos) rfl;refine⟨?_,?_,?_,?_⟩
 ·rw[← e2]
 ·rw[← e3]
 ·have:o+1+32+4=o+37:=by omega
  rw[this]at h3;exact h3
 rw[← e5]
theorem zor (cs:List Cm)(n:Bs)(q:Nat)(hq:q<cs.length):zc7 (cs.take (q+1)) n=if (cs[q]).1.ident=n then some cs[q] else zc7 (cs.take q) n:=by
 rw[List.take_add_one,List.getElem?_eq_getElem hq];exact zgj _ _ _
theorem zpt (m:List CameV) (v:Value) (n:Bs) (w:World) (h:CRow m v w) :
 Calls Tryz.prog 116 #[v,.string ⟨n.toArray⟩] w fun e w'=>(∃ r:Int,e = .returned (.int .i64 r)∧((r = -1∧zc7 (m.map CameV.cm) n=none)∨∃ i:Nat,r=i∧∃ hi:i<m.length,zc7 (m.map CameV.cm) n=some m[i].cm))∧w'=w:=by
 obtain⟨a,cap,hv⟩:=h.form;have hlen:=h.len;obtain⟨R,hR⟩:∃ R,zc7 (m.map CameV.cm) n=R:=⟨_,rfl⟩;rw[hR];have hE:wrap64 ((m.length:Int) - 1)=(m.length:Int) - 1:=by unfold wrap64;omega
 have Hh:=za h;have HR:=za hR;subst hv;clear h hR;go_enter Tryz.func116,Tryz.ntmps116
 go_wp2_with fail
 go_loopg [5] (m.length+1) (fun gf vi wr=>∃ p:Nat,vi = .int .i64 ((p:Int) - 1)∧p+1=gf∧p≤m.length∧Hid (zc7 ((m.map CameV.cm).take p) n=R)∧wr=w)
 case atStart=>exact⟨m.length,by simp[hE],rfl,Nat.le_refl _,za (by rw[List.take_of_length_le (by simp)];exact HR.out),rfl⟩
 case round =>
  obtain⟨p,rfl,hpg,hp,hC,rfl⟩:=hrel;cases p with
  | zero =>
    have h0:zc7 ((m.map CameV.cm).take 0) n=none:=rfl;have hn:=h0.symm.trans hC.out;have Hn:=za hn;clear hn h0
    go_wp2_with fail
    go_ret;exact⟨⟨-1,rfl,.inl ⟨rfl,Hn.out.symm⟩⟩,rfl⟩
  | succ q =>
    obtain⟨b,cap',hF,hb,hr⟩:=Hh.out.get (i:=q) (by omega)
    injection hF with e1 e2 e3
    subst e1 e3;obtain⟨-,k1,-,-⟩:=ze4 (Hh.out.ok _ (List.getElem_mem (by omega))) hr;have hB:(m.map CameV.cm)[q]'(by simp;omega)=m[q].cm:=by simp
    have hA:=zor (m.map CameV.cm) n q (by simp;omega);rw[hB,hC.out]at hA;have Hstep:=za hA;have hH:((q+1:Nat):Int) - 1=(q:Int):=by omega
    have hD:wrap64 ((q:Int) - 1)=(q:Int) - 1:=by unfold wrap64;omega
    rw[hH];have hG:q<m.length:=by omega
    obtain⟨c,hc⟩:∃ c,m[q]=c:=⟨_,rfl⟩;have Hc:=za hc;rw[hc]at k1;clear hr hA hB hc;cases hx:(c.e.ident==n) with
    | true =>
      have Hx:=za hx
      go_wp2_with fail
      go_ret;refine⟨⟨q,rfl,.inr ⟨q,rfl,hG,?_⟩⟩,rfl⟩;have h1:=Hstep.out;have h2:c.e.ident=n:=by simpa using Hx.out
      rw[Hc.out,if_pos (show(CameV.cm c).1.ident=n from h2)]at h1;rw[Hc.out];exact h1
    | false =>
      have Hx:=za hx
      go_wp2_with fail
      go_roundg (q+1)
      case measure=>omega
      case rel =>
       refine⟨q,by simp[hD],by omega,by omega,za ?_,rfl⟩;have h1:=Hstep.out;have h2:¬ c.e.ident=n:=by simpa using Hx.out
       rw[Hc.out,if_neg (show ¬ (CameV.cm c).1.ident=n from h2)]at h1;exact h1.symm
end
section
open Go.RowKit Go.Shelf
variable [OldK]
theorem zvp:(Tryz.prog.info? 24).map (·.size)=some (#[zy z6 0,zy z6 0,zy z6 0,zy z6 0,zy z6 0,zy z6 0,zy z6 0,zy z6 0,zy z6 0,zy z6 0,zy z6 0,zy z6 0,zy z6 0,zy z6 0,zy z6 0,zy z6 0,zy z6 0,zy z6 0,zy z6 0,zy z6 0,zy z6 0,zy z6 0,zy z6 0,zy z6 0,zy z6 0,zy z6 0,zy z6 0,zy z6 0,zy z6 0,zy z6 0,zy z6 0,zy z6 0]:Array Value).size:=by kernel_rfl
theorem zw3:(#[zy z6 0,zy z6 0,zy z6 0,zy z6 0,zy z6 0,zy z6 0,zy z6 0,zy z6 0,zy z6 0,zy z6 0,zy z6 0,zy z6 0,zy z6 0,zy z6 0,zy z6 0,zy z6 0,zy z6 0,zy z6 0,zy z6 0,zy z6 0,zy z6 0,zy z6 0,zy z6 0,zy z6 0,zy z6 0,zy z6 0,zy z6 0,zy z6 0,zy z6 0,zy z6 0,zy z6 0,zy z6 0]:Array Value).all (·.oneCell')=true:=by kernel_rfl
theorem zqt (w:World)(C:List Value)(h:C.length=32):(loadVar 24 ⟨w.heap.size,0,none⟩).run Tryz.prog (w.alloc (.cells C.toArray 24)) = .ok (.agg C.toArray) (w.alloc (.cells C.toArray 24)):=by
 have hR:=jg (heap_alloc_new w (.cells C.toArray 24));rw[List.toList_toArray]at hR;exact run_loadVar_mid _ _ 0 24 C (.array 32 5) hR z7 rfl (by rw[jb,h])
theorem zel (m:List CameV) (v:Value) (n:Bs) (w:World) (h:CRow m v w) :
 Calls Tryz.prog 69 #[v,.string ⟨n.toArray⟩] w fun e w'=>e = .returned (.tuple #[.agg (zb (zad (m.map CameV.cm) n).1).toArray,.bool (zad (m.map CameV.cm) n).2])∧Fr NoB w w':=by
 have hF:Fr NoB w (w.alloc (.cells #[zy z6 0,zy z6 0,zy z6 0,zy z6 0,zy z6 0,zy z6 0,zy z6 0,zy z6 0,zy z6 0,zy z6 0,zy z6 0,zy z6 0,zy z6 0,zy z6 0,zy z6 0,zy z6 0,zy z6 0,zy z6 0,zy z6 0,zy z6 0,zy z6 0,zy z6 0,zy z6 0,zy z6 0,zy z6 0,zy z6 0,zy z6 0,zy z6 0,zy z6 0,zy z6 0,zy z6 0,zy z6 0] 24)):=Fr.refl.alloc _;have hW:=h.keep hF;have hA:=zpt m v n _ hW;obtain⟨R,hR⟩:∃ R,zad (m.map CameV.cm) n=R:=⟨_,rfl⟩;rw[hR];unfold zad at hR;have HR:=za hR;have HF:=za hF;have HW:=za hW;have Hlast:=za hA;have Hz:=za (zqt w (zb jo) rfl);rw[zg8]at Hz;clear hR hF hW hA h;go_enter Tryz.func69,Tryz.ntmps69
 go_wp2_with fail
 refine Hlast.out.mono ?_;rintro e w1 ⟨⟨r,rfl,hr⟩,rfl⟩;rcases hr with⟨rfl,hn⟩ | ⟨i,rfl,hi,hn⟩
 ·have h2:R=(jo,false):=by rw[← HR.out,hn]
  subst h2;clear hn
  go_wp2_with((with_reducible refine jh (w:=w) rfl 24 _ _ rfl #[zy z6 0,zy z6 0,zy z6 0,zy z6 0,zy z6 0,zy z6 0,zy z6 0,zy z6 0,zy z6 0,zy z6 0,zy z6 0,zy z6 0,zy z6 0,zy z6 0,zy z6 0,zy z6 0,zy z6 0,zy z6 0,zy z6 0,zy z6 0,zy z6 0,zy z6 0,zy z6 0,zy z6 0,zy z6 0,zy z6 0,zy z6 0,zy z6 0,zy z6 0,zy z6 0,zy z6 0,zy z6 0] #[zy z6 0,zy z6 0,zy z6 0,zy z6 0,zy z6 0,zy z6 0,zy z6 0,zy z6 0,zy z6 0,zy z6 0,zy z6 0,zy z6 0,zy z6 0,zy z6 0,zy z6 0,zy z6 0,zy z6 0,zy z6 0,zy z6 0,zy z6 0,zy z6 0,zy z6 0,zy z6 0,zy z6 0,zy z6 0,zy z6 0,zy z6 0,zy z6 0,zy z6 0,zy z6 0,zy z6 0,zy z6 0] w.heap.size rfl ?_ ?_ zvp rfl zw3 ?_);rfl;rfl)
  refine bodyPost_ret (v := .tuple #[.agg #[zy z6 0,zy z6 0,zy z6 0,zy z6 0,zy z6 0,zy z6 0,zy z6 0,zy z6 0,zy z6 0,zy z6 0,zy z6 0,zy z6 0,zy z6 0,zy z6 0,zy z6 0,zy z6 0,zy z6 0,zy z6 0,zy z6 0,zy z6 0,zy z6 0,zy z6 0,zy z6 0,zy z6 0,zy z6 0,zy z6 0,zy z6 0,zy z6 0,zy z6 0,zy z6 0,zy z6 0,zy z6 0],.bool false]) ?_ rfl ⟨rfl,HF.out⟩;rw[results_cell_tmp rfl];simp[asAddr,Result.andThen,Hz.out]
 obtain⟨b,cap,rfl,hb,hH⟩:=HW.out.get hi;have hC:=HW.out.ok _ (List.getElem_mem hi);obtain⟨k0,-,k2,-⟩:=ze4 hC hH;have hI:zc7 (m.map CameV.cm) n=some (m[i].e,m[i].pos):=hn;have h2:=HR.out;rw[hI]at h2;simp only at h2;obtain⟨c,hc⟩:∃ c,m[i]=c:=⟨_,rfl⟩;rw[hc]at k0 k2 h2 hC;have hB:(zb c.e.key).length=32:=by rw[ja];exact hC.2.1
 have hD:=all_oneCell_toArray (j0 c.e.key);clear hn hI hH hc hC;by_cases h3:c.e.op=3
 ·rw[if_pos h3]at h2;subst h2;rw[h3]at k0;clear hB hD k2
  go_wp2_with((with_reducible refine jh (w:=w) rfl 24 _ _ rfl #[zy z6 0,zy z6 0,zy z6 0,zy z6 0,zy z6 0,zy z6 0,zy z6 0,zy z6 0,zy z6 0,zy z6 0,zy z6 0,zy z6 0,zy z6 0,zy z6 0,zy z6 0,zy z6 0,zy z6 0,zy z6 0,zy z6 0,zy z6 0,zy z6 0,zy z6 0,zy z6 0,zy z6 0,zy z6 0,zy z6 0,zy z6 0,zy z6 0,zy z6 0,zy z6 0,zy z6 0,zy z6 0] #[zy z6 0,zy z6 0,zy z6 0,zy z6 0,zy z6 0,zy z6 0,zy z6 0,zy z6 0,zy z6 0,zy z6 0,zy z6 0,zy z6 0,zy z6 0,zy z6 0,zy z6 0,zy z6 0,zy z6 0,zy z6 0,zy z6 0,zy z6 0,zy z6 0,zy z6 0,zy z6 0,zy z6 0,zy z6 0,zy z6 0,zy z6 0,zy z6 0,zy z6 0,zy z6 0,zy z6 0,zy z6 0] w.heap.size rfl ?_ ?_ zvp rfl zw3 ?_);rfl;rfl)
  refine bodyPost_ret (v := .tuple #[.agg #[zy z6 0,zy z6 0,zy z6 0,zy z6 0,zy z6 0,zy z6 0,zy z6 0,zy z6 0,zy z6 0,zy z6 0,zy z6 0,zy z6 0,zy z6 0,zy z6 0,zy z6 0,zy z6 0,zy z6 0,zy z6 0,zy z6 0,zy z6 0,zy z6 0,zy z6 0,zy z6 0,zy z6 0,zy z6 0,zy z6 0,zy z6 0,zy z6 0,zy z6 0,zy z6 0,zy z6 0,zy z6 0],.bool false]) ?_ rfl ⟨rfl,HF.out⟩;rw[results_cell_tmp rfl];simp[asAddr,Result.andThen,Hz.out]
 rw[if_neg h3]at h2;have h3':(c.e.op==3)=false:=by simpa using h3
 subst h2;obtain⟨K,hK⟩:∃ K,zb c.e.key=K:=⟨_,rfl⟩;simp only[hK]at k2 hB hD;have hM:=za hK;have hN:=za k2;have Hkz:Hid ((Tryz.prog.info? 24).map (·.size)=some K.length):=za (by rw[jb,hB]);have hG:Hid ((Tryz.prog.info? 24).map (·.size)=some K.toArray.size):=za (by rw[jb,List.size_toArray,hB]);have hE:Hid ((#[zy z6 0,zy z6 0,zy z6 0,zy z6 0,zy z6 0,zy z6 0,zy z6 0,zy z6 0,zy z6 0,zy z6 0,zy z6 0,zy z6 0,zy z6 0,zy z6 0,zy z6 0,zy z6 0,zy z6 0,zy z6 0,zy z6 0,zy z6 0,zy z6 0,zy z6 0,zy z6 0,zy z6 0,zy z6 0,zy z6 0,zy z6 0,zy z6 0,zy z6 0,zy z6 0,zy z6 0,zy z6 0]:Array Value).size=K.toArray.size):=za (by rw[show K.toArray.size=32 by rw[List.size_toArray,hB]];rfl);have hL:=za hD;have hJ:=za (zqt w K hB);have hO:Hid (Fr NoB w (w.alloc (.cells K.toArray 24))):=za (Fr.refl.alloc _);clear hD k2 hB hK h3 Hz
 go_wp2_with (first
  | (with_reducible refine wpList_load_mid rfl 24 _ rfl b (i * 71+37) rfl K (.array 32 5) hN.out z7 rfl Hkz.out ?_)
  | ((with_reducible refine jh (w:=w) rfl 24 _ _ rfl #[zy z6 0,zy z6 0,zy z6 0,zy z6 0,zy z6 0,zy z6 0,zy z6 0,zy z6 0,zy z6 0,zy z6 0,zy z6 0,zy z6 0,zy z6 0,zy z6 0,zy z6 0,zy z6 0,zy z6 0,zy z6 0,zy z6 0,zy z6 0,zy z6 0,zy z6 0,zy z6 0,zy z6 0,zy z6 0,zy z6 0,zy z6 0,zy z6 0,zy z6 0,zy z6 0,zy z6 0,zy z6 0] K.toArray w.heap.size rfl ?_ ?_ hG.out hE.out hL.out ?_);rfl;rfl))
 refine bodyPost_ret (v := .tuple #[.agg K.toArray,.bool true]) ?_ rfl ⟨by simp only[hM.out],hO.out⟩;rw[results_cell_tmp rfl];simp[asAddr,Result.andThen,hJ.out]
end
end Go.Proofs.YtcddlemkimbkcaaGreatDoor
