/-
 The walks of cachetref17's Spent and was.
-/
import Derived.Test.YtcddlemkimbkcaaGreatDoorKRefRows2
open Go.Lib renaming hid→za,byteCells→zb
open Go renaming yieldsIf_load_mid→zj
open Or renaming inl→zv
open Go.Value renaming int→zy
open Go.IntKind renaming u8→z6
namespace Go.Proofs.YtcddlemkimbkcaaGreatDoor
set_option linter.unusedVariables false
set_option linter.unusedSimpArgs false
set_option linter.unusedSectionVars false
set_option maxRecDepth 100000
set_option maxHeartbeats 2000000
section
open Go.RowKit Go.Shelf
variable [OldK]
theorem zk9 {cs:List Cm}{k:Bs}{i:Nat}(hi:i<cs.length):(cs.drop i).find? (zcb k)=if zcb k cs[i] then some cs[i] else (cs.drop (i+1)).find? (zcb k):=by
 rw[List.drop_eq_getElem_cons hi,List.find?_cons];cases zcb k cs[i]<;>rfl
theorem zc8 {m:List CameV} (h:∀ c∈m,c.e.ok) (n:Bs):(zad (m.map CameV.cm) n).1.length=32:=by
 unfold zad;cases hl:zc7 (m.map CameV.cm) n with
 | none=>rfl
 | some c =>
   simp only;split
   ·rfl
   obtain⟨c',hc,rfl⟩:=List.mem_map.1 (zkn hl).1;exact(h c' hc).2.1
def zl7 (m:List Cm) (k:Bs):Option Cm→Bool
 | some c=>!(zad m c.1.ident).2||decide ((zad m c.1.ident).1≠k)
 | none=>false
theorem zpw (m:List Cm)(k:Bs):zbm m k=zl7 m k (m.find? (zcb k)):=by
 unfold zbm;cases m.find? (zcb k)<;>rfl
theorem zis (m:List CameV) (v:Value) (k:Bs) (w:World) (h:CRow m v w) (hk:k.length=32) :
 Calls Tryz.prog 77 #[v,.agg (zb k).toArray] w fun e w'=>e = .returned (.bool (zbm (m.map CameV.cm) k))∧Fr NoB w w':=by
 have hF:Fr NoB w (w.alloc (.cells (zb k).toArray 24)):=Fr.refl.alloc _;have hR:=jg (heap_alloc_new w (.cells (zb k).toArray 24));rw[List.toList_toArray]at hR;have hZ:(Tryz.prog.info? 24).map (·.size)=some (zb k).length:=by rw[jb,ja,hk]
 have hC:=h.keep hF;obtain⟨a,cap,hv⟩:=h.form;have hlen:=h.len;have hS:w.heap.size<(w.alloc (.cells (zb k).toArray 24)).heap.size:=by rw[World.size_alloc];omega
 obtain⟨F,hm⟩:∃ F,(m.map CameV.cm).find? (zcb k)=F:=⟨_,rfl⟩;have ha:=zpw (m.map CameV.cm) k;rw[hm]at ha;obtain⟨RS,hV⟩:∃ x,zbm (m.map CameV.cm) k=x:=⟨_,rfl⟩;rw[hV]at ha ⊢;obtain⟨C,ho⟩:∃ C,zb k=C:=⟨_,rfl⟩;rw[ho]at hF hR hZ hC hS ⊢;have h8:=za ho;have hw:=za ha;have AE:=za hm;clear h ha hm hV ho;subst hv;go_enter Tryz.func77,Tryz.ntmps77
 go_upto_region 1 with(fail)
 change Code.wp _ _ _ _ (w.alloc (.cells C.toArray 24));obtain⟨W,hW⟩:∃ W,w.alloc (.cells C.toArray 24)=W:=⟨_,rfl⟩;rw[hW]at hF hR hC hS ⊢;obtain⟨p,hp⟩:∃ p,w.heap.size=p:=⟨_,rfl⟩;rw[hp]at hR hS ⊢;clear hW hp;have HR:=za hR;have HF:=za hF;have HZ:=za hZ;have HC:=za hC;have hq:=za hS;clear hR hF hZ hC hS
 go_wp2_with fail
 go_loopg [5] (m.length+1) (fun gf vi wr=>∃ i:Nat,vi = .int .i64 i∧i≤m.length∧i+gf=m.length+1∧Hid (((m.map CameV.cm).drop i).find? (zcb k)=F)∧Hid (Fr NoB W wr))
 case atStart=>exact⟨0,rfl,by omega,by omega,AE,za Fr.refl⟩
 case round =>
  obtain⟨i,rfl,hi,hig,HD,hO⟩:=hrel;by_cases hg:i<m.length
  ·have hf:decide ((i:Int)<m.length)=true:=decide_eq_true (by omega);have hy:wrap64 ((i:Int)+1)=(i:Int)+1:=by unfold wrap64;omega
   have hd:=HC.out.keep hO.out;obtain⟨b,cap',h9,hb,hr⟩:=hd.get hg
   injection h9 with e1 e2 e3
   subst e1 e3;have hT:=hd.ok _ (List.getElem_mem hg);obtain⟨k0,k1,k2,-⟩:=ze4 hT hr;have hB:=zk9 (k:=k) (cs:=m.map CameV.cm) (i:=i) (by simpa using hg);rw[List.getElem_map,HD.out]at hB;obtain⟨c,hc⟩:∃ c,m[i]=c:=⟨_,rfl⟩;rw[hc]at k0 k1 k2 hT hB;have hH:(zb c.e.key).length=32:=by rw[ja];exact hT.2.1
   have hL:=fun V=>zq6 c.e.key k hT.2.1 hk V
   simp only[h8.out]at hL;obtain⟨K,hK⟩:∃ K,zb c.e.key=K:=⟨_,rfl⟩;rw[hK]at k2 hH;simp only[hK]at hL;have h7:=za k2;have Hbw:=za hb;have Hkz:Hid ((Tryz.prog.info? 24).map (·.size)=some K.length):=za (by rw[jb,hH]);have Heq:=za hL;have Hdf:=za hB;have AF:=za hd;clear hr hT k2 hH hL hB hK hc hb hd;by_cases h3:c.e.op=3
   ·have hh:zcb k c.cm=false:=by simp[zcb,CameV.cm,h3]
    have hB:=Hdf.out;rw[hh]at hB;have hx:=za hB.symm;rw[h3]at k0;clear hB Hdf hh h3
    go_wp2_with fail
    refine wp_region_held_drew (S:=fun V=>Hid (Fr NoB wr V)) (by kernel_rfl) (za Fr.refl.drew) (fun hA=>?_);simp only[qV]
    iterate 17
     first
     | refine qt (v:=undef) rfl (Or.inr ⟨by rfl,rfl⟩) hA ?_
       try simp only[Act.put,qP]
     | refine qt (v:=?_) rfl (zv ⟨by rfl,?_⟩) hA ?_
       rotate_left
       ·intro W hJ;have h1:=Fr.cell hJ.out k0 (fun _ h=>h)
        try simp only[qQ]
        go_simp
        try rw[if_neg (by omega)]
        try with_reducible rfl
       try simp only[Act.put,qP]
    refine wpAnyH_done (by kernel_rfl) ?_ _;have HE:=za (hO.out.trans' hA.out);clear hA
    go_wp2_with fail
    go_roundg (gk - 1)
    case measure=>omega
    case rel=>exact⟨i+1,by simp[hy],by omega,by omega,za (by simpa using hx.out),HE⟩
   have h3':(c.e.op != 3)=true:=by simpa using h3
   by_cases hY:c.e.key=k
   ·have hh:zcb k c.cm=true:=by simp[zcb,CameV.cm,h3,hY]
    have hB:=Hdf.out;rw[hh]at hB;have hE:=hw.out;rw[hB]at hE;simp only[if_true,zl7]at hE;rw[show(c.cm).1.ident=c.e.ident from rfl]at hE;have hM:(c.e.key==k)=true:=by simpa using hY
    rw[hM]at Heq;obtain⟨⟨bk,bh⟩,hj⟩:∃ x,zad (m.map CameV.cm) c.e.ident=x:=⟨_,rfl⟩;rw[hj]at hE;have hX:=za hE;have Hbk:=za hj;have Hcr:=AF;clear hB Hdf hh hE hj hw
    go_wp2_with fail
    refine wp_region_held_drew (S:=fun V=>Hid (Fr NoB wr V)) (by kernel_rfl) (za Fr.refl.drew) (fun hA=>?_);simp only[qV]
    iterate 13
     refine qt (v:=?_) rfl (zv ⟨by rfl,?_⟩) hA ?_;rotate_left
     ·intro W hJ;have h1:=Fr.cell hJ.out k0 (fun _ h=>h);have hL:=Heq.out
      try simp only[qQ]
      go_simp
      try rw[if_neg (by omega)]
      try with_reducible rfl
     try simp only[Act.put,qP]
    refine qi (i:=13) rfl (zj (by rfl) 24 _ rfl b (i * 71+37) rfl K (.array 32 5) (fun V h=>je h7.out h.out Hbw.out (fun _ h=>h)) z7 rfl Hkz.out) hA ?_
    try simp only[Act.put,qP]
    refine qi (i:=14) rfl (zj (by rfl) 24 _ rfl p 0 rfl C (.array 32 5) (fun V h=>je HR.out (hO.out.trans' h.out) hq.out (fun _ h=>h)) z7 rfl HZ.out) hA ?_
    try simp only[Act.put,qP]
    iterate 2
     refine qt (v:=?_) rfl (zv ⟨by rfl,?_⟩) hA ?_;rotate_left
     ·intro W hJ;have h1:=Fr.cell hJ.out k0 (fun _ h=>h);have hL:=Heq.out
      try simp only[qQ]
      go_simp
      try rw[if_neg (by omega)]
      try with_reducible rfl
     try simp only[Act.put,qP]
    refine wpAnyH_done (by kernel_rfl) ?_ _;have hl:=hO.out.trans' hA.out;have hI:=zel m _ c.e.ident wr.drew (HC.out.keep hl);have hU:=zc8 HC.out.ok c.e.ident;rw[Hbk.out]at hI hU;have k1d:=Fr.cell hA.out k1 (fun _ h=>h);have hD:=fun V=>zjo bk k hU hk V
    have hG:=fun V=>zdi bk k hU hk V
    have hH:=ja bk;rw[hU]at hH;have he:=all_oneCell_toArray (j0 bk);obtain⟨KB,h5⟩:∃ x,zb bk=x:=⟨_,rfl⟩;simp only[h5]at hI hH he hD hG;simp only[h8.out]at hD hG;have Hbnd:=za hI;have hu:Hid ((Tryz.prog.info? 24).map (·.size)=some KB.length):=za (by rw[jb,hH]);have ht:Hid ((Tryz.prog.info? 24).map (·.size)=some KB.toArray.size):=za (by rw[jb,List.size_toArray,hH]);have hs:Hid ((#[zy z6 0,zy z6 0,zy z6 0,zy z6 0,zy z6 0,zy z6 0,zy z6 0,zy z6 0,zy z6 0,zy z6 0,zy z6 0,zy z6 0,zy z6 0,zy z6 0,zy z6 0,zy z6 0,zy z6 0,zy z6 0,zy z6 0,zy z6 0,zy z6 0,zy z6 0,zy z6 0,zy z6 0,zy z6 0,zy z6 0,zy z6 0,zy z6 0,zy z6 0,zy z6 0,zy z6 0,zy z6 0]:Array Value).size=KB.toArray.size):=za (by rw[show KB.toArray.size=32 by rw[List.size_toArray,hH]];rfl);have AA:=za he;have AD:=za hl;have Hneq:=za hD;have Heqi:=za hG;clear hA k0 k1 hl hI hU hH he h5 hD hG
    go_wp2_with fail
    refine Hbnd.out.mono ?_;rintro r w7 ⟨rfl,h6⟩;have hN:=h6.alloc (.cells KB.toArray 24);have hQ:=jg (heap_alloc_new w7 (.cells KB.toArray 24));rw[List.toList_toArray]at hQ;clear Hbnd
    go_upto_region 6 with((with_reducible refine jh (w:=w7) rfl 24 _ _ rfl _ KB.toArray w7.heap.size rfl ?_ ?_ ht.out hs.out AA.out ?_);rfl;rfl)
    change Code.wp _ _ _ _ (w7.alloc (.cells KB.toArray 24));obtain⟨w8,hz⟩:∃ V,w7.alloc (.cells KB.toArray 24)=V:=⟨_,rfl⟩;rw[hz]at hN hQ ⊢;obtain⟨q8,hP⟩:∃ x,w7.heap.size=x:=⟨_,rfl⟩;rw[hP]at hQ ⊢;have AC:=za hQ;have hn:=AD.out.trans' hN;have AB:=za (je HR.out hn hq.out (fun _ h=>h));have HE:=za (HF.out.trans' hn);clear h6 hN hQ hz hP hn;cases bh with
    | false =>
      have h2:=hX.out;simp only[Bool.not_false,Bool.true_or]at h2;subst h2
      go_wp2_with fail
      go_ret;exact⟨rfl,HE.out⟩
    | true =>
      have h2:=hX.out;have h4:(bk != k)=decide (bk≠k):=by by_cases e:bk=k<;>simp[e]
      simp only[Bool.not_true,Bool.false_or]at h2;subst h2;have hD:=Hneq.out w8;have hG:=Heqi.out w8;rw[h4]at hD;clear h4
      go_wp2_with (first
       | (with_reducible refine z8 24 _ rfl q8 0 rfl KB (.array 32 5) AC.out z7 rfl hu.out rfl ?_)
       | (with_reducible refine z8 24 _ rfl p 0 rfl C (.array 32 5) AB.out z7 rfl HZ.out rfl ?_))
      go_ret;refine⟨?_,HE.out⟩;by_cases e:bk=k<;>simp[e]
   have hh:zcb k c.cm=false:=by simp[zcb,CameV.cm,hY]
   have hB:=Hdf.out;rw[hh]at hB;have hx:=za hB.symm;have hM:(c.e.key==k)=false:=by simpa using hY
   rw[hM]at Heq;clear hB Hdf hh h3
   go_wp2_with fail
   refine wp_region_held_drew (S:=fun V=>Hid (Fr NoB wr V)) (by kernel_rfl) (za Fr.refl.drew) (fun hA=>?_);simp only[qV]
   iterate 13
    refine qt (v:=?_) rfl (zv ⟨by rfl,?_⟩) hA ?_;rotate_left
    ·intro W hJ;have h1:=Fr.cell hJ.out k0 (fun _ h=>h);have hL:=Heq.out
     try simp only[qQ]
     go_simp
     try rw[if_neg (by omega)]
     try with_reducible rfl
    try simp only[Act.put,qP]
   refine qi (i:=13) rfl (zj (by rfl) 24 _ rfl b (i * 71+37) rfl K (.array 32 5) (fun V h=>je h7.out h.out Hbw.out (fun _ h=>h)) z7 rfl Hkz.out) hA ?_
   try simp only[Act.put,qP]
   refine qi (i:=14) rfl (zj (by rfl) 24 _ rfl p 0 rfl C (.array 32 5) (fun V h=>je HR.out (hO.out.trans' h.out) hq.out (fun _ h=>h)) z7 rfl HZ.out) hA ?_
   try simp only[Act.put,qP]
   iterate 2
    refine qt (v:=?_) rfl (zv ⟨by rfl,?_⟩) hA ?_;rotate_left
    ·intro W hJ;have h1:=Fr.cell hJ.out k0 (fun _ h=>h);have hL:=Heq.out
     try simp only[qQ]
     go_simp
     try rw[if_neg (by omega)]
     try with_reducible rfl
    try simp only[Act.put,qP]
   refine wpAnyH_done (by kernel_rfl) ?_ _;have HE:=za (hO.out.trans' hA.out);clear hA
   go_wp2_with fail
   go_roundg (gk - 1)
   case measure=>omega
   case rel=>exact⟨i+1,by simp[hy],by omega,by omega,za (by simpa using hx.out),HE⟩
  have hf:decide ((i:Int)<m.length)=false:=decide_eq_false (by omega);have h0:((m.map CameV.cm).drop i).find? (zcb k)=none:=by rw[List.drop_eq_nil_of_le (by simp;omega)];rfl
  have h1:=HD.out;rw[h0]at h1;have h2:=hw.out;rw[← h1]at h2;simp only[zl7]at h2;subst h2;have HE:=za (HF.out.trans' hO.out);clear h0 h1
  go_wp2_with fail
  go_ret;exact⟨rfl,HE.out⟩
end
section
theorem zmo (a b:UInt8)(x y:Bs):Op.bytesLess (a :: x) (b :: y)=(decide (a.toNat<b.toNat)||(decide (a.toNat=b.toNat)&&Op.bytesLess x y)):=by
 rw[Op.bytesLess];have h1:decide (a<b)=decide (a.toNat<b.toNat):=by rw[decide_eq_decide];exact UInt8.lt_iff_toNat_lt
 have h2:(a==b)=decide (a.toNat=b.toNat):=by rw[Bool.eq_iff_iff,beq_iff_eq,decide_eq_true_eq];exact UInt8.toNat_inj.symm
 rw[h1,h2]
theorem zwa:∀ x:Bs,Op.bytesLess x x=false:=by
 intro x
 induction x with
 | nil=>rfl
 | cons a x ih=>rw[zmo,ih];simp
theorem zql:∀ x y:Bs,Op.bytesLess x y=true→Op.bytesLess y x=false:=by
 intro x
 induction x with
 | nil=>intro y _;cases y<;>rfl
 | cons a x ih =>
   intro y h;cases y with
   | nil=>simp[Op.bytesLess]at h
   | cons b y =>
     rw[zmo]at h ⊢;simp only[Bool.or_eq_true,Bool.and_eq_true,decide_eq_true_eq]at h;rw[Bool.or_eq_false_iff,decide_eq_false_iff_not];rcases h with h | ⟨h,h'⟩
     ·refine⟨by omega,?_⟩;rw[decide_eq_false (by omega),Bool.false_and]
     refine⟨by omega,?_⟩;rw[ih y h',Bool.and_false]
theorem zu4:∀ x y:Bs,Op.bytesLess x y=false→Op.bytesLess y x=false→x=y:=by
 intro x
 induction x with
 | nil=>intro y h1 h2;cases y with
   | nil=>rfl
   | cons b y=>simp[Op.bytesLess]at h1
 | cons a x ih =>
   intro y h1 h2;cases y with
   | nil=>simp[Op.bytesLess]at h2
   | cons b y =>
     rw[zmo]at h1 h2;simp only[Bool.or_eq_false_iff,Bool.and_eq_false_iff,decide_eq_false_iff_not]at h1 h2;have e:a.toNat=b.toNat:=by omega
     have e2:a=b:=UInt8.toNat_inj.1 e;subst e2;rw[ih y (h1.2.resolve_left (by simp)) (h2.2.resolve_left (by simp))]
theorem zqk (x y:Bs):Op.bytesLess x y = !(Op.bytesLess y x||y==x):=by
 cases h:Op.bytesLess x y with
 | true =>
   have h2:=zql x y h
   have h3:(y==x)=false:=by
    rw[beq_eq_false_iff_ne];rintro rfl;rw[zwa]at h;cases h
   rw[h2,h3];rfl
 | false =>
   cases h2:Op.bytesLess y x with
   | true=>rfl
   | false =>
     obtain rfl:=zu4 x y h h2;simp
def zvq (s:Sg):Bool:=s.id.isEmpty||(zbn s.id&&decide (s.key=jo))
def zl4:Option Bs→List Sg→Bool
 | _,[]=>true
 | p,s :: r=>zvq s&&((match p with | none=>true | some q=>Op.bytesLess q (jm s))&&zl4 (some (jm s)) r)
def zkl (l:List Sg):Bool:=decide (1≤l.length)&&(decide (l.length≤8)&&zl4 none l)
theorem zpx:∀ (l:List Sg) (q:Bs),zl4 (some q) l=zar q l:=by
 intro l
 induction l with
 | nil=>intro q;rfl
 | cons s r ih =>
   intro q
   have e1:(zvq s&&Op.bytesLess q (jm s)) = !zpp q s:=by
    unfold zvq zpp;rw[zqk q]
    have e2:(s.key != jo) = !decide (s.key=jo):=by
     by_cases hk:s.key=jo<;>simp[hk]
    rw[e2];generalize (Op.bytesLess (jm s) q||jm s==q)=A;generalize zbn s.id=B;generalize s.id.isEmpty=C;generalize decide (s.key=jo)=D;cases A<;>cases B<;>cases C<;>cases D<;>rfl
   rw[zl4,zar,ih,← Bool.and_assoc];show((zvq s&&Op.bytesLess q (jm s))&&_)=_;rw[e1];cases zpp q s<;>rfl
theorem zpl (s:Sg):jm s≠[]:=by
 unfold jm;split
 ·simp[zje]
 assumption
theorem zsh (l:List Sg):zkl l=zea l:=by
 unfold zkl zea;cases l with
 | nil=>rfl
 | cons s r =>
   have e:zl4 none (s :: r)=zar [] (s :: r):=by
    rw[← zpx,zl4,zl4]
    have h:Op.bytesLess [] (jm s)=true:=by
     have:=zpl s;cases hs:jm s with
     | nil=>exact absurd hs this
     | cons a x=>rfl
    simp only[h]
   rw[e];generalize zar [] (s :: r)=A;generalize decide ((s :: r).length≤8)=B;generalize decide (1≤(s :: r).length)=C;cases A<;>cases B<;>cases C<;>rfl
def zkp (sub:Bs→Bool) (e:En):Bool :=
 zkl e.sigs &&
 (let binding:=decide (e.op=0)&&(e.ident.isEmpty&&decide (e.key=jo))
  let digest:=decide (e.digest=jo)
  if e.kind=1 then e.typ.isEmpty&&(e.payload.isEmpty&&binding)
  else if e.kind=2 then digest&&(zck e.typ&&(decide (e.payload.length≤2048)&&binding))
  else if e.kind=3 then digest&&(e.typ.isEmpty&&(sub e.payload&&binding))
  else if e.kind=4 then digest&&(e.typ.isEmpty&&(e.payload.isEmpty&&(decide (1≤e.op)&&(decide (e.op≤3)&&(zbn e.ident&&(decide (e.op≠3)||decide (e.key=jo)))))))
  else false)
theorem za7 (a b:Bs):(a==b)=decide (a=b):=by
 by_cases h:a=b<;>simp[h]
theorem zjy (a:Bs):(a==[])=a.isEmpty:=by cases a<;>rfl
theorem zng (sub:Bs→Bool) (e:En):zkp sub e=zda sub e:=by
 unfold zkp zda;rw[zsh];generalize hS:zea e.sigs=S;generalize hA:e.typ.isEmpty=A;generalize hB:e.payload.isEmpty=B;generalize hC:e.ident.isEmpty=C;generalize hD:decide (e.op=0)=D;generalize hE:decide (e.key=jo)=E;generalize hG:decide (e.digest=jo)=G;by_cases h1:e.kind=1
 ·simp only[h1,Int.reduceEq,reduceIte,zmh,zba,zs7,zfv,zc4,za7 jo,zjy,hA,hB,hC,hD,decide_true,Bool.true_and,Bool.and_true];rw[za7,hE]
 by_cases h2:e.kind=2
 ·simp only[h2,Int.reduceEq,reduceIte,zmh,zba,zs7,zfv,zc4,zjy,hA,hB,hC,hD,decide_true,Bool.true_and,Bool.and_true,List.isEmpty_nil];rw[za7 e.digest,hG,za7,hE];generalize zck e.typ=T;generalize decide (e.payload.length≤2048)=P;cases S<;>cases T<;>cases P<;>cases C<;>cases D<;>cases E<;>cases G<;>rfl
 by_cases h3:e.kind=3
 ·simp only[h3,Int.reduceEq,reduceIte,zmh,zba,zs7,zfv,zc4,zjy,hA,hB,hC,hD,decide_true,Bool.true_and,Bool.and_true,List.isEmpty_nil];rw[za7 e.digest,hG,za7,hE];generalize sub e.payload=T;cases S<;>cases T<;>cases A<;>cases C<;>cases D<;>cases E<;>cases G<;>rfl
 by_cases h4:e.kind=4
 ·simp only [h4,Int.reduceEq,reduceIte,zmh,zba,zs7,zfv,zc4,zjy,hA,hB,hC,hD,decide_true,Bool.true_and,Bool.and_true,List.isEmpty_nil];rw[za7 e.digest,hG]
  have hK:((if e.op=3 then e.key else jo)==jo)=(decide (e.op≠3)||E):=by
   by_cases h3:e.op=3
   ·rw[if_pos h3,za7,hE];simp[h3]
   rw[if_neg h3];simp[h3]
  rw[hK];generalize decide (1≤e.op)=O1;generalize decide (e.op≤3)=O3;generalize zbn e.ident=T;generalize (decide (e.op≠3)||E)=K;cases S<;>cases T<;>cases A<;>cases B<;>cases O1<;>cases O3<;>cases G<;>cases K<;>rfl
 simp only[h1,h2,h3,h4,if_false,zmh,Bool.false_and,Bool.and_false]
/-! which bindings may come -/
def za9 (e:En) (by':Bs):Bool:=e.sigs.any (fun s=>decide (jm s=by'))
def zsg (m:List Cm) (k:Bs):Bool:=m.any (zcb k)
def zw4 (m:List Cm) (e:En):Bool :=
 if e.op=1 then !(zad m e.ident).2&&(!zsg m e.key&&(decide (e.sigs.length=1)&&za9 e (zje++zcl e.key)))
 else if e.op=2 then (zad m e.ident).2&&(!zsg m e.key&&(decide (e.sigs.length=2)&&(za9 e (zje++zcl e.key)&&za9 e e.ident)))
 else if e.op=3 then (zad m e.ident).2&&(decide (e.sigs.length=1)&&za9 e e.ident)
 else false
def zkr (sub:Bs→Bool) (m:List Cm) (e:En):Nat :=
 if zkp sub e=false∨e.kind≠4 then 11 else if zw4 m e then 0 else 8
theorem zvy (l:List Sg)(x:Sg):zbh l [x]=(decide (l.length=1)&&l.any (fun s=>decide (jm s=jm x))):=by
 rcases l with _ | ⟨a,_ | ⟨b,r⟩⟩
 ·rfl
 ·simp[zbh,za7]
 simp[zbh]
theorem zjp {n:Bs}(h:zbn n=true)(k:Bs):n≠zje++zcl k:=by
 rintro rfl;unfold zbn at h;simp only[Bool.and_eq_true,List.all_append]at h;have:=h.2.2.1
 revert this
 decide
theorem zuq {t:Tb} {m:List Cm} (h:Tied t m) {sub:Bs→Bool} {e:En} (hg:zda sub e=true) (h4:e.kind=4) :
 zw4 m e = !(decide ((t.last e.ident).has≠decide (e.op≠1))||(decide (e.op≠3)&&decide (t.life e.key≠0) || !pBy e (zcd e))):=by
 have hb:=h.bound e.ident
 have hw:zsg m e.key=decide (t.life e.key≠0):=by
  rw[Bool.eq_iff_iff,decide_eq_true_eq,h.was];unfold zsg;rw[List.any_eq_true]
 have hh:(zad m e.ident).2=(t.last e.ident).has:=by rw[← hb];rfl
 rw[← zng]at hg;unfold zkp at hg;rw[h4]at hg;simp only[Bool.and_eq_true,decide_eq_true_eq,show((4:Int)=1)=False by simp,show((4:Int)=2)=False by simp,show((4:Int)=3)=False by simp,if_false,if_true]at hg;obtain⟨hs,-,-,-,ho1,ho3,hn,-⟩:=hg
 have hF:e.ident≠[]:=by
  intro e0;rw[e0]at hn;cases hn
 have hB:jm (zjc e)=zje++zcl e.key:=rfl;have hA:jm (zfg e)=e.ident:=if_neg hF;unfold zw4;rw[hh,hw];have hC:e.op=1∨e.op=2∨e.op=3:=by omega
 rcases hC with hC | hC | hC
 ·simp only [hC,if_true]
  have:pBy e (zcd e)=(decide (e.sigs.length=1)&&za9 e (zje++zcl e.key)):=by
   unfold pBy zcd za9;rw[if_pos hC];show zbh e.sigs [zjc e]=_;rw[zvy,hB]
  rw[this];generalize decide (t.life e.key≠0)=A;generalize (decide (e.sigs.length=1)&&za9 e (zje++zcl e.key))=B;cases(t.last e.ident).has<;>cases A<;>cases B<;>rfl
 ·simp only [hC,show((2:Int)=1)=False by simp,if_false,if_true]
  have:pBy e (zcd e)=(decide (e.sigs.length=2)&&(za9 e (zje++zcl e.key)&&za9 e e.ident)):=by
   unfold pBy zcd za9;rw[if_neg (by omega),if_pos hC];have hD:=zjp hn e.key;unfold zhi;simp only;rw[hB,hA];unfold zkl at hs;simp only[Bool.and_eq_true]at hs;generalize e.sigs=L at hs ⊢;rcases L with _ | ⟨a,_ | ⟨b,_ | ⟨c,r⟩⟩⟩
   ·split<;>rfl
   ·split<;>simp[zbh]
   ·have hE:Op.bytesLess (jm a) (jm b)=true:=by
     simp only[zl4,Bool.and_eq_true]at hs;exact hs.2.2.2.2.2.1
    obtain⟨K,hK⟩:∃ K,zje++zcl e.key=K:=⟨_,rfl⟩;rw[hK]at hB hD ⊢;by_cases hl:Op.bytesLess K e.ident=true
    ·rw[if_pos hl,Bool.eq_iff_iff];simp only[zbh,hB,hA,za7,List.any_cons,List.any_nil,Bool.or_false,Bool.and_true,Bool.and_eq_true,Bool.or_eq_true,decide_eq_true_eq];constructor
     ·rintro⟨h1,h2⟩;exact⟨rfl,.inl h1,.inr h2⟩
     rintro⟨-,h1 | h1,h2 | h2⟩
     ·exact absurd (h2.symm.trans h1) hD
     ·exact⟨h1,h2⟩
     ·rw[h2,h1]at hE;rw[zql _ _ hE]at hl;cases hl
     exact absurd (h2.symm.trans h1) hD
    rw[if_neg hl,Bool.eq_iff_iff];simp only[zbh,hB,hA,za7,List.any_cons,List.any_nil,Bool.or_false,Bool.and_true,Bool.and_eq_true,Bool.or_eq_true,decide_eq_true_eq];constructor
    ·rintro⟨h1,h2⟩;exact⟨rfl,.inr h2,.inl h1⟩
    rintro⟨-,h1 | h1,h2 | h2⟩
    ·exact absurd (h2.symm.trans h1) hD
    ·rw[h1,h2]at hE;exact absurd hE hl
    ·exact⟨h2,h1⟩
    exact absurd (h2.symm.trans h1) hD
   split<;>simp[zbh]
  rw[this];generalize decide (t.life e.key≠0)=A;generalize (decide (e.sigs.length=2)&&(za9 e (zje++zcl e.key)&&za9 e e.ident))=B;cases(t.last e.ident).has<;>cases A<;>cases B<;>rfl
 simp only[hC,show((3:Int)=1)=False by simp,show((3:Int)=2)=False by simp,if_false,if_true]
 have:pBy e (zcd e)=(decide (e.sigs.length=1)&&za9 e e.ident):=by
  unfold pBy zcd za9;rw[if_neg (by omega),if_neg (by omega)];show zbh e.sigs [zfg e]=_;rw[zvy,hA]
 rw[this];generalize decide (t.life e.key≠0)=A;generalize (decide (e.sigs.length=1)&&za9 e e.ident)=B;cases(t.last e.ident).has<;>cases A<;>cases B<;>rfl
theorem zp0 {t:Tb} {m:List Cm} (h:Tied t m) (sub:Bs→Bool) (e:En):zkr sub m e=zb6 sub t e:=by
 unfold zkr zb6;rw[zng];by_cases hk:zda sub e=false∨e.kind≠4
 ·rw[if_pos hk,if_pos hk]
 rw[if_neg hk,if_neg hk]
 have h1:zda sub e=true:=by
  cases hp:zda sub e with
  | true=>rfl
  | false=>exact absurd (.inl hp) hk
 have h4:e.kind=4:=Decidable.byContradiction fun hn=>hk (.inr hn)
 rw[zuq h h1 h4];by_cases hc:(t.last e.ident).has≠decide (e.op≠1)∨(e.op≠3∧t.life e.key≠0)∨pBy e (zcd e)=false
 ·rw[if_pos hc,if_neg];rw[Bool.not_eq_true,Bool.not_eq_false'];simp only[Bool.or_eq_true,Bool.and_eq_true,decide_eq_true_eq,Bool.not_eq_true'];exact hc
 rw[if_neg hc,if_pos];rw[Bool.not_eq_true'];rw[← Bool.not_eq_true];simp only[Bool.or_eq_true,Bool.and_eq_true,decide_eq_true_eq,Bool.not_eq_true'];exact hc
theorem zqa (s s':Bs→Bool) (t:Tb) (e:En):zb6 s t e=zb6 s' t e:=by
 unfold zb6;by_cases h4:e.kind=4
 ·have:zda s e=zda s' e:=by unfold zda zmh;rw[h4];rfl
  rw[this]
 rw[if_pos (.inr h4),if_pos (.inr h4)]
theorem zsl (s:Bs→Bool)(t:Tb)(e:En):zb6 s t e≤20:=by
 unfold zb6;split
 ·omega
 split<;>omega
end
section
open Go.RowKit Go.Shelf
variable [OldK]
theorem zuo (m:List Cm)(k:Bs):zsg m k=(m.find? (zcb k)).isSome:=by
 unfold zsg;rw[Bool.eq_iff_iff,List.any_eq_true,List.find?_isSome]
theorem zsa (m:List CameV) (v:Value) (k:Bs) (w:World) (h:CRow m v w) (hk:k.length=32) :
 Calls Tryz.prog 70 #[v,.agg (zb k).toArray] w fun e w'=>e = .returned (.bool (zsg (m.map CameV.cm) k))∧Fr NoB w w':=by
 have hF:Fr NoB w (w.alloc (.cells (zb k).toArray 24)):=Fr.refl.alloc _;have hR:=jg (heap_alloc_new w (.cells (zb k).toArray 24));rw[List.toList_toArray]at hR;have hZ:(Tryz.prog.info? 24).map (·.size)=some (zb k).length:=by rw[jb,ja,hk]
 have hC:=h.keep hF;obtain⟨a,cap,hv⟩:=h.form;have hlen:=h.len;have hJ:w.heap.size<(w.alloc (.cells (zb k).toArray 24)).heap.size:=by rw[World.size_alloc];omega
 obtain⟨F,hU⟩:∃ F,(m.map CameV.cm).find? (zcb k)=F:=⟨_,rfl⟩;have hO:=zuo (m.map CameV.cm) k;rw[hU]at hO;obtain⟨RS,hM⟩:∃ x,zsg (m.map CameV.cm) k=x:=⟨_,rfl⟩;rw[hM]at hO ⊢;obtain⟨C,hV⟩:∃ C,zb k=C:=⟨_,rfl⟩;rw[hV]at hF hR hZ hC hJ ⊢;have hj:=za hV;have hd:=za hO;have hg:=za hU;clear h hO hU hM hV;subst hv;go_enter Tryz.func70,Tryz.ntmps70
 go_upto_region 1 with(fail)
 change Code.wp _ _ _ _ (w.alloc (.cells C.toArray 24));obtain⟨W,hW⟩:∃ W,w.alloc (.cells C.toArray 24)=W:=⟨_,rfl⟩;rw[hW]at hF hR hC hJ ⊢;obtain⟨p,hp⟩:∃ p,w.heap.size=p:=⟨_,rfl⟩;rw[hp]at hR hJ ⊢;clear hW hp;have HR:=za hR;have HF:=za hF;have HZ:=za hZ;have HC:=za hC;have ha:=za hJ;clear hR hF hZ hC hJ
 go_wp2_with fail
 go_loopg [5] (m.length+1) (fun gf vi wr=>∃ i:Nat,vi = .int .i64 i∧i≤m.length∧i+gf=m.length+1∧Hid (((m.map CameV.cm).drop i).find? (zcb k)=F)∧Hid (Fr NoB W wr))
 case atStart=>exact⟨0,rfl,by omega,by omega,hg,za Fr.refl⟩
 case round =>
  obtain⟨i,rfl,hi,hig,HD,hI⟩:=hrel;by_cases hS:i<m.length
  ·have hQ:decide ((i:Int)<m.length)=true:=decide_eq_true (by omega);have hY:wrap64 ((i:Int)+1)=(i:Int)+1:=by unfold wrap64;omega
   have hP:=HC.out.keep hI.out;obtain⟨b,cap',hf,hb,hr⟩:=hP.get hS
   injection hf with e1 e2 e3
   subst e1 e3;have hL:=hP.ok _ (List.getElem_mem hS);obtain⟨k0,k1,k2,-⟩:=ze4 hL hr;have hB:=zk9 (k:=k) (cs:=m.map CameV.cm) (i:=i) (by simpa using hS);rw[List.getElem_map,HD.out]at hB;obtain⟨c,hc⟩:∃ c,m[i]=c:=⟨_,rfl⟩;rw[hc]at k0 k1 k2 hL hB;have hT:(zb c.e.key).length=32:=by rw[ja];exact hL.2.1
   have hE:=fun V=>zq6 c.e.key k hL.2.1 hk V
   simp only[hj.out]at hE;obtain⟨K,hK⟩:∃ K,zb c.e.key=K:=⟨_,rfl⟩;rw[hK]at k2 hT;simp only[hK]at hE;have he:=za k2;have Hbw:=za hb;have Hkz:Hid ((Tryz.prog.info? 24).map (·.size)=some K.length):=za (by rw[jb,hT]);have Heq:=za hE;have Hdf:=za hB;have HCr:=za hP;clear hr hL k2 hT hE hB hK hc hb hP;by_cases h3:c.e.op=3
   ·have hh:zcb k c.cm=false:=by simp[zcb,CameV.cm,h3]
    have hB:=Hdf.out;rw[hh]at hB;have hX:=za hB.symm;rw[h3]at k0;clear hB Hdf hh h3
    go_wp2_with fail
    refine wp_region_held_drew (S:=fun V=>Hid (Fr NoB wr V)) (by kernel_rfl) (za Fr.refl.drew) (fun hA=>?_);simp only[qV]
    iterate 17
     first
     | refine qt (v:=undef) rfl (Or.inr ⟨by rfl,rfl⟩) hA ?_
       try simp only[Act.put,qP]
     | refine qt (v:=?_) rfl (zv ⟨by rfl,?_⟩) hA ?_
       rotate_left
       ·intro W hD;have h1:=Fr.cell hD.out k0 (fun _ h=>h)
        try simp only[qQ]
        go_simp
        try rw[if_neg (by omega)]
        try with_reducible rfl
       try simp only[Act.put,qP]
    refine wpAnyH_done (by kernel_rfl) ?_ _;have HE:=za (hI.out.trans' hA.out);clear hA
    go_wp2_with fail
    go_roundg (gk - 1)
    case measure=>omega
    case rel=>exact⟨i+1,by simp[hY],by omega,by omega,za (by simpa using hX.out),HE⟩
   have h3':(c.e.op != 3)=true:=by simpa using h3
   by_cases hN:c.e.key=k
   ·have hh:zcb k c.cm=true:=by simp[zcb,CameV.cm,h3,hN]
    have hB:=Hdf.out;rw[hh]at hB;have hH:=hd.out;rw[hB]at hH;simp only[if_true,Option.isSome_some]at hH;subst hH;have hG:(c.e.key==k)=true:=by simpa using hN
    rw[hG]at Heq;clear hB Hdf hh
    go_wp2_with fail
    refine wp_region_held_drew (S:=fun V=>Hid (Fr NoB wr V)) (by kernel_rfl) (za Fr.refl.drew) (fun hA=>?_);simp only[qV]
    iterate 13
     refine qt (v:=?_) rfl (zv ⟨by rfl,?_⟩) hA ?_;rotate_left
     ·intro W hD;have h1:=Fr.cell hD.out k0 (fun _ h=>h);have hE:=Heq.out
      try simp only[qQ]
      go_simp
      try rw[if_neg (by omega)]
      try with_reducible rfl
     try simp only[Act.put,qP]
    refine qi (i:=13) rfl (zj (by rfl) 24 _ rfl b (i * 71+37) rfl K (.array 32 5) (fun V h=>je he.out h.out Hbw.out (fun _ h=>h)) z7 rfl Hkz.out) hA ?_
    try simp only[Act.put,qP]
    refine qi (i:=14) rfl (zj (by rfl) 24 _ rfl p 0 rfl C (.array 32 5) (fun V h=>je HR.out (hI.out.trans' h.out) ha.out (fun _ h=>h)) z7 rfl HZ.out) hA ?_
    try simp only[Act.put,qP]
    iterate 2
     refine qt (v:=?_) rfl (zv ⟨by rfl,?_⟩) hA ?_;rotate_left
     ·intro W hD;have h1:=Fr.cell hD.out k0 (fun _ h=>h);have hE:=Heq.out
      try simp only[qQ]
      go_simp
      try rw[if_neg (by omega)]
      try with_reducible rfl
     try simp only[Act.put,qP]
    refine wpAnyH_done (by kernel_rfl) ?_ _;have HE:=za (HF.out.trans' (hI.out.trans' hA.out));clear hA
    go_wp2_with fail
    go_ret;exact⟨rfl,HE.out⟩
   have hh:zcb k c.cm=false:=by simp[zcb,CameV.cm,hN]
   have hB:=Hdf.out;rw[hh]at hB;have hX:=za hB.symm;have hG:(c.e.key==k)=false:=by simpa using hN
   rw[hG]at Heq;clear hB Hdf hh h3
   go_wp2_with fail
   refine wp_region_held_drew (S:=fun V=>Hid (Fr NoB wr V)) (by kernel_rfl) (za Fr.refl.drew) (fun hA=>?_);simp only[qV]
   iterate 13
    refine qt (v:=?_) rfl (zv ⟨by rfl,?_⟩) hA ?_;rotate_left
    ·intro W hD;have h1:=Fr.cell hD.out k0 (fun _ h=>h);have hE:=Heq.out
     try simp only[qQ]
     go_simp
     try rw[if_neg (by omega)]
     try with_reducible rfl
    try simp only[Act.put,qP]
   refine qi (i:=13) rfl (zj (by rfl) 24 _ rfl b (i * 71+37) rfl K (.array 32 5) (fun V h=>je he.out h.out Hbw.out (fun _ h=>h)) z7 rfl Hkz.out) hA ?_
   try simp only[Act.put,qP]
   refine qi (i:=14) rfl (zj (by rfl) 24 _ rfl p 0 rfl C (.array 32 5) (fun V h=>je HR.out (hI.out.trans' h.out) ha.out (fun _ h=>h)) z7 rfl HZ.out) hA ?_
   try simp only[Act.put,qP]
   iterate 2
    refine qt (v:=?_) rfl (zv ⟨by rfl,?_⟩) hA ?_;rotate_left
    ·intro W hD;have h1:=Fr.cell hD.out k0 (fun _ h=>h);have hE:=Heq.out
     try simp only[qQ]
     go_simp
     try rw[if_neg (by omega)]
     try with_reducible rfl
    try simp only[Act.put,qP]
   refine wpAnyH_done (by kernel_rfl) ?_ _;have HE:=za (hI.out.trans' hA.out);clear hA
   go_wp2_with fail
   go_roundg (gk - 1)
   case measure=>omega
   case rel=>exact⟨i+1,by simp[hY],by omega,by omega,za (by simpa using hX.out),HE⟩
  have hQ:decide ((i:Int)<m.length)=false:=decide_eq_false (by omega);have h0:((m.map CameV.cm).drop i).find? (zcb k)=none:=by rw[List.drop_eq_nil_of_le (by simp;omega)];rfl
  have h1:=HD.out;rw[h0]at h1;have h2:=hd.out;rw[← h1]at h2;simp only[Option.isSome_none]at h2;subst h2;have HE:=za (HF.out.trans' hI.out);clear h0 h1
  go_wp2_with fail
  go_ret;exact⟨rfl,HE.out⟩
end
end Go.Proofs.YtcddlemkimbkcaaGreatDoor
