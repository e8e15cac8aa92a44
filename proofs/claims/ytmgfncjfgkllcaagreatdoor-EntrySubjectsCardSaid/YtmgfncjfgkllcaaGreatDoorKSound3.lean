/-
 The walk of json's sound.
-/
import Derived.Test.YtmgfncjfgkllcaaGreatDoorKCellRows
import Derived.Test.YtmgfncjfgkllcaaGreatDoorKNum
import Derived.Test.YtmgfncjfgkllcaaGreatDoorKUtf
import Derived.Test.YtmgfncjfgkllcaaGreatDoorKSeen
import Derived.Test.YtmgfncjfgkllcaaGreatDoorKReader7
open Go.Lib renaming hid→za
open Go.Proofs.Tryz renaming prog→ze
open Go renaming heap_alloc_new→zh
namespace Go.Proofs.YtmgfncjfgkllcaaGreatDoor
set_option linter.unusedVariables false
set_option linter.unusedSimpArgs false
set_option linter.unusedSectionVars false
set_option maxRecDepth 100000
set_option maxHeartbeats 4000000
section
open Go.RowKit
variable [OldK]

def zpt (f:Nat):Prop:=∀ (d:Int) (S:Nat→Prop) (j:J) (v:Value) (w:World),RJ S w j v→fits 67108864 j=true→Gl w→0≤d→d+f=8 →
 Calls ze 139 #[v,.int .i64 d] w fun e w'=>e = .returned (.bool (j0 d j))∧Fr NoB w w'
theorem zd0 {α:Type}(p:List α):((p.length:Int)==0)=p.isEmpty:=by
 cases p with
 | nil=>rfl
 | cons x l=>simp;omega
theorem zaz {a b:Int}(h:¬ a=b):(a==b)=false:=by simpa using h
theorem zkn (f:Nat) (d:Int) (S:Nat→Prop) (k n:Int) (t:Bs) (l:List J) (p:List (Bs × J)) (v:Value) (w:World) (h:RJ S w (.mk k n t l p) v) (htl:t.length≤67108864) (hg:Gl w) (hd:0≤d) (hdf:d+f=8) (hk:k=0∨k=1∨k=2∨k=3) :
 Calls ze 139 #[v,.int .i64 d] w fun e w'=>e = .returned (.bool (j0 d (.mk k n t l p)))∧Fr NoB w w':=by
 obtain⟨a1,c1,a2,c2,rfl,hl,hp⟩:=h.open;obtain⟨a0,a1',a2',a3,a4,fz,hlt1⟩:=VB.at (zh w (.cells #[.int .i64 k,.int .i64 n,.string ⟨t.toArray⟩,.slice a1 l.length c1,.slice a2 p.length c2] 56));have z1:=zd0 l;have z2:=zd0 p;clear h hl hp;rcases hk with rfl | rfl | rfl | rfl
 ·unfold j0;simp only[if_true];go_enter Tryz.func139,Tryz.ntmps139
  go_wp2_with fail
  all_goals
   go_ret;refine⟨jy ?_,Fr.refl.alloc _⟩
   simp_all
   try(intros;omega)
 ·unfold j0;simp only[show ¬ (1:Int)=0 by decide,if_false,if_true];go_enter Tryz.func139,Tryz.ntmps139
  go_wp2_with fail
  all_goals
   go_ret;refine⟨jy ?_,Fr.refl.alloc _⟩
   simp_all
   try(intros;omega)
 ·unfold j0;simp only[show ¬ (2:Int)=0 by decide,show ¬ (2:Int)=1 by decide,if_false,if_true];go_enter Tryz.func139,Tryz.ntmps139
  go_wp2_with fail
  all_goals
   go_ret;refine⟨jy ?_,Fr.refl.alloc _⟩
   simp_all
   try(intros;omega)
 unfold j0;simp only[show ¬ (3:Int)=0 by decide,show ¬ (3:Int)=1 by decide,show ¬ (3:Int)=2 by decide,if_false,if_true];go_enter Tryz.func139,Tryz.ntmps139
 go_wp2_with fail
 all_goals first
  | (refine (Go.Proofs.Tryz.utf8_ValidString ⟨t.toArray⟩ _ (Nat.le_trans htl (by decide)) (hg.alloc _).utf8).mono ?_
     rintro e w1 ⟨rfl,hA⟩;have hB:=(Fr.refl (M:=NoB)).alloc _ |>.trans' (Fr.ofBelow hA)
     have Hb:=za hB;clear hB hA
     go_wp2_with fail
     all_goals
      go_ret;refine⟨jy ?_,Hb.out⟩
      simp_all
      try(intros;omega))
  | (go_ret
     refine⟨jy ?_,Fr.refl.alloc _⟩
     simp_all
     try(intros;omega))
end
section
open Go.RowKit
variable [OldK]

theorem zkm (d:Int) (S:Nat→Prop) (k n:Int) (t:Bs) (l:List J) (p:List (Bs × J)) (v:Value) (w:World) (h:RJ S w (.mk k n t l p) v) (hg:Gl w)
 (k0:(k==0)=false) (k1:(k==1)=false) (k2:(k==2)=false) (k3:(k==3)=false) (hc:(n != 0)=true∨(∃ x m,t=x :: m)∨decide (d ≥ 8)=true∨((k==4)=false∧(k==5)=false)) :
 Calls ze 139 #[v,.int .i64 d] w fun e w'=>e = .returned (.bool false)∧Fr NoB w w':=by
 obtain⟨a1,c1,a2,c2,rfl,hl,hp⟩:=h.open;obtain⟨a0,a1',a2',a3,a4,fz,hlt1⟩:=VB.at (zh w (.cells #[.int .i64 k,.int .i64 n,.string ⟨t.toArray⟩,.slice a1 l.length c1,.slice a2 p.length c2] 56));have z1:=zd0 l;have z2:=zd0 p;generalize l.isEmpty=le at *;generalize p.isEmpty=pe at *;clear h hl hp;rcases hc with hn | ⟨x,m,rfl⟩ | hd | ⟨k4,k5⟩
 all_goals
  go_enter Tryz.func139,Tryz.ntmps139
  go_wp2_with fail
  all_goals
   go_ret;exact⟨rfl,Fr.refl.alloc _⟩
theorem zrs (f:Nat) (ih:zpt f) (d:Int) (S:Nat→Prop) (l:List J) (p:List (Bs × J)) (v:Value) (w:World) (h:RJ S w (.mk 4 0 [] l p) v) (hfit:fitsl 67108864 l=true) (hll:l.length≤67108864) (hg:Gl w) (hd:0≤d) (hd8:d+1+f=8) :
 Calls ze 139 #[v,.int .i64 d] w fun e w'=>e = .returned (.bool (za5 (d+1) l&&p.isEmpty))∧Fr NoB w w':=by
 obtain⟨a1,c1,a2,c2,rfl,hl,hp⟩:=h.open;obtain⟨a0,hT,hQ,a3,a4,fz,hE⟩:=VB.at (zh w (.cells #[.int .i64 4,.int .i64 0,.string ⟨#[]⟩,.slice a1 l.length c1,.slice a2 p.length c2] 56));have hK:=zh w (.cells #[.int .i64 4,.int .i64 0,.string ⟨#[]⟩,.slice a1 l.length c1,.slice a2 p.length c2] 56);have z1:=zd0 l;have z2:=zd0 p;have hdd:decide (d ≥ 8)=false:=by rw[decide_eq_false_iff_not];omega
 generalize l.isEmpty=le at *;generalize p.isEmpty=pe at *;generalize hR:za5 (d+1) l=R;have HR:=za hR;clear h hp hR;have Hl:=za hl;clear hl;have hH:=(Fr.refl (M:=NoB)).alloc (w:=w) (.cells #[.int .i64 4,.int .i64 0,.string ⟨#[]⟩,.slice a1 l.length c1,.slice a2 p.length c2] 56);have hO:=hg.alloc (.cells #[.int .i64 4,.int .i64 0,.string ⟨#[]⟩,.slice a1 l.length c1,.slice a2 p.length c2] 56);have Hbx:=za hK;clear hK;cases le
 all_goals
  go_enter Tryz.func139,Tryz.ntmps139
  go_wp2_with fail
  go_loopg [104] (l.length+1) (fun g vi wr=>∃ i:Nat,vi = .int .i64 i∧i≤l.length∧i+g=l.length+1∧Gl wr∧Fr NoB (w.alloc (.cells #[.int .i64 4,.int .i64 0,.string ⟨#[]⟩,.slice a1 l.length c1,.slice a2 p.length c2] 56)) wr∧Hid (za5 (d+1) (l.drop i)=R))
  case atStart=>exact⟨0,rfl,by omega,by omega,hO,Fr.refl,HR⟩
  case round =>
   obtain⟨i,rfl,hi,hgk,hG,hF,hS⟩:=hrel;rcases Nat.lt_or_ge i l.length with hlt | hge
   ·obtain ⟨j,hj⟩:∃ j,l[i]? = some j:=⟨_,List.getElem?_eq_getElem hlt⟩;obtain⟨b,o,x0,x1,x2,x3,x4,rfl,hbl,e0,e1,e2,e3,e4,hD⟩:=(Hl.out.kp (Kp.ofFr (hH.trans' hF))).at hj;obtain⟨jk,jn,jt,jl,jp⟩:=j;have hM:=hD.open;obtain⟨y1,n1,y2,n2,hA,_,_⟩:=hM;obtain⟨rfl,rfl,rfl,rfl,rfl⟩:x0 = .int .i64 jk∧x1 = .int .i64 jn∧x2 = .string ⟨jt.toArray⟩∧x3 = .slice y1 jl.length n1∧x4 = .slice y2 jp.length n2:=by simpa using hA
    have hx:=VB.at (zh wr (.cells #[.int .i64 jk,.int .i64 jn,.string ⟨jt.toArray⟩,.slice y1 jl.length n1,.slice y2 jp.length n2] 56));obtain⟨d0,d1,d2,d3,d4,dz,dlt⟩:=hx;have Hrj:=za (RJ.kp (Kp.ofFr ((Fr.refl (M:=NoB)).alloc (.cells #[.int .i64 jk,.int .i64 jn,.string ⟨jt.toArray⟩,.slice y1 jl.length n1,.slice y2 jp.length n2] 56))) _ _ hD);clear hD hA;have hB:=hS.out;rw[zdj hj,za5]at hB;obtain⟨bv,hI⟩:∃ bv,j0 (d+1) (.mk jk jn jt jl jp)=bv:=⟨_,rfl⟩;rw[hI]at hB;have hL:=za hB;have Hbv:=za hI;clear hB hI hS;have hJ:=fitsl.at l hfit i _ hj;cases bv
    ·go_wp2_with fail
     refine(ih (d+1) S _ _ _ Hrj.out hJ (hG.alloc _) (by omega) hd8).mono ?_;rintro e w1 ⟨rfl,hC⟩;rw[Hbv.out];have HF:=za (((hH.trans' hF).alloc (.cells #[.int .i64 jk,.int .i64 jn,.string ⟨jt.toArray⟩,.slice y1 jl.length n1,.slice y2 jp.length n2] 56)).trans' hC)
     go_wp2_with fail
     go_ret;have hR:=hL.out;simp at hR;subst hR;exact⟨rfl,HF.out⟩
    go_wp2_with fail
    refine(ih (d+1) S _ _ _ Hrj.out hJ (hG.alloc _) (by omega) hd8).mono ?_;rintro e w1 ⟨rfl,hC⟩;rw[Hbv.out];have HF:=za ((hF.alloc (.cells #[.int .i64 jk,.int .i64 jn,.string ⟨jt.toArray⟩,.slice y1 jl.length n1,.slice y2 jp.length n2] 56)).trans' hC);have hN:=(hG.alloc (.cells #[.int .i64 jk,.int .i64 jn,.string ⟨jt.toArray⟩,.slice y1 jl.length n1,.slice y2 jp.length n2] 56)).fr hC (fun _ _ _ h=>h.elim)
    go_wp2_with fail
    go_roundg (gk - 1)
    case measure=>omega
    case rel=>exact⟨i+1,by simp,by omega,by omega,hN,HF.out,by have:=hL.out;simp at this;exact this⟩
   obtain rfl:i=l.length:=by omega
   have hR:=hS.out;simp[za5]at hR;subst hR;have hP:=hF.block _ _ Hbx.out (fun h=>h);obtain⟨a0,hT,hQ,a3,a4,fz,hE⟩:=VB.at hP;have HF:=za (hH.trans' hF)
   go_wp2_with fail
   go_ret;exact⟨by simp,HF.out⟩
end
section
open Go.RowKit
variable [OldK]

theorem zu7 {mb:Nat} {w w':World} (h:Gl w) (hB:6≤mb) (hF:w.grownBy w' (some mb)):Gl w' :=
 h.fr (Fr.ofGrown hF) (fun k _ _ e=>by
  obtain rfl:k=mb:=by simpa using e
  exact hB)
theorem PB.at {b:Nat}{w:World}{q q0 q1 q2 q3 q4:Value}(h:w.heap[b]? = some (.cells #[q,q0,q1,q2,q3,q4] 133 (0,0))) :
 w.cell? ⟨b,0,none⟩=some q∧w.cell? ⟨b,1,none⟩=some q0∧w.cell? ⟨b,2,none⟩=some q1∧w.cell? ⟨b,3,none⟩=some q2∧w.cell? ⟨b,4,none⟩=some q3∧w.cell? ⟨b,5,none⟩=some q4∧(∀ o,w.frozen? ⟨b,o,none⟩=false)∧b<w.heap.size :=
 ⟨by simp[World.cell?,h],by simp[World.cell?,h],by simp[World.cell?,h],by simp[World.cell?,h],by simp[World.cell?,h],by simp[World.cell?,h],by simp[World.frozen?,h],jb h⟩
theorem zkj {p:List (Bs × J)}{i:Nat}{nm:Bs}{j:J}(h:p[i]? = some (nm,j)):(p.take (i+1)).map (·.1)=(p.take i).map (·.1)++[nm]:=by
 obtain⟨hi,he⟩:=List.getElem?_eq_some_iff.1 h;rw[List.take_succ_eq_append_getElem hi,List.map_append,he];rfl
theorem zml (f:Nat) (ih:zpt f) (d:Int) (S:Nat→Prop) (l:List J) (p:List (Bs × J)) (v:Value) (w:World) (h:RJ S w (.mk 5 0 [] l p) v) (hfit:fitsp 67108864 p=true) (hll:p.length≤67108864) (hg:Gl w) (hd:0≤d) (hd8:d+1+f=8) :
 Calls ze 139 #[v,.int .i64 d] w fun e w'=>e = .returned (.bool (zao (d+1) [] p&&l.isEmpty))∧Fr NoB w w':=by
 obtain⟨a1,c1,a2,c2,rfl,hl,hp⟩:=h.open;obtain⟨a0,h4,h3,a3,a4,fz,hZ⟩:=VB.at (zh w (.cells #[.int .i64 5,.int .i64 0,.string ⟨#[]⟩,.slice a1 l.length c1,.slice a2 p.length c2] 56));have hM:=zh w (.cells #[.int .i64 5,.int .i64 0,.string ⟨#[]⟩,.slice a1 l.length c1,.slice a2 p.length c2] 56);have z1:=zd0 l;have z2:=zd0 p;have hgs:=hg.size;have hdd:decide (d ≥ 8)=false:=by rw[decide_eq_false_iff_not];omega
 generalize l.isEmpty=le at *;generalize p.isEmpty=pe at *;generalize hR:zao (d+1) [] p=R;have HR:=za hR;clear h hl hR;have Hp:=za hp;clear hp;have hL:=(Fr.refl (M:=NoB)).alloc (w:=w) (.cells #[.int .i64 5,.int .i64 0,.string ⟨#[]⟩,.slice a1 l.length c1,.slice a2 p.length c2] 56);have h1:=hg.alloc (.cells #[.int .i64 5,.int .i64 0,.string ⟨#[]⟩,.slice a1 l.length c1,.slice a2 p.length c2] 56);have hq:(w.alloc (.cells #[.int .i64 5,.int .i64 0,.string ⟨#[]⟩,.slice a1 l.length c1,.slice a2 p.length c2] 56)).heap.size=w.heap.size+1:=World.size_alloc _ _;have hV:=Seen.made (w.alloc (.cells #[.int .i64 5,.int .i64 0,.string ⟨#[]⟩,.slice a1 l.length c1,.slice a2 p.length c2] 56));rw[hq]at hV;have Hsm:=za hV;have Hbx:=za hM;clear hM hV hq;have hM:=(Fr.refl (M:=NoB)).alloc (.map #[] 0) |>.block _ _ Hbx.out (fun h=>h)
 obtain⟨m0,m1',m2',m3,m4,mz,mlt1⟩:=VB.at hM;clear hM;have hmm:=@run_makeMap ze;cases le
 all_goals
  go_enter Tryz.func139,Tryz.ntmps139
  go_wp2_with fail
  go_loopg [124] (p.length+1) (fun g vi wr=>∃ i:Nat,vi = .int .i64 i∧i≤p.length∧i+g=p.length+1∧Gl wr∧Fr NoB (w.alloc (.cells #[.int .i64 5,.int .i64 0,.string ⟨#[]⟩,.slice a1 l.length c1,.slice a2 p.length c2] 56)) wr∧Seen (w.heap.size+1) i ((p.take i).map (·.1)) wr∧Hid (zao (d+1) ((p.take i).map (·.1)) (p.drop i)=R))
  case atStart=>exact⟨0,rfl,by omega,by omega,h1.alloc _,Fr.refl.alloc _,Hsm.out,HR⟩
  case round =>
   obtain⟨i,rfl,hi,hgk,hy,hF,ho,hS⟩:=hrel;rcases Nat.lt_or_ge i p.length with hlt | hge
   ·obtain ⟨⟨nm,j⟩,hj⟩:∃ j,p[i]? = some j:=⟨_,List.getElem?_eq_getElem hlt⟩;obtain⟨b,o,x0,x1,x2,x3,x4,rfl,hbl,e0,e1,e2,e3,e4,e5,hW⟩:=(Hp.out.kp (Kp.ofFr (hL.trans' hF))).at hj;obtain⟨jk,jn,jt,jl,jp⟩:=j;have hw:=hW.open;obtain⟨y1,n1,y2,n2,hG,_,_⟩:=hw;obtain⟨rfl,rfl,rfl,rfl,rfl⟩:x0 = .int .i64 jk∧x1 = .int .i64 jn∧x2 = .string ⟨jt.toArray⟩∧x3 = .slice y1 jl.length n1∧x4 = .slice y2 jp.length n2:=by simpa using hG
    have hx:=PB.at (zh wr (.cells #[.string ⟨nm.toArray⟩,.int .i64 jk,.int .i64 jn,.string ⟨jt.toArray⟩,.slice y1 jl.length n1,.slice y2 jp.length n2] 133));have hn:=za (zh wr (.cells #[.string ⟨nm.toArray⟩,.int .i64 jk,.int .i64 jn,.string ⟨jt.toArray⟩,.slice y1 jl.length n1,.slice y2 jp.length n2] 133));obtain⟨d',d0,d1,d2,d3,d4,dz,hQ⟩:=hx;have hO:=(Fr.refl (M:=NoB)).alloc (w:=wr) (.cells #[.string ⟨nm.toArray⟩,.int .i64 jk,.int .i64 jn,.string ⟨jt.toArray⟩,.slice y1 jl.length n1,.slice y2 jp.length n2] 133);have hK:=hy.alloc (.cells #[.string ⟨nm.toArray⟩,.int .i64 jk,.int .i64 jn,.string ⟨jt.toArray⟩,.slice y1 jl.length n1,.slice y2 jp.length n2] 133);have Hrj:=za (RJ.kp (Kp.ofFr hO) _ _ hW);have hC:=ho.fr hO (fun _ _ h=>h);clear hW hG;obtain⟨hY,hs⟩:=fitsp.at p hfit i _ _ hj;have hX:nm.length≤maxLen:=Nat.le_trans hY (by decide);have hv:=hC.look nm hX;have hP:=hS.out;rw[zdj hj,zao]at hP;obtain⟨b1,hc⟩:∃ b1,((p.take i).map (·.1)).contains nm=b1:=⟨_,rfl⟩;obtain⟨b2,hb⟩:∃ b2,Lib.validD nm=b2:=⟨_,rfl⟩;obtain⟨b3,ha⟩:∃ b3,j0 (d+1) (.mk jk jn jt jl jp)=b3:=⟨_,rfl⟩;rw[hc,hb,ha,← zkj hj]at hP;rw[hc]at hv;have hT:=za hP;have hh:=za hb;have ht:=za ha;have Hnm:=za hX;have Hnl:=za hY;have hU:=za (hF.trans' hO);have hf:=za hC;clear hP hc hb ha hS hX hY hO ho hC;cases b1
    ·cases b2
     ·go_wp2_with fail
      refine(Go.Proofs.Tryz.utf8_ValidString ⟨nm.toArray⟩ _ (Nat.le_trans Hnl.out (by decide)) hK.utf8).mono ?_;rintro e w1 ⟨rfl,hA⟩;have HF:=za (hL.trans' (hU.out.trans' (Fr.ofBelow hA)));rw[hh.out]
      go_wp2_with fail
      go_ret;have hR:=hT.out;simp at hR;subst hR;exact⟨rfl,HF.out⟩
     cases b3
     ·go_wp2_with fail
      refine(Go.Proofs.Tryz.utf8_ValidString ⟨nm.toArray⟩ _ (Nat.le_trans Hnl.out (by decide)) hK.utf8).mono ?_;rintro e w1 ⟨rfl,hA⟩;rw[hh.out];obtain⟨d',d0,d1,d2,d3,d4,dz,hQ⟩:=PB.at ((Fr.ofBelow hA).block _ _ hn.out (fun h=>h));have hN:=hK.fr (Fr.ofBelow hA) (fun _ _ _ h=>h.elim)
      go_wp2_with fail
      refine(ih (d+1) S _ _ _ (RJ.kp (Kp.ofFr (Fr.ofBelow hA)) _ _ Hrj.out) hs hN (by omega) hd8).mono ?_;rintro e w2 ⟨rfl,hE⟩;rw[ht.out];have HF:=za (hL.trans' ((hU.out.trans' (Fr.ofBelow hA)).trans' hE))
      go_wp2_with fail
      go_ret;have hR:=hT.out;simp at hR;subst hR;exact⟨rfl,HF.out⟩
     go_wp2_with fail
     refine(Go.Proofs.Tryz.utf8_ValidString ⟨nm.toArray⟩ _ (Nat.le_trans Hnl.out (by decide)) hK.utf8).mono ?_;rintro e w1 ⟨rfl,hA⟩;rw[hh.out];have hD:=(Fr.ofBelow hA).block _ _ hn.out (fun h=>h);obtain⟨d',d0,d1,d2,d3,d4,dz,hQ⟩:=PB.at hD;have hN:=hK.fr (Fr.ofBelow hA) (fun _ _ _ h=>h.elim);have hJ:=hf.out.fr (Fr.ofBelow hA) (fun _ _ h=>h)
     go_wp2_with fail
     refine(ih (d+1) S _ _ _ (RJ.kp (Kp.ofFr (Fr.ofBelow hA)) _ _ Hrj.out) hs hN (by omega) hd8).mono ?_;rintro e w2 ⟨rfl,hE⟩;rw[ht.out];have hI:=hJ.fr hE (fun _ _ h=>h);have h0:=hN.fr hE (fun _ _ _ h=>h.elim);have hB:=hE.block _ _ hD (fun h=>h);clear d' d0 d1 d2 d3 d4 dz hQ;obtain⟨d',d0,d1,d2,d3,d4,dz,hQ⟩:=PB.at hB;obtain⟨w3,hput,hH,hr,hu⟩:=hI.put nm Hnm.out (Nat.lt_of_lt_of_le hlt (Nat.le_trans hll (by decide)));have HF:=za ((hU.out.trans' (Fr.ofBelow hA)).trans' hE);have hz:=zu7 h0 (by omega) hr;have he:=za hH;have Hgr:=za hr;clear hJ hI hH hD hB hu
     go_wp2_with fail
     go_roundg (gk - 1)
     case measure=>omega
     case rel =>
      refine⟨i+1,by simp,by omega,by omega,hz,?_,by rw[zkj hj];exact he.out,hT.out⟩;refine(HF.out).trans (Fr.ofGrown Hgr.out) (fun k o hm => .inr ?_);have hk:k=w.heap.size+1:=by simpa using hm
      rw[hk,World.size_alloc];omega
    go_wp2_with fail
    go_ret;have hR:=hT.out;simp at hR;subst hR;exact⟨rfl,hL.trans' hU.out⟩
   obtain rfl:i=p.length:=by omega
   have hR:=hS.out;simp[zao]at hR;subst hR;have h2:=hF.block _ _ Hbx.out (fun h=>h);obtain⟨a0,h4,h3,a3,a4,fz,hZ⟩:=VB.at h2;have HF:=za (hL.trans' hF)
   go_wp2_with fail
   go_ret;exact⟨by simp,HF.out⟩
theorem zzh:∀ f,zpt f:=by
 intro f
 induction f with
 | zero =>
   intro d S j v w h hB hg hd hC;obtain⟨k,n,t,l,p⟩:=j;have hA:=fits.open hB;by_cases hk:k=0∨k=1∨k=2∨k=3
   ·exact zkn 0 d S k n t l p v w h hA.1 hg hd hC hk
   have e:j0 d (.mk k n t l p)=false:=by
    unfold j0;rw[if_neg (by omega),if_neg (by omega),if_neg (by omega),if_neg (by omega),if_pos (.inr (.inr (by simp at hC;omega)))]
   rw[e];exact zkm d S k n t l p v w h hg (zaz (by omega)) (zaz (by omega)) (zaz (by omega)) (zaz (by omega)) (.inr (.inr (.inl (by rw[decide_eq_true_eq];simp at hC;omega))))
 | succ f ih =>
   intro d S j v w h hB hg hd hC;obtain⟨k,n,t,l,p⟩:=j;have hA:=fits.open hB;have hD:d+1+(f:Int)=8:=by simp at hC;omega
   by_cases hk:k=0∨k=1∨k=2∨k=3
   ·exact zkn (f+1) d S k n t l p v w h hA.1 hg hd hC hk
   have none:=zkm d S k n t l p v w h hg (zaz (by omega)) (zaz (by omega)) (zaz (by omega)) (zaz (by omega))
   have e:j0 d (.mk k n t l p)=(if n≠0∨t≠[]∨8≤d then false else if k=4 then za5 (d+1) l&&p.isEmpty else if k=5 then zao (d+1) [] p&&l.isEmpty else false):=by
    conv=>lhs;unfold j0
    rw[if_neg (by omega),if_neg (by omega),if_neg (by omega),if_neg (by omega)]
   rw[e];by_cases hn:n=0
   ·by_cases ht:t=[]
    ·rw[if_neg (by rintro(h | h | h);exact h hn;exact h ht;omega)];subst hn ht;by_cases h4:k=4
     ·subst h4;rw[if_pos rfl];exact zrs f ih d S l p v w h hA.2.2.2.1 hA.2.1 hg hd hD
     rw[if_neg h4];by_cases h5:k=5
     ·subst h5;rw[if_pos rfl];exact zml f ih d S l p v w h hA.2.2.2.2 hA.2.2.1 hg hd hD
     rw[if_neg h5];exact none (.inr (.inr (.inr ⟨zaz h4,zaz h5⟩)))
    rw[if_pos (.inr (.inl ht))];refine none (.inr (.inl ?_));cases t with
    | nil=>exact absurd rfl ht
    | cons x m=>exact⟨x,m,rfl⟩
   rw[if_pos (.inl hn)];exact none (.inl (by simpa using hn))
def zqb (j:J):Nat:=if j0 0 j then 0 else 1
theorem zvs (S:Nat→Prop) (j:J) (v:Value) (w:World) (h:RJ S w j v) (hfit:fits 67108864 j=true) (hg:Gl w) :
 Calls ze 74 #[v] w fun e w'=>e = .returned (zir (zqb j))∧Fr NoB w w':=by
 unfold zqb;have hs:=fun W hW hC=>zzh 8 0 S j v W hW hfit hC (by omega) (by omega)
 generalize j0 0 j=B at *;have Hs:=za hs;clear hs
 have hA:∃ a0 a1 a2 a3 a4,v = .agg #[a0,a1,a2,a3,a4]:=by
  obtain⟨k,n,t,l,p⟩:=j;obtain⟨y1,n1,y2,n2,hB,_,_⟩:=h.open;exact⟨_,_,_,_,_,hB⟩
 obtain⟨a0,a1,a2,a3,a4,rfl⟩:=hA;cases B
 all_goals
  go_enter Tryz.func74,Tryz.ntmps74
  go_wp2_with fail
  refine(Hs.out _ (RJ.kp (Kp.ofFr (Fr.refl.alloc _)) _ _ h) (hg.alloc _)).mono ?_;rintro e w1 ⟨rfl,hD⟩;have HF:=za ((Fr.refl (M:=NoB)).alloc (w:=w) (.cells #[a0,a1,a2,a3,a4] 56) |>.trans' hD)
  go_wp2_with fail
  go_ret;exact⟨rfl,HF.out⟩
end
end Go.Proofs.YtmgfncjfgkllcaaGreatDoor
