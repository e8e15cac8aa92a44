/-
 The walk of json's sound.
-/
import Derived.Test.YtmgfncjfgkllcaaGreatDoorKCellRows
import Derived.Test.YtmgfncjfgkllcaaGreatDoorKRefNum
import Derived.Test.YtmgfncjfgkllcaaGreatDoorKSpecSound
import Derived.Test.YtmgfncjfgkllcaaGreatDoorKSeen
import Derived.Test.YtmgfncjfgkllcaaGreatDoorKReader7
namespace Go.Proofs.YtmgfncjfgkllcaaGreatDoor
set_option linter.unusedVariables false
set_option linter.unusedSimpArgs false
set_option linter.unusedSectionVars false
open Go.RowKit
variable [OldK]

def zl5 (f:Nat):Prop:=∀ (d:Int) (S:Nat→Prop) (j:J) (v:Value) (w:World),RJ S w j v→fits 67108864 j=true→Gl w→0≤d→d+f=8 →
 Calls Tryz.prog 139 #[v,.int .i64 d] w fun e w'=>e = .returned (.bool (jo d j))∧Fr NoB w w'
theorem zcm {α:Type}(p:List α):((p.length:Int)==0)=p.isEmpty:=by
 cases p with
 | nil=>rfl
 | cons x l=>simp;omega
theorem qz {a b:Int}(h:¬ a=b):(a==b)=false:=by simpa using h
set_option maxRecDepth 100000 in
set_option maxHeartbeats 1000000 in
theorem zhv (f:Nat) (d:Int) (S:Nat→Prop) (k n:Int) (t:Bs) (l:List J) (p:List (Bs × J)) (v:Value) (w:World) (h:RJ S w (.mk k n t l p) v) (htl:t.length≤67108864) (hg:Gl w) (hd:0≤d) (hdf:d+f=8) (hk:k=0∨k=1∨k=2∨k=3) :
 Calls Tryz.prog 139 #[v,.int .i64 d] w fun e w'=>e = .returned (.bool (jo d (.mk k n t l p)))∧Fr NoB w w':=by
 obtain⟨a1,c1,a2,c2,rfl,hl,hp⟩:=h.open;obtain⟨a0,a1',a2',a3,a4,fz,hlt1⟩:=VB.at (heap_alloc_new w (.cells #[.int .i64 k,.int .i64 n,.string ⟨t.toArray⟩,.slice a1 l.length c1,.slice a2 p.length c2] 56));have z1:=zcm l;have z2:=zcm p;clear h hl hp;rcases hk with rfl | rfl | rfl | rfl
 ·unfold jo;simp only[if_true];go_enter Tryz.func139,Tryz.ntmps139
  go_wp2_with fail
  all_goals
   go_ret;refine⟨jr ?_,Fr.refl.alloc _⟩
   simp_all
   try(intros;omega)
 ·unfold jo;simp only[show ¬ (1:Int)=0 by decide,if_false,if_true];go_enter Tryz.func139,Tryz.ntmps139
  go_wp2_with fail
  all_goals
   go_ret;refine⟨jr ?_,Fr.refl.alloc _⟩
   simp_all
   try(intros;omega)
 ·unfold jo;simp only[show ¬ (2:Int)=0 by decide,show ¬ (2:Int)=1 by decide,if_false,if_true];go_enter Tryz.func139,Tryz.ntmps139
  go_wp2_with fail
  all_goals
   go_ret;refine⟨jr ?_,Fr.refl.alloc _⟩
   simp_all
   try(intros;omega)
 unfold jo;simp only[show ¬ (3:Int)=0 by decide,show ¬ (3:Int)=1 by decide,show ¬ (3:Int)=2 by decide,if_false,if_true];go_enter Tryz.func139,Tryz.ntmps139
 go_wp2_with fail
 all_goals first
  | (refine (Go.Proofs.Tryz.utf8_ValidString ⟨t.toArray⟩ _ (Nat.le_trans htl (by decide)) (hg.alloc _).utf8).mono ?_
     rintro e w1 ⟨rfl,hA⟩;have hB:=(Fr.refl (M:=NoB)).alloc _ |>.trans' (Fr.ofBelow hA)
     have Hb:=Lib.hid hB;clear hB hA
     go_wp2_with fail
     all_goals
      go_ret;refine⟨jr ?_,Hb.out⟩
      simp_all
      try(intros;omega))
  | (go_ret
     refine⟨jr ?_,Fr.refl.alloc _⟩
     simp_all
     try(intros;omega))
end Go.Proofs.YtmgfncjfgkllcaaGreatDoor
namespace Go.Proofs.YtmgfncjfgkllcaaGreatDoor
set_option linter.unusedVariables false
set_option linter.unusedSimpArgs false
set_option linter.unusedSectionVars false
open Go.RowKit
variable [OldK]

set_option maxRecDepth 100000 in
set_option maxHeartbeats 1000000 in
theorem zhu (d:Int) (S:Nat→Prop) (k n:Int) (t:Bs) (l:List J) (p:List (Bs × J)) (v:Value) (w:World) (h:RJ S w (.mk k n t l p) v) (hg:Gl w)
 (k0:(k==0)=false) (k1:(k==1)=false) (k2:(k==2)=false) (k3:(k==3)=false) (hc:(n != 0)=true∨(∃ x m,t=x :: m)∨decide (d ≥ 8)=true∨((k==4)=false∧(k==5)=false)) :
 Calls Tryz.prog 139 #[v,.int .i64 d] w fun e w'=>e = .returned (.bool false)∧Fr NoB w w':=by
 obtain⟨a1,c1,a2,c2,rfl,hl,hp⟩:=h.open;obtain⟨a0,a1',a2',a3,a4,fz,hlt1⟩:=VB.at (heap_alloc_new w (.cells #[.int .i64 k,.int .i64 n,.string ⟨t.toArray⟩,.slice a1 l.length c1,.slice a2 p.length c2] 56));have z1:=zcm l;have z2:=zcm p;generalize l.isEmpty=le at *;generalize p.isEmpty=pe at *;clear h hl hp;rcases hc with hn | ⟨x,m,rfl⟩ | hd | ⟨k4,k5⟩
 all_goals
  go_enter Tryz.func139,Tryz.ntmps139
  go_wp2_with fail
  all_goals
   go_ret;exact⟨rfl,Fr.refl.alloc _⟩
set_option maxRecDepth 100000 in
set_option maxHeartbeats 2000000 in
theorem znz (f:Nat) (ih:zl5 f) (d:Int) (S:Nat→Prop) (l:List J) (p:List (Bs × J)) (v:Value) (w:World) (h:RJ S w (.mk 4 0 [] l p) v) (hfit:fitsl 67108864 l=true) (hll:l.length≤67108864) (hg:Gl w) (hd:0≤d) (hd8:d+1+f=8) :
 Calls Tryz.prog 139 #[v,.int .i64 d] w fun e w'=>e = .returned (.bool (zad (d+1) l&&p.isEmpty))∧Fr NoB w w':=by
 obtain⟨a1,c1,a2,c2,rfl,hl,hp⟩:=h.open;obtain⟨a0,hT,hQ,a3,a4,fz,hE⟩:=VB.at (heap_alloc_new w (.cells #[.int .i64 4,.int .i64 0,.string ⟨#[]⟩,.slice a1 l.length c1,.slice a2 p.length c2] 56));have hK:=heap_alloc_new w (.cells #[.int .i64 4,.int .i64 0,.string ⟨#[]⟩,.slice a1 l.length c1,.slice a2 p.length c2] 56);have z1:=zcm l;have z2:=zcm p;have hdd:decide (d ≥ 8)=false:=by rw[decide_eq_false_iff_not];omega
 generalize l.isEmpty=le at *;generalize p.isEmpty=pe at *;generalize hR:zad (d+1) l=R;have HR:=Lib.hid hR;clear h hp hR;have Hl:=Lib.hid hl;clear hl;have hH:=(Fr.refl (M:=NoB)).alloc (w:=w) (.cells #[.int .i64 4,.int .i64 0,.string ⟨#[]⟩,.slice a1 l.length c1,.slice a2 p.length c2] 56);have hO:=hg.alloc (.cells #[.int .i64 4,.int .i64 0,.string ⟨#[]⟩,.slice a1 l.length c1,.slice a2 p.length c2] 56);have Hbx:=Lib.hid hK;clear hK;cases le
 all_goals
  go_enter Tryz.func139,Tryz.ntmps139
  go_wp2_with fail
  go_loopg [104] (l.length+1) (fun g vi wr=>∃ i:Nat,vi = .int .i64 i∧i≤l.length∧i+g=l.length+1∧Gl wr∧Fr NoB (w.alloc (.cells #[.int .i64 4,.int .i64 0,.string ⟨#[]⟩,.slice a1 l.length c1,.slice a2 p.length c2] 56)) wr∧Hid (zad (d+1) (l.drop i)=R))
  case atStart=>exact⟨0,rfl,by omega,by omega,hO,Fr.refl,HR⟩
  case round =>
   obtain⟨i,rfl,hi,hgk,hG,hF,hS⟩:=hrel;rcases Nat.lt_or_ge i l.length with hlt | hge
   ·obtain ⟨j,hj⟩:∃ j,l[i]? = some j:=⟨_,List.getElem?_eq_getElem hlt⟩;obtain⟨b,o,x0,x1,x2,x3,x4,rfl,hbl,e0,e1,e2,e3,e4,hD⟩:=(Hl.out.kp (Kp.ofFr (hH.trans' hF))).at hj;obtain⟨jk,jn,jt,jl,jp⟩:=j;have hM:=hD.open;obtain⟨y1,n1,y2,n2,hA,_,_⟩:=hM;obtain⟨rfl,rfl,rfl,rfl,rfl⟩:x0 = .int .i64 jk∧x1 = .int .i64 jn∧x2 = .string ⟨jt.toArray⟩∧x3 = .slice y1 jl.length n1∧x4 = .slice y2 jp.length n2:=by simpa using hA
    have hx:=VB.at (heap_alloc_new wr (.cells #[.int .i64 jk,.int .i64 jn,.string ⟨jt.toArray⟩,.slice y1 jl.length n1,.slice y2 jp.length n2] 56));obtain⟨d0,d1,d2,d3,d4,dz,dlt⟩:=hx;have Hrj:=Lib.hid (RJ.kp (Kp.ofFr ((Fr.refl (M:=NoB)).alloc (.cells #[.int .i64 jk,.int .i64 jn,.string ⟨jt.toArray⟩,.slice y1 jl.length n1,.slice y2 jp.length n2] 56))) _ _ hD);clear hD hA;have hB:=hS.out;rw[zfi hj,zad]at hB;obtain⟨bv,hI⟩:∃ bv,jo (d+1) (.mk jk jn jt jl jp)=bv:=⟨_,rfl⟩;rw[hI]at hB;have hL:=Lib.hid hB;have Hbv:=Lib.hid hI;clear hB hI hS;have hJ:=fitsl.at l hfit i _ hj;cases bv
    ·go_wp2_with fail
     refine(ih (d+1) S _ _ _ Hrj.out hJ (hG.alloc _) (by omega) hd8).mono ?_;rintro e w1 ⟨rfl,hC⟩;rw[Hbv.out];have HF:=Lib.hid (((hH.trans' hF).alloc (.cells #[.int .i64 jk,.int .i64 jn,.string ⟨jt.toArray⟩,.slice y1 jl.length n1,.slice y2 jp.length n2] 56)).trans' hC)
     go_wp2_with fail
     go_ret;have hR:=hL.out;simp at hR;subst hR;exact⟨rfl,HF.out⟩
    go_wp2_with fail
    refine(ih (d+1) S _ _ _ Hrj.out hJ (hG.alloc _) (by omega) hd8).mono ?_;rintro e w1 ⟨rfl,hC⟩;rw[Hbv.out];have HF:=Lib.hid ((hF.alloc (.cells #[.int .i64 jk,.int .i64 jn,.string ⟨jt.toArray⟩,.slice y1 jl.length n1,.slice y2 jp.length n2] 56)).trans' hC);have hN:=(hG.alloc (.cells #[.int .i64 jk,.int .i64 jn,.string ⟨jt.toArray⟩,.slice y1 jl.length n1,.slice y2 jp.length n2] 56)).fr hC (fun _ _ _ h=>h.elim)
    go_wp2_with fail
    go_roundg (gk - 1)
    case measure=>omega
    case rel=>exact⟨i+1,by simp,by omega,by omega,hN,HF.out,by have:=hL.out;simp at this;exact this⟩
   obtain rfl:i=l.length:=by omega
   have hR:=hS.out;simp[zad]at hR;subst hR;have hP:=hF.block _ _ Hbx.out (fun h=>h);obtain⟨a0,hT,hQ,a3,a4,fz,hE⟩:=VB.at hP;have HF:=Lib.hid (hH.trans' hF)
   go_wp2_with fail
   go_ret;exact⟨by simp,HF.out⟩
end Go.Proofs.YtmgfncjfgkllcaaGreatDoor
namespace Go.Proofs.YtmgfncjfgkllcaaGreatDoor
set_option linter.unusedVariables false
set_option linter.unusedSimpArgs false
set_option linter.unusedSectionVars false
open Go.RowKit
variable [OldK]

theorem zqs {mb:Nat} {w w':World} (h:Gl w) (hB:6≤mb) (hF:w.grownBy w' (some mb)):Gl w' :=
 h.fr (Fr.ofGrown hF) (fun k _ _ e=>by
  obtain rfl:k=mb:=by simpa using e
  exact hB)
theorem PB.at {b:Nat}{w:World}{q q0 q1 q2 q3 q4:Value}(h:w.heap[b]? = some (.cells #[q,q0,q1,q2,q3,q4] 133 (0,0))) :
 w.cell? ⟨b,0,none⟩=some q∧w.cell? ⟨b,1,none⟩=some q0∧w.cell? ⟨b,2,none⟩=some q1∧w.cell? ⟨b,3,none⟩=some q2∧w.cell? ⟨b,4,none⟩=some q3∧w.cell? ⟨b,5,none⟩=some q4∧(∀ o,w.frozen? ⟨b,o,none⟩=false)∧b<w.heap.size :=
 ⟨by simp[World.cell?,h],by simp[World.cell?,h],by simp[World.cell?,h],by simp[World.cell?,h],by simp[World.cell?,h],by simp[World.cell?,h],by simp[World.frozen?,h],ja h⟩
theorem zht {p:List (Bs × J)}{i:Nat}{nm:Bs}{j:J}(h:p[i]? = some (nm,j)):(p.take (i+1)).map (·.1)=(p.take i).map (·.1)++[nm]:=by
 obtain⟨hi,he⟩:=List.getElem?_eq_some_iff.1 h;rw[List.take_succ_eq_append_getElem hi,List.map_append,he];rfl
set_option maxRecDepth 100000 in
set_option maxHeartbeats 4000000 in
theorem zjn (f:Nat) (ih:zl5 f) (d:Int) (S:Nat→Prop) (l:List J) (p:List (Bs × J)) (v:Value) (w:World) (h:RJ S w (.mk 5 0 [] l p) v) (hfit:fitsp 67108864 p=true) (hll:p.length≤67108864) (hg:Gl w) (hd:0≤d) (hd8:d+1+f=8) :
 Calls Tryz.prog 139 #[v,.int .i64 d] w fun e w'=>e = .returned (.bool (qn (d+1) [] p&&l.isEmpty))∧Fr NoB w w':=by
 obtain⟨a1,c1,a2,c2,rfl,hl,hp⟩:=h.open;obtain⟨a0,h4,h3,a3,a4,fz,hZ⟩:=VB.at (heap_alloc_new w (.cells #[.int .i64 5,.int .i64 0,.string ⟨#[]⟩,.slice a1 l.length c1,.slice a2 p.length c2] 56));have hM:=heap_alloc_new w (.cells #[.int .i64 5,.int .i64 0,.string ⟨#[]⟩,.slice a1 l.length c1,.slice a2 p.length c2] 56);have z1:=zcm l;have z2:=zcm p;have hgs:=hg.size;have hdd:decide (d ≥ 8)=false:=by rw[decide_eq_false_iff_not];omega
 generalize l.isEmpty=le at *;generalize p.isEmpty=pe at *;generalize hR:qn (d+1) [] p=R;have HR:=Lib.hid hR;clear h hl hR;have Hp:=Lib.hid hp;clear hp;have hL:=(Fr.refl (M:=NoB)).alloc (w:=w) (.cells #[.int .i64 5,.int .i64 0,.string ⟨#[]⟩,.slice a1 l.length c1,.slice a2 p.length c2] 56);have h1:=hg.alloc (.cells #[.int .i64 5,.int .i64 0,.string ⟨#[]⟩,.slice a1 l.length c1,.slice a2 p.length c2] 56);have hq:(w.alloc (.cells #[.int .i64 5,.int .i64 0,.string ⟨#[]⟩,.slice a1 l.length c1,.slice a2 p.length c2] 56)).heap.size=w.heap.size+1:=World.size_alloc _ _;have hV:=Seen.made (w.alloc (.cells #[.int .i64 5,.int .i64 0,.string ⟨#[]⟩,.slice a1 l.length c1,.slice a2 p.length c2] 56));rw[hq]at hV;have Hsm:=Lib.hid hV;have Hbx:=Lib.hid hM;clear hM hV hq;have hM:=(Fr.refl (M:=NoB)).alloc (.map #[] 0) |>.block _ _ Hbx.out (fun h=>h)
 obtain⟨m0,m1',m2',m3,m4,mz,mlt1⟩:=VB.at hM;clear hM;have hmm:=@run_makeMap Tryz.prog;cases le
 all_goals
  go_enter Tryz.func139,Tryz.ntmps139
  go_wp2_with fail
  go_loopg [124] (p.length+1) (fun g vi wr=>∃ i:Nat,vi = .int .i64 i∧i≤p.length∧i+g=p.length+1∧Gl wr∧Fr NoB (w.alloc (.cells #[.int .i64 5,.int .i64 0,.string ⟨#[]⟩,.slice a1 l.length c1,.slice a2 p.length c2] 56)) wr∧Seen (w.heap.size+1) i ((p.take i).map (·.1)) wr∧Hid (qn (d+1) ((p.take i).map (·.1)) (p.drop i)=R))
  case atStart=>exact⟨0,rfl,by omega,by omega,h1.alloc _,Fr.refl.alloc _,Hsm.out,HR⟩
  case round =>
   obtain⟨i,rfl,hi,hgk,hy,hF,ho,hS⟩:=hrel;rcases Nat.lt_or_ge i p.length with hlt | hge
   ·obtain ⟨⟨nm,j⟩,hj⟩:∃ j,p[i]? = some j:=⟨_,List.getElem?_eq_getElem hlt⟩;obtain⟨b,o,x0,x1,x2,x3,x4,rfl,hbl,e0,e1,e2,e3,e4,e5,hW⟩:=(Hp.out.kp (Kp.ofFr (hL.trans' hF))).at hj;obtain⟨jk,jn,jt,jl,jp⟩:=j;have hw:=hW.open;obtain⟨y1,n1,y2,n2,hG,_,_⟩:=hw;obtain⟨rfl,rfl,rfl,rfl,rfl⟩:x0 = .int .i64 jk∧x1 = .int .i64 jn∧x2 = .string ⟨jt.toArray⟩∧x3 = .slice y1 jl.length n1∧x4 = .slice y2 jp.length n2:=by simpa using hG
    have hx:=PB.at (heap_alloc_new wr (.cells #[.string ⟨nm.toArray⟩,.int .i64 jk,.int .i64 jn,.string ⟨jt.toArray⟩,.slice y1 jl.length n1,.slice y2 jp.length n2] 133));have hn:=Lib.hid (heap_alloc_new wr (.cells #[.string ⟨nm.toArray⟩,.int .i64 jk,.int .i64 jn,.string ⟨jt.toArray⟩,.slice y1 jl.length n1,.slice y2 jp.length n2] 133));obtain⟨d',d0,d1,d2,d3,d4,dz,hQ⟩:=hx;have hO:=(Fr.refl (M:=NoB)).alloc (w:=wr) (.cells #[.string ⟨nm.toArray⟩,.int .i64 jk,.int .i64 jn,.string ⟨jt.toArray⟩,.slice y1 jl.length n1,.slice y2 jp.length n2] 133);have hK:=hy.alloc (.cells #[.string ⟨nm.toArray⟩,.int .i64 jk,.int .i64 jn,.string ⟨jt.toArray⟩,.slice y1 jl.length n1,.slice y2 jp.length n2] 133);have Hrj:=Lib.hid (RJ.kp (Kp.ofFr hO) _ _ hW);have hC:=ho.fr hO (fun _ _ h=>h);clear hW hG;obtain⟨hY,hs⟩:=fitsp.at p hfit i _ _ hj;have hX:nm.length≤maxLen:=Nat.le_trans hY (by decide);have hv:=hC.look nm hX;have hP:=hS.out;rw[zfi hj,qn]at hP;obtain⟨b1,hc⟩:∃ b1,((p.take i).map (·.1)).contains nm=b1:=⟨_,rfl⟩;obtain⟨b2,hb⟩:∃ b2,Lib.validD nm=b2:=⟨_,rfl⟩;obtain⟨b3,ha⟩:∃ b3,jo (d+1) (.mk jk jn jt jl jp)=b3:=⟨_,rfl⟩;rw[hc,hb,ha,← zht hj]at hP;rw[hc]at hv;have hT:=Lib.hid hP;have hh:=Lib.hid hb;have ht:=Lib.hid ha;have Hnm:=Lib.hid hX;have Hnl:=Lib.hid hY;have hU:=Lib.hid (hF.trans' hO);have hf:=Lib.hid hC;clear hP hc hb ha hS hX hY hO ho hC;cases b1
    ·cases b2
     ·go_wp2_with fail
      refine(Go.Proofs.Tryz.utf8_ValidString ⟨nm.toArray⟩ _ (Nat.le_trans Hnl.out (by decide)) hK.utf8).mono ?_;rintro e w1 ⟨rfl,hA⟩;have HF:=Lib.hid (hL.trans' (hU.out.trans' (Fr.ofBelow hA)));rw[hh.out]
      go_wp2_with fail
      go_ret;have hR:=hT.out;simp at hR;subst hR;exact⟨rfl,HF.out⟩
     cases b3
     ·go_wp2_with fail
      refine(Go.Proofs.Tryz.utf8_ValidString ⟨nm.toArray⟩ _ (Nat.le_trans Hnl.out (by decide)) hK.utf8).mono ?_;rintro e w1 ⟨rfl,hA⟩;rw[hh.out];obtain⟨d',d0,d1,d2,d3,d4,dz,hQ⟩:=PB.at ((Fr.ofBelow hA).block _ _ hn.out (fun h=>h));have hN:=hK.fr (Fr.ofBelow hA) (fun _ _ _ h=>h.elim)
      go_wp2_with fail
      refine(ih (d+1) S _ _ _ (RJ.kp (Kp.ofFr (Fr.ofBelow hA)) _ _ Hrj.out) hs hN (by omega) hd8).mono ?_;rintro e w2 ⟨rfl,hE⟩;rw[ht.out];have HF:=Lib.hid (hL.trans' ((hU.out.trans' (Fr.ofBelow hA)).trans' hE))
      go_wp2_with fail
      go_ret;have hR:=hT.out;simp at hR;subst hR;exact⟨rfl,HF.out⟩
     go_wp2_with fail
     refine(Go.Proofs.Tryz.utf8_ValidString ⟨nm.toArray⟩ _ (Nat.le_trans Hnl.out (by decide)) hK.utf8).mono ?_;rintro e w1 ⟨rfl,hA⟩;rw[hh.out];have hD:=(Fr.ofBelow hA).block _ _ hn.out (fun h=>h);obtain⟨d',d0,d1,d2,d3,d4,dz,hQ⟩:=PB.at hD;have hN:=hK.fr (Fr.ofBelow hA) (fun _ _ _ h=>h.elim);have hJ:=hf.out.fr (Fr.ofBelow hA) (fun _ _ h=>h)
     go_wp2_with fail
     refine(ih (d+1) S _ _ _ (RJ.kp (Kp.ofFr (Fr.ofBelow hA)) _ _ Hrj.out) hs hN (by omega) hd8).mono ?_;rintro e w2 ⟨rfl,hE⟩;rw[ht.out];have hI:=hJ.fr hE (fun _ _ h=>h);have h0:=hN.fr hE (fun _ _ _ h=>h.elim);have hB:=hE.block _ _ hD (fun h=>h);clear d' d0 d1 d2 d3 d4 dz hQ;obtain⟨d',d0,d1,d2,d3,d4,dz,hQ⟩:=PB.at hB;obtain⟨w3,hput,hH,hr,hu⟩:=hI.put nm Hnm.out (Nat.lt_of_lt_of_le hlt (Nat.le_trans hll (by decide)));have HF:=Lib.hid ((hU.out.trans' (Fr.ofBelow hA)).trans' hE);have hz:=zqs h0 (by omega) hr;have he:=Lib.hid hH;have Hgr:=Lib.hid hr;clear hJ hI hH hD hB hu
     go_wp2_with fail
     go_roundg (gk - 1)
     case measure=>omega
     case rel =>
      refine⟨i+1,by simp,by omega,by omega,hz,?_,by rw[zht hj];exact he.out,hT.out⟩;refine(HF.out).trans (Fr.ofGrown Hgr.out) (fun k o hm => .inr ?_);have hk:k=w.heap.size+1:=by simpa using hm
      rw[hk,World.size_alloc];omega
    go_wp2_with fail
    go_ret;have hR:=hT.out;simp at hR;subst hR;exact⟨rfl,hL.trans' hU.out⟩
   obtain rfl:i=p.length:=by omega
   have hR:=hS.out;simp[qn]at hR;subst hR;have h2:=hF.block _ _ Hbx.out (fun h=>h);obtain⟨a0,h4,h3,a3,a4,fz,hZ⟩:=VB.at h2;have HF:=Lib.hid (hL.trans' hF)
   go_wp2_with fail
   go_ret;exact⟨by simp,HF.out⟩
theorem zug:∀ f,zl5 f:=by
 intro f
 induction f with
 | zero =>
   intro d S j v w h hB hg hd hC;obtain⟨k,n,t,l,p⟩:=j;have hA:=fits.open hB;by_cases hk:k=0∨k=1∨k=2∨k=3
   ·exact zhv 0 d S k n t l p v w h hA.1 hg hd hC hk
   have e:jo d (.mk k n t l p)=false:=by
    unfold jo;rw[if_neg (by omega),if_neg (by omega),if_neg (by omega),if_neg (by omega),if_pos (.inr (.inr (by simp at hC;omega)))]
   rw[e];exact zhu d S k n t l p v w h hg (qz (by omega)) (qz (by omega)) (qz (by omega)) (qz (by omega)) (.inr (.inr (.inl (by rw[decide_eq_true_eq];simp at hC;omega))))
 | succ f ih =>
   intro d S j v w h hB hg hd hC;obtain⟨k,n,t,l,p⟩:=j;have hA:=fits.open hB;have hD:d+1+(f:Int)=8:=by simp at hC;omega
   by_cases hk:k=0∨k=1∨k=2∨k=3
   ·exact zhv (f+1) d S k n t l p v w h hA.1 hg hd hC hk
   have none:=zhu d S k n t l p v w h hg (qz (by omega)) (qz (by omega)) (qz (by omega)) (qz (by omega))
   have e:jo d (.mk k n t l p)=(if n≠0∨t≠[]∨8≤d then false else if k=4 then zad (d+1) l&&p.isEmpty else if k=5 then qn (d+1) [] p&&l.isEmpty else false):=by
    conv=>lhs;unfold jo
    rw[if_neg (by omega),if_neg (by omega),if_neg (by omega),if_neg (by omega)]
   rw[e];by_cases hn:n=0
   ·by_cases ht:t=[]
    ·rw[if_neg (by rintro(h | h | h);exact h hn;exact h ht;omega)];subst hn ht;by_cases h4:k=4
     ·subst h4;rw[if_pos rfl];exact znz f ih d S l p v w h hA.2.2.2.1 hA.2.1 hg hd hD
     rw[if_neg h4];by_cases h5:k=5
     ·subst h5;rw[if_pos rfl];exact zjn f ih d S l p v w h hA.2.2.2.2 hA.2.2.1 hg hd hD
     rw[if_neg h5];exact none (.inr (.inr (.inr ⟨qz h4,qz h5⟩)))
    rw[if_pos (.inr (.inl ht))];refine none (.inr (.inl ?_));cases t with
    | nil=>exact absurd rfl ht
    | cons x m=>exact⟨x,m,rfl⟩
   rw[if_pos (.inl hn)];exact none (.inl (by simpa using hn))
def zmm (j:J):Nat:=if jo 0 j then 0 else 1
set_option maxRecDepth 100000 in
set_option maxHeartbeats 400000 in
theorem zra (S:Nat→Prop) (j:J) (v:Value) (w:World) (h:RJ S w j v) (hfit:fits 67108864 j=true) (hg:Gl w) :
 Calls Tryz.prog 74 #[v] w fun e w'=>e = .returned (zi2 (zmm j))∧Fr NoB w w':=by
 unfold zmm;have hs:=fun W hW hC=>zug 8 0 S j v W hW hfit hC (by omega) (by omega)
 generalize jo 0 j=B at *;have Hs:=Lib.hid hs;clear hs
 have hA:∃ a0 a1 a2 a3 a4,v = .agg #[a0,a1,a2,a3,a4]:=by
  obtain⟨k,n,t,l,p⟩:=j;obtain⟨y1,n1,y2,n2,hB,_,_⟩:=h.open;exact⟨_,_,_,_,_,hB⟩
 obtain⟨a0,a1,a2,a3,a4,rfl⟩:=hA;cases B
 all_goals
  go_enter Tryz.func74,Tryz.ntmps74
  go_wp2_with fail
  refine(Hs.out _ (RJ.kp (Kp.ofFr (Fr.refl.alloc _)) _ _ h) (hg.alloc _)).mono ?_;rintro e w1 ⟨rfl,hD⟩;have HF:=Lib.hid ((Fr.refl (M:=NoB)).alloc (w:=w) (.cells #[a0,a1,a2,a3,a4] 56) |>.trans' hD)
  go_wp2_with fail
  go_ret;exact⟨rfl,HF.out⟩
end Go.Proofs.YtmgfncjfgkllcaaGreatDoor
