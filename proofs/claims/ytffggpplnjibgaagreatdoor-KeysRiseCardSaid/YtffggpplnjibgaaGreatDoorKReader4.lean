/-
 The walks of json's reader,further: numbers.
-/
import Derived.Test.YtffggpplnjibgaaGreatDoorKReader3
import Derived.Test.YtffggpplnjibgaaGreatDoorKCellRows
open Go.Lib renaming hid→zi
open Nat renaming le_refl→ja
namespace Go.Proofs.YtffggpplnjibgaaGreatDoor
set_option linter.unusedVariables false
set_option linter.unusedSimpArgs false
set_option linter.unusedSectionVars false
set_option maxRecDepth 100000
set_option maxHeartbeats 4000000
open Go.RowKit
attribute [local instance] zaj

theorem zgw:∀ (s:Bs) (n k:Nat),n≤90071992547409919→(qv n k s).1≤90071992547409919∧(qv n k s).2.1≤k+s.length∧(qv n k s).2.2.length≤s.length:=by
 intro s
 induction s with
 | nil=>intro n k h;exact⟨h,ja _,ja _⟩
 | cons x l ih =>
   intro n k h;unfold qv;split
   ·split
    ·have:=ih (10 * n+(x.toNat - 48)) (k+1) (by omega);exact⟨this.1,by have:=this.2.1;simp;omega,by have:=this.2.2;simp;omega⟩
    have:=ih n (k+1) h;exact⟨this.1,by have:=this.2.1;simp;omega,by have:=this.2.2;simp;omega⟩
   exact⟨h,by simp,ja _⟩
def VB (b:Nat) (w:World):Prop:=∃ q0 q1 q2 q3 q4,w.heap[b]? = some (.cells #[q0,q1,q2,q3,q4] 65 (0,0))
theorem VB.lt {b:Nat}{w:World}(h:VB b w):b<w.heap.size:=by obtain⟨_,_,_,_,_,h⟩:=h;exact jq h
theorem VB.cells {b:Nat}{w:World}(h:VB b w):∃ q0 q1 q2 q3 q4,w.cell? ⟨b,0,none⟩=some q0∧w.cell? ⟨b,1,none⟩=some q1∧w.cell? ⟨b,2,none⟩=some q2∧w.cell? ⟨b,3,none⟩=some q3∧w.cell? ⟨b,4,none⟩=some q4∧(∀ o,w.frozen? ⟨b,o,none⟩=false)∧b<w.heap.size:=by
 have hl:=h.lt;obtain⟨q0,q1,q2,q3,q4,h⟩:=h;refine⟨q0,q1,q2,q3,q4,?_,?_,?_,?_,?_,?_,hl⟩<;>simp[World.cell?,World.frozen?,h]
theorem VB.fr {M:Nat→Obj→Prop}{b:Nat}{w w':World}(h:VB b w)(hF:Fr M w w')(hM:∀ o,OfTy 65 o→¬ M b o):VB b w':=by
 obtain⟨q0,q1,q2,q3,q4,h⟩:=h;exact⟨q0,q1,q2,q3,q4,hF.block _ _ h (hM _ ⟨_,_,rfl⟩)⟩
theorem VB.rd {b r:Nat} {w w':World} (h:VB b w) (hF:Fr (MR r) w w'):VB b w' :=
 h.fr hF (fun o ho hm=>by
  obtain⟨_,c,f,h1⟩:=hm;obtain⟨c',f',h2⟩:=ho;rw[h1]at h2
  simp at h2)
theorem VB.new (w:World)(q0 q1 q2 q3 q4:Value):VB w.heap.size (w.alloc (.cells #[q0,q1,q2,q3,q4] 65)):=⟨q0,q1,q2,q3,q4,heap_alloc_new w _⟩
def setV (b:Nat) (v0 v1 v2 v3 v4:Value) (w:World):World :=
 ((((w.setCell ⟨b,0,none⟩ v0).setCell ⟨b,1,none⟩ v1).setCell ⟨b,2,none⟩ v2).setCell ⟨b,3,none⟩ v3).setCell ⟨b,4,none⟩ v4
theorem VB.setV {b:Nat}{w:World}(h:VB b w)(v0 v1 v2 v3 v4:Value):(setV b v0 v1 v2 v3 v4 w).heap[b]? = some (.cells #[v0,v1,v2,v3,v4] 65 (0,0)):=by
 obtain⟨q0,q1,q2,q3,q4,h⟩:=h;simp[Go.Proofs.YtffggpplnjibgaaGreatDoor.setV,World.setCell,Array.getElem?_modify,h]
theorem Fr.setV {M:Nat→Obj→Prop}{b:Nat}{w w1:World}(h:Fr M w w1)(hb:w.heap.size≤b)(v0 v1 v2 v3 v4:Value):Fr M w (setV b v0 v1 v2 v3 v4 w1) :=
 ((((h.setNew _ _ hb).setNew _ _ hb).setNew _ _ hb).setNew _ _ hb).setNew _ _ hb
theorem Rd.setV {r b:Nat}{s:Bs}{bad:Bool}{d:Int}{w:World}(h:Rd r s bad d w)(hb:r≠b)(v0 v1 v2 v3 v4:Value):Rd r s bad d (setV b v0 v1 v2 v3 v4 w) :=
 ((((h.other _ hb).other _ hb).other _ hb).other _ hb).other _ hb
theorem zn3 (r:Nat) (x:UInt8) (l:Bs) (bad:Bool) (d:Int) (w:World) (h:Rd r (x :: l) bad d w) (hlen:(x :: l).length≤1073741824) :
 Calls Tryz.prog 227 #[.pointer (some ⟨r,0,none⟩)] w fun e w'=>∃ v,e = .returned v∧RJ (fun k=>w.heap.size≤k) w' (za4 ⟨x :: l,bad⟩).1 v∧Rd r (za4 ⟨x :: l,bad⟩).2.s (za4 ⟨x :: l,bad⟩).2.bad d w'∧Fr (MR r) w w':=by
 obtain⟨c0,c1,c2,f1,hr1⟩:=h.cells;have hx:=zi (zaf (x :: l) 1 (l.length+1) (by simp))
 -- the sign
 obtain ⟨m,s1,hm,hX,hl,hs⟩:∃ (m:Bool) (s1:Bs),((x.toNat:Int)==45)=m∧(s1=if m then l else x :: l)∧za4 ⟨x :: l,bad⟩=zci m bad s1∧s1.length≤1073741824:=by
  by_cases hb:x=45
  ·refine⟨true,l,by rw[hb];rfl,rfl,by simp[za4,hb],by simp at hlen;omega⟩
  refine⟨false,x :: l,?_,rfl,by simp[za4,hb],hlen⟩;rw[beq_eq_false_iff_ne];intro e;exact hb (UInt8.toNat_inj.1 (by simp;omega))
 rw[hl];clear hl
 have hY:∀ W,(W=(if m then w.setCell ⟨r,0,none⟩ (.string ⟨l.toArray⟩) else w).alloc (.cells #[.int .i64 0,.int .i64 0,.string ⟨#[]⟩,.slice none 0 0,.slice none 0 0] 65))→Rd r s1 bad d W∧VB w.heap.size W∧Fr (MR r) w W:=by
  rintro W rfl;cases m
  ·simp only[Bool.false_eq_true,if_false]at hX ⊢;subst hX;exact⟨h.alloc _,VB.new w _ _ _ _ _,Fr.refl.alloc _⟩
  simp only[if_true]at hX ⊢;subst hX;have:=VB.new (w.setCell ⟨r,0,none⟩ (.string ⟨s1.toArray⟩)) (.int .i64 0) (.int .i64 0) (.string ⟨#[]⟩) (.slice none 0 0) (.slice none 0 0);rw[World.size_setCell]at this;exact⟨(h.set0 _).alloc _,this,(Fr.refl.setCell _ _ h.one).alloc _⟩
 have Hpre:=zi hY;clear hY hX;generalize hG:zci m bad s1=G;have HG:=zi hG;clear hG;cases m
 all_goals
  have hp:=Hpre.out;simp only[Bool.false_eq_true,if_false,if_true]at hp;obtain⟨hI,hT,hW⟩:=hp _ rfl;clear hp;cases s1 with
  | nil =>
    go_enter Tryz.func227,Tryz.ntmps227
    go_wp2_with fail
    try rw[hx.out]
    refine(za3 (fun w'=>Rd r [] bad d w'∧VB w.heap.size w'∧Fr (MR r) w w') (zh2 r bad d _ hI) ⟨hI,hT,hW⟩).mono ?_;rintro e w1 ⟨rfl,hN,hQ,hU⟩;clear hI hT hW
    go_wp2_with fail
    refine(zah r _ _ d _ hN).mono ?_;rintro e w2 ⟨rfl,hB,hE⟩;have hH:=hQ.rd hE;obtain⟨q0,q1,q2,q3,q4,a0,a1,a2,a3,a4,fz,he⟩:=hH.cells
    go_wp2_with fail
    refine bodyPost_ret (v := .agg #[.int .i64 0,.int .i64 0,.string ⟨#[]⟩,.slice none 0 0,.slice none 0 0]) (by simp[results,Tryz.results227,go_sem,a0,a1,a2,a3,a4]) rfl ?_;have hG:=HG.out;simp only[zci]at hG;subst hG;have hP:r≠w.heap.size:=by omega
    exact⟨_,rfl,RJ.zero _ _,hB.setV hP _ _ _ _ _,(hU.trans' hE).setV (ja _) _ _ _ _ _⟩
  | cons y s2 =>
    by_cases hy:48≤y.toNat∧y.toNat≤57
    ·have hc:decide (48≤y.toNat∧y.toNat≤57)=true:=by simpa using hy
     generalize hD:qv 0 0 (y :: s2)=D;have HD:=zi hD;have h1:=zgw (y :: s2) 0 0 (by omega);rw[hD]at h1;clear hD;obtain⟨z,hz⟩:∃ z:Bool,((y.toNat:Int)==48)=z:=⟨_,rfl⟩
     have hq:Hid (decide (y=48)=z):=by
      unfold Hid;rw[← hz,Bool.eq_iff_iff,decide_eq_true_eq,beq_iff_eq];exact⟨fun e=>by rw[e];rfl,fun e=>UInt8.toNat_inj.1 (by simp;omega)⟩
     have hA:=HG.out;simp only[zci,hy,and_self,if_true,HD.out,hq.out]at hA;have Hend:=zi hA;clear hA hy;go_enter Tryz.func227,Tryz.ntmps227
     go_wp2_with fail
     try rw[hx.out]
     refine(za3 (fun w'=>Rd r (y :: s2) bad d w'∧VB w.heap.size w'∧Fr (MR r) w w') (zbv r y s2 bad d _ hI) ⟨hI,hT,hW⟩).mono ?_;rintro e w1 ⟨rfl,hN,hQ,hU⟩;rw[hc];clear hI hT hW c0 c1 c2 f1;obtain⟨c0,c1,c2,f1,hO⟩:=hN.cells
     go_wp2_with fail
     go_loopg [5,6] ((y :: s2).length+1) (fun g vn vk wr=>∃ (n k:Nat) (s:Bs),vn = .int .i64 n∧vk = .int .i64 k∧n≤90071992547409919∧k+s.length≤1073741824∧Rd r s bad d wr∧VB w.heap.size wr∧Fr (MR r) w wr∧Hid (qv n k s=D)∧s.length<g)
     case atStart=>exact⟨0,0,y :: s2,rfl,rfl,by omega,by simpa using hs,hN,hQ,hU,HD,by simp⟩
     case round =>
      obtain⟨n,k,s,rfl,rfl,hn,hk,hR,hV,hF,hS,hg⟩:=hrel;clear hN hQ hU c0 c1 c2 f1 hO;obtain⟨c0,c1,c2,f1,hO⟩:=hR.cells;by_cases hd:∃ a s',s=a :: s'∧48≤a.toNat∧a.toNat≤57
      ·obtain ⟨a,s',hr,ha⟩:=hd;subst hr;generalize s'=s at *;have hZ:decide (48≤a.toNat∧a.toNat≤57)=true:=by simpa using ha
       have hj:=zi (zaf (a :: s) 1 (s.length+1) (by simp));have hM:=hS.out;simp only[qv,ha,and_self,if_true]at hM;obtain⟨ha1,ha2⟩:=ha;have ho:(a :: s).length=s.length+1:=rfl;rw[ho]at hg hk;clear hS ho;rcases Nat.lt_or_ge 9007199254740991 n with hC | hC
       ·have ht:decide ((n:Int)≤9007199254740991)=false:=by simp only[decide_eq_false_iff_not];omega
        rw[if_neg (by omega)]at hM;have hi:=zi hM;clear hC hM
        go_wp2_with fail
        refine(za3 (fun w'=>Rd r (a :: s) bad d w'∧VB w.heap.size w'∧Fr (MR r) w w') (zbv r a s bad d _ hR) ⟨hR,hV,hF⟩).mono ?_;rintro e w2 ⟨rfl,hB,hH,hE⟩;rw[hZ];clear hR hV hF c0 c1 c2 f1 hO;obtain⟨c0,c1,c2,f1,hO⟩:=hB.cells
        go_wp2_with fail
        go_roundg (gk - 1)
        case measure=>omega
        case rel =>
         rw[hj.out];have hK:Fr (MR r) w2 (w2.setCell ⟨r,0,none⟩ (.string ⟨s.toArray⟩)):=Fr.refl.setCell _ _ hB.one;exact⟨n,k+1,s,rfl,by go_num,hn,by omega,hB.set0 _,hH.rd hK,hE.trans' hK,hi,by omega⟩
       have ht:decide ((n:Int)≤9007199254740991)=true:=by simp only[decide_eq_true_eq];omega
       rw[if_pos hC]at hM;have hi:=zi hM;have hn':(n:Int)≤9007199254740991:=by omega
       have Hbig:=zi hC;clear hM hC
       go_wp2_with fail
       refine(za3 (fun w'=>Rd r (a :: s) bad d w'∧VB w.heap.size w'∧Fr (MR r) w w') (zbv r a s bad d _ hR) ⟨hR,hV,hF⟩).mono ?_;rintro e w2 ⟨rfl,hB,hH,hE⟩;rw[hZ];clear hR hV hF c0 c1 c2 f1 hO;obtain⟨c0,c1,c2,f1,hO⟩:=hB.cells
       go_wp2_with fail
       go_roundg (gk - 1)
       case measure=>omega
       case rel =>
        rw[hj.out];have hK:Fr (MR r) w2 (w2.setCell ⟨r,0,none⟩ (.string ⟨s.toArray⟩)):=Fr.refl.setCell _ _ hB.one;have hC:=Hbig.out;exact⟨10 * n+(a.toNat - 48),k+1,s,by congr 1;omega,by go_num,by omega,by omega,hB.set0 _,hH.rd hK,hE.trans' hK,hi,by omega⟩
      have hf:Hid (D=(n,k,s)):=by
       unfold Hid;rw[← hS.out];cases s with
       | nil=>rfl
       | cons a s =>
         have ha:¬ (48≤a.toNat∧a.toNat≤57):=fun ha=>hd ⟨a,s,rfl,ha⟩
         simp only[qv,ha,if_false]
      have hJ:Calls Tryz.prog 262 #[.pointer (some ⟨r,0,none⟩)] wr fun e w'=>e = .returned (.bool false)∧wr=w':=by
       cases s with
       | nil=>exact zh2 r bad d wr hR
       | cons a s =>
         have ha:¬ (48≤a.toNat∧a.toNat≤57):=fun ha=>hd ⟨a,s,rfl,ha⟩
         have hZ:decide (48≤a.toNat∧a.toNat≤57)=false:=by simpa using ha
         have:=zbv r a s bad d wr hR;rw[hZ]at this;exact this
      have Hcall:=zi hJ;clear hJ hd hS;have hh:∃ b1 b2:Bool,decide ((9007199254740991:Int)<n)=b1∧decide ((1:Int)<k)=b2:=⟨_,_,rfl,rfl⟩;obtain⟨b1,b2,hv,hu⟩:=hh;have hA:=Hend.out;rw[hf.out]at hA;have e1:decide (9007199254740991<n)=b1:=by rw[← hv,Bool.eq_iff_iff];simp only[decide_eq_true_eq];omega
      have e2:decide (1<k)=b2:=by rw[← hu,Bool.eq_iff_iff];simp only[decide_eq_true_eq];omega
      simp only[e1,e2]at hA;have hL:=zi hA;clear hA e1 e2;cases b1<;>cases z<;>cases b2
      all_goals
       go_wp2_with fail
       refine(za3 (fun w'=>Rd r s bad d w'∧VB w.heap.size w'∧Fr (MR r) w w') Hcall.out ⟨hR,hV,hF⟩).mono ?_;rintro e w2 ⟨rfl,hB,hH,hE⟩;have hP:r≠w.heap.size:=by omega
       obtain⟨q0,q1,q2,q3,q4,a0,a1,a2,a3,a4,fz,he⟩:=hH.cells
       go_wp2_with fail
       first
        | (refine(zah r _ _ d _ hB).mono ?_;rintro e w4 ⟨rfl,h0,hK⟩;have hw:=hH.rd hK;(obtain⟨q0,q1,q2,q3,q4,a0,a1,a2,a3,a4,fz,he⟩:=hw.cells;go_wp2_with fail;(first | (refine bodyPost_ret (v := .agg #[.int .i64 2,.int .i64 (n:Int),.string ⟨#[]⟩,.slice none 0 0,.slice none 0 0]) ?_ rfl ?_;focus (simp[results,Tryz.results227,go_sem,a0,a1,a2,a3,a4];done)) | (refine bodyPost_ret (v := .agg #[.int .i64 2,.int .i64 (-(n:Int)),.string ⟨#[]⟩,.slice none 0 0,.slice none 0 0]) ?_ rfl ?_;focus (simp[results,Tryz.results227,go_sem,a0,a1,a2,a3,a4];done)));have hG:=hL.out;simp at hG;subst hG;exact⟨_,rfl,RJ.flat _ _ _ _ [],h0.setV hP _ _ _ _ _,(hE.trans' hK).setV (ja _) _ _ _ _ _⟩))
        | ((first | (refine bodyPost_ret (v := .agg #[.int .i64 2,.int .i64 (n:Int),.string ⟨#[]⟩,.slice none 0 0,.slice none 0 0]) ?_ rfl ?_;focus (simp[results,Tryz.results227,go_sem,a0,a1,a2,a3,a4];done)) | (refine bodyPost_ret (v := .agg #[.int .i64 2,.int .i64 (-(n:Int)),.string ⟨#[]⟩,.slice none 0 0,.slice none 0 0]) ?_ rfl ?_;focus (simp[results,Tryz.results227,go_sem,a0,a1,a2,a3,a4];done)));have hG:=hL.out;simp at hG;subst hG;exact⟨_,rfl,RJ.flat _ _ _ _ [],hB.setV hP _ _ _ _ _,(hE).setV (ja _) _ _ _ _ _⟩)
    have hc:decide (48≤y.toNat∧y.toNat≤57)=false:=by simpa using hy
    have hA:=HG.out;simp only[zci,hy,if_false]at hA;have Hend:=zi hA;clear hA hy;go_enter Tryz.func227,Tryz.ntmps227
    go_wp2_with fail
    try rw[hx.out]
    refine(za3 (fun w'=>Rd r (y :: s2) bad d w'∧VB w.heap.size w'∧Fr (MR r) w w') (zbv r y s2 bad d _ hI) ⟨hI,hT,hW⟩).mono ?_;rintro e w1 ⟨rfl,hN,hQ,hU⟩;rw[hc];clear hI hT hW
    go_wp2_with fail
    refine(zah r _ _ d _ hN).mono ?_;rintro e w2 ⟨rfl,hB,hE⟩;have hH:=hQ.rd hE;obtain⟨q0,q1,q2,q3,q4,a0,a1,a2,a3,a4,fz,he⟩:=hH.cells
    go_wp2_with fail
    refine bodyPost_ret (v := .agg #[.int .i64 0,.int .i64 0,.string ⟨#[]⟩,.slice none 0 0,.slice none 0 0]) (by simp[results,Tryz.results227,go_sem,a0,a1,a2,a3,a4]) rfl ?_;have hG:=Hend.out;subst hG;have hP:r≠w.heap.size:=by omega
    exact⟨_,rfl,RJ.zero _ _,hB.setV hP _ _ _ _ _,(hU.trans' hE).setV (ja _) _ _ _ _ _⟩
end Go.Proofs.YtffggpplnjibgaaGreatDoor
