/-
 The reference's reader of texts: what stands behind a backslash.
-/
import Derived.Test.YtmgfncjfgkllcaaGreatDoorKTxt3
open Go.Lib renaming hid→za
open Go.IntKind renaming wrap_i64→zk
open List renaming length_drop→zr
open Nat renaming le_refl→zt
namespace Go.Proofs.YtmgfncjfgkllcaaGreatDoor
set_option linter.unusedVariables false
set_option linter.unusedSimpArgs false
set_option linter.unusedSectionVars false
set_option maxRecDepth 100000
set_option maxHeartbeats 8000000
section
open Go.RowKit
variable [OldK]
attribute [local irreducible] wpStill
theorem zu2:∀ (k n:Nat) (s:Bs),(zcp k n ⟨s,true⟩).2.bad=true:=by
 intro k
 induction k with
 | zero=>intro n s;rfl
 | succ k ih =>
   intro n s;unfold zcp;split
   ·rfl
   split
   ·exact ih _ _
   rfl
theorem zxm:∀ (k n:Nat) (s:Bs),(zcp k n ⟨s,false⟩).2.bad=true→(zcp k n ⟨s,false⟩).1=0:=by
 intro k
 induction k with
 | zero=>intro n s h;simp[zcp]at h
 | succ k ih =>
   intro n s;unfold zcp;split
   ·intro _;rfl
   split
   ·exact ih _ _
   intro _;rfl
theorem zlu:∀ (k n:Nat) (st:St),(zcp k n st).1+1≤(n+1) * 16 ^ k:=by
 intro k
 induction k with
 | zero=>intro n st;simp[zcp]
 | succ k ih =>
   intro n st;have hp:1≤16 ^ k:=Nat.one_le_pow _ _ (by decide);have hz:0+1≤(n+1) * 16 ^ (k+1):=Nat.mul_pos (by omega) (Nat.pow_pos (by decide));unfold zcp;split
   ·exact hz
   rename_i x l hl
   cases hx:zgz x with
   | none=>exact hz
   | some v =>
     have hv:v≤15:=by
      have:=zvd x;rw[hx]at this;cases this<;>omega
     have:=ih (16 * n+v) ⟨l,st.bad⟩;refine Nat.le_trans this ?_;rw[Nat.pow_succ,Nat.mul_comm (16 ^ k) 16,← Nat.mul_assoc];exact Nat.mul_le_mul_right _ (by omega)
def escs:List (Int × Nat):=[(34,34),(92,92),(47,47),(98,8),(102,12),(110,10),(114,13),(116,9)]
theorem zvi (s:Bs) :
 (∀ q∈escs,nxT s=q.1→j5 ⟨s,false⟩=(q.2,⟨s.drop 1,false⟩)∧1≤s.length) ∧
 ((∀ q∈escs,nxT s≠q.1)→nxT s≠117→(j5 ⟨s,false⟩).1=0∧(j5 ⟨s,false⟩).2.bad=true) ∧
 (nxT s=117→j5 ⟨s,false⟩=zdo ⟨s.drop 1,false⟩∧1≤s.length):=by
 cases s with
 | nil=>simp[nxT,escs,j5]
 | cons x l =>
   have hx:∀ k:Nat,k<256→(((x.toNat:Int)=(k:Int))↔x=UInt8.ofNat k):=by
    intro k hk;rw[← UInt8.toNat_inj,UInt8.toNat_ofNat_of_lt' hk];omega
   have hI:=hx 34 (by decide);have hG:=hx 92 (by decide);have hH:=hx 47 (by decide);have hF:=hx 98 (by decide);have hE:=hx 102 (by decide);have hD:=hx 110 (by decide);have hC:=hx 114 (by decide);have hB:=hx 116 (by decide);have hA:=hx 117 (by decide);simp only[nxT,escs,List.mem_cons,List.not_mem_nil,or_false,forall_eq_or_imp,forall_eq,List.drop_succ_cons,List.drop_zero];refine⟨⟨?_,?_,?_,?_,?_,?_,?_,?_⟩,?_,?_⟩
   ·intro h;rw[hI.1 h];exact⟨rfl,by simp⟩
   ·intro h;rw[hG.1 h];exact⟨rfl,by simp⟩
   ·intro h;rw[hH.1 h];exact⟨rfl,by simp⟩
   ·intro h;rw[hF.1 h];exact⟨rfl,by simp⟩
   ·intro h;rw[hE.1 h];exact⟨rfl,by simp⟩
   ·intro h;rw[hD.1 h];exact⟨rfl,by simp⟩
   ·intro h;rw[hC.1 h];exact⟨rfl,by simp⟩
   ·intro h;rw[hB.1 h];exact⟨rfl,by simp⟩
   ·rintro⟨n1,n2,n3,n4,n5,n6,n7,n8⟩ n9;have n1:¬ x=34:=fun e=>n1 (hI.2 e)
    have n2:¬ x=92:=fun e=>n2 (hG.2 e)
    have n3:¬ x=47:=fun e=>n3 (hH.2 e)
    have n4:¬ x=98:=fun e=>n4 (hF.2 e)
    have n5:¬ x=102:=fun e=>n5 (hE.2 e)
    have n6:¬ x=110:=fun e=>n6 (hD.2 e)
    have n7:¬ x=114:=fun e=>n7 (hC.2 e)
    have n8:¬ x=116:=fun e=>n8 (hB.2 e)
    have n9:¬ x=117:=fun e=>n9 (hA.2 e)
    have hp:zcc x=none:=by
     unfold zcc;rw[if_neg n1,if_neg n2,if_neg n3,if_neg n4,if_neg n5,if_neg n6,if_neg n7,if_neg n8]
    unfold j5;simp only[hp];rw[if_neg n9];exact⟨rfl,rfl⟩
   intro h;rw[hA.1 h];exact⟨rfl,by simp⟩
theorem zwm {st st1:St}{n:Nat}(h:zcp 4 0 st=(n,st1))(hn:n<55296∨57344≤n):zdo st=(n,st1):=by
 unfold zdo;rw[h];simp only;rw[if_pos hn]
theorem zgk {st st1:St}{n:Nat}(h:zcp 4 0 st=(n,st1))(hn:55296≤n∧n<57344)
 (hb:56320≤n∨∀ low st2,zcp 4 0 (zaa [92,117] st1)=(low,st2)→st2.bad=true∨low<56320∨57344≤low):(zdo st).1=0∧(zdo st).2.bad=true:=by
 unfold zdo;rw[h];simp only;rw[if_neg (by omega)];split
 ·exact⟨rfl,rfl⟩
 rename_i h1
 generalize hG:zcp 4 0 (zaa [92,117] st1)=G at *;obtain⟨low,st2⟩:=G;simp only;rw[if_pos ((hb.resolve_left h1) low st2 rfl)];exact⟨rfl,rfl⟩
theorem zwl {st st1 st2:St}{n low:Nat}(h:zcp 4 0 st=(n,st1))(hn:55296≤n∧n<56320)(h2:zcp 4 0 (zaa [92,117] st1)=(low,st2))(hb:st2.bad=false)(hl:56320≤low∧low<57344) :
 zdo st=(65536+(n - 55296) * 1024+low - 56320,st2):=by
 unfold zdo;rw[h];simp only;rw[if_neg (by omega),if_neg (by omega),h2];simp only;rw[if_neg (by rw[hb];simp;omega)]
theorem RS.mono {b:Nat}{L:Bs}{v:Value}{K K':Nat}{st:St}{w:World}(h:RS b L v K st w)(hK:K≤K'):RS b L v K' st w:=by
 obtain⟨a,h1,h2,h3⟩:=h;exact⟨a,h1,h2,by omega⟩
theorem z2t (h:0<(ByteArray.mk #[34,92,47,98,102,110,114,116]).size):(ByteArray.mk #[34,92,47,98,102,110,114,116])[0]'h=34:=rfl
theorem z2s (h:1<(ByteArray.mk #[34,92,47,98,102,110,114,116]).size):(ByteArray.mk #[34,92,47,98,102,110,114,116])[1]'h=92:=rfl
theorem z2r (h:2<(ByteArray.mk #[34,92,47,98,102,110,114,116]).size):(ByteArray.mk #[34,92,47,98,102,110,114,116])[2]'h=47:=rfl
theorem z2q (h:3<(ByteArray.mk #[34,92,47,98,102,110,114,116]).size):(ByteArray.mk #[34,92,47,98,102,110,114,116])[3]'h=98:=rfl
theorem z2p (h:4<(ByteArray.mk #[34,92,47,98,102,110,114,116]).size):(ByteArray.mk #[34,92,47,98,102,110,114,116])[4]'h=102:=rfl
theorem z2o (h:5<(ByteArray.mk #[34,92,47,98,102,110,114,116]).size):(ByteArray.mk #[34,92,47,98,102,110,114,116])[5]'h=110:=rfl
theorem z2n (h:6<(ByteArray.mk #[34,92,47,98,102,110,114,116]).size):(ByteArray.mk #[34,92,47,98,102,110,114,116])[6]'h=114:=rfl
theorem z2m (h:7<(ByteArray.mk #[34,92,47,98,102,110,114,116]).size):(ByteArray.mk #[34,92,47,98,102,110,114,116])[7]'h=116:=rfl
theorem z25 (h:0<(ByteArray.mk #[34,92,47,8,12,10,13,9]).size):(ByteArray.mk #[34,92,47,8,12,10,13,9])[0]'h=34:=rfl
theorem z22 (h:1<(ByteArray.mk #[34,92,47,8,12,10,13,9]).size):(ByteArray.mk #[34,92,47,8,12,10,13,9])[1]'h=92:=rfl
theorem z2z (h:2<(ByteArray.mk #[34,92,47,8,12,10,13,9]).size):(ByteArray.mk #[34,92,47,8,12,10,13,9])[2]'h=47:=rfl
theorem z2y (h:3<(ByteArray.mk #[34,92,47,8,12,10,13,9]).size):(ByteArray.mk #[34,92,47,8,12,10,13,9])[3]'h=8:=rfl
theorem z2x (h:4<(ByteArray.mk #[34,92,47,8,12,10,13,9]).size):(ByteArray.mk #[34,92,47,8,12,10,13,9])[4]'h=12:=rfl
theorem z2w (h:5<(ByteArray.mk #[34,92,47,8,12,10,13,9]).size):(ByteArray.mk #[34,92,47,8,12,10,13,9])[5]'h=10:=rfl
theorem z2v (h:6<(ByteArray.mk #[34,92,47,8,12,10,13,9]).size):(ByteArray.mk #[34,92,47,8,12,10,13,9])[6]'h=13:=rfl
theorem z2u (h:7<(ByteArray.mk #[34,92,47,8,12,10,13,9]).size):(ByteArray.mk #[34,92,47,8,12,10,13,9])[7]'h=9:=rfl
attribute [local go_sem] z2t z25 z2s z22 z2r z2z z2q z2y z2p z2x z2o z2w z2n z2v z2m z2u
theorem zrn (b:Nat) (L:Bs) (v:Value) (a:Nat) (w:World) (h:TX b L v a false w) (hL:L.length≤4096) (ha:a≤L.length) :
 Calls Tryz.prog 265 #[.pointer (some ⟨b,0,none⟩)] w fun e w'=>e = .returned (.int .i64 ((j5 ⟨L.drop a,false⟩).1:Int))∧RS b L v (L.length+1) (j5 ⟨L.drop a,false⟩).2 w'∧Fr (MT b) w w':=by
 obtain⟨F1,F2,F3⟩:=zvi (L.drop a);have Hc:=za (fun W hW=>zed b L v a false W hW hL (by omega));have hwa:IntKind.i64.wrap ((a:Int)+1)=(a:Int)+1:=by rw[zk];omega
 generalize j5 ⟨L.drop a,false⟩=G at *;have H:=za h;have hlt:=h.lt;have hJ:=za F1;have hg:=za F2;have hf:=za F3;clear h F1 F2 F3;generalize hm:nxT (L.drop a)=m at *;go_enter Tryz.func265,Tryz.ntmps265
 go_wp2_with fail
 refine(Hc.out _ H.out).mono ?_;rintro e w1 ⟨rfl,h2,hF⟩;have H2:=za h2;obtain⟨c0,c1,c2,fz,hB⟩:=h2.cells;clear h2
 go_wp2_with fail
 have H3:=za (H2.out.put1 ((a:Int)+1) (a+1) rfl);have hH:=za ((hF.mono (M':=MT b) (fun _ _ h=>h.elim)).setCell ⟨b,1,none⟩ (.int .i64 ((a:Int)+1)) (fun o ho=>H.out.one o ho));clear c0 c1 c2 fz hB H2 hF;generalize w1.setCell ⟨b,1,none⟩ (.int .i64 ((a:Int)+1))=w2 at *
 go_loopg [6] 9 (fun g vi wr=>∃ i:Nat,vi = .int .i64 (i:Int)∧i≤8∧i+g=9∧wr=w2∧Hid (∀ q∈escs.take i,m≠q.1))
 case atStart=>exact⟨0,rfl,by omega,rfl,rfl,za (by simp)⟩
 case round =>
  obtain⟨i,rfl,hi,hig,rfl,HN⟩:=hrel;rcases(by omega:i=0∨i=1∨i=2∨i=3∨i=4∨i=5∨i=6∨i=7∨i=8) with rfl | rfl | rfl | rfl | rfl | rfl | rfl | rfl | rfl
  ·by_cases hA:m=34
   ·obtain⟨g1,g2⟩:=hJ.out (34,34) (by decide) hA;have qk:(m==34)=true:=by rw[beq_iff_eq];exact hA
    have G1:=za g1;rw[zr]at g2;clear hA g1
    go_wp2_with fail
    go_ret;have g1:=G1.out;subst g1;refine⟨rfl,⟨a+1,H3.out,fun _=>⟨by rw[List.drop_drop],by omega⟩,by omega⟩,hH.out⟩
   have qk:(m==34)=false:=by rw[beq_eq_false_iff_ne];exact hA
   have hD:Hid (∀ q∈escs.take 1,m≠q.1):=by
    have hn:=HN.out;refine za ?_;simp[escs]at hn ⊢;simp[hn,hA]
   clear hA HN
   go_wp2_with fail
   go_roundg (gk - 1)
   case measure=>omega
   case rel=>exact⟨1,rfl,by omega,by omega,rfl,hD⟩
  ·by_cases hA:m=92
   ·obtain⟨g1,g2⟩:=hJ.out (92,92) (by decide) hA;have qk:(m==92)=true:=by rw[beq_iff_eq];exact hA
    have G1:=za g1;rw[zr]at g2;clear hA g1
    go_wp2_with fail
    go_ret;have g1:=G1.out;subst g1;refine⟨rfl,⟨a+1,H3.out,fun _=>⟨by rw[List.drop_drop],by omega⟩,by omega⟩,hH.out⟩
   have qk:(m==92)=false:=by rw[beq_eq_false_iff_ne];exact hA
   have hD:Hid (∀ q∈escs.take 2,m≠q.1):=by
    have hn:=HN.out;refine za ?_;simp[escs]at hn ⊢;simp[hn,hA]
   clear hA HN
   go_wp2_with fail
   go_roundg (gk - 1)
   case measure=>omega
   case rel=>exact⟨2,rfl,by omega,by omega,rfl,hD⟩
  ·by_cases hA:m=47
   ·obtain⟨g1,g2⟩:=hJ.out (47,47) (by decide) hA;have qk:(m==47)=true:=by rw[beq_iff_eq];exact hA
    have G1:=za g1;rw[zr]at g2;clear hA g1
    go_wp2_with fail
    go_ret;have g1:=G1.out;subst g1;refine⟨rfl,⟨a+1,H3.out,fun _=>⟨by rw[List.drop_drop],by omega⟩,by omega⟩,hH.out⟩
   have qk:(m==47)=false:=by rw[beq_eq_false_iff_ne];exact hA
   have hD:Hid (∀ q∈escs.take 3,m≠q.1):=by
    have hn:=HN.out;refine za ?_;simp[escs]at hn ⊢;simp[hn,hA]
   clear hA HN
   go_wp2_with fail
   go_roundg (gk - 1)
   case measure=>omega
   case rel=>exact⟨3,rfl,by omega,by omega,rfl,hD⟩
  ·by_cases hA:m=98
   ·obtain⟨g1,g2⟩:=hJ.out (98,8) (by decide) hA;have qk:(m==98)=true:=by rw[beq_iff_eq];exact hA
    have G1:=za g1;rw[zr]at g2;clear hA g1
    go_wp2_with fail
    go_ret;have g1:=G1.out;subst g1;refine⟨rfl,⟨a+1,H3.out,fun _=>⟨by rw[List.drop_drop],by omega⟩,by omega⟩,hH.out⟩
   have qk:(m==98)=false:=by rw[beq_eq_false_iff_ne];exact hA
   have hD:Hid (∀ q∈escs.take 4,m≠q.1):=by
    have hn:=HN.out;refine za ?_;simp[escs]at hn ⊢;simp[hn,hA]
   clear hA HN
   go_wp2_with fail
   go_roundg (gk - 1)
   case measure=>omega
   case rel=>exact⟨4,rfl,by omega,by omega,rfl,hD⟩
  ·by_cases hA:m=102
   ·obtain⟨g1,g2⟩:=hJ.out (102,12) (by decide) hA;have qk:(m==102)=true:=by rw[beq_iff_eq];exact hA
    have G1:=za g1;rw[zr]at g2;clear hA g1
    go_wp2_with fail
    go_ret;have g1:=G1.out;subst g1;refine⟨rfl,⟨a+1,H3.out,fun _=>⟨by rw[List.drop_drop],by omega⟩,by omega⟩,hH.out⟩
   have qk:(m==102)=false:=by rw[beq_eq_false_iff_ne];exact hA
   have hD:Hid (∀ q∈escs.take 5,m≠q.1):=by
    have hn:=HN.out;refine za ?_;simp[escs]at hn ⊢;simp[hn,hA]
   clear hA HN
   go_wp2_with fail
   go_roundg (gk - 1)
   case measure=>omega
   case rel=>exact⟨5,rfl,by omega,by omega,rfl,hD⟩
  ·by_cases hA:m=110
   ·obtain⟨g1,g2⟩:=hJ.out (110,10) (by decide) hA;have qk:(m==110)=true:=by rw[beq_iff_eq];exact hA
    have G1:=za g1;rw[zr]at g2;clear hA g1
    go_wp2_with fail
    go_ret;have g1:=G1.out;subst g1;refine⟨rfl,⟨a+1,H3.out,fun _=>⟨by rw[List.drop_drop],by omega⟩,by omega⟩,hH.out⟩
   have qk:(m==110)=false:=by rw[beq_eq_false_iff_ne];exact hA
   have hD:Hid (∀ q∈escs.take 6,m≠q.1):=by
    have hn:=HN.out;refine za ?_;simp[escs]at hn ⊢;simp[hn,hA]
   clear hA HN
   go_wp2_with fail
   go_roundg (gk - 1)
   case measure=>omega
   case rel=>exact⟨6,rfl,by omega,by omega,rfl,hD⟩
  ·by_cases hA:m=114
   ·obtain⟨g1,g2⟩:=hJ.out (114,13) (by decide) hA;have qk:(m==114)=true:=by rw[beq_iff_eq];exact hA
    have G1:=za g1;rw[zr]at g2;clear hA g1
    go_wp2_with fail
    go_ret;have g1:=G1.out;subst g1;refine⟨rfl,⟨a+1,H3.out,fun _=>⟨by rw[List.drop_drop],by omega⟩,by omega⟩,hH.out⟩
   have qk:(m==114)=false:=by rw[beq_eq_false_iff_ne];exact hA
   have hD:Hid (∀ q∈escs.take 7,m≠q.1):=by
    have hn:=HN.out;refine za ?_;simp[escs]at hn ⊢;simp[hn,hA]
   clear hA HN
   go_wp2_with fail
   go_roundg (gk - 1)
   case measure=>omega
   case rel=>exact⟨7,rfl,by omega,by omega,rfl,hD⟩
  ·by_cases hA:m=116
   ·obtain⟨g1,g2⟩:=hJ.out (116,9) (by decide) hA;have qk:(m==116)=true:=by rw[beq_iff_eq];exact hA
    have G1:=za g1;rw[zr]at g2;clear hA g1
    go_wp2_with fail
    go_ret;have g1:=G1.out;subst g1;refine⟨rfl,⟨a+1,H3.out,fun _=>⟨by rw[List.drop_drop],by omega⟩,by omega⟩,hH.out⟩
   have qk:(m==116)=false:=by rw[beq_eq_false_iff_ne];exact hA
   have hD:Hid (∀ q∈escs.take 8,m≠q.1):=by
    have hn:=HN.out;refine za ?_;simp[escs]at hn ⊢;simp[hn,hA]
   clear hA HN
   go_wp2_with fail
   go_roundg (gk - 1)
   case measure=>omega
   case rel=>exact⟨8,rfl,by omega,by omega,rfl,hD⟩
  have hn:∀ q∈escs,m≠q.1:=HN.out;clear HN;by_cases hA:m=117
  ·obtain ⟨g1,g2⟩:=hf.out hA;rw[zr]at g2;rw[List.drop_drop]at g1;have qk:(m==117)=true:=by rw[beq_iff_eq];exact hA
   have hh:(m != 117)=false:=by rw[bne,qk];rfl
   have hY:=zlu 4 0 ⟨L.drop (a+1),false⟩;have hT:=zxm 4 0 (L.drop (a+1));have Hf:=za (zyq b L v (a+1) wr H3.out hL (by omega));generalize hS:zcp 4 0 ⟨L.drop (a+1),false⟩=S at *;obtain⟨n,hX⟩:=S;have HS:=za hS;have G1:=za g1;simp only at hY hT;clear hA g1 hn hS hJ hg hf Hc;by_cases hn:n<55296∨57344≤n
   ·have e1:=G1.out.trans (zwm HS.out hn);subst e1
    have q1:decide ((n:Int)<55296)=true∨(decide ((n:Int)<55296)=false∧decide ((57343:Int)<(n:Int))=true):=by
     simp only[decide_eq_true_iff,decide_eq_false_iff_not];omega
    clear hn hY hT;rcases q1 with q1 | ⟨q1,q2⟩
    ·go_wp2_with fail
     refine Hf.out.mono ?_;rintro e w3 ⟨rfl,h4,hN⟩;have H4:=za h4;have hR:=za (hH.out.trans' hN);clear h4 hN
     go_wp2_with fail
     go_ret;exact⟨rfl,H4.out.mono (by omega),hR.out⟩
    go_wp2_with fail
    refine Hf.out.mono ?_;rintro e w3 ⟨rfl,h4,hN⟩;have H4:=za h4;have hR:=za (hH.out.trans' hN);clear h4 hN
    go_wp2_with fail
    go_ret;exact⟨rfl,H4.out.mono (by omega),hR.out⟩
   have q1:decide ((n:Int)<55296)=false:=by rw[decide_eq_false_iff_not];omega
   have q2:decide ((57343:Int)<(n:Int))=false:=by rw[decide_eq_false_iff_not];omega
   have hc:hX.bad=false:=by
    rw[← Bool.not_eq_true];intro hb;have:=hT hb;omega
   obtain⟨r1,bd⟩:=hX;simp only at hc;subst hc
   go_wp2_with fail
   refine Hf.out.mono ?_;rintro e w3 ⟨rfl,⟨a1,h4,h5,h6⟩,hN⟩;obtain⟨h5,h7⟩:=h5 rfl;have H4:=za h4;have hR:=za (hH.out.trans' hN);clear h4 hN
   go_wp2_with fail
   obtain⟨h5,-⟩:=h5 trivial;subst h5;refine(zmd [92,117] b L v a1 false w3 H4.out hL (by omega) (by decide) (by decide)).mono ?_;rintro e w5 ⟨rfl,h8,he⟩;have hO:=za (hR.out.trans' he);clear he Hf hT;by_cases hp:Lib.hasPrefix (L.drop a1) [92,117]=true
   ·rw [if_pos hp]at h8;obtain⟨h8,h9⟩:=h8
    have hZ:zaa [92,117] ⟨L.drop a1,false⟩=⟨L.drop (a1+2),false⟩:=by
     unfold zaa;rw[if_pos hp];unfold Lib.trimPrefix;rw[if_pos hp,List.drop_drop];rfl
    have hj:=zlu 4 0 ⟨L.drop (a1+2),false⟩;have hQ:=za (zyq b L v (a1+2) w5 h8 hL h9);generalize hd:zcp 4 0 ⟨L.drop (a1+2),false⟩=S2 at *;obtain⟨hG,r2,b2⟩:=S2;have hI:zcp 4 0 (zaa [92,117] ⟨L.drop a1,false⟩)=(hG,⟨r2,b2⟩):=by rw[hZ,hd]
    simp only at hj;obtain⟨c0,c1,c2,fz,hB⟩:=h8.cells;clear hp hZ hd;cases b2 with
    | true =>
      have Hs:=za (show G.1=0∧G.2.bad=true by rw[G1.out];exact zgk HS.out (by omega) (.inr (fun lo hV h => .inl (by rw[hI]at h;simp only[Prod.mk.injEq]at h;rw[← h.2]))));clear hI
      go_wp2_with fail
      refine hQ.out.mono ?_;rintro e w7 ⟨rfl,⟨a2,hC,hP,hU⟩,hE⟩;have hM:=za hC;have hK:=za (hO.out.trans' hE);clear c0 c1 c2 fz hB hE;obtain⟨c0,c1,c2,fz,hB⟩:=hC.cells;clear hC
      go_wp2_with fail
      go_ret;have hs:=Hs.out;exact⟨zb2 (by rw[hs.1];rfl),⟨a2,by rw[hs.2];exact hM.out.set2 true,fun hb=>by rw[hs.2]at hb;simp at hb,by omega⟩,hK.out.setCell _ _ (fun o ho=>H.out.one o ho)⟩
    | false =>
      by_cases k1:56320≤n
      ·have q3:decide ((56319:Int)<(n:Int))=true:=by rw[decide_eq_true_iff];omega
       have Hs:=za (show G.1=0∧G.2.bad=true by rw[G1.out];exact zgk HS.out (by omega) (.inl k1));clear hI
       go_wp2_with fail
       refine hQ.out.mono ?_;rintro e w7 ⟨rfl,⟨a2,hC,hP,hU⟩,hE⟩;have hM:=za hC;have hK:=za (hO.out.trans' hE);clear c0 c1 c2 fz hB hE;obtain⟨c0,c1,c2,fz,hB⟩:=hC.cells;clear hC
       go_wp2_with fail
       go_ret;have hs:=Hs.out;exact⟨zb2 (by rw[hs.1];rfl),⟨a2,by rw[hs.2];exact hM.out.set2 true,fun hb=>by rw[hs.2]at hb;simp at hb,by omega⟩,hK.out.setCell _ _ (fun o ho=>H.out.one o ho)⟩
      have q3:decide ((56319:Int)<(n:Int))=false:=by rw[decide_eq_false_iff_not];omega
      by_cases k2:hG<56320
      ·have q4:decide ((hG:Int)<56320)=true:=by rw[decide_eq_true_iff];omega
       have Hs:=za (show G.1=0∧G.2.bad=true by rw[G1.out];exact zgk HS.out (by omega) (.inr (fun lo hV h => .inr (.inl (by rw[hI]at h;simp only[Prod.mk.injEq]at h;omega)))));clear hI
       go_wp2_with fail
       refine hQ.out.mono ?_;rintro e w7 ⟨rfl,⟨a2,hC,hP,hU⟩,hE⟩;have hM:=za hC;have hK:=za (hO.out.trans' hE);clear c0 c1 c2 fz hB hE;obtain⟨c0,c1,c2,fz,hB⟩:=hC.cells;clear hC
       go_wp2_with fail
       go_ret;have hs:=Hs.out;exact⟨zb2 (by rw[hs.1];rfl),⟨a2,by rw[hs.2];exact hM.out.set2 true,fun hb=>by rw[hs.2]at hb;simp at hb,by omega⟩,hK.out.setCell _ _ (fun o ho=>H.out.one o ho)⟩
      have q4:decide ((hG:Int)<56320)=false:=by rw[decide_eq_false_iff_not];omega
      by_cases k3:57344≤hG
      ·have q5:decide ((57343:Int)<(hG:Int))=true:=by rw[decide_eq_true_iff];omega
       have Hs:=za (show G.1=0∧G.2.bad=true by rw[G1.out];exact zgk HS.out (by omega) (.inr (fun lo hV h => .inr (.inr (by rw[hI]at h;simp only[Prod.mk.injEq]at h;omega)))));clear hI
       go_wp2_with fail
       refine hQ.out.mono ?_;rintro e w7 ⟨rfl,⟨a2,hC,hP,hU⟩,hE⟩;have hM:=za hC;have hK:=za (hO.out.trans' hE);clear c0 c1 c2 fz hB hE;obtain⟨c0,c1,c2,fz,hB⟩:=hC.cells;clear hC
       go_wp2_with fail
       go_ret;have hs:=Hs.out;exact⟨zb2 (by rw[hs.1];rfl),⟨a2,by rw[hs.2];exact hM.out.set2 true,fun hb=>by rw[hs.2]at hb;simp at hb,by omega⟩,hK.out.setCell _ _ (fun o ho=>H.out.one o ho)⟩
      have q5:decide ((57343:Int)<(hG:Int))=false:=by rw[decide_eq_false_iff_not];omega
      have Hs:=za (show G=(65536+(n - 55296) * 1024+hG - 56320,⟨r2,false⟩) by rw[G1.out];exact zwl HS.out (by omega) hI rfl (by omega));have qw1':IntKind.i64.wrap ((n:Int) - 55296)=(n:Int) - 55296:=by rw[zk];omega
      have qw2':IntKind.i64.wrap (1024 * ((n:Int) - 55296))=1024 * ((n:Int) - 55296):=by rw[zk];omega
      have qw3':IntKind.i64.wrap (65536+1024 * ((n:Int) - 55296))=65536+1024 * ((n:Int) - 55296):=by rw[zk];omega
      have qw4':IntKind.i64.wrap (65536+1024 * ((n:Int) - 55296)+(hG:Int))=65536+1024 * ((n:Int) - 55296)+(hG:Int):=by rw[zk];omega
      have qw5':IntKind.i64.wrap (65536+1024 * ((n:Int) - 55296)+(hG:Int) - 56320)=65536+1024 * ((n:Int) - 55296)+(hG:Int) - 56320:=by rw[zk];omega
      clear hI
      go_wp2_with fail
      refine hQ.out.mono ?_;rintro e w7 ⟨rfl,⟨a2,hC,hP,hU⟩,hE⟩;have hM:=za hC;have hK:=za (hO.out.trans' hE);clear c0 c1 c2 fz hB hE;obtain⟨c0,c1,c2,fz,hB⟩:=hC.cells;clear hC
      go_wp2_with fail
      go_ret;have hs:=Hs.out;subst hs;exact⟨zb2 (by simp only;omega),⟨a2,hM.out,fun _=>hP trivial,by omega⟩,hK.out⟩
   rw[if_neg hp]at h8
   have Hs:=za (show G.1=0∧G.2.bad=true by
    rw[G1.out];refine zgk HS.out (by omega) (.inr (fun lo hV h => .inl ?_));have:=zu2 4 0 (L.drop a1);unfold zaa at h;rw[if_neg hp]at h;rw[h]at this
    exact this)
   obtain⟨c0,c1,c2,fz,hB⟩:=h8.cells;have H8:=za h8;clear h8 hp
   go_wp2_with fail
   go_ret;have hs:=Hs.out;exact⟨zb2 (by rw[hs.1];rfl),⟨a1,by rw[hs.2];exact H8.out.set2 true,fun hb=>by rw[hs.2]at hb;simp at hb,by omega⟩,hO.out.setCell _ _ (fun o ho=>H.out.one o ho)⟩
  have qk:(m==117)=false:=by rw[beq_eq_false_iff_ne];exact hA
  have hh:(m != 117)=true:=by rw[bne,qk];rfl
  have h2:=za (hg.out hn hA);obtain⟨c0,c1,c2,fz,hB⟩:=H3.out.cells;clear hA hn
  go_wp2_with fail
  go_ret;have h2:=h2.out;exact⟨zb2 (by rw[h2.1];rfl),⟨a+1,by rw[h2.2];exact H3.out.set2 true,fun hb=>by rw[h2.2]at hb;simp at hb,by omega⟩,hH.out.setCell _ _ (fun o ho=>H.out.one o ho)⟩
end
section
open Go.RowKit
variable [OldK]
attribute [local irreducible] wpStill
theorem zqn (b:Nat) (L:Bs) (v:Value) (a:Nat) (bad:Bool) (w:World) (h:TX b L v a bad w) (hL:L.length≤4096) (ha:a≤900000) :
 Calls Tryz.prog 267 #[.pointer (some ⟨b,0,none⟩)] w fun e w'=>e = .returned (.bool (decide (48≤nxT (L.drop a)∧nxT (L.drop a)≤57)))∧TX b L v a bad w'∧Fr NoB w w':=by
 have Hc:=za (fun W hW=>zed b L v a bad W hW hL (by omega));generalize nxT (L.drop a)=m at *;by_cases h1:48≤m
 ·have q1:decide ((48:Int)≤m)=true:=by rw[decide_eq_true_iff];exact h1
  have q2:decide (48≤m∧m≤57)=decide (m≤57):=by simp[h1]
  rw[q2];have H:=za h;clear q2 h h1;go_enter Tryz.func267,Tryz.ntmps267
  go_wp2_with fail
  refine(Hc.out _ H.out).mono ?_;rintro e w1 ⟨rfl,h2,hF⟩;have HF:=za hF;have H2:=za h2;clear h2 hF
  go_wp2_with fail
  refine(Hc.out _ H2.out).mono ?_;rintro e w2 ⟨rfl,h3,hF⟩;have HF:=za (HF.out.trans' hF);have H3:=za h3;clear h3 hF
  go_wp2_with fail
  go_ret;exact⟨rfl,H3.out,HF.out⟩
 have q1:decide ((48:Int)≤m)=false:=by rw[decide_eq_false_iff_not];exact h1
 have q2:decide (48≤m∧m≤57)=false:=by simp[h1]
 rw[q2];have H:=za h;clear q2 h h1;go_enter Tryz.func267,Tryz.ntmps267
 go_wp2_with fail
 refine(Hc.out _ H.out).mono ?_;rintro e w1 ⟨rfl,h2,hF⟩;have HF:=za hF;have H2:=za h2;clear h2 hF
 go_wp2_with fail
 go_ret;exact⟨rfl,H2.out,HF.out⟩
def TNum (s:Bs) (k:Nat) (n:Nat) (bd:Bool) (D:Nat × Nat × Bs):Prop :=
 n≤9007199254740991∧((bd=false∧j6 n k s=D)∨(bd=true∧∃ m,9007199254740991<m∧j6 m k s=D))
def zym (m:Int):Bool:=decide (48≤m∧m≤57)
theorem TNum.on {L:Bs} {c k n:Nat} {bd:Bool} {D:Nat × Nat × Bs} (h:TNum (L.drop c) k n bd D) {m:Int} (hm:nxT (L.drop c)=m) (hd:zym m=true) :
 c+1≤L.length∧48≤m∧m≤57∧TNum (L.drop (c+1)) (k+1) (if 9007199254740991<10 * (n:Int)+m - 48 then 0 else (10 * (n:Int)+m - 48).toNat) (bd||decide (9007199254740991<10 * (n:Int)+m - 48)) D:=by
 unfold zym at hd;rw[decide_eq_true_iff]at hd;cases hr:L.drop c with
 | nil=>rw[hr]at hm;simp only[nxT]at hm;omega
 | cons x l =>
   obtain⟨d1,d2,d3,d4⟩:=zd4 hr;rw[hr]at hm h;simp only[nxT]at hm;refine⟨by omega,hd.1,hd.2,?_⟩;rw[d3];obtain⟨h1,h2⟩:=h;have hx:48≤x.toNat∧x.toNat≤57:=by omega
   simp only[j6,if_pos hx]at h2;refine⟨by split<;>omega,?_⟩;rcases h2 with⟨rfl,h2⟩ | ⟨rfl,q,hq,h2⟩
   ·rw[if_pos h1]at h2;by_cases ho:9007199254740991<10 * (n:Int)+m - 48
    ·rw[if_pos ho,decide_eq_true ho];exact .inr ⟨rfl,10 * n+(x.toNat - 48),by omega,h2⟩
    rw[if_neg ho,decide_eq_false ho];refine .inl ⟨rfl,?_⟩;rw[← h2]
    congr 1
    omega
   rw[if_neg (by omega)]at h2;exact .inr ⟨rfl,q,hq,h2⟩
theorem TNum.off {L:Bs} {c k n:Nat} {bd:Bool} {D:Nat × Nat × Bs} (h:TNum (L.drop c) k n bd D) (hd:zym (nxT (L.drop c))=false) :
 D.2=(k,L.drop c)∧(bd=false→D.1=n)∧(bd=true→9007199254740991<D.1):=by
 have hA:∀ m,j6 m k (L.drop c)=D→D=(m,k,L.drop c):=by
  intro m h;rw[← h];unfold zym at hd;rw[decide_eq_false_iff_not]at hd;cases hr:L.drop c with
  | nil=>rfl
  | cons x l =>
    rw[hr]at hd;simp only[nxT]at hd;rw[j6,if_neg (by omega)]
 obtain⟨h1,⟨rfl,h2⟩ | ⟨rfl,q,hq,h2⟩⟩:=h
 ·rw[hA _ h2];exact⟨rfl,fun _=>rfl,fun h=>by simp at h⟩
 rw[hA _ h2];exact⟨rfl,fun h=>by simp at h,fun _=>hq⟩
theorem zjs:∀ (s:Bs) (n k:Nat),n≤(j6 n k s).1∧k≤(j6 n k s).2.1:=by
 intro s
 induction s with
 | nil=>intro n k;simp[j6]
 | cons x l ih =>
   intro n k;unfold j6;split
   ·obtain⟨h1,h2⟩:=ih (if n≤9007199254740991 then 10 * n+(x.toNat - 48) else n) (k+1);refine⟨Nat.le_trans ?_ h1,by omega⟩;split<;>omega
   exact⟨zt _,zt _⟩
def zfn (L:Bs) (a c n:Nat) (bd minus:Bool):Bool:=bd||(decide (c=a)||((decide (a+1<c)&&decide (L[a]? = some 48))||(decide (n=0)&&minus)))
theorem zqd {L:Bs} {a c n:Nat} {bd:Bool} {D:Nat × Nat × Bs} (minus:Bool) (hac:a≤c) (hD:j6 0 0 (L.drop a)=D) (e1:D.2=(c - a,L.drop c)) (e2:bd=false→D.1=n) (e3:bd=true→9007199254740991<D.1) (hn:n≤9007199254740991) :
 (zbv minus false (L.drop a)).2.bad=zfn L a c n bd minus∧(zfn L a c n bd minus=false→zbv minus false (L.drop a)=(.mk 2 (if minus then -(n:Int) else n) [] [] [],⟨L.drop c,false⟩)):=by
 obtain⟨N,k,s2⟩:=D;simp only[Prod.mk.injEq]at e1 e2 e3;obtain⟨rfl,rfl⟩:=e1;cases hr:L.drop a with
 | nil =>
   rw[hr]at hD;simp only[j6,Prod.mk.injEq]at hD;have:c=a:=by omega
   unfold zfn;simp[zbv,this]
 | cons y m =>
   obtain⟨d1,d2,d3,d4⟩:=zd4 hr;rw[hr]at hD;by_cases hy:48≤y.toNat∧y.toNat≤57
   ·have hA:=hD;rw[j6,if_pos hy,if_pos (by omega)]at hA;have hu:=zjs m (10 * 0+(y.toNat - 48)) (0+1);rw[hA]at hu;simp only at hu;unfold zbv;simp only[if_pos hy,hD];have hB:(y=48)↔y.toNat=48:=by rw[← UInt8.toNat_inj];rfl
    have hC:(false||(decide (9007199254740991<N)||(decide (y=48)&&(decide (1<c - a)||minus))))=zfn L a c n bd minus:=by
     unfold zfn;rw[d2];have hE:decide (c=a)=false:=by rw[decide_eq_false_iff_not];omega
     have hs:(some y=some 48)↔y.toNat=48:=by simp[hB]
     simp only[hE,Bool.false_or,hs,hB];cases bd with
     | true=>rw[decide_eq_true (e3 rfl)];simp
     | false =>
       have e2:=e2 rfl;rw[decide_eq_false (by omega:¬ 9007199254740991<N)];by_cases h1:1<c - a
       ·rw[decide_eq_true h1,decide_eq_true (by omega:a+1<c)];by_cases h2:y.toNat=48
        ·simp[h2]
        have:¬ n=0:=by omega
        simp[h2,this]
       rw[decide_eq_false h1,decide_eq_false (by omega:¬ a+1<c)];have hk:c - a=1:=by omega
       have hn0:n=y.toNat - 48:=by
        have hq:=zjs (m.drop 0) (10 * 0+(y.toNat - 48)) (0+1);cases m with
        | nil=>simp only[j6,Prod.mk.injEq]at hA;omega
        | cons z t =>
          rw[j6]at hA;split at hA
          ·have:=zjs t (if 10 * 0+(y.toNat - 48)≤9007199254740991 then 10 * (10 * 0+(y.toNat - 48))+(z.toNat - 48) else 10 * 0+(y.toNat - 48)) (0+1+1);rw[hA]at this;simp only at this;omega
          simp only[Prod.mk.injEq]at hA;omega
       by_cases h2:y.toNat=48
       ·have:n=0:=by omega
        simp[h2,this]
       have:¬ n=0:=by omega
       simp[h2,this]
    refine⟨hC,fun h=>?_⟩;rw[h]at hC;rw[hC];have hb:bd=false:=by unfold zfn at h;rw[Bool.or_eq_false_iff]at h;exact h.1
    rw[e2 hb]
   rw[j6,if_neg hy]at hD;simp only[Prod.mk.injEq]at hD;have:c=a:=by omega
   unfold zbv zfn;simp[hy,this]
def zzz (s:Bs):J × St:=if nxT s=45 then zbv true false (s.drop 1) else zbv false false s
theorem zum {b:Nat}{L:Bs}{v:Value}{a c n:Nat}{bd minus:Bool}{w:World}{G:J × St}(hsp:G.2.bad=zfn L a c n bd minus∧(zfn L a c n bd minus=false→G=(.mk 2 (if minus then -(n:Int) else n) [] [] [],⟨L.drop c,false⟩)))
 (hT:TX b L v c (zfn L a c n bd minus) w) (hcl:c≤L.length):(G.2.bad=false→G.1 = .mk 2 (if minus then -(n:Int) else n) [] [] [])∧RS b L v L.length G.2 w:=by
 obtain⟨h1,h2⟩:=hsp;refine⟨fun hb=>?_,c,by rw[h1];exact hT,fun hb=>?_,hcl⟩
 ·rw[h2 (h1▸hb)]
 rw[h2 (h1▸hb)];exact⟨rfl,hcl⟩
theorem ztg (b:Nat) (L:Bs) (v:Value) (a:Nat) (w:World) (h:TX b L v a false w) (hL:L.length≤4096) (ha:a≤L.length) :
 Calls Tryz.prog 212 #[.pointer (some ⟨b,0,none⟩)] w fun e w'=>∃ x:Int,e = .returned (.int .i64 x)∧(((zzz (L.drop a)).2.bad=false→(zzz (L.drop a)).1 = .mk 2 x [] [] [])∧RS b L v L.length (zzz (L.drop a)).2 w')∧Fr (MT b) w w':=by
 have Hc:=za (fun W hW=>zed b L v a false W hW hL (by omega));have H:=za h;obtain⟨q,hH,rfl⟩:=h.2.1.form;clear h;unfold zzz;by_cases hm:nxT (L.drop a)=45
 ·rw [if_pos hm,List.drop_drop];have hq:(nxT (L.drop a)==45)=true:=by rw[beq_iff_eq];exact hm
  have hc:a+1≤L.length:=by
   cases hr:L.drop a with
   | nil=>rw[hr]at hm;simp[nxT]at hm
   | cons x l=>have:=zd4 hr;omega
  have wa:IntKind.i64.wrap ((a:Int)+1)=(a:Int)+1:=by rw[zk];omega
  obtain⟨a0,hd⟩:∃ a0,a+1=a0:=⟨_,rfl⟩;have hM:((a:Int)+1)=(a0:Int):=by omega
  rw[hd]at hc ⊢;clear hm hd;generalize nxT (L.drop a)=m0 at *;go_enter Tryz.func212,Tryz.ntmps212
  go_wp2_with fail
  refine(Hc.out _ H.out).mono ?_;rintro e w1 ⟨rfl,h2,hF⟩;obtain⟨c0,c1,c2,fz,hB⟩:=h2.cells;have hX:=za ((hF.mono (M':=MT b) (fun _ _ h=>h.elim)).setCell ⟨b,1,none⟩ (.int .i64 ((a:Int)+1)) (fun o ho=>H.out.one o ho));have he:=za (h2.put1 ((a:Int)+1) a0 hM);clear h2 hF
  go_wp2_with fail
  have H2:=he;have hY:=hX;clear he hX c0 c1 c2 fz hB;rw[hM]at H2 hY;generalize w1.setCell ⟨b,1,none⟩ (.int .i64 (a0:Int))=w2 at *;clear hM wa Hc hq ha;have ha:=hc;clear hc;obtain⟨D,hD⟩:∃ D,j6 0 0 (L.drop a0)=D:=⟨_,rfl⟩;have HI:TNum (L.drop a0) 0 0 false D:=⟨by omega,.inl ⟨rfl,hD⟩⟩;have HD:=za hD;clear hD
  go_loopg [5] (L.length - a0+1) (fun g vn wr=>∃ (n c:Nat) (bd:Bool),vn = .int .i64 (n:Int)∧a0≤c∧c≤L.length∧L.length - c+1=g∧Hid (TX b L (.slice q L.length hH) c bd wr)∧Hid (Fr (MT b) w wr)∧TNum (L.drop c) (c - a0) n bd D)
  case atStart=>exact⟨0,a0,false,rfl,zt _,ha,rfl,H2,hY,by rw[Nat.sub_self];exact HI⟩
  case round =>
   obtain⟨n,c,bd,rfl,hb,hZ,hg,H3,hI,hK⟩:=hrel;have Hfig:=za (fun W hW=>zqn b L (.slice q L.length hH) c bd W hW hL (by omega));have Hnx:=za (fun W hW=>zed b L (.slice q L.length hH) c bd W hW hL (by omega));have hQ:=hK.1;change Hid (∀ W,TX b L (.slice q L.length hH) c bd W→Calls _ _ _ W fun e w'=>e = .returned (.bool (zym (nxT (L.drop c))))∧_) at Hfig;cases hJ:zym (nxT (L.drop c)) with
   | false =>
     obtain⟨e1,e2,e3⟩:=hK.off hJ;have Hsp:=za (zqd true hb HD.out e1 e2 e3 hQ);rw[hJ]at Hfig;have ws:IntKind.i64.wrap ((c:Int) - (a0:Int))=(c:Int) - a0:=by rw[zk];omega
     have wn:IntKind.i64.wrap (n:Int)=(n:Int):=by rw[zk];omega
     have wm:IntKind.i64.wrap (-(n:Int)) = -(n:Int):=by rw[zk];omega
     clear e1 e2 e3 hK HI hJ Hnx HD;have Hfin:=fun W hT=>zum (b:=b) (v := .slice q L.length hH) (w:=W) Hsp.out hT hZ
     have HX:=True.intro;by_cases p1:c=a0
     ·have r1:((c:Int) - (a0:Int)==0)=true:=by rw[beq_iff_eq];omega
      have ht:zfn L a0 c n bd true=true:=by unfold zfn;simp[p1]
      rw[ht]at Hfin;have Hfin:=za Hfin;clear ht HX
      go_wp2_with fail
      refine(Hfig.out _ H3.out).mono ?_;rintro e w4 ⟨rfl,h4,hA⟩;obtain⟨c0,c1,c2,fz,hB⟩:=h4.cells;have hE:=za (hI.out.trans' (hA.mono (M':=MT b) (fun _ _ h=>h.elim)));have H4:=za h4;clear h4 hA
      go_wp2_with fail
      go_ret;exact⟨_,rfl,Hfin.out _ (H4.out.set2 true),hE.out.setCell _ _ (fun o ho=>H.out.one o ho)⟩
     have r1:((c:Int) - (a0:Int)==0)=false:=by rw[beq_eq_false_iff_ne];omega
     by_cases p2:a0+1<c
     ·have r2:decide ((1:Int)<(c:Int) - (a0:Int))=true:=by rw[decide_eq_true_iff];omega
      obtain⟨x0,hG⟩:∃ x0,L[a0]? = some x0:=⟨_,List.getElem?_eq_getElem (by omega)⟩;obtain⟨g,o,hC,e9,-⟩:=H3.out.2.1.at hG;obtain⟨rfl,rfl⟩:q=some ⟨g,o,none⟩∧hH=hC:=by simpa using e9
      clear e9;have hS:(x0=48)↔x0.toNat=48:=by rw[← UInt8.toNat_inj];rfl
      by_cases p3:x0.toNat=48
      ·have r3:((x0.toNat:Int)==48)=true:=by rw[beq_iff_eq];omega
       have hP:=hS.2 p3;have hO:=hG;have ht:zfn L a0 c n bd true=true:=by unfold zfn;simp[p1,p2,hG,hP]
       rw[ht]at Hfin;have Hfin:=za Hfin;clear ht HX
       go_wp2_with fail
       refine(Hfig.out _ H3.out).mono ?_;rintro e w4 ⟨rfl,h4,hA⟩;obtain⟨c0,c1,c2,fz,hB⟩:=h4.cells;obtain⟨g',o',hC,e9,hV⟩:=h4.2.1.at hG;obtain⟨⟨rfl,rfl⟩,rfl⟩:(g=g'∧o=o')∧hH=hC:=by simpa using e9
       clear e9;have hE:=za (hI.out.trans' (hA.mono (M':=MT b) (fun _ _ h=>h.elim)));have H4:=za h4;clear h4 hA
       go_wp2_with fail
       go_ret;exact⟨_,rfl,Hfin.out _ (H4.out.set2 true),hE.out.setCell _ _ (fun o ho=>H.out.one o ho)⟩
      have r3:((x0.toNat:Int)==48)=false:=by rw[beq_eq_false_iff_ne];omega
      have hP:¬ x0=48:=fun e=>p3 (hS.1 e)
      by_cases p4:n=0
      ·have r4:((n:Int)==0)=true:=by rw[beq_iff_eq];omega
       have hO:=hG;have ht:zfn L a0 c n bd true=true:=by unfold zfn;simp[p1,p2,hG,hP,p4]
       rw[ht]at Hfin;have Hfin:=za Hfin;clear ht HX p4
       go_wp2_with fail
       refine(Hfig.out _ H3.out).mono ?_;rintro e w4 ⟨rfl,h4,hA⟩;obtain⟨c0,c1,c2,fz,hB⟩:=h4.cells;obtain⟨g',o',hC,e9,hV⟩:=h4.2.1.at hG;obtain⟨⟨rfl,rfl⟩,rfl⟩:(g=g'∧o=o')∧hH=hC:=by simpa using e9
       clear e9;have hE:=za (hI.out.trans' (hA.mono (M':=MT b) (fun _ _ h=>h.elim)));have H4:=za h4;clear h4 hA
       go_wp2_with fail
       go_ret;exact⟨_,rfl,Hfin.out _ (H4.out.set2 true),hE.out.setCell _ _ (fun o ho=>H.out.one o ho)⟩
      have r4:((n:Int)==0)=false:=by rw[beq_eq_false_iff_ne];omega
      have hO:=hG;have ht:zfn L a0 c n bd true=bd:=by unfold zfn;simp[p1,p2,hG,hP,p4]
      rw[ht]at Hfin;have Hfin:=za Hfin;clear ht HX p4
      go_wp2_with fail
      refine(Hfig.out _ H3.out).mono ?_;rintro e w4 ⟨rfl,h4,hA⟩;obtain⟨c0,c1,c2,fz,hB⟩:=h4.cells;obtain⟨g',o',hC,e9,hV⟩:=h4.2.1.at hG;obtain⟨⟨rfl,rfl⟩,rfl⟩:(g=g'∧o=o')∧hH=hC:=by simpa using e9
      clear e9;have hE:=za (hI.out.trans' (hA.mono (M':=MT b) (fun _ _ h=>h.elim)));have H4:=za h4;clear h4 hA
      go_wp2_with fail
      go_ret;exact⟨_,rfl,Hfin.out _ H4.out,hE.out⟩
     have r2:decide ((1:Int)<(c:Int) - (a0:Int))=false:=by rw[decide_eq_false_iff_not];omega
     by_cases p4:n=0
     ·have r4:((n:Int)==0)=true:=by rw[beq_iff_eq];omega
      have ht:zfn L a0 c n bd true=true:=by unfold zfn;simp[p1,p2,p4]
      rw[ht]at Hfin;have Hfin:=za Hfin;clear ht HX p4
      go_wp2_with fail
      refine(Hfig.out _ H3.out).mono ?_;rintro e w4 ⟨rfl,h4,hA⟩;obtain⟨c0,c1,c2,fz,hB⟩:=h4.cells;have hE:=za (hI.out.trans' (hA.mono (M':=MT b) (fun _ _ h=>h.elim)));have H4:=za h4;clear h4 hA
      go_wp2_with fail
      go_ret;exact⟨_,rfl,Hfin.out _ (H4.out.set2 true),hE.out.setCell _ _ (fun o ho=>H.out.one o ho)⟩
     have r4:((n:Int)==0)=false:=by rw[beq_eq_false_iff_ne];omega
     have ht:zfn L a0 c n bd true=bd:=by unfold zfn;simp[p1,p2,p4]
     rw[ht]at Hfin;have Hfin:=za Hfin;clear ht HX p4
     go_wp2_with fail
     refine(Hfig.out _ H3.out).mono ?_;rintro e w4 ⟨rfl,h4,hA⟩;obtain⟨c0,c1,c2,fz,hB⟩:=h4.cells;have hE:=za (hI.out.trans' (hA.mono (M':=MT b) (fun _ _ h=>h.elim)));have H4:=za h4;clear h4 hA
     go_wp2_with fail
     go_ret;exact⟨_,rfl,Hfin.out _ H4.out,hE.out⟩
   | true =>
     rw[hJ]at Hfig;generalize hm:nxT (L.drop c)=m at *;obtain⟨o1,o2,o3,o4⟩:=hK.on hm hJ;have w1:IntKind.i64.wrap (10 * (n:Int))=10 * (n:Int):=by rw[zk];omega
     have w2:IntKind.i64.wrap (10 * (n:Int)+m)=10 * (n:Int)+m:=by rw[zk];omega
     have w3:IntKind.i64.wrap (10 * (n:Int)+m - 48)=10 * (n:Int)+m - 48:=by rw[zk];omega
     have wc:IntKind.i64.wrap ((c:Int)+1)=(c:Int)+1:=by rw[zk];omega
     rw[show c - a0+1=c+1 - a0 by omega]at o4;by_cases ho:9007199254740991<10 * (n:Int)+m - 48
     ·have qo:decide (9007199254740991<10 * (n:Int)+m - 48)=true:=decide_eq_true ho;rw[if_pos ho,qo,Bool.or_true]at o4;have hU:0≤10 * (n:Int)+m - 48:=by omega
      have O4:=za o4;clear hQ o2 o3 ho hK hm o4 hJ
      go_wp2_with fail
      refine(Hfig.out _ H3.out).mono ?_;rintro e w4 ⟨rfl,h4,hA⟩;have hE:=za (hI.out.trans' (hA.mono (M':=MT b) (fun _ _ h=>h.elim)));have H4:=za h4;clear h4 hA
      go_wp2_with fail
      refine(Hnx.out _ H4.out).mono ?_;rintro e w5 ⟨rfl,h5,hN⟩;have hR:=za (hE.out.trans' (hN.mono (M':=MT b) (fun _ _ h=>h.elim)));obtain⟨c0,c1,c2,fz,hB⟩:=h5.cells;have H5:=za h5;clear h5 hN
      go_wp2_with fail
      go_roundg (gk - 1)
      case measure=>omega
      case rel=>exact⟨0,c+1,true,rfl,by omega,by omega,by omega,za ((H5.out.set2 true).put1 _ (c+1) rfl),za ((hR.out.setCell _ _ (fun o ho=>H.out.one o ho)).setCell _ _ (fun o ho=>H.out.one o ho)),O4.out⟩
     have qo:decide (9007199254740991<10 * (n:Int)+m - 48)=false:=decide_eq_false ho;rw[if_neg ho,qo,Bool.or_false]at o4;have hU:0≤10 * (n:Int)+m - 48:=by omega
     have O4:=za o4;clear hQ o2 o3 ho hK hm o4 hJ
     go_wp2_with fail
     refine(Hfig.out _ H3.out).mono ?_;rintro e w4 ⟨rfl,h4,hA⟩;have hE:=za (hI.out.trans' (hA.mono (M':=MT b) (fun _ _ h=>h.elim)));have H4:=za h4;clear h4 hA
     go_wp2_with fail
     refine(Hnx.out _ H4.out).mono ?_;rintro e w5 ⟨rfl,h5,hN⟩;have hR:=za (hE.out.trans' (hN.mono (M':=MT b) (fun _ _ h=>h.elim)));obtain⟨c0,c1,c2,fz,hB⟩:=h5.cells;have H5:=za h5;clear h5 hN
     go_wp2_with fail
     go_roundg (gk - 1)
     case measure=>omega
     case rel=>exact⟨(10 * (n:Int)+m - 48).toNat,c+1,bd,by rw[Int.toNat_of_nonneg hU],by omega,by omega,by omega,za (H5.out.put1 _ (c+1) rfl),za (hR.out.setCell _ _ (fun o ho=>H.out.one o ho)),O4.out⟩
 rw[if_neg hm];have hq:(nxT (L.drop a)==45)=false:=by rw[beq_eq_false_iff_ne];exact hm
 clear hm;generalize nxT (L.drop a)=m0 at *;go_enter Tryz.func212,Tryz.ntmps212
 go_wp2_with fail
 refine(Hc.out _ H.out).mono ?_;rintro e w1 ⟨rfl,h2,hF⟩;obtain⟨c0,c1,c2,fz,hB⟩:=h2.cells;have hY:=za (hF.mono (M':=MT b) (fun _ _ h=>h.elim));have H2:=za h2;clear h2 hF
 go_wp2_with fail
 clear c0 c1 c2 fz hB hq Hc;obtain⟨D,hD⟩:∃ D,j6 0 0 (L.drop a)=D:=⟨_,rfl⟩;have HI:TNum (L.drop a) 0 0 false D:=⟨by omega,.inl ⟨rfl,hD⟩⟩;have HD:=za hD;clear hD
 go_loopg [5] (L.length - a+1) (fun g vn wr=>∃ (n c:Nat) (bd:Bool),vn = .int .i64 (n:Int)∧a≤c∧c≤L.length∧L.length - c+1=g∧Hid (TX b L (.slice q L.length hH) c bd wr)∧Hid (Fr (MT b) w wr)∧TNum (L.drop c) (c - a) n bd D)
 case atStart=>exact⟨0,a,false,rfl,zt _,ha,rfl,H2,hY,by rw[Nat.sub_self];exact HI⟩
 case round =>
  obtain⟨n,c,bd,rfl,hb,hZ,hg,H3,hI,hK⟩:=hrel;have Hfig:=za (fun W hW=>zqn b L (.slice q L.length hH) c bd W hW hL (by omega));have Hnx:=za (fun W hW=>zed b L (.slice q L.length hH) c bd W hW hL (by omega));have hQ:=hK.1;change Hid (∀ W,TX b L (.slice q L.length hH) c bd W→Calls _ _ _ W fun e w'=>e = .returned (.bool (zym (nxT (L.drop c))))∧_) at Hfig;cases hJ:zym (nxT (L.drop c)) with
  | false =>
    obtain⟨e1,e2,e3⟩:=hK.off hJ;have Hsp:=za (zqd false hb HD.out e1 e2 e3 hQ);rw[hJ]at Hfig;have ws:IntKind.i64.wrap ((c:Int) - (a:Int))=(c:Int) - a:=by rw[zk];omega
    have wn:IntKind.i64.wrap (n:Int)=(n:Int):=by rw[zk];omega
    have wm:IntKind.i64.wrap (-(n:Int)) = -(n:Int):=by rw[zk];omega
    clear e1 e2 e3 hK HI hJ Hnx HD;have Hfin:=fun W hT=>zum (b:=b) (v := .slice q L.length hH) (w:=W) Hsp.out hT hZ
    have HX:=True.intro;by_cases p1:c=a
    ·have r1:((c:Int) - (a:Int)==0)=true:=by rw[beq_iff_eq];omega
     have ht:zfn L a c n bd false=true:=by unfold zfn;simp[p1]
     rw[ht]at Hfin;have Hfin:=za Hfin;clear ht HX
     go_wp2_with fail
     refine(Hfig.out _ H3.out).mono ?_;rintro e w4 ⟨rfl,h4,hA⟩;obtain⟨c0,c1,c2,fz,hB⟩:=h4.cells;have hE:=za (hI.out.trans' (hA.mono (M':=MT b) (fun _ _ h=>h.elim)));have H4:=za h4;clear h4 hA
     go_wp2_with fail
     go_ret;exact⟨_,rfl,Hfin.out _ (H4.out.set2 true),hE.out.setCell _ _ (fun o ho=>H.out.one o ho)⟩
    have r1:((c:Int) - (a:Int)==0)=false:=by rw[beq_eq_false_iff_ne];omega
    by_cases p2:a+1<c
    ·have r2:decide ((1:Int)<(c:Int) - (a:Int))=true:=by rw[decide_eq_true_iff];omega
     obtain⟨x0,hG⟩:∃ x0,L[a]? = some x0:=⟨_,List.getElem?_eq_getElem (by omega)⟩;obtain⟨g,o,hC,e9,-⟩:=H3.out.2.1.at hG;obtain⟨rfl,rfl⟩:q=some ⟨g,o,none⟩∧hH=hC:=by simpa using e9
     clear e9;have hS:(x0=48)↔x0.toNat=48:=by rw[← UInt8.toNat_inj];rfl
     by_cases p3:x0.toNat=48
     ·have r3:((x0.toNat:Int)==48)=true:=by rw[beq_iff_eq];omega
      have hP:=hS.2 p3;have hO:=hG;have ht:zfn L a c n bd false=true:=by unfold zfn;simp[p1,p2,hG,hP]
      rw[ht]at Hfin;have Hfin:=za Hfin;clear ht HX
      go_wp2_with fail
      refine(Hfig.out _ H3.out).mono ?_;rintro e w4 ⟨rfl,h4,hA⟩;obtain⟨c0,c1,c2,fz,hB⟩:=h4.cells;obtain⟨g',o',hC,e9,hV⟩:=h4.2.1.at hG;obtain⟨⟨rfl,rfl⟩,rfl⟩:(g=g'∧o=o')∧hH=hC:=by simpa using e9
      clear e9;have hE:=za (hI.out.trans' (hA.mono (M':=MT b) (fun _ _ h=>h.elim)));have H4:=za h4;clear h4 hA
      go_wp2_with fail
      go_ret;exact⟨_,rfl,Hfin.out _ (H4.out.set2 true),hE.out.setCell _ _ (fun o ho=>H.out.one o ho)⟩
     have r3:((x0.toNat:Int)==48)=false:=by rw[beq_eq_false_iff_ne];omega
     have hP:¬ x0=48:=fun e=>p3 (hS.1 e)
     by_cases p4:n=0
     ·have r4:((n:Int)==0)=true:=by rw[beq_iff_eq];omega
      have hO:=hG;have ht:zfn L a c n bd false=bd:=by unfold zfn;simp[p1,p2,hG,hP,p4]
      rw[ht]at Hfin;have Hfin:=za Hfin;clear ht HX p4
      go_wp2_with fail
      refine(Hfig.out _ H3.out).mono ?_;rintro e w4 ⟨rfl,h4,hA⟩;obtain⟨c0,c1,c2,fz,hB⟩:=h4.cells;obtain⟨g',o',hC,e9,hV⟩:=h4.2.1.at hG;obtain⟨⟨rfl,rfl⟩,rfl⟩:(g=g'∧o=o')∧hH=hC:=by simpa using e9
      clear e9;have hE:=za (hI.out.trans' (hA.mono (M':=MT b) (fun _ _ h=>h.elim)));have H4:=za h4;clear h4 hA
      go_wp2_with fail
      go_ret;exact⟨_,rfl,Hfin.out _ H4.out,hE.out⟩
     have r4:((n:Int)==0)=false:=by rw[beq_eq_false_iff_ne];omega
     have hO:=hG;have ht:zfn L a c n bd false=bd:=by unfold zfn;simp[p1,p2,hG,hP,p4]
     rw[ht]at Hfin;have Hfin:=za Hfin;clear ht HX p4
     go_wp2_with fail
     refine(Hfig.out _ H3.out).mono ?_;rintro e w4 ⟨rfl,h4,hA⟩;obtain⟨c0,c1,c2,fz,hB⟩:=h4.cells;obtain⟨g',o',hC,e9,hV⟩:=h4.2.1.at hG;obtain⟨⟨rfl,rfl⟩,rfl⟩:(g=g'∧o=o')∧hH=hC:=by simpa using e9
     clear e9;have hE:=za (hI.out.trans' (hA.mono (M':=MT b) (fun _ _ h=>h.elim)));have H4:=za h4;clear h4 hA
     go_wp2_with fail
     go_ret;exact⟨_,rfl,Hfin.out _ H4.out,hE.out⟩
    have r2:decide ((1:Int)<(c:Int) - (a:Int))=false:=by rw[decide_eq_false_iff_not];omega
    by_cases p4:n=0
    ·have r4:((n:Int)==0)=true:=by rw[beq_iff_eq];omega
     have ht:zfn L a c n bd false=bd:=by unfold zfn;simp[p1,p2,p4]
     rw[ht]at Hfin;have Hfin:=za Hfin;clear ht HX p4
     go_wp2_with fail
     refine(Hfig.out _ H3.out).mono ?_;rintro e w4 ⟨rfl,h4,hA⟩;obtain⟨c0,c1,c2,fz,hB⟩:=h4.cells;have hE:=za (hI.out.trans' (hA.mono (M':=MT b) (fun _ _ h=>h.elim)));have H4:=za h4;clear h4 hA
     go_wp2_with fail
     go_ret;exact⟨_,rfl,Hfin.out _ H4.out,hE.out⟩
    have r4:((n:Int)==0)=false:=by rw[beq_eq_false_iff_ne];omega
    have ht:zfn L a c n bd false=bd:=by unfold zfn;simp[p1,p2,p4]
    rw[ht]at Hfin;have Hfin:=za Hfin;clear ht HX p4
    go_wp2_with fail
    refine(Hfig.out _ H3.out).mono ?_;rintro e w4 ⟨rfl,h4,hA⟩;obtain⟨c0,c1,c2,fz,hB⟩:=h4.cells;have hE:=za (hI.out.trans' (hA.mono (M':=MT b) (fun _ _ h=>h.elim)));have H4:=za h4;clear h4 hA
    go_wp2_with fail
    go_ret;exact⟨_,rfl,Hfin.out _ H4.out,hE.out⟩
  | true =>
    rw[hJ]at Hfig;generalize hm:nxT (L.drop c)=m at *;obtain⟨o1,o2,o3,o4⟩:=hK.on hm hJ;have w1:IntKind.i64.wrap (10 * (n:Int))=10 * (n:Int):=by rw[zk];omega
    have w2:IntKind.i64.wrap (10 * (n:Int)+m)=10 * (n:Int)+m:=by rw[zk];omega
    have w3:IntKind.i64.wrap (10 * (n:Int)+m - 48)=10 * (n:Int)+m - 48:=by rw[zk];omega
    have wc:IntKind.i64.wrap ((c:Int)+1)=(c:Int)+1:=by rw[zk];omega
    rw[show c - a+1=c+1 - a by omega]at o4;by_cases ho:9007199254740991<10 * (n:Int)+m - 48
    ·have qo:decide (9007199254740991<10 * (n:Int)+m - 48)=true:=decide_eq_true ho;rw[if_pos ho,qo,Bool.or_true]at o4;have hU:0≤10 * (n:Int)+m - 48:=by omega
     have O4:=za o4;clear hQ o2 o3 ho hK hm o4 hJ
     go_wp2_with fail
     refine(Hfig.out _ H3.out).mono ?_;rintro e w4 ⟨rfl,h4,hA⟩;have hE:=za (hI.out.trans' (hA.mono (M':=MT b) (fun _ _ h=>h.elim)));have H4:=za h4;clear h4 hA
     go_wp2_with fail
     refine(Hnx.out _ H4.out).mono ?_;rintro e w5 ⟨rfl,h5,hN⟩;have hR:=za (hE.out.trans' (hN.mono (M':=MT b) (fun _ _ h=>h.elim)));obtain⟨c0,c1,c2,fz,hB⟩:=h5.cells;have H5:=za h5;clear h5 hN
     go_wp2_with fail
     go_roundg (gk - 1)
     case measure=>omega
     case rel=>exact⟨0,c+1,true,rfl,by omega,by omega,by omega,za ((H5.out.set2 true).put1 _ (c+1) rfl),za ((hR.out.setCell _ _ (fun o ho=>H.out.one o ho)).setCell _ _ (fun o ho=>H.out.one o ho)),O4.out⟩
    have qo:decide (9007199254740991<10 * (n:Int)+m - 48)=false:=decide_eq_false ho;rw[if_neg ho,qo,Bool.or_false]at o4;have hU:0≤10 * (n:Int)+m - 48:=by omega
    have O4:=za o4;clear hQ o2 o3 ho hK hm o4 hJ
    go_wp2_with fail
    refine(Hfig.out _ H3.out).mono ?_;rintro e w4 ⟨rfl,h4,hA⟩;have hE:=za (hI.out.trans' (hA.mono (M':=MT b) (fun _ _ h=>h.elim)));have H4:=za h4;clear h4 hA
    go_wp2_with fail
    refine(Hnx.out _ H4.out).mono ?_;rintro e w5 ⟨rfl,h5,hN⟩;have hR:=za (hE.out.trans' (hN.mono (M':=MT b) (fun _ _ h=>h.elim)));obtain⟨c0,c1,c2,fz,hB⟩:=h5.cells;have H5:=za h5;clear h5 hN
    go_wp2_with fail
    go_roundg (gk - 1)
    case measure=>omega
    case rel=>exact⟨(10 * (n:Int)+m - 48).toNat,c+1,bd,by rw[Int.toNat_of_nonneg hU],by omega,by omega,by omega,za (H5.out.put1 _ (c+1) rfl),za (hR.out.setCell _ _ (fun o ho=>H.out.one o ho)),O4.out⟩
end
end Go.Proofs.YtmgfncjfgkllcaaGreatDoor
