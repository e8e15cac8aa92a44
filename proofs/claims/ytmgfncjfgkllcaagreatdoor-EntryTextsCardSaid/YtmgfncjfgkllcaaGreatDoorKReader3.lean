/-
 The walks of json's reader,further: signs by figures,escapes,texts.
-/
import Derived.Test.YtmgfncjfgkllcaaGreatDoorKReader
import Derived.Deep.LoopGhost
open Go.Lib renaming hid→za
namespace Go.Proofs.YtmgfncjfgkllcaaGreatDoor
set_option linter.unusedVariables false
set_option linter.unusedSimpArgs false
set_option linter.unusedSectionVars false
set_option maxRecDepth 100000
set_option maxHeartbeats 4000000
section
open Go.RowKit
variable [OldK]

theorem zi8:∀ (k n m:Nat) (st:St),n<16 ^ m→(zfi k n st).1<16 ^ (m+k):=by
 intro k
 induction k with
 | zero=>intro n m st h;simpa[zfi] using h
 | succ k ih =>
   intro n m st h;have hp:0<16 ^ (m+(k+1)):=Nat.pow_pos (by decide);unfold zfi;split
   ·exact hp
   split
   ·rename_i x l hs ov v hv
    have hv':v<16:=by
     unfold zmw at hv;split at hv
     ·simp at hv;omega
     split at hv
     ·simp at hv;omega
     simp at hv
    have:=ih (16 * n+v) (m+1) ⟨l,st.bad⟩ (by rw[Nat.pow_succ];omega);rw[show m+(k+1)=m+1+k by omega];exact this
   exact hp
theorem zwr (r:Nat) (s:Bs) (bad:Bool) (d:Int) (w:World) (h:Rd r s bad d w) :
 Calls Tryz.prog 328 #[.pointer (some ⟨r,0,none⟩)] w fun e w'=>e = .returned (.int .i32 (zga ⟨s,bad⟩).1)∧Rd r (zga ⟨s,bad⟩).2.s (zga ⟨s,bad⟩).2.bad d w'∧Fr (MR r) w w':=by
 have hF:=zi8 4 0 0 ⟨s,bad⟩ (by decide);unfold zga;have hc:=zxb r s bad d w h;generalize zfi 4 0 ⟨s,bad⟩=G at *;obtain⟨n,s1,b1⟩:=G;simp only at hF hc ⊢;have hn:n<65536:=hF;clear hF;have Hc:=za hc;clear hc;by_cases h1:n<55296∨57344≤n
 ·rw [if_pos h1];rcases h1 with h1 | h1
  all_goals
   have h1':(n:Int)<55296∨¬ (n:Int)<55296:=by omega
   go_enter Tryz.func328,Tryz.ntmps328
   go_wp2_with fail
   refine Hc.out.mono ?_;rintro e w1 ⟨rfl,hC,hD⟩
   go_wp2_with fail
   go_ret;exact⟨rfl,hC,hD⟩
 rw[if_neg h1];have h2:decide ((n:Int)<55296)=false:=by simp;omega
 have h3:decide ((57344:Int)≤n)=false:=by simp;omega
 have hJ:(55296:Int)≤n∧(n:Int)<57344:=by omega
 have hS:=za hJ;clear h1 hJ;by_cases h4:56320≤n
 ·rw[if_pos h4];have hO:decide ((56320:Int)≤n)=true:=by simp;omega
  clear h4;have H:=za hn;clear hn;go_enter Tryz.func328,Tryz.ntmps328
  go_wp2_with fail
  refine Hc.out.mono ?_;rintro e w1 ⟨rfl,hC,hD⟩
  go_wp2_with fail
  refine(zbd r _ _ d _ hC).mono ?_;rintro e w2 ⟨rfl,hB,hE⟩
  go_wp2_with fail
  go_ret;exact⟨rfl,hB,hD.trans' hE⟩
 rw[if_neg h4];have hO:decide ((56320:Int)≤n)=false:=by simp;omega
 clear h4;generalize hM:zak [92,117] ⟨s1,b1⟩=M;have HM:=za hM;clear hM;obtain⟨s2,b2⟩:=M;have hF:=zi8 4 0 0 ⟨s2,b2⟩ (by decide);generalize hK:zfi 4 0 ⟨s2,b2⟩=G2;have hT:=za hK;rw[hK]at hF;clear hK;obtain⟨hA,s3,b3⟩:=G2;simp only at hF ⊢;have hl:hA<65536:=hF;clear hF
 have hN:∀ w1,Rd r s1 b1 d w1→Fr (MR r) w w1→Calls Tryz.prog 252 #[.pointer (some ⟨r,0,none⟩),.string ⟨#[92,117]⟩] w1 fun e w'=>e = .returned (.tuple #[])∧Rd r s2 b2 d w'∧Fr (MR r) w w':=by
  intro w1 hC hD;refine(zko r s1 [92,117] b1 d w1 hC).mono ?_;rintro e w2 ⟨rfl,hB,hE⟩;rw[HM.out]at hB;exact⟨rfl,hB,hD.trans' hE⟩
 have hG:∀ w1,Rd r s2 b2 d w1→Fr (MR r) w w1→Calls Tryz.prog 334 #[.pointer (some ⟨r,0,none⟩)] w1 fun e w'=>e = .returned (.int .i32 hA)∧Rd r s3 b3 d w'∧Fr (MR r) w w':=by
  intro w1 hC hD;refine(zxb r s2 b2 d w1 hC).mono ?_;rintro e w2 ⟨rfl,hB,hE⟩;rw[hT.out]at hB ⊢;exact⟨rfl,hB,hD.trans' hE⟩
 have Key:=za hN;have hI:=za hG;clear hN hG;by_cases h5:b3=true∨hA<56320∨57344≤hA
 ·rw [if_pos h5]
  have h6:b3=true∨(b3=false∧decide ((hA:Int)<56320)=true)∨(b3=false∧decide ((hA:Int)<56320)=false∧decide ((57344:Int)≤hA)=true):=by
   cases b3<;>simp at h5 ⊢<;>omega
  clear h5;have Hn:=za hn;have Hl:=za hl;clear hn hl;rcases h6 with rfl | ⟨rfl,h6⟩ | ⟨rfl,h6,h7⟩
  all_goals
   go_enter Tryz.func328,Tryz.ntmps328
   go_wp2_with fail
   refine Hc.out.mono ?_;rintro e w1 ⟨rfl,hC,hD⟩
   go_wp2_with fail
   refine(Key.out _ hC hD).mono ?_;rintro e w2 ⟨rfl,hB,hE⟩
   go_wp2_with fail
   refine(hI.out _ hB hE).mono ?_;rintro e w3 ⟨rfl,hH,hL⟩;obtain⟨c0,c1,c2,f1,hP⟩:=hH.cells
   go_wp2_with fail
   refine(zbd r _ _ d _ hH).mono ?_;rintro e w4 ⟨rfl,hQ,hR⟩
   go_wp2_with fail
   go_ret;exact⟨rfl,hQ,hL.trans' hR⟩
 rw[if_neg h5]
 obtain ⟨rfl,h6,h7⟩:b3=false∧decide ((hA:Int)<56320)=false∧decide ((57344:Int)≤hA)=false:=by
  cases b3<;>simp at h5 ⊢<;>omega
 clear h5;have hl0:(0:Int)≤hA:=by omega
 have hl1:(hA:Int)<65536:=by omega
 have hn1:(n:Int)<65536:=by omega
 have Hn:=za hn;have Hl:=za hl;clear hn hl;go_enter Tryz.func328,Tryz.ntmps328
 go_wp2_with fail
 refine Hc.out.mono ?_;rintro e w1 ⟨rfl,hC,hD⟩
 go_wp2_with fail
 refine(Key.out _ hC hD).mono ?_;rintro e w2 ⟨rfl,hB,hE⟩
 go_wp2_with fail
 refine(hI.out _ hB hE).mono ?_;rintro e w3 ⟨rfl,hH,hL⟩;obtain⟨c0,c1,c2,f1,hP⟩:=hH.cells
 go_wp2_with fail
 go_ret;have hJ:=hS.out;simp at hO h6 h7;exact⟨zvo (by omega),hH,hL⟩
theorem ze0 {c:UInt8}{k:Nat}(h:c≠UInt8.ofNat k):((c.toNat:Int)==(k:Int))=false:=by
 rw[beq_eq_false_iff_ne];intro e;apply h;have e:c.toNat=k:=by omega
 rw[← e];simp
theorem zub (r:Nat) (s:Bs) (bad:Bool) (d:Int) (w:World) (h:Rd r s bad d w) :
 Calls Tryz.prog 299 #[.pointer (some ⟨r,0,none⟩)] w fun e w'=>e = .returned (.int .i32 (qf ⟨s,bad⟩).1)∧Rd r (qf ⟨s,bad⟩).2.s (qf ⟨s,bad⟩).2.bad d w'∧Fr (MR r) w w':=by
 obtain⟨c0,c1,c2,f1,hr1⟩:=h.cells;cases s with
 | nil =>
   simp only[qf];go_enter Tryz.func299,Tryz.ntmps299
   go_wp2_with fail
   refine(zbd r _ _ d _ h).mono ?_;rintro e w1 ⟨rfl,hH,hI⟩
   go_wp2_with fail
   go_ret;exact⟨rfl,hH,hI⟩
 | cons c l =>
   have hx:=za (za2 (c :: l) 1 (l.length+1) (by simp));have hA:Hid (Rd r l bad d (w.setCell ⟨r,0,none⟩ (.string ⟨(List.drop 1 (c :: l)).toArray⟩))):=h.set0 l;have hF:Fr (MR r) w (w.setCell ⟨r,0,none⟩ (.string ⟨(List.drop 1 (c :: l)).toArray⟩)):=Fr.refl.setCell _ _ h.one;by_cases hp:c=34∨c=92∨c=47∨c=98∨c=102∨c=110∨c=114∨c=116
   ·rcases hp with rfl | rfl | rfl | rfl | rfl | rfl | rfl | rfl
    all_goals
     simp only[qf,zc4];go_enter Tryz.func299,Tryz.ntmps299
     go_wp2_with fail
     go_ret;rw[hx.out];exact⟨by simp,hA.out,hF⟩
   have hM:c≠34:=fun e=>hp (by simp[e])
   have hK:c≠92:=fun e=>hp (by simp[e])
   have hL:c≠47:=fun e=>hp (by simp[e])
   have hJ:c≠98:=fun e=>hp (by simp[e])
   have hG:c≠102:=fun e=>hp (by simp[e])
   have hE:c≠110:=fun e=>hp (by simp[e])
   have hD:c≠114:=fun e=>hp (by simp[e])
   have hC:c≠116:=fun e=>hp (by simp[e])
   by_cases hB:c=117
   ·subst hB;have hs:qf ⟨117 :: l,bad⟩=zga ⟨l,bad⟩:=by simp[qf,zc4]
    rw[hs];clear hs hp hM hK hL hJ hG hE hD hC;go_enter Tryz.func299,Tryz.ntmps299
    go_wp2_with fail
    rw[hx.out];refine(zwr r l bad d _ hA.out).mono ?_;rintro e w1 ⟨rfl,hH,hI⟩
    go_wp2_with fail
    go_ret;exact⟨rfl,hH,hF.trans' hI⟩
   have hs:qf ⟨c :: l,bad⟩=(0,⟨l,true⟩):=by simp[qf,zc4, *]
   rw[hs];have e34:((c.toNat:Int)==34)=false:=ze0 hM;have e92:((c.toNat:Int)==92)=false:=ze0 hK;have e47:((c.toNat:Int)==47)=false:=ze0 hL;have e98:((c.toNat:Int)==98)=false:=ze0 hJ;have e102:((c.toNat:Int)==102)=false:=ze0 hG;have e110:((c.toNat:Int)==110)=false:=ze0 hE;have e114:((c.toNat:Int)==114)=false:=ze0 hD;have e116:((c.toNat:Int)==116)=false:=ze0 hC;have e117:((c.toNat:Int)==117)=false:=ze0 hB;clear hs hp hM hK hL hJ hG hE hD hC hB;go_enter Tryz.func299,Tryz.ntmps299
   go_wp2_with fail
   rw[hx.out];refine(zbd r l bad d _ hA.out).mono ?_;rintro e w1 ⟨rfl,hH,hI⟩
   go_wp2_with fail
   go_ret;exact⟨rfl,hH,hF.trans' hI⟩
end
section
open Go.RowKit
variable [OldK]

theorem zsw {B b r:Nat}{w:World}(hB:w.heap.size≤B):∀ k o,MB B b k o→MR r k o∨w.heap.size≤k:=fun _ _ h => .inr (Nat.le_trans hB h.1)
theorem Bld.rd {b r:Nat}{l:Bs}{w w':World}(h:Bld b b l w)(hF:Fr (MR r) w w')(hr:r<b):Bld b b l w' :=
 h.fr hF (fun k o _ hk _ hm=>by have:=hm.1;omega)
theorem Rd.bld {b r:Nat}{s:Bs}{bad:Bool}{d:Int}{w w':World}(h:Rd r s bad d w)(hF:Fr (MB b b) w w')(hr:r<b):Rd r s bad d w' :=
 h.fr hF (fun o _ hm=>by have:=hm.1;omega)
theorem Gl.bld {b:Nat}{w w':World}(h:Gl w)(hF:Fr (MB b b) w w')(hb:6≤b):Gl w' :=
 h.fr hF (fun _ _ _ hm=>Nat.le_trans hb hm.1)
theorem Gl.below {w w':World}(h:Gl w)(hb:Below w.heap.size w w'):Gl w':=h.fr (Fr.ofBelow hb) (fun _ _ _ x=>x.elim)
theorem Bld.below {b B:Nat}{l:Bs}{w w':World}(h:Bld B b l w)(hb:Below w.heap.size w w'):Bld B b l w':=h.fr (Fr.ofBelow hb) (fun _ _ _ _ _ x=>x.elim)
theorem zs9 (st:St):(zga st).1≤1114111:=by
 unfold zga;have h1:=zi8 4 0 0 st (by decide);generalize zfi 4 0 st=G at *;obtain⟨n,hA⟩:=G;simp only at h1 ⊢;have h1:n<65536:=h1;split
 ·simp only;omega
 split
 ·simp
 have h2:=zi8 4 0 0 (zak [92,117] hA) (by decide);generalize zfi 4 0 (zak [92,117] hA)=G2 at *;obtain⟨hB,st2⟩:=G2;simp only at h2 ⊢;split
 ·simp
 rename_i hx hy hz
 have h3:¬ (hB<56320∨57344≤hB):=fun e=>hz (.inr e)
 simp only;omega
theorem zp1 (st:St):(qf st).1≤1114111:=by
 unfold qf;split
 ·simp
 split
 ·rename_i v hv
  unfold zc4 at hv
  repeat' split at hv
  all_goals simp at hv
  all_goals (simp only;omega)
 split
 ·exact zs9 _
 simp
def zst (r b:Nat) (d:Int) (N:Nat) (w:World) (G:Bs × St) (g:Nat) (wx:World):Prop :=
 ∃ (out:Bs) (st:St),j0 g out st=G∧Rd r st.s st.bad d wx∧Bld b b out wx∧Gl wx∧Fr (MR r) w wx∧1≤g∧(st.bad=false→st.s.length+2≤g)∧out.length+4 * st.s.length≤4 * N
theorem zuv (r:Nat) (s:Bs) (bad:Bool) (d:Int) (w:World) (h:Rd r s bad d w) (hg:Gl w) (hlen:s.length≤1073741824) :
 Calls Tryz.prog 256 #[.pointer (some ⟨r,0,none⟩)] w fun e w'=>e = .returned (.string ⟨(zbh ⟨s,bad⟩).1.toArray⟩)∧Rd r (zbh ⟨s,bad⟩).2.s (zbh ⟨s,bad⟩).2.bad d w'∧Fr (MR r) w w':=by
 generalize hG:zbh ⟨s,bad⟩=G;have HG:=za hG;clear hG;have ho:=zc5 [34] ⟨s,bad⟩;simp only at ho;go_enter Tryz.func256,Tryz.ntmps256
 go_wp2_with fail
 refine(zko r s [34] bad d w h).mono ?_;rintro e w1 ⟨rfl,hd,hU⟩;have hH:r<w1.heap.size:=hd.lt;have hw1:w.heap.size≤w1.heap.size:=hU.size;have hP:Gl w1:=hg.rd h hU;have hh:6≤w1.heap.size:=hP.size
 have hI:zst r w1.heap.size d s.length w G (s.length+2) (w1.alloc (.cells #[.pointer none,.slice none 0 0] 198)) :=
  ⟨[],_,HG.out,hd.alloc _,Bld.fresh w1,hP.alloc _,hU.alloc _,by omega,fun _=>by omega,by simp;omega⟩
 clear hd hU hP
 go_wp2_with fail
 go_loopg [] (s.length+2) (fun g wx=>zst r w1.heap.size d s.length w G g wx)
 case atStart=>exact hI
 case round =>
  clear hI;generalize hb:w1.heap.size=b at *;have Hb:=za hb;clear hb;obtain⟨out,st,hS,hR,hB,hX,hF,hP,hZ,hn⟩:=hrel;obtain⟨s1,b1⟩:=st;simp only at hZ hn hR;obtain⟨c0,c1,c2,f1,hf⟩:=hR.cells;obtain⟨g',rfl⟩:∃ g',gk=g'+1:=⟨gk - 1,by omega⟩;cases b1 with
  | true =>
    go_wp2_with fail
    go_ret;have hS:=hS;simp only[j0,if_true]at hS;subst hS;exact⟨rfl,hR,hF⟩
  | false =>
    have hfu':=hZ rfl;clear hZ;have HS:=za hS;clear hS
    go_wp2_with fail
    refine(Go.Proofs.Tryz.utf8_DecodeRuneInString ⟨s1.toArray⟩ _ hX.utf8).mono ?_;rintro e w2 ⟨rfl,hN⟩;have hO:=hR.below hN;have hm:=hB.below hN;have hi:=hX.below hN;have hr:Fr (MR r) w w2:=hF.trans (Fr.ofBelow hN) (fun _ _ x=>x.elim);have hq:=zhu s1;have hD:Hid (j0 (g'+1) out ⟨s1,false⟩=G):=HS.out;unfold Hid at hD;simp only[j0,qe,Bool.false_eq_true,if_false]at hD;generalize (Lib.decodeGo ⟨s1.toArray⟩).1=c at *;generalize (Lib.decodeGo ⟨s1.toArray⟩).2=size at *;obtain⟨hd1,hd2,hd3,hl⟩:=hq;have Hd4:=za hl;clear hl hR hB hX hF c0 c1 c2 f1 hf hN;obtain⟨c0,c1,c2,f1,hf⟩:=hO.cells;have hx:=za (za2 s1 size s1.length (Nat.le_refl _));have hK:=za hD;clear hD;have hE:Hid (Rd r (s1.drop size) false d (w2.setCell ⟨r,0,none⟩ (.string ⟨(s1.drop size).toArray⟩))):=hO.set0 _;have hQ:Fr (MR r) w2 (w2.setCell ⟨r,0,none⟩ (.string ⟨(s1.drop size).toArray⟩)):=Fr.refl.setCell _ _ hO.one;have hV:=hm.rd hQ hH;have hY:=hi.rd hO hQ;have hT:=hr.trans' hQ;have hk:(s1.drop size).length=s1.length - size:=List.length_drop;have Hdl:=za hk;clear hk hm hi hQ hO;by_cases hA:size=0∨c<32∨(c=65533∧size=1)
    ·have Hst:Hid (j0 g' out ⟨s1.drop size,true⟩=G):=by
      have:=hK.out;rw[if_pos hA]at this;exact this
     clear hK
     have hs:((size:Int)==0)=true∨(((size:Int)==0)=false∧decide ((c:Int)<32)=true)∨(((size:Int)==0)=false∧decide ((c:Int)<32)=false∧((c:Int)==65533)=true∧((size:Int)==1)=true):=by
      simp only[beq_iff_eq,beq_eq_false_iff_ne,decide_eq_true_eq,decide_eq_false_iff_not];omega
     clear hA;rcases hs with e0 | ⟨e0,e1⟩ | ⟨e0,e1,e2,e3⟩
     all_goals
      go_wp2_with fail
      rw[hx.out];refine(zbd r _ _ d _ hE.out).mono ?_;rintro e w3 ⟨rfl,hc,hJ⟩
      go_wp2_with fail
      go_roundg g'
      case measure=>omega
      case rel=>exact⟨out,⟨s1.drop size,true⟩,Hst.out,hc,hV.rd hJ hH,hY.rd hE.out hJ,hT.trans' hJ,by omega,by simp,by simp only[Hdl.out];omega⟩
    have e0:((size:Int)==0)=false:=by simp only[beq_eq_false_iff_ne];omega
    have e1:decide ((c:Int)<32)=false:=by simp only[decide_eq_false_iff_not];omega
    have e2:(((c:Int)==65533)=false)∨(((c:Int)==65533)=true∧((size:Int)==1)=false):=by
     simp only[beq_iff_eq,beq_eq_false_iff_ne];omega
    have hsz:1≤size:=by omega
    by_cases hM:c=34
    ·have Hst:Hid ((out,⟨s1.drop size,false⟩)=G):=by
      have:=hK.out;rw[if_neg hA,if_pos hM]at this;exact this
     clear hK hA e2;subst hM
     go_wp2_with fail
     refine(zex b b out _ (by rw[hx.out];exact hV)).mono ?_;rintro e w3 ⟨rfl,hJ⟩
     go_wp2_with fail
     go_ret;have hG:=Hst.out;subst hG;rw[hx.out]at hJ;exact⟨rfl,hE.out.bld hJ hH,hT.trans hJ (zsw (by omega))⟩
    by_cases hW:c=92
    ·have Hst:Hid (j0 g' (out++Lib.encodeRune (qf ⟨s1.drop size,false⟩).1) (qf ⟨s1.drop size,false⟩).2=G):=by
      have:=hK.out;rw[if_neg hA,if_neg hM,if_pos hW]at this;exact this
     have ha:(qf ⟨s1.drop size,false⟩).2.s.length≤(s1.drop size).length:=zfs ⟨s1.drop size,false⟩;have hC:=zb1 (qf ⟨s1.drop size,false⟩).1;have hj:(-2147483648:Int)≤(qf ⟨s1.drop size,false⟩).1∧((qf ⟨s1.drop size,false⟩).1:Int)≤2147483647:=by have:=zp1 ⟨s1.drop size,false⟩;omega
     have HE:=za (And.intro ha (And.intro hC hj));clear hK hA e2 hM ha hC hj;subst hW
     go_wp2_with fail
     rw[hx.out];refine(zub r _ _ d _ hE.out).mono ?_;rintro e w3 ⟨rfl,hc,hJ⟩
     go_wp2_with fail
     refine(zbe b b out _ HE.out.2.2.1 HE.out.2.2.2 _ (hV.rd hJ hH) (by omega)).mono ?_;rintro e w4 ⟨rfl,he,hL⟩
     go_wp2_with fail
     go_roundg g'
     case measure=>omega
     case rel =>
      obtain⟨ha,hC,_⟩:=HE.out;have hp:=hY.rd hE.out hJ;refine⟨_,_,Hst.out,hc.bld hL hH,he,hp.bld hL hh,(hT.trans' hJ).trans hL (zsw (by omega)),by omega,fun _=>?_,?_⟩
      ·have:=Hdl.out;omega
      have:=Hdl.out;rw[List.length_append];omega
    have Hst:Hid (j0 g' (out++Lib.encodeRune c) ⟨s1.drop size,false⟩=G):=by
     have:=hK.out;rw[if_neg hA,if_neg hM,if_neg hW]at this;exact this
    have hC:=zb1 c;have HE:=za hC;have e34:((c:Int)==34)=false:=by simp only[beq_eq_false_iff_ne];omega
    have e92:((c:Int)==92)=false:=by simp only[beq_eq_false_iff_ne];omega
    clear hK hA hM hW hC;rcases e2 with e2 | ⟨e2,e3⟩
    all_goals
     go_wp2_with fail
     refine(zbe b b out _ (by omega) (by omega) _ (by rw[hx.out];exact hV) (by omega)).mono ?_;rintro e w4 ⟨rfl,he,hL⟩;rw[hx.out]at hL
     go_wp2_with fail
     go_roundg g'
     case measure=>omega
     case rel =>
      have hC:=HE.out;refine⟨_,⟨s1.drop size,false⟩,Hst.out,hE.out.bld hL hH,he,hY.bld hL hh,hT.trans hL (zsw (by omega)),by omega,fun _=>?_,?_⟩
      ·have:=Hdl.out;show(s1.drop size).length+2≤g';omega
      have:=Hdl.out;rw[List.length_append];show _+4 * (s1.drop size).length≤_;omega
end
end Go.Proofs.YtmgfncjfgkllcaaGreatDoor
