/-
 The walks of json's reader,further: signs by figures,escapes,texts.
-/
import Derived.Test.YtffggpplnjibgaaGreatDoorKReader
import Derived.Deep.LoopGhost
import Derived.Test.YtffggpplnjibgaaGreatDoorKPairs
open Go.Lib renaming hid→zi
open Go.Proofs.Tryz renaming prog→zl
open Nat renaming le_refl→ja
namespace Go.Proofs.YtffggpplnjibgaaGreatDoor
set_option linter.unusedVariables false
set_option linter.unusedSimpArgs false
set_option linter.unusedSectionVars false
set_option maxRecDepth 100000
set_option maxHeartbeats 4000000
section
open Go.RowKit
variable [OldK]

theorem zkh:∀ (k n m:Nat) (st:St),n<16 ^ m→(zb6 k n st).1<16 ^ (m+k):=by
 intro k
 induction k with
 | zero=>intro n m st h;simpa[zb6] using h
 | succ k ih =>
   intro n m st h;have hp:0<16 ^ (m+(k+1)):=Nat.pow_pos (by decide);unfold zb6;split
   ·exact hp
   split
   ·rename_i x l hs ov v hv
    have hv':v<16:=by
     unfold zhh at hv;split at hv
     ·simp at hv;omega
     split at hv
     ·simp at hv;omega
     simp at hv
    have:=ih (16 * n+v) (m+1) ⟨l,st.bad⟩ (by rw[Nat.pow_succ];omega);rw[show m+(k+1)=m+1+k by omega];exact this
   exact hp
theorem zxe (r:Nat) (s:Bs) (bad:Bool) (d:Int) (w:World) (h:Rd r s bad d w) :
 Calls zl 279 #[.pointer (some ⟨r,0,none⟩)] w fun e w'=>e = .returned (.int .i32 (zds ⟨s,bad⟩).1)∧Rd r (zds ⟨s,bad⟩).2.s (zds ⟨s,bad⟩).2.bad d w'∧Fr (MR r) w w':=by
 have hG:=zkh 4 0 0 ⟨s,bad⟩ (by decide);unfold zds;have hc:=zxy r s bad d w h;generalize zb6 4 0 ⟨s,bad⟩=G at *;obtain⟨n,s1,b1⟩:=G;simp only at hG hc ⊢;have hn:n<65536:=hG;clear hG;have Hc:=zi hc;clear hc;by_cases h1:n<55296∨57344≤n
 ·rw [if_pos h1];rcases h1 with h1 | h1
  all_goals
   have h1':(n:Int)<55296∨¬ (n:Int)<55296:=by omega
   go_enter Tryz.func279,Tryz.ntmps279
   go_wp2_with fail
   refine Hc.out.mono ?_;rintro e w1 ⟨rfl,hD,hE⟩
   go_wp2_with fail
   go_ret;exact⟨rfl,hD,hE⟩
 rw[if_neg h1];have h2:decide ((n:Int)<55296)=false:=by simp;omega
 have h3:decide ((57344:Int)≤n)=false:=by simp;omega
 have hK:(55296:Int)≤n∧(n:Int)<57344:=by omega
 have hT:=zi hK;clear h1 hK;by_cases h4:56320≤n
 ·rw[if_pos h4];have hP:decide ((56320:Int)≤n)=true:=by simp;omega
  clear h4;have H:=zi hn;clear hn;go_enter Tryz.func279,Tryz.ntmps279
  go_wp2_with fail
  refine Hc.out.mono ?_;rintro e w1 ⟨rfl,hD,hE⟩
  go_wp2_with fail
  refine(zby r _ _ d _ hD).mono ?_;rintro e w2 ⟨rfl,hC,hF⟩
  go_wp2_with fail
  go_ret;exact⟨rfl,hC,hE.trans' hF⟩
 rw[if_neg h4];have hP:decide ((56320:Int)≤n)=false:=by simp;omega
 clear h4;generalize hM:zaa [92,117] ⟨s1,b1⟩=M;have HM:=zi hM;clear hM;obtain⟨s2,b2⟩:=M;have hG:=zkh 4 0 0 ⟨s2,b2⟩ (by decide);generalize hL:zb6 4 0 ⟨s2,b2⟩=G2;have hU:=zi hL;rw[hL]at hG;clear hL;obtain⟨hB,s3,b3⟩:=G2;simp only at hG ⊢;have hl:hB<65536:=hG;clear hG
 have hO:∀ w1,Rd r s1 b1 d w1→Fr (MR r) w w1→Calls zl 220 #[.pointer (some ⟨r,0,none⟩),.string ⟨#[92,117]⟩] w1 fun e w'=>e = .returned (.tuple #[])∧Rd r s2 b2 d w'∧Fr (MR r) w w':=by
  intro w1 hD hE;refine(zlv r s1 [92,117] b1 d w1 hD).mono ?_;rintro e w2 ⟨rfl,hC,hF⟩;rw[HM.out]at hC;exact⟨rfl,hC,hE.trans' hF⟩
 have hH:∀ w1,Rd r s2 b2 d w1→Fr (MR r) w w1→Calls zl 285 #[.pointer (some ⟨r,0,none⟩)] w1 fun e w'=>e = .returned (.int .i32 hB)∧Rd r s3 b3 d w'∧Fr (MR r) w w':=by
  intro w1 hD hE;refine(zxy r s2 b2 d w1 hD).mono ?_;rintro e w2 ⟨rfl,hC,hF⟩;rw[hU.out]at hC ⊢;exact⟨rfl,hC,hE.trans' hF⟩
 have Key:=zi hO;have hJ:=zi hH;clear hO hH;by_cases h5:b3=true∨hB<56320∨57344≤hB
 ·rw [if_pos h5]
  have h6:b3=true∨(b3=false∧decide ((hB:Int)<56320)=true)∨(b3=false∧decide ((hB:Int)<56320)=false∧decide ((57344:Int)≤hB)=true):=by
   cases b3<;>simp at h5 ⊢<;>omega
  clear h5;have Hn:=zi hn;have Hl:=zi hl;clear hn hl;rcases h6 with rfl | ⟨rfl,h6⟩ | ⟨rfl,h6,h7⟩
  all_goals
   go_enter Tryz.func279,Tryz.ntmps279
   go_wp2_with fail
   refine Hc.out.mono ?_;rintro e w1 ⟨rfl,hD,hE⟩
   go_wp2_with fail
   refine(Key.out _ hD hE).mono ?_;rintro e w2 ⟨rfl,hC,hF⟩
   go_wp2_with fail
   refine(hJ.out _ hC hF).mono ?_;rintro e w3 ⟨rfl,hI,hN⟩;obtain⟨c0,c1,c2,f1,hQ⟩:=hI.cells
   go_wp2_with fail
   refine(zby r _ _ d _ hI).mono ?_;rintro e w4 ⟨rfl,hR,hS⟩
   go_wp2_with fail
   go_ret;exact⟨rfl,hR,hN.trans' hS⟩
 rw[if_neg h5]
 obtain ⟨rfl,h6,h7⟩:b3=false∧decide ((hB:Int)<56320)=false∧decide ((57344:Int)≤hB)=false:=by
  cases b3<;>simp at h5 ⊢<;>omega
 clear h5;have hl0:(0:Int)≤hB:=by omega
 have hl1:(hB:Int)<65536:=by omega
 have hn1:(n:Int)<65536:=by omega
 have Hn:=zi hn;have Hl:=zi hl;clear hn hl;go_enter Tryz.func279,Tryz.ntmps279
 go_wp2_with fail
 refine Hc.out.mono ?_;rintro e w1 ⟨rfl,hD,hE⟩
 go_wp2_with fail
 refine(Key.out _ hD hE).mono ?_;rintro e w2 ⟨rfl,hC,hF⟩
 go_wp2_with fail
 refine(hJ.out _ hC hF).mono ?_;rintro e w3 ⟨rfl,hI,hN⟩;obtain⟨c0,c1,c2,f1,hQ⟩:=hI.cells
 go_wp2_with fail
 go_ret;have hK:=hT.out;simp at hP h6 h7;exact⟨zbi (by omega),hI,hN⟩
theorem zgf {c:UInt8}{k:Nat}(h:c≠UInt8.ofNat k):((c.toNat:Int)==(k:Int))=false:=by
 rw[beq_eq_false_iff_ne];intro e;apply h;have e:c.toNat=k:=by omega
 rw[← e];simp
theorem zul (r:Nat) (s:Bs) (bad:Bool) (d:Int) (w:World) (h:Rd r s bad d w) :
 Calls zl 257 #[.pointer (some ⟨r,0,none⟩)] w fun e w'=>e = .returned (.int .i32 (qf ⟨s,bad⟩).1)∧Rd r (qf ⟨s,bad⟩).2.s (qf ⟨s,bad⟩).2.bad d w'∧Fr (MR r) w w':=by
 obtain⟨c0,c1,c2,f1,hr1⟩:=h.cells;cases s with
 | nil =>
   simp only[qf];go_enter Tryz.func257,Tryz.ntmps257
   go_wp2_with fail
   refine(zby r _ _ d _ h).mono ?_;rintro e w1 ⟨rfl,hI,hJ⟩
   go_wp2_with fail
   go_ret;exact⟨rfl,hI,hJ⟩
 | cons c l =>
   have hx:=zi (zbo (c :: l) 1 (l.length+1) (by simp));have hB:Hid (Rd r l bad d (w.setCell ⟨r,0,none⟩ (.string ⟨(List.drop 1 (c :: l)).toArray⟩))):=h.set0 l;have hF:Fr (MR r) w (w.setCell ⟨r,0,none⟩ (.string ⟨(List.drop 1 (c :: l)).toArray⟩)):=Fr.refl.setCell _ _ h.one;by_cases hp:c=34∨c=92∨c=47∨c=98∨c=102∨c=110∨c=114∨c=116
   ·rcases hp with rfl | rfl | rfl | rfl | rfl | rfl | rfl | rfl
    all_goals
     simp only[qf,zcq];go_enter Tryz.func257,Tryz.ntmps257
     go_wp2_with fail
     go_ret;rw[hx.out];exact⟨by simp,hB.out,hF⟩
   have hN:c≠34:=fun e=>hp (by simp[e])
   have hL:c≠92:=fun e=>hp (by simp[e])
   have hM:c≠47:=fun e=>hp (by simp[e])
   have hK:c≠98:=fun e=>hp (by simp[e])
   have hH:c≠102:=fun e=>hp (by simp[e])
   have hG:c≠110:=fun e=>hp (by simp[e])
   have hE:c≠114:=fun e=>hp (by simp[e])
   have hD:c≠116:=fun e=>hp (by simp[e])
   by_cases hC:c=117
   ·subst hC;have hs:qf ⟨117 :: l,bad⟩=zds ⟨l,bad⟩:=by simp[qf,zcq]
    rw[hs];clear hs hp hN hL hM hK hH hG hE hD;go_enter Tryz.func257,Tryz.ntmps257
    go_wp2_with fail
    rw[hx.out];refine(zxe r l bad d _ hB.out).mono ?_;rintro e w1 ⟨rfl,hI,hJ⟩
    go_wp2_with fail
    go_ret;exact⟨rfl,hI,hF.trans' hJ⟩
   have hs:qf ⟨c :: l,bad⟩=(0,⟨l,true⟩):=by simp[qf,zcq, *]
   rw[hs];have e34:((c.toNat:Int)==34)=false:=zgf hN;have e92:((c.toNat:Int)==92)=false:=zgf hL;have e47:((c.toNat:Int)==47)=false:=zgf hM;have e98:((c.toNat:Int)==98)=false:=zgf hK;have e102:((c.toNat:Int)==102)=false:=zgf hH;have e110:((c.toNat:Int)==110)=false:=zgf hG;have e114:((c.toNat:Int)==114)=false:=zgf hE;have e116:((c.toNat:Int)==116)=false:=zgf hD;have e117:((c.toNat:Int)==117)=false:=zgf hC;clear hs hp hN hL hM hK hH hG hE hD hC;go_enter Tryz.func257,Tryz.ntmps257
   go_wp2_with fail
   rw[hx.out];refine(zby r l bad d _ hB.out).mono ?_;rintro e w1 ⟨rfl,hI,hJ⟩
   go_wp2_with fail
   go_ret;exact⟨rfl,hI,hF.trans' hJ⟩
end
section
open Go.RowKit
variable [OldK]

theorem zsz {B b r:Nat}{w:World}(hB:w.heap.size≤B):∀ k o,MB B b k o→MR r k o∨w.heap.size≤k:=fun _ _ h => .inr (Nat.le_trans hB h.1)
theorem Bld.rd {b r:Nat}{l:Bs}{w w':World}(h:Bld b b l w)(hF:Fr (MR r) w w')(hr:r<b):Bld b b l w' :=
 h.fr hF (fun k o _ hk _ hm=>by have:=hm.1;omega)
theorem Rd.bld {b r:Nat}{s:Bs}{bad:Bool}{d:Int}{w w':World}(h:Rd r s bad d w)(hF:Fr (MB b b) w w')(hr:r<b):Rd r s bad d w' :=
 h.fr hF (fun o _ hm=>by have:=hm.1;omega)
theorem Gl.bld {b:Nat}{w w':World}(h:Gl w)(hF:Fr (MB b b) w w')(hb:2≤b):Gl w' :=
 h.fr hF (fun _ _ _ hm=>Nat.le_trans hb hm.1)
theorem Gl.below {w w':World}(h:Gl w)(hb:Below w.heap.size w w'):Gl w':=h.fr (Fr.ofBelow hb) (fun _ _ _ x=>x.elim)
theorem Bld.below {b B:Nat}{l:Bs}{w w':World}(h:Bld B b l w)(hb:Below w.heap.size w w'):Bld B b l w':=h.fr (Fr.ofBelow hb) (fun _ _ _ _ _ x=>x.elim)
theorem zth (st:St):(zds st).1≤1114111:=by
 unfold zds;have h1:=zkh 4 0 0 st (by decide);generalize zb6 4 0 st=G at *;obtain⟨n,hB⟩:=G;simp only at h1 ⊢;have h1:n<65536:=h1;split
 ·simp only;omega
 split
 ·simp
 have h2:=zkh 4 0 0 (zaa [92,117] hB) (by decide);generalize zb6 4 0 (zaa [92,117] hB)=G2 at *;obtain⟨hC,st2⟩:=G2;simp only at h2 ⊢;split
 ·simp
 rename_i hx hy hz
 have h3:¬ (hC<56320∨57344≤hC):=fun e=>hz (.inr e)
 simp only;omega
theorem zp3 (st:St):(qf st).1≤1114111:=by
 unfold qf;split
 ·simp
 split
 ·rename_i v hv
  unfold zcq at hv
  repeat' split at hv
  all_goals simp at hv
  all_goals (simp only;omega)
 split
 ·exact zth _
 simp
def zsv (r b:Nat) (d:Int) (N:Nat) (w:World) (G:Bs × St) (g:Nat) (wx:World):Prop :=
 ∃ (out:Bs) (st:St),qe g out st=G∧Rd r st.s st.bad d wx∧Bld b b out wx∧Gl wx∧Fr (MR r) w wx∧1≤g∧(st.bad=false→st.s.length+2≤g)∧out.length+4 * st.s.length≤4 * N
theorem zuy (r:Nat) (s:Bs) (bad:Bool) (d:Int) (w:World) (h:Rd r s bad d w) (hg:Gl w) (hlen:s.length≤1073741824) :
 Calls zl 224 #[.pointer (some ⟨r,0,none⟩)] w fun e w'=>e = .returned (.string ⟨(zbc ⟨s,bad⟩).1.toArray⟩)∧Rd r (zbc ⟨s,bad⟩).2.s (zbc ⟨s,bad⟩).2.bad d w'∧Fr (MR r) w w':=by
 generalize hG:zbc ⟨s,bad⟩=G;have HG:=zi hG;clear hG;have ho:=zd6 [34] ⟨s,bad⟩;simp only at ho;go_enter Tryz.func224,Tryz.ntmps224
 go_wp2_with fail
 refine(zlv r s [34] bad d w h).mono ?_;rintro e w1 ⟨rfl,hd,hU⟩;have hH:r<w1.heap.size:=hd.lt;have hw1:w.heap.size≤w1.heap.size:=hU.size;have hP:Gl w1:=hg.rd h hU;have hh:2≤w1.heap.size:=hP.size
 have hI:zsv r w1.heap.size d s.length w G (s.length+2) (w1.alloc (.cells #[.pointer none,.slice none 0 0] 197)) :=
  ⟨[],_,HG.out,hd.alloc _,Bld.fresh w1,hP.alloc _,hU.alloc _,by omega,fun _=>by omega,by simp;omega⟩
 clear hd hU hP
 go_wp2_with fail
 go_loopg [] (s.length+2) (fun g wx=>zsv r w1.heap.size d s.length w G g wx)
 case atStart=>exact hI
 case round =>
  clear hI;generalize hb:w1.heap.size=b at *;have Hb:=zi hb;clear hb;obtain⟨out,st,hS,hR,hB,hX,hF,hP,hZ,hn⟩:=hrel;obtain⟨s1,b1⟩:=st;simp only at hZ hn hR;obtain⟨c0,c1,c2,f1,hf⟩:=hR.cells;obtain⟨g',rfl⟩:∃ g',gk=g'+1:=⟨gk - 1,by omega⟩;cases b1 with
  | true =>
    go_wp2_with fail
    go_ret;have hS:=hS;simp only[qe,if_true]at hS;subst hS;exact⟨rfl,hR,hF⟩
  | false =>
    have hfu':=hZ rfl;clear hZ;have HS:=zi hS;clear hS
    go_wp2_with fail
    refine(Go.Proofs.Tryz.utf8_DecodeRuneInString ⟨s1.toArray⟩ _ hX.utf8).mono ?_;rintro e w2 ⟨rfl,hN⟩;have hO:=hR.below hN;have hm:=hB.below hN;have hi:=hX.below hN;have hr:Fr (MR r) w w2:=hF.trans (Fr.ofBelow hN) (fun _ _ x=>x.elim);have hq:=zey s1;have hD:Hid (qe (g'+1) out ⟨s1,false⟩=G):=HS.out;unfold Hid at hD;simp only[qe,zao,Bool.false_eq_true,if_false]at hD;generalize (Lib.decodeGo ⟨s1.toArray⟩).1=c at *;generalize (Lib.decodeGo ⟨s1.toArray⟩).2=size at *;obtain⟨hd1,hd2,hd3,hl⟩:=hq;have Hd4:=zi hl;clear hl hR hB hX hF c0 c1 c2 f1 hf hN;obtain⟨c0,c1,c2,f1,hf⟩:=hO.cells;have hx:=zi (zbo s1 size s1.length (ja _));have hK:=zi hD;clear hD;have hE:Hid (Rd r (s1.drop size) false d (w2.setCell ⟨r,0,none⟩ (.string ⟨(s1.drop size).toArray⟩))):=hO.set0 _;have hQ:Fr (MR r) w2 (w2.setCell ⟨r,0,none⟩ (.string ⟨(s1.drop size).toArray⟩)):=Fr.refl.setCell _ _ hO.one;have hV:=hm.rd hQ hH;have hY:=hi.rd hO hQ;have hT:=hr.trans' hQ;have hk:(s1.drop size).length=s1.length - size:=List.length_drop;have Hdl:=zi hk;clear hk hm hi hQ hO;by_cases hA:size=0∨c<32∨(c=65533∧size=1)
    ·have Hst:Hid (qe g' out ⟨s1.drop size,true⟩=G):=by
      have:=hK.out;rw[if_pos hA]at this;exact this
     clear hK
     have hs:((size:Int)==0)=true∨(((size:Int)==0)=false∧decide ((c:Int)<32)=true)∨(((size:Int)==0)=false∧decide ((c:Int)<32)=false∧((c:Int)==65533)=true∧((size:Int)==1)=true):=by
      simp only[beq_iff_eq,beq_eq_false_iff_ne,decide_eq_true_eq,decide_eq_false_iff_not];omega
     clear hA;rcases hs with e0 | ⟨e0,e1⟩ | ⟨e0,e1,e2,e3⟩
     all_goals
      go_wp2_with fail
      rw[hx.out];refine(zby r _ _ d _ hE.out).mono ?_;rintro e w3 ⟨rfl,hc,hJ⟩
      go_wp2_with fail
      go_roundg g'
      case measure=>omega
      case rel=>exact⟨out,⟨s1.drop size,true⟩,Hst.out,hc,hV.rd hJ hH,hY.rd hE.out hJ,hT.trans' hJ,by omega,by simp,by simp only[Hdl.out];omega⟩
    have e0:((size:Int)==0)=false:=by simp only[beq_eq_false_iff_ne];omega
    have e1:decide ((c:Int)<32)=false:=by simp only[decide_eq_false_iff_not];omega
    have e2:(((c:Int)==65533)=false)∨(((c:Int)==65533)=true∧((size:Int)==1)=false):=by
     simp only[beq_iff_eq,beq_eq_false_iff_ne];omega
    have hsz:1≤size:=by omega
    by_cases hM:c=34
    ·have Hst:Hid ((out,⟨s1.drop size,false⟩)=G):=by
      have:=hK.out;rw[if_neg hA,if_pos hM]at this;exact this
     clear hK hA e2;subst hM
     go_wp2_with fail
     refine(zkd b b out _ (by rw[hx.out];exact hV)).mono ?_;rintro e w3 ⟨rfl,hJ⟩
     go_wp2_with fail
     go_ret;have hG:=Hst.out;subst hG;rw[hx.out]at hJ;exact⟨rfl,hE.out.bld hJ hH,hT.trans hJ (zsz (by omega))⟩
    by_cases hW:c=92
    ·have Hst:Hid (qe g' (out++Lib.encodeRune (qf ⟨s1.drop size,false⟩).1) (qf ⟨s1.drop size,false⟩).2=G):=by
      have:=hK.out;rw[if_neg hA,if_neg hM,if_pos hW]at this;exact this
     have ha:(qf ⟨s1.drop size,false⟩).2.s.length≤(s1.drop size).length:=zfb ⟨s1.drop size,false⟩;have hC:=za7 (qf ⟨s1.drop size,false⟩).1;have hj:(-2147483648:Int)≤(qf ⟨s1.drop size,false⟩).1∧((qf ⟨s1.drop size,false⟩).1:Int)≤2147483647:=by have:=zp3 ⟨s1.drop size,false⟩;omega
     have HE:=zi (And.intro ha (And.intro hC hj));clear hK hA e2 hM ha hC hj;subst hW
     go_wp2_with fail
     rw[hx.out];refine(zul r _ _ d _ hE.out).mono ?_;rintro e w3 ⟨rfl,hc,hJ⟩
     go_wp2_with fail
     refine(zh2 b b out _ HE.out.2.2.1 HE.out.2.2.2 _ (hV.rd hJ hH) (by omega)).mono ?_;rintro e w4 ⟨rfl,he,hL⟩
     go_wp2_with fail
     go_roundg g'
     case measure=>omega
     case rel =>
      obtain⟨ha,hC,_⟩:=HE.out;have hp:=hY.rd hE.out hJ;refine⟨_,_,Hst.out,hc.bld hL hH,he,hp.bld hL hh,(hT.trans' hJ).trans hL (zsz (by omega)),by omega,fun _=>?_,?_⟩
      ·have:=Hdl.out;omega
      have:=Hdl.out;rw[List.length_append];omega
    have Hst:Hid (qe g' (out++Lib.encodeRune c) ⟨s1.drop size,false⟩=G):=by
     have:=hK.out;rw[if_neg hA,if_neg hM,if_neg hW]at this;exact this
    have hC:=za7 c;have HE:=zi hC;have e34:((c:Int)==34)=false:=by simp only[beq_eq_false_iff_ne];omega
    have e92:((c:Int)==92)=false:=by simp only[beq_eq_false_iff_ne];omega
    clear hK hA hM hW hC;rcases e2 with e2 | ⟨e2,e3⟩
    all_goals
     go_wp2_with fail
     refine(zh2 b b out _ (by omega) (by omega) _ (by rw[hx.out];exact hV) (by omega)).mono ?_;rintro e w4 ⟨rfl,he,hL⟩;rw[hx.out]at hL
     go_wp2_with fail
     go_roundg g'
     case measure=>omega
     case rel =>
      have hC:=HE.out;refine⟨_,⟨s1.drop size,false⟩,Hst.out,hE.out.bld hL hH,he,hY.bld hL hh,hT.trans hL (zsz (by omega)),by omega,fun _=>?_,?_⟩
      ·have:=Hdl.out;show(s1.drop size).length+2≤g';omega
      have:=Hdl.out;rw[List.length_append];show _+4 * (s1.drop size).length≤_;omega
end
section
open Go.RowKit
attribute [local instance] zb3

theorem zki:∀ (s:Bs) (n k:Nat),n≤90071992547409919→(qj n k s).1≤90071992547409919∧(qj n k s).2.1≤k+s.length∧(qj n k s).2.2.length≤s.length:=by
 intro s
 induction s with
 | nil=>intro n k h;exact⟨h,ja _,ja _⟩
 | cons x l ih =>
   intro n k h;unfold qj;split
   ·split
    ·have:=ih (10 * n+(x.toNat - 48)) (k+1) (by omega);exact⟨this.1,by have:=this.2.1;simp;omega,by have:=this.2.2;simp;omega⟩
    have:=ih n (k+1) h;exact⟨this.1,by have:=this.2.1;simp;omega,by have:=this.2.2;simp;omega⟩
   exact⟨h,by simp,ja _⟩
def VB (b:Nat) (w:World):Prop:=∃ q0 q1 q2 q3 q4,w.heap[b]? = some (.cells #[q0,q1,q2,q3,q4] 65 (0,0))
theorem VB.lt {b:Nat}{w:World}(h:VB b w):b<w.heap.size:=by obtain⟨_,_,_,_,_,h⟩:=h;exact ju h
theorem VB.cells {b:Nat}{w:World}(h:VB b w):∃ q0 q1 q2 q3 q4,w.cell? ⟨b,0,none⟩=some q0∧w.cell? ⟨b,1,none⟩=some q1∧w.cell? ⟨b,2,none⟩=some q2∧w.cell? ⟨b,3,none⟩=some q3∧w.cell? ⟨b,4,none⟩=some q4∧(∀ o,w.frozen? ⟨b,o,none⟩=false)∧b<w.heap.size:=by
 have hl:=h.lt;obtain⟨q0,q1,q2,q3,q4,h⟩:=h;refine⟨q0,q1,q2,q3,q4,?_,?_,?_,?_,?_,?_,hl⟩<;>simp[World.cell?,World.frozen?,h]
theorem VB.fr {M:Nat→Obj→Prop}{b:Nat}{w w':World}(h:VB b w)(hF:Fr M w w')(hM:∀ o,OfTy 65 o→¬ M b o):VB b w':=by
 obtain⟨q0,q1,q2,q3,q4,h⟩:=h;exact⟨q0,q1,q2,q3,q4,hF.block _ _ h (hM _ ⟨_,_,rfl⟩)⟩
theorem VB.rd {b r:Nat} {w w':World} (h:VB b w) (hF:Fr (MR r) w w'):VB b w' :=
 h.fr hF (fun o ho hm=>by
  obtain⟨_,c,f,h1⟩:=hm;obtain⟨c',f',h2⟩:=ho;rw[h1]at h2
  simp at h2)
theorem VB.new (w:World)(q0 q1 q2 q3 q4:Value):VB w.heap.size (w.alloc (.cells #[q0,q1,q2,q3,q4] 65)):=⟨q0,q1,q2,q3,q4,heap_alloc_new w _⟩
def setV (b:Nat) (v0 v1 v2 v3 v4:Value) (w:World):World :=
 ((((w.setCell ⟨b,0,none⟩ v0).setCell ⟨b,1,none⟩ v1).setCell ⟨b,2,none⟩ v2).setCell ⟨b,3,none⟩ v3).setCell ⟨b,4,none⟩ v4
theorem VB.setV {b:Nat}{w:World}(h:VB b w)(v0 v1 v2 v3 v4:Value):(setV b v0 v1 v2 v3 v4 w).heap[b]? = some (.cells #[v0,v1,v2,v3,v4] 65 (0,0)):=by
 obtain⟨q0,q1,q2,q3,q4,h⟩:=h;simp[Go.Proofs.YtffggpplnjibgaaGreatDoor.setV,World.setCell,Array.getElem?_modify,h]
theorem Fr.setV {M:Nat→Obj→Prop}{b:Nat}{w w1:World}(h:Fr M w w1)(hb:w.heap.size≤b)(v0 v1 v2 v3 v4:Value):Fr M w (setV b v0 v1 v2 v3 v4 w1) :=
 ((((h.setNew _ _ hb).setNew _ _ hb).setNew _ _ hb).setNew _ _ hb).setNew _ _ hb
theorem Rd.setV {r b:Nat}{s:Bs}{bad:Bool}{d:Int}{w:World}(h:Rd r s bad d w)(hb:r≠b)(v0 v1 v2 v3 v4:Value):Rd r s bad d (setV b v0 v1 v2 v3 v4 w) :=
 ((((h.other _ hb).other _ hb).other _ hb).other _ hb).other _ hb
theorem zt0 (r:Nat) (x:UInt8) (l:Bs) (bad:Bool) (d:Int) (w:World) (h:Rd r (x :: l) bad d w) (hlen:(x :: l).length≤1073741824) :
 Calls zl 227 #[.pointer (some ⟨r,0,none⟩)] w fun e w'=>∃ v,e = .returned v∧RJ (fun k=>w.heap.size≤k) w' (zcl ⟨x :: l,bad⟩).1 v∧Rd r (zcl ⟨x :: l,bad⟩).2.s (zcl ⟨x :: l,bad⟩).2.bad d w'∧Fr (MR r) w w':=by
 obtain⟨c0,c1,c2,f1,hr1⟩:=h.cells;have hx:=zi (zbo (x :: l) 1 (l.length+1) (by simp))
 -- the sign
 obtain ⟨m,s1,hm,hY,ho,ht⟩:∃ (m:Bool) (s1:Bs),((x.toNat:Int)==45)=m∧(s1=if m then l else x :: l)∧zcl ⟨x :: l,bad⟩=zbx m bad s1∧s1.length≤1073741824:=by
  by_cases hc:x=45
  ·refine⟨true,l,by rw[hc];rfl,rfl,by simp[zcl,hc],by simp at hlen;omega⟩
  refine⟨false,x :: l,?_,rfl,by simp[zcl,hc],hlen⟩;rw[beq_eq_false_iff_ne];intro e;exact hc (UInt8.toNat_inj.1 (by simp;omega))
 rw[ho];clear ho
 have hZ:∀ W,(W=(if m then w.setCell ⟨r,0,none⟩ (.string ⟨l.toArray⟩) else w).alloc (.cells #[.int .i64 0,.int .i64 0,.string ⟨#[]⟩,.slice none 0 0,.slice none 0 0] 65))→Rd r s1 bad d W∧VB w.heap.size W∧Fr (MR r) w W:=by
  rintro W rfl;cases m
  ·simp only[Bool.false_eq_true,if_false]at hY ⊢;subst hY;exact⟨h.alloc _,VB.new w _ _ _ _ _,Fr.refl.alloc _⟩
  simp only[if_true]at hY ⊢;subst hY;have:=VB.new (w.setCell ⟨r,0,none⟩ (.string ⟨s1.toArray⟩)) (.int .i64 0) (.int .i64 0) (.string ⟨#[]⟩) (.slice none 0 0) (.slice none 0 0);rw[World.size_setCell]at this;exact⟨(h.set0 _).alloc _,this,(Fr.refl.setCell _ _ h.one).alloc _⟩
 have Hpre:=zi hZ;clear hZ hY;generalize hG:zbx m bad s1=G;have HG:=zi hG;clear hG;cases m
 all_goals
  have hp:=Hpre.out;simp only[Bool.false_eq_true,if_false,if_true]at hp;obtain⟨hJ,hU,hX⟩:=hp _ rfl;clear hp;cases s1 with
  | nil =>
    go_enter Tryz.func227,Tryz.ntmps227
    go_wp2_with fail
    try rw[hx.out]
    refine(zct (fun w'=>Rd r [] bad d w'∧VB w.heap.size w'∧Fr (MR r) w w') (zl7 r bad d _ hJ) ⟨hJ,hU,hX⟩).mono ?_;rintro e w1 ⟨rfl,hO,hT,hW⟩;clear hJ hU hX
    go_wp2_with fail
    refine(zby r _ _ d _ hO).mono ?_;rintro e w2 ⟨rfl,hC,hH⟩;have hI:=hT.rd hH;obtain⟨q0,q1,q2,q3,q4,a0,a1,a2,a3,a4,fz,hf⟩:=hI.cells
    go_wp2_with fail
    refine bodyPost_ret (v := .agg #[.int .i64 0,.int .i64 0,.string ⟨#[]⟩,.slice none 0 0,.slice none 0 0]) (by simp[results,Tryz.results227,go_sem,a0,a1,a2,a3,a4]) rfl ?_;have hG:=HG.out;simp only[zbx]at hG;subst hG;have hQ:r≠w.heap.size:=by omega
    exact⟨_,rfl,RJ.zero _ _,hC.setV hQ _ _ _ _ _,(hW.trans' hH).setV (ja _) _ _ _ _ _⟩
  | cons y s2 =>
    by_cases hy:48≤y.toNat∧y.toNat≤57
    ·have he:decide (48≤y.toNat∧y.toNat≤57)=true:=by simpa using hy
     generalize hD:qj 0 0 (y :: s2)=D;have HD:=zi hD;have h3:=zki (y :: s2) 0 0 (by omega);rw[hD]at h3;clear hD;obtain⟨z,hz⟩:∃ z:Bool,((y.toNat:Int)==48)=z:=⟨_,rfl⟩
     have hr:Hid (decide (y=48)=z):=by
      unfold Hid;rw[← hz,Bool.eq_iff_iff,decide_eq_true_eq,beq_iff_eq];exact⟨fun e=>by rw[e];rfl,fun e=>UInt8.toNat_inj.1 (by simp;omega)⟩
     have hB:=HG.out;simp only[zbx,hy,and_self,if_true,HD.out,hr.out]at hB;have Hend:=zi hB;clear hB hy;go_enter Tryz.func227,Tryz.ntmps227
     go_wp2_with fail
     try rw[hx.out]
     refine(zct (fun w'=>Rd r (y :: s2) bad d w'∧VB w.heap.size w'∧Fr (MR r) w w') (zd0 r y s2 bad d _ hJ) ⟨hJ,hU,hX⟩).mono ?_;rintro e w1 ⟨rfl,hO,hT,hW⟩;rw[he];clear hJ hU hX c0 c1 c2 f1;obtain⟨c0,c1,c2,f1,hP⟩:=hO.cells
     go_wp2_with fail
     go_loopg [5,6] ((y :: s2).length+1) (fun g vn vk wr=>∃ (n k:Nat) (s:Bs),vn = .int .i64 n∧vk = .int .i64 k∧n≤90071992547409919∧k+s.length≤1073741824∧Rd r s bad d wr∧VB w.heap.size wr∧Fr (MR r) w wr∧Hid (qj n k s=D)∧s.length<g)
     case atStart=>exact⟨0,0,y :: s2,rfl,rfl,by omega,by simpa using ht,hO,hT,hW,HD,by simp⟩
     case round =>
      obtain⟨n,k,s,rfl,rfl,hn,hk,hR,hV,hF,hS,hg⟩:=hrel;clear hO hT hW c0 c1 c2 f1 hP;obtain⟨c0,c1,c2,f1,hP⟩:=hR.cells;by_cases hd:∃ a s',s=a :: s'∧48≤a.toNat∧a.toNat≤57
      ·obtain ⟨a,s',hs,ha⟩:=hd;subst hs;generalize s'=s at *;have hb:decide (48≤a.toNat∧a.toNat≤57)=true:=by simpa using ha
       have hl:=zi (zbo (a :: s) 1 (s.length+1) (by simp));have hN:=hS.out;simp only[qj,ha,and_self,if_true]at hN;obtain⟨ha1,ha2⟩:=ha;have hq:(a :: s).length=s.length+1:=rfl;rw[hq]at hg hk;clear hS hq;rcases Nat.lt_or_ge 9007199254740991 n with hE | hE
       ·have hu:decide ((n:Int)≤9007199254740991)=false:=by simp only[decide_eq_false_iff_not];omega
        rw[if_neg (by omega)]at hN;have hj:=zi hN;clear hE hN
        go_wp2_with fail
        refine(zct (fun w'=>Rd r (a :: s) bad d w'∧VB w.heap.size w'∧Fr (MR r) w w') (zd0 r a s bad d _ hR) ⟨hR,hV,hF⟩).mono ?_;rintro e w2 ⟨rfl,hC,hI,hH⟩;rw[hb];clear hR hV hF c0 c1 c2 f1 hP;obtain⟨c0,c1,c2,f1,hP⟩:=hC.cells
        go_wp2_with fail
        go_roundg (gk - 1)
        case measure=>omega
        case rel =>
         rw[hl.out];have hL:Fr (MR r) w2 (w2.setCell ⟨r,0,none⟩ (.string ⟨s.toArray⟩)):=Fr.refl.setCell _ _ hC.one;exact⟨n,k+1,s,rfl,by go_num,hn,by omega,hC.set0 _,hI.rd hL,hH.trans' hL,hj,by omega⟩
       have hu:decide ((n:Int)≤9007199254740991)=true:=by simp only[decide_eq_true_eq];omega
       rw[if_pos hE]at hN;have hj:=zi hN;have hn':(n:Int)≤9007199254740991:=by omega
       have Hbig:=zi hE;clear hN hE
       go_wp2_with fail
       refine(zct (fun w'=>Rd r (a :: s) bad d w'∧VB w.heap.size w'∧Fr (MR r) w w') (zd0 r a s bad d _ hR) ⟨hR,hV,hF⟩).mono ?_;rintro e w2 ⟨rfl,hC,hI,hH⟩;rw[hb];clear hR hV hF c0 c1 c2 f1 hP;obtain⟨c0,c1,c2,f1,hP⟩:=hC.cells
       go_wp2_with fail
       go_roundg (gk - 1)
       case measure=>omega
       case rel =>
        rw[hl.out];have hL:Fr (MR r) w2 (w2.setCell ⟨r,0,none⟩ (.string ⟨s.toArray⟩)):=Fr.refl.setCell _ _ hC.one;have hE:=Hbig.out;exact⟨10 * n+(a.toNat - 48),k+1,s,by congr 1;omega,by go_num,by omega,by omega,hC.set0 _,hI.rd hL,hH.trans' hL,hj,by omega⟩
      have hh:Hid (D=(n,k,s)):=by
       unfold Hid;rw[← hS.out];cases s with
       | nil=>rfl
       | cons a s =>
         have ha:¬ (48≤a.toNat∧a.toNat≤57):=fun ha=>hd ⟨a,s,rfl,ha⟩
         simp only[qj,ha,if_false]
      have hK:Calls zl 262 #[.pointer (some ⟨r,0,none⟩)] wr fun e w'=>e = .returned (.bool false)∧wr=w':=by
       cases s with
       | nil=>exact zl7 r bad d wr hR
       | cons a s =>
         have ha:¬ (48≤a.toNat∧a.toNat≤57):=fun ha=>hd ⟨a,s,rfl,ha⟩
         have hb:decide (48≤a.toNat∧a.toNat≤57)=false:=by simpa using ha
         have:=zd0 r a s bad d wr hR;rw[hb]at this;exact this
      have Hcall:=zi hK;clear hK hd hS;have hi:∃ b1 b2:Bool,decide ((9007199254740991:Int)<n)=b1∧decide ((1:Int)<k)=b2:=⟨_,_,rfl,rfl⟩;obtain⟨b1,b2,hw,hv⟩:=hi;have hB:=Hend.out;rw[hh.out]at hB;have e1:decide (9007199254740991<n)=b1:=by rw[← hw,Bool.eq_iff_iff];simp only[decide_eq_true_eq];omega
      have e2:decide (1<k)=b2:=by rw[← hv,Bool.eq_iff_iff];simp only[decide_eq_true_eq];omega
      simp only[e1,e2]at hB;have hM:=zi hB;clear hB e1 e2;cases b1<;>cases z<;>cases b2
      all_goals
       go_wp2_with fail
       refine(zct (fun w'=>Rd r s bad d w'∧VB w.heap.size w'∧Fr (MR r) w w') Hcall.out ⟨hR,hV,hF⟩).mono ?_;rintro e w2 ⟨rfl,hC,hI,hH⟩;have hQ:r≠w.heap.size:=by omega
       obtain⟨q0,q1,q2,q3,q4,a0,a1,a2,a3,a4,fz,hf⟩:=hI.cells
       go_wp2_with fail
       first
        | (refine(zby r _ _ d _ hC).mono ?_;rintro e w4 ⟨rfl,h2,hL⟩;have h0:=hI.rd hL;(obtain⟨q0,q1,q2,q3,q4,a0,a1,a2,a3,a4,fz,hf⟩:=h0.cells;go_wp2_with fail;(first | (refine bodyPost_ret (v := .agg #[.int .i64 2,.int .i64 (n:Int),.string ⟨#[]⟩,.slice none 0 0,.slice none 0 0]) ?_ rfl ?_;focus (simp[results,Tryz.results227,go_sem,a0,a1,a2,a3,a4];done)) | (refine bodyPost_ret (v := .agg #[.int .i64 2,.int .i64 (-(n:Int)),.string ⟨#[]⟩,.slice none 0 0,.slice none 0 0]) ?_ rfl ?_;focus (simp[results,Tryz.results227,go_sem,a0,a1,a2,a3,a4];done)));have hG:=hM.out;simp at hG;subst hG;exact⟨_,rfl,RJ.flat _ _ _ _ [],h2.setV hQ _ _ _ _ _,(hH.trans' hL).setV (ja _) _ _ _ _ _⟩))
        | ((first | (refine bodyPost_ret (v := .agg #[.int .i64 2,.int .i64 (n:Int),.string ⟨#[]⟩,.slice none 0 0,.slice none 0 0]) ?_ rfl ?_;focus (simp[results,Tryz.results227,go_sem,a0,a1,a2,a3,a4];done)) | (refine bodyPost_ret (v := .agg #[.int .i64 2,.int .i64 (-(n:Int)),.string ⟨#[]⟩,.slice none 0 0,.slice none 0 0]) ?_ rfl ?_;focus (simp[results,Tryz.results227,go_sem,a0,a1,a2,a3,a4];done)));have hG:=hM.out;simp at hG;subst hG;exact⟨_,rfl,RJ.flat _ _ _ _ [],hC.setV hQ _ _ _ _ _,(hH).setV (ja _) _ _ _ _ _⟩)
    have he:decide (48≤y.toNat∧y.toNat≤57)=false:=by simpa using hy
    have hB:=HG.out;simp only[zbx,hy,if_false]at hB;have Hend:=zi hB;clear hB hy;go_enter Tryz.func227,Tryz.ntmps227
    go_wp2_with fail
    try rw[hx.out]
    refine(zct (fun w'=>Rd r (y :: s2) bad d w'∧VB w.heap.size w'∧Fr (MR r) w w') (zd0 r y s2 bad d _ hJ) ⟨hJ,hU,hX⟩).mono ?_;rintro e w1 ⟨rfl,hO,hT,hW⟩;rw[he];clear hJ hU hX
    go_wp2_with fail
    refine(zby r _ _ d _ hO).mono ?_;rintro e w2 ⟨rfl,hC,hH⟩;have hI:=hT.rd hH;obtain⟨q0,q1,q2,q3,q4,a0,a1,a2,a3,a4,fz,hf⟩:=hI.cells
    go_wp2_with fail
    refine bodyPost_ret (v := .agg #[.int .i64 0,.int .i64 0,.string ⟨#[]⟩,.slice none 0 0,.slice none 0 0]) (by simp[results,Tryz.results227,go_sem,a0,a1,a2,a3,a4]) rfl ?_;have hG:=Hend.out;subst hG;have hQ:r≠w.heap.size:=by omega
    exact⟨_,rfl,RJ.zero _ _,hC.setV hQ _ _ _ _ _,(hW.trans' hH).setV (ja _) _ _ _ _ _⟩
end
end Go.Proofs.YtffggpplnjibgaaGreatDoor
