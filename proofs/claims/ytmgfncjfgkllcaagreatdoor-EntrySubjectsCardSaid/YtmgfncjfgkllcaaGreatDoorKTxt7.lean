/-
 The reference's reader of texts: texts in quotation marks,walked.
-/
import Derived.Test.YtmgfncjfgkllcaaGreatDoorKTxt10
import Derived.Test.YtmgfncjfgkllcaaGreatDoorKUtfRef
import Derived.StillTailTactics
import Derived.Deep.RegionHeld3
import Derived.Laws.AppendOwn
open Go.Lib renaming hid→za,byteCells→zb,encodeRune→zc
open List renaming length_drop→zr
namespace Go.Proofs.YtmgfncjfgkllcaaGreatDoor
set_option linter.unusedVariables false
set_option linter.unusedSimpArgs false
set_option linter.unusedSectionVars false
set_option maxRecDepth 100000
set_option maxHeartbeats 8000000
open Go.RowKit
variable [OldK]
attribute [local irreducible] wpStill
theorem zkv (r:Int):zc r≠[]:=by
 unfold zc Lib.encodeRuneZ
 repeat' split
 all_goals simp
theorem zmi (b:Nat) (L:Bs) (v:Value) (a:Nat) (w:World) (h:TX b L v a false w) (hL:L.length≤4096) (ha:a≤L.length) :
 Calls Tryz.prog 209 #[.pointer (some ⟨b,0,none⟩)] w fun e w'=>e = .returned (.string ⟨(zbk ⟨L.drop a,false⟩).1.toArray⟩)∧RS b L v (L.length+1) (zbk ⟨L.drop a,false⟩).2 w'∧Fr (MT b) w w':=by
 have Hc:=za (fun W hW=>zed b L v a false W hW hL (by omega));have H:=za h;obtain⟨q,hD,rfl⟩:=h.2.1.form;clear h;unfold zbk;by_cases hm:nxT (L.drop a)=34
 ·have hq:(nxT (L.drop a)==34)=true:=by rw[beq_iff_eq];exact hm
  have hj:(nxT (L.drop a) != 34)=false:=by rw[bne,hq];rfl
  obtain ⟨l,hr⟩:∃ l,L.drop a=34 :: l:=by
   cases hr:L.drop a with
   | nil=>rw[hr]at hm;simp[nxT]at hm
   | cons x l =>
     rw[hr]at hm;simp only[nxT]at hm;exact⟨l,by rw[show x=34 from UInt8.toNat_inj.1 (by show x.toNat=34;omega)]⟩
  obtain⟨AF,-,hd,AA⟩:=zd4 hr;have hl:zaa [34] ⟨L.drop a,false⟩=⟨L.drop (a+1),false⟩:=by rw[hr,hd];rfl
  rw[hl];generalize hG:j4 ((⟨L.drop a,false⟩:St).s.length+2) [] ⟨L.drop (a+1),false⟩=G;have Ac:(L.drop (a+1)).length+1≤(⟨L.drop a,false⟩:St).s.length+2:=by simp only[zr];omega
  generalize (⟨L.drop a,false⟩:St).s.length+2=fu at hG Ac;have HG:=za hG;have wa:IntKind.i64.wrap ((a:Int)+1)=(a:Int)+1:=by rw[IntKind.wrap_i64];omega
  clear hG hm hl hr hd AA;generalize nxT (L.drop a)=m0 at *;obtain⟨i0,Ab,AX,AW,AV⟩:=info_parts zbp;go_enter Tryz.func209,Tryz.ntmps209
  go_wp2_with fail
  refine(Hc.out _ H.out).mono ?_;rintro e w1 ⟨rfl,h2,hF⟩;obtain⟨c0,c1,c2,fz,hA⟩:=h2.cells;have h5:=za ((hF.mono (M':=MT b) (fun _ _ h=>h.elim)).setCell ⟨b,1,none⟩ (.int .i64 ((a:Int)+1)) (fun o ho=>H.out.one o ho));have H2:=za (h2.put1 ((a:Int)+1) (a+1) rfl);clear h2 hF
  go_wp2_with fail
  clear c0 c1 c2 fz hA Hc hq hj wa;generalize w1.setCell ⟨b,1,none⟩ (.int .i64 ((a:Int)+1))=w2 at *;have hb:=H.out.lt;have hN:=H.out.1.2;have Aq:=za (zs2 (H.out.2.1.below) hN h5.out);obtain⟨x0,AY⟩:∃ x0,L[a]? = some x0:=⟨_,List.getElem?_eq_getElem AF⟩;obtain⟨g0,o0,hV,e9,-⟩:=H.out.2.1.at AY;obtain⟨rfl,rfl⟩:q=some ⟨g0,o0,none⟩∧hD=hV:=by simpa using e9
  obtain⟨_,_,hV,e8,Am,-⟩:=H.out.2.1.cellsAt (by intro e;rw[e]at AF;simp at AF);obtain rfl:hD=hV:=by simp at e8;exact e8.2
  clear e9 e8 AY
  go_loopg [3] (L.length+2 - (a+1)) (fun g vo wr=>∃ (out:Bs) (c k:Nat) (bd:Bool),Hid (TX b L (.slice (some ⟨g0,o0,none⟩) L.length hD) c bd wr)∧Hid (SB (fun k=>k<w.heap.size) L (.slice (some ⟨g0,o0,none⟩) L.length hD) wr)∧Hid (OB w.heap.size out vo wr)∧Hid (Fr (MT b) w wr)∧c≤L.length+1∧(bd=false→a+1≤c∧out.length≤4 * c)∧g=(if bd=true then 0 else L.length+2 - c) ∧
   Hid (bd=false→c≤L.length∧(L.drop c).length+1≤k∧j4 k out ⟨L.drop c,false⟩=G)∧Hid (bd=true→G.1=[]∧G.2.bad=true))
  case atStart=>exact⟨[],a+1,fu,false,H2,Aq,za (OB.nil _ _),h5,by omega,fun _=>⟨by omega,by simp⟩,rfl,za (fun _=>⟨by omega,Ac,HG.out⟩),za (fun h=>by simp at h)⟩
  case round =>
   obtain⟨out,c,k,bd,H3,Ap,Ag,Ah,AE,hn,hg,HA,HB⟩:=hrel;cases bd with
   | true =>
     obtain⟨c0,c1,c2,fz,hA⟩:=H3.out.cells;obtain⟨k1,k2⟩:=HB.out rfl;clear HA HB
     go_wp2_with fail
     go_ret;exact⟨zhk rfl,⟨c,by rw[k2];exact H3.out,fun h=>by rw[k2]at h;simp at h,AE⟩,Ah.out⟩
   | false =>
     obtain⟨k0,k1,k2⟩:=HA.out rfl;obtain⟨c0,c1,c2,fz,hA⟩:=H3.out.cells;clear HA HB;obtain⟨hc2,hol⟩:=hn rfl;have hgk:gk=L.length+2 - c:=by simpa using hg
     clear hn hg;have Hf:=za (fun W vf hW=>zr4 (L.drop c) vf W (fun _=>True) hW (by rw[zr];omega));have hk2:(c:Int)≤(L.length:Int):=by omega
     have hk3:(L.length:Int)≤(hD:Int):=by omega
     have hh:=zrp (s:=L.drop c) (out:=out) (C:=(zb8 (L.drop c)).1) (k:=(zb8 (L.drop c)).2) rfl;have hp:=zng (s:=L.drop c) (c:=(zb8 (L.drop c)).1) (k:=(zb8 (L.drop c)).2) rfl;have hQ:=fun hz=>(zkx (s:=L.drop c) (c:=(zb8 (L.drop c)).1) (k:=(zb8 (L.drop c)).2) rfl hz).1
     obtain⟨k,rfl⟩:∃ k',k=k'+1:=⟨k - 1,by omega⟩;rw[j4,if_neg (by simp)]at k2;generalize zb8 (L.drop c)=D at *;obtain⟨C,z⟩:=D;simp only at hh hp hQ Hf;obtain⟨hz4,Ai,hC0,hC1,-⟩:=hp;rw[zr]at Ai;have hc:=za ((H3.out.2.1.fr ((Fr.refl (M:=NoB)).drew) (fun _ _ _ _ h=>h)).drop c k0);have hM:=za (H3.out.frN Fr.refl.drew);have hy:=za (Ap.out.fr ((Fr.refl (M:=NoB)).drew) (fun _ _ _ _ h=>h));have h0:=za (Ag.out.fr ((Fr.refl (M:=NoB)).drew) (fun _ _ _ _ h=>h));have h1:=za (Ah.out.drew);obtain⟨oa,oc,rfl⟩:=Ag.out.form;by_cases hR:z=0∨C<32
     ·obtain ⟨st,h3,hi⟩:=hh.1 hR;rw[h3]at k2;simp only at k2;rw[zi0 k out st hi]at k2;subst k2
      have hq:((z:Int)==0)=true∨(((z:Int)==0)=false∧decide (C<32)=true):=by
       rcases(by omega:z=0∨¬ z=0) with h | h
       ·left;rw[beq_iff_eq];omega
       right;refine⟨by rw[beq_eq_false_iff_ne];omega,by rw[decide_eq_true_iff];omega⟩
      clear h3 hh hR hQ;by_cases Ae:hD=c
      ·subst Ae;have e1:L.drop hD=[]:=List.drop_eq_nil_of_le Am
       have hc:Hid (SB (fun _=>True) (L.drop hD) (.slice (some ⟨g0,o0,none⟩) 0 0) wr.drew):=by
        rw[e1];exact za (H3.out.2.1.none' 0)
       clear e1;rcases hq with hq | ⟨hq,hj⟩
       all_goals
        go_wp2_with fail
        go_region_held3 (fun W=>W.cell? ⟨b,0,none⟩=some (.slice (some ⟨g0,o0,none⟩) L.length hD)∧W.cell? ⟨b,1,none⟩=some (.int .i64 (hD:Int))∧W.cell? ⟨b,2,none⟩=some (.bool false)) (go_keep) ((go_at_call 225;refine(Hf.out _ _ hc.out).mono ?_;rintro e w5 ⟨rfl,hB⟩;obtain⟨c0,c1,c2,fz,hA⟩:=(hM.out.frN hB).cells))
        have H5:=za (hM.out.frN hB);have he:=za (hy.out.fr hB (fun _ _ _ _ h=>h));have hX:=za (h0.out.fr hB (fun _ _ _ _ h=>h));have hP:=za (h1.out.trans' (hB.mono (M':=MT b) (fun _ _ h=>h.elim)));clear c0 c1 c2 fz hA hB;obtain⟨c0,c1,c2,fz,hA⟩:=H5.out.cells
        go_wp2_with fail
        go_ret;exact⟨zhk rfl,⟨hD,by rw[hi];exact H5.out.set2 true,fun h=>by rw[hi]at h;simp at h,AE⟩,hP.out.setCell _ _ (fun o ho=>H.out.one o ho)⟩
      have AD:(c:Int)<hD:=by omega
      rcases hq with hq | ⟨hq,hj⟩
      all_goals
       go_wp2_with fail
       go_region_held3 (fun W=>W.cell? ⟨b,0,none⟩=some (.slice (some ⟨g0,o0,none⟩) L.length hD)∧W.cell? ⟨b,1,none⟩=some (.int .i64 (c:Int))∧W.cell? ⟨b,2,none⟩=some (.bool false)) (go_keep) ((go_at_call 225;refine(Hf.out _ _ hc.out).mono ?_;rintro e w5 ⟨rfl,hB⟩;obtain⟨c0,c1,c2,fz,hA⟩:=(hM.out.frN hB).cells))
       have H5:=za (hM.out.frN hB);have he:=za (hy.out.fr hB (fun _ _ _ _ h=>h));have hX:=za (h0.out.fr hB (fun _ _ _ _ h=>h));have hP:=za (h1.out.trans' (hB.mono (M':=MT b) (fun _ _ h=>h.elim)));clear c0 c1 c2 fz hA hB;obtain⟨c0,c1,c2,fz,hA⟩:=H5.out.cells
       go_wp2_with fail
       go_ret;exact⟨zhk rfl,⟨c,by rw[hi];exact H5.out.set2 true,fun h=>by rw[hi]at h;simp at h,AE⟩,hP.out.setCell _ _ (fun o ho=>H.out.one o ho)⟩
     obtain⟨s1,s2,s3⟩:=hh.2 (by omega) (by omega);have hQ:=hQ (by omega);have hq:((z:Int)==0)=false:=by rw[beq_eq_false_iff_ne];omega
     have hj:decide (C<32)=false:=by rw[decide_eq_false_iff_not];omega
     have wz:IntKind.i64.wrap ((c:Int)+(z:Int))=(c:Int)+z:=by rw[IntKind.wrap_i64];omega
     have Ae:¬ hD=c:=by omega
     have AD:(c:Int)<hD:=by omega
     have hzp:1≤z:=by omega
     have AB:c+z≤L.length:=by omega
     have hY:(L.drop c).drop z=L.drop (c+z):=List.drop_drop;clear hR hh;by_cases hT:C=34
     ·have AZ:=s1 hT;rw[AZ]at k2;simp only at k2;subst k2;have Ak:(C==34)=true:=by rw[beq_iff_eq];exact hT
      have Hdz:=za hY;have h6:=fun W (hW:OB w.heap.size out (.slice oa out.length oc) W)=>hW.sb.text
      have Htx:=za h6;clear AZ s1 s2 s3 hT hQ hY h6
      go_wp2_with fail
      go_region_held3 (fun W=>W.cell? ⟨b,0,none⟩=some (.slice (some ⟨g0,o0,none⟩) L.length hD)∧W.cell? ⟨b,1,none⟩=some (.int .i64 (c:Int))∧W.cell? ⟨b,2,none⟩=some (.bool false)) (go_keep) ((go_at_call 225;refine(Hf.out _ _ hc.out).mono ?_;rintro e w5 ⟨rfl,hB⟩;obtain⟨c0,c1,c2,fz,hA⟩:=(hM.out.frN hB).cells))
      have H5:=za (hM.out.frN hB);have he:=za (hy.out.fr hB (fun _ _ _ _ h=>h));have hX:=za (h0.out.fr hB (fun _ _ _ _ h=>h));have hP:=za (h1.out.trans' (hB.mono (M':=MT b) (fun _ _ h=>h.elim)));clear c0 c1 c2 fz hA hB;obtain⟨c0,c1,c2,fz,hA⟩:=H5.out.cells;have AQ:=za (hX.out.mt (b:=b) (H5.out.setF 1 (.int .i64 ((c:Int)+z))));have h6:=Htx.out _ AQ.out
      go_wp2_with fail
      go_ret;exact⟨rfl,⟨c+z,H5.out.put1 _ (c+z) (by push_cast;rfl),fun _=>⟨rfl,AB⟩,by omega⟩,hP.out.setCell _ _ (fun o ho=>H.out.one o ho)⟩
     have Ak:(C==34)=false:=by rw[beq_eq_false_iff_ne];exact hT
     by_cases hZ:C=92
     ·have h8:=s2 hZ;rw[hY]at h8;rw[h8]at k2;simp only at k2;have Aj:(C==92)=true:=by rw[beq_iff_eq];exact hZ
      have Hes:=za (fun W hW=>zrn b L (.slice (some ⟨g0,o0,none⟩) L.length hD) (c+z) W hW hL AB);have hH:=z1j ⟨L.drop (c+z),false⟩;have Ad:=zfu ⟨L.drop (c+z),false⟩;generalize j5 ⟨L.drop (c+z),false⟩=E at *;obtain⟨C2,hf⟩:=E;simp only at k2 hH Ad Hes;rw[zr]at Ad;have K2:=za k2;have Hsg:=za (fun W=>zeb (C2:Int) hH W);have Al:=zbo (C2:Int);have Hpos:=za (zkv (C2:Int));clear h8 s1 s2 s3 hT hZ hQ hY k2 hH
      go_wp2_with fail
      go_region_held3 (fun W=>W.cell? ⟨b,0,none⟩=some (.slice (some ⟨g0,o0,none⟩) L.length hD)∧W.cell? ⟨b,1,none⟩=some (.int .i64 (c:Int))∧W.cell? ⟨b,2,none⟩=some (.bool false)) (go_keep) ((go_at_call 225;refine(Hf.out _ _ hc.out).mono ?_;rintro e w5 ⟨rfl,hB⟩;obtain⟨c0,c1,c2,fz,hA⟩:=(hM.out.frN hB).cells))
      have H5:=za (hM.out.frN hB);have he:=za (hy.out.fr hB (fun _ _ _ _ h=>h));have hX:=za (h0.out.fr hB (fun _ _ _ _ h=>h));have hP:=za (h1.out.trans' (hB.mono (M':=MT b) (fun _ _ h=>h.elim)));clear c0 c1 c2 fz hA hB;obtain⟨c0,c1,c2,fz,hA⟩:=H5.out.cells;have H6:=za (H5.out.put1 ((c:Int)+(z:Int)) (c+z) (by push_cast;rfl));have Ar:=za (hP.out.setCell ⟨b,1,none⟩ (.int .i64 ((c:Int)+(z:Int))) (fun o ho=>H.out.one o ho));have AQ:=za (hX.out.mt (b:=b) (H5.out.setF 1 (.int .i64 ((c:Int)+(z:Int)))));have Ao:=za (zs2 he.out hN (H5.out.setF 1 (.int .i64 ((c:Int)+(z:Int)))))
      go_wp2_with fail
      refine(Hes.out _ H6.out).mono ?_;rintro e w6 ⟨rfl,⟨c7,Af,Aa,An⟩,h4⟩;have AK:=za Af;have AT:=za (Ar.out.trans' h4);have AP:=za (AQ.out.mt h4);have AN:=za (zs2 Ao.out hN h4);have AH:=za Aa;clear Af h4 Aa
      go_wp2_with fail
      refine(Hsg.out _).mono ?_;rintro e w8 ⟨vs,rfl,hI,hK⟩;obtain⟨g8,o8,hU,rfl,AC,AG,h9,hC⟩:=hI.cellsAt Hpos.out;have hv:=za (AP.out.fr hK (fun _ _ _ _ h=>h));have AJ:=za (AK.out.frN hK);have AM:=za (AN.out.fr hK (fun _ _ _ _ h=>h));have hw:=za (AT.out.trans' (hK.mono (M':=MT b) (fun _ _ h=>h.elim)));have AU:=za hC;have AR:=za (Fr.size hw.out);clear hI hK hC AG
      go_wp2_with(at_builtin;refine wpList_append_own _ rfl _ _ 24 rfl w.heap.size 5 i0 (.int .u8 0) 1 1 Tryz.underlying24 Ab AX AW AV rfl (by decide) (.slice oa out.length oc) out.length (zb out) (by rfl) hv.out ⟨g8,o8,none⟩ (zc C2).length hU (zb (zc C2)) (by rfl) ?c1 ?c2 ?c3 ?c4 ?c5 ?c6 ?_)
      case c1=>simp[zb]
      case c2 =>
       intro j u hu
       obtain ⟨x,hx,rfl⟩:∃ x,(zc C2)[j]? = some x∧u = .int .u8 x.toNat:=by
        unfold zb at hu;rw[List.getElem?_map]at hu;cases hx:(zc C2)[j]? with
        | none=>rw[hx]at hu;simp at hu
        | some x=>rw[hx]at hu;exact⟨x,rfl,by simpa using hu.symm⟩
       rw[Addr.add_lit];exact AU.out j x hx
      case c3 =>
       intro u hu;unfold zb at hu;rw[List.mem_map]at hu;obtain⟨x,_,rfl⟩:=hu;rfl
      case c4=>unfold maxLen;omega
      case c5=>omega
      case c6=>exact AR.out
      intro v' w9 hE hJ _;obtain⟨hk,hS⟩:=OB.push hv.out Fr.refl hE hJ;obtain⟨hs,ht⟩:=AJ.out.grow AM.out hb hS;have AO:=za hk;have AI:=za hs;have AL:=za ht;have AS:=za (hw.out.trans hS (fun _ _ h => .inr h));clear hE hJ hk hS hs ht
      go_wp2_with fail
      go_roundg (if hf.bad=true then 0 else L.length+2 - c7)
      case measure =>
       cases hO:hf.bad with
       | true=>simp;omega
       | false =>
         obtain⟨q1,q2⟩:=AH.out hO;have:=congrArg List.length q1;rw[zr]at this;simp;omega
      case rel =>
       refine⟨out++zc (C2:Int),c7,k,hf.bad,AI,AL,AO,AS,An,fun hO=>?_,rfl,za (fun hO=>?_),za (fun hO=>?_)⟩
       ·obtain⟨q1,q2⟩:=AH.out hO;have:=congrArg List.length q1;rw[zr]at this;rw[List.length_append];omega
       ·obtain⟨q1,q2⟩:=AH.out hO;have:=congrArg List.length q1;rw[zr]at this;refine⟨q2,by rw[zr]at k1 ⊢;omega,?_⟩;rw[q1];have h3:(⟨hf.s,false⟩:St)=hf:=by rw[← hO]
        rw[h3];exact K2.out
       have:=K2.out;rw[zi0 _ _ _ hO]at this;rw[← this];exact⟨rfl,hO⟩
     have h7:=s3 hT hZ;rw[hY]at h7;rw[h7]at k2;simp only at k2;have Aj:(C==92)=false:=by rw[beq_eq_false_iff_ne];exact hZ
     have hH:=hQ;have K2:=za k2;have Hsg:=za (fun W=>zeb C hH W);have Al:=zbo C;have Hpos:=za (zkv C);clear h7 s1 s2 s3 hT hZ hQ hY k2 hH
     go_wp2_with fail
     go_region_held3 (fun W=>W.cell? ⟨b,0,none⟩=some (.slice (some ⟨g0,o0,none⟩) L.length hD)∧W.cell? ⟨b,1,none⟩=some (.int .i64 (c:Int))∧W.cell? ⟨b,2,none⟩=some (.bool false)) (go_keep) ((go_at_call 225;refine(Hf.out _ _ hc.out).mono ?_;rintro e w5 ⟨rfl,hB⟩;obtain⟨c0,c1,c2,fz,hA⟩:=(hM.out.frN hB).cells))
     have H5:=za (hM.out.frN hB);have he:=za (hy.out.fr hB (fun _ _ _ _ h=>h));have hX:=za (h0.out.fr hB (fun _ _ _ _ h=>h));have hP:=za (h1.out.trans' (hB.mono (M':=MT b) (fun _ _ h=>h.elim)));clear c0 c1 c2 fz hA hB;obtain⟨c0,c1,c2,fz,hA⟩:=H5.out.cells;have AK:=za (H5.out.put1 ((c:Int)+(z:Int)) (c+z) (by push_cast;rfl));have AT:=za (hP.out.setCell ⟨b,1,none⟩ (.int .i64 ((c:Int)+(z:Int))) (fun o ho=>H.out.one o ho));have AP:=za (hX.out.mt (b:=b) (H5.out.setF 1 (.int .i64 ((c:Int)+(z:Int)))));have AN:=za (zs2 he.out hN (H5.out.setF 1 (.int .i64 ((c:Int)+(z:Int)))))
     go_wp2_with fail
     refine(Hsg.out _).mono ?_;rintro e w8 ⟨vs,rfl,hI,hK⟩;obtain⟨g8,o8,hU,rfl,AC,AG,h9,hC⟩:=hI.cellsAt Hpos.out;have hv:=za (AP.out.fr hK (fun _ _ _ _ h=>h));have AJ:=za (AK.out.frN hK);have AM:=za (AN.out.fr hK (fun _ _ _ _ h=>h));have hw:=za (AT.out.trans' (hK.mono (M':=MT b) (fun _ _ h=>h.elim)));have AU:=za hC;have AR:=za (Fr.size hw.out);clear hI hK hC AG
     go_wp2_with(at_builtin;refine wpList_append_own _ rfl _ _ 24 rfl w.heap.size 5 i0 (.int .u8 0) 1 1 Tryz.underlying24 Ab AX AW AV rfl (by decide) (.slice oa out.length oc) out.length (zb out) (by rfl) hv.out ⟨g8,o8,none⟩ (zc C).length hU (zb (zc C)) (by rfl) ?c1 ?c2 ?c3 ?c4 ?c5 ?c6 ?_)
     case c1=>simp[zb]
     case c2 =>
      intro j u hu
      obtain ⟨x,hx,rfl⟩:∃ x,(zc C)[j]? = some x∧u = .int .u8 x.toNat:=by
       unfold zb at hu;rw[List.getElem?_map]at hu;cases hx:(zc C)[j]? with
       | none=>rw[hx]at hu;simp at hu
       | some x=>rw[hx]at hu;exact⟨x,rfl,by simpa using hu.symm⟩
      rw[Addr.add_lit];exact AU.out j x hx
     case c3 =>
      intro u hu;unfold zb at hu;rw[List.mem_map]at hu;obtain⟨x,_,rfl⟩:=hu;rfl
     case c4=>unfold maxLen;omega
     case c5=>omega
     case c6=>exact AR.out
     intro v' w9 hE hJ _;obtain⟨hk,hS⟩:=OB.push hv.out Fr.refl hE hJ;obtain⟨hs,ht⟩:=AJ.out.grow AM.out hb hS;have AO:=za hk;have AI:=za hs;have AL:=za ht;have AS:=za (hw.out.trans hS (fun _ _ h => .inr h));clear hE hJ hk hS hs ht
     go_wp2_with fail
     go_roundg (L.length+2 - (c+z))
     case measure=>omega
     case rel =>
      refine⟨out++zc C,c+z,k,false,AI,AL,AO,AS,by omega,fun _=>⟨by omega,by rw[List.length_append];omega⟩,rfl,za (fun _=>⟨AB,by rw[zr]at k1 ⊢;omega,K2.out⟩),za (fun h=>by simp at h)⟩
 have hq:(nxT (L.drop a)==34)=false:=by rw[beq_eq_false_iff_ne];exact hm
 have hj:(nxT (L.drop a) != 34)=true:=by rw[bne,hq];rfl
 have hl:zaa [34] ⟨L.drop a,false⟩=⟨L.drop a,true⟩:=by
  unfold zaa;rw[if_neg];intro h;cases hr:L.drop a with
  | nil=>rw[hr]at h;simp[Lib.hasPrefix]at h
  | cons x l =>
    rw[hr]at h hm
    have:x=34:=by
     simp[Lib.hasPrefix]at h
     first | exact h.symm | exact h
    subst this;exact hm rfl
 rw[hl];have hp:j4 ((⟨L.drop a,false⟩:St).s.length+2) [] ⟨L.drop a,true⟩=([],⟨L.drop a,true⟩):=zi0 _ _ _ rfl;rw[hp];clear hp hl hm;generalize nxT (L.drop a)=m0 at *;go_enter Tryz.func209,Tryz.ntmps209
 go_wp2_with fail
 refine(Hc.out _ H.out).mono ?_;rintro e w1 ⟨rfl,h2,hF⟩;obtain⟨c0,c1,c2,fz,hA⟩:=h2.cells;have h5:=za ((hF.mono (M':=MT b) (fun _ _ h=>h.elim)).setCell ⟨b,2,none⟩ (.bool true) (fun o ho=>H.out.one o ho));have H2:=za (h2.set2 true);clear h2 hF
 go_wp2_with fail
 go_ret;exact⟨rfl,⟨a,H2.out,fun h=>by simp at h,by omega⟩,h5.out⟩
end Go.Proofs.YtmgfncjfgkllcaaGreatDoor
