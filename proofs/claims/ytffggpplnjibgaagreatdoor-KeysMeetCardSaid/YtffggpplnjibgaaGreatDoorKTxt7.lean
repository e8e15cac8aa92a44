/-
 The reference's reader of texts: texts in quotation marks,walked.
-/
import Derived.Test.YtffggpplnjibgaaGreatDoorKTxt10
import Derived.Test.YtffggpplnjibgaaGreatDoorKUtfRef
import Derived.StillTailTactics
import Derived.Deep.RegionHeld3
import Derived.Laws.AppendOwn
open Go.Lib renaming hid→zi,byteCells→zj,encodeRune→zk
open List renaming length_drop→z8
namespace Go.Proofs.YtffggpplnjibgaaGreatDoor
set_option linter.unusedVariables false
set_option linter.unusedSimpArgs false
set_option linter.unusedSectionVars false
set_option maxRecDepth 100000
set_option maxHeartbeats 8000000
open Go.RowKit
variable [OldK]
attribute [local irreducible] wpStill
theorem zjz (r:Int):zk r≠[]:=by
 unfold zk Lib.encodeRuneZ
 repeat' split
 all_goals simp
theorem zk6 (b:Nat) (L:Bs) (v:Value) (a:Nat) (w:World) (h:TX b L v a false w) (hL:L.length≤4096) (ha:a≤L.length) :
 Calls Tryz.prog 184 #[.pointer (some ⟨b,0,none⟩)] w fun e w'=>e = .returned (.string ⟨(zbc ⟨L.drop a,false⟩).1.toArray⟩)∧RS b L v (L.length+1) (zbc ⟨L.drop a,false⟩).2 w'∧Fr (MT b) w w':=by
 have Hc:=zi (fun W hW=>zdx b L v a false W hW hL (by omega));have H:=zi h;obtain⟨q,hE,rfl⟩:=h.2.1.form;clear h;unfold zbc;by_cases hm:nxT (L.drop a)=34
 ·have hq:(nxT (L.drop a)==34)=true:=by rw[beq_iff_eq];exact hm
  have hk:(nxT (L.drop a) != 34)=false:=by rw[bne,hq];rfl
  obtain ⟨l,hr⟩:∃ l,L.drop a=34 :: l:=by
   cases hr:L.drop a with
   | nil=>rw[hr]at hm;simp[nxT]at hm
   | cons x l =>
     rw[hr]at hm;simp only[nxT]at hm;exact⟨l,by rw[show x=34 from UInt8.toNat_inj.1 (by show x.toNat=34;omega)]⟩
  obtain⟨AH,-,hd,AC⟩:=zdi hr;have hn:zaa [34] ⟨L.drop a,false⟩=⟨L.drop (a+1),false⟩:=by rw[hr,hd];rfl
  rw[hn];generalize hG:qe ((⟨L.drop a,false⟩:St).s.length+2) [] ⟨L.drop (a+1),false⟩=G;have Ae:(L.drop (a+1)).length+1≤(⟨L.drop a,false⟩:St).s.length+2:=by simp only[z8];omega
  generalize (⟨L.drop a,false⟩:St).s.length+2=fu at hG Ae;have HG:=zi hG;have wa:IntKind.i64.wrap ((a:Int)+1)=(a:Int)+1:=by rw[IntKind.wrap_i64];omega
  clear hG hm hn hr hd AC;generalize nxT (L.drop a)=m0 at *;obtain⟨i0,Ad,AZ,AY,AX⟩:=info_parts zbv;go_enter Tryz.func184,Tryz.ntmps184
  go_wp2_with fail
  refine(Hc.out _ H.out).mono ?_;rintro e w1 ⟨rfl,h2,hF⟩;obtain⟨c0,c1,c2,fz,hB⟩:=h2.cells;have h7:=zi ((hF.mono (M':=MT b) (fun _ _ h=>h.elim)).setCell ⟨b,1,none⟩ (.int .i64 ((a:Int)+1)) (fun o ho=>H.out.one o ho));have H2:=zi (h2.put1 ((a:Int)+1) (a+1) rfl);clear h2 hF
  go_wp2_with fail
  clear c0 c1 c2 fz hB Hc hq hk wa;generalize w1.setCell ⟨b,1,none⟩ (.int .i64 ((a:Int)+1))=w2 at *;have hb:=H.out.lt;have hO:=H.out.1.2;have As:=zi (zqc (H.out.2.1.below) hO h7.out);obtain⟨x0,Aa⟩:∃ x0,L[a]? = some x0:=⟨_,List.getElem?_eq_getElem AH⟩;obtain⟨g0,o0,hX,e9,-⟩:=H.out.2.1.at Aa;obtain⟨rfl,rfl⟩:q=some ⟨g0,o0,none⟩∧hE=hX:=by simpa using e9
  obtain⟨_,_,hX,e8,Ao,-⟩:=H.out.2.1.cellsAt (by intro e;rw[e]at AH;simp at AH);obtain rfl:hE=hX:=by simp at e8;exact e8.2
  clear e9 e8 Aa
  go_loopg [3] (L.length+2 - (a+1)) (fun g vo wr=>∃ (out:Bs) (c k:Nat) (bd:Bool),Hid (TX b L (.slice (some ⟨g0,o0,none⟩) L.length hE) c bd wr)∧Hid (SB (fun k=>k<w.heap.size) L (.slice (some ⟨g0,o0,none⟩) L.length hE) wr)∧Hid (OB w.heap.size out vo wr)∧Hid (Fr (MT b) w wr)∧c≤L.length+1∧(bd=false→a+1≤c∧out.length≤4 * c)∧g=(if bd=true then 0 else L.length+2 - c) ∧
   Hid (bd=false→c≤L.length∧(L.drop c).length+1≤k∧qe k out ⟨L.drop c,false⟩=G)∧Hid (bd=true→G.1=[]∧G.2.bad=true))
  case atStart=>exact⟨[],a+1,fu,false,H2,As,zi (OB.nil _ _),h7,by omega,fun _=>⟨by omega,by simp⟩,rfl,zi (fun _=>⟨by omega,Ae,HG.out⟩),zi (fun h=>by simp at h)⟩
  case round =>
   obtain⟨out,c,k,bd,H3,Ar,Ai,Aj,AG,hp,hg,HA,HB⟩:=hrel;cases bd with
   | true =>
     obtain⟨c0,c1,c2,fz,hB⟩:=H3.out.cells;obtain⟨k1,k2⟩:=HB.out rfl;clear HA HB
     go_wp2_with fail
     go_ret;exact⟨zig rfl,⟨c,by rw[k2];exact H3.out,fun h=>by rw[k2]at h;simp at h,AG⟩,Aj.out⟩
   | false =>
     obtain⟨k0,k1,k2⟩:=HA.out rfl;obtain⟨c0,c1,c2,fz,hB⟩:=H3.out.cells;clear HA HB;obtain⟨hc2,hol⟩:=hp rfl;have hgk:gk=L.length+2 - c:=by simpa using hg
     clear hp hg;have Hf:=zi (fun W vf hW=>zpq (L.drop c) vf W (fun _=>True) hW (by rw[z8];omega));have hk2:(c:Int)≤(L.length:Int):=by omega
     have hk3:(L.length:Int)≤(hE:Int):=by omega
     have hi:=zpd (s:=L.drop c) (out:=out) (C:=(zbp (L.drop c)).1) (k:=(zbp (L.drop c)).2) rfl;have hs:=zl8 (s:=L.drop c) (c:=(zbp (L.drop c)).1) (k:=(zbp (L.drop c)).2) rfl;have hR:=fun hz=>(zj1 (s:=L.drop c) (c:=(zbp (L.drop c)).1) (k:=(zbp (L.drop c)).2) rfl hz).1
     obtain⟨k,rfl⟩:∃ k',k=k'+1:=⟨k - 1,by omega⟩;rw[qe,if_neg (by simp)]at k2;generalize zbp (L.drop c)=D at *;obtain⟨C,z⟩:=D;simp only at hi hs hR Hf;obtain⟨hz4,Ak,hC0,hC1,-⟩:=hs;rw[z8]at Ak;have he:=zi ((H3.out.2.1.fr ((Fr.refl (M:=NoB)).drew) (fun _ _ _ _ h=>h)).drop c k0);have hN:=zi (H3.out.frN Fr.refl.drew);have h0:=zi (Ar.out.fr ((Fr.refl (M:=NoB)).drew) (fun _ _ _ _ h=>h));have h3:=zi (Ai.out.fr ((Fr.refl (M:=NoB)).drew) (fun _ _ _ _ h=>h));have h4:=zi (Aj.out.drew);obtain⟨oa,oc,rfl⟩:=Ai.out.form;by_cases hS:z=0∨C<32
     ·obtain ⟨st,h5,hj⟩:=hi.1 hS;rw[h5]at k2;simp only at k2;rw[zh6 k out st hj]at k2;subst k2
      have hq:((z:Int)==0)=true∨(((z:Int)==0)=false∧decide (C<32)=true):=by
       rcases(by omega:z=0∨¬ z=0) with h | h
       ·left;rw[beq_iff_eq];omega
       right;refine⟨by rw[beq_eq_false_iff_ne];omega,by rw[decide_eq_true_iff];omega⟩
      clear h5 hi hS hR;by_cases Ag:hE=c
      ·subst Ag;have e1:L.drop hE=[]:=List.drop_eq_nil_of_le Ao
       have he:Hid (SB (fun _=>True) (L.drop hE) (.slice (some ⟨g0,o0,none⟩) 0 0) wr.drew):=by
        rw[e1];exact zi (H3.out.2.1.none' 0)
       clear e1;rcases hq with hq | ⟨hq,hk⟩
       all_goals
        go_wp2_with fail
        go_region_held3 (fun W=>W.cell? ⟨b,0,none⟩=some (.slice (some ⟨g0,o0,none⟩) L.length hE)∧W.cell? ⟨b,1,none⟩=some (.int .i64 (hE:Int))∧W.cell? ⟨b,2,none⟩=some (.bool false)) (go_keep) ((go_at_call 198;refine(Hf.out _ _ he.out).mono ?_;rintro e w5 ⟨rfl,hC⟩;obtain⟨c0,c1,c2,fz,hB⟩:=(hN.out.frN hC).cells))
        have H5:=zi (hN.out.frN hC);have hf:=zi (h0.out.fr hC (fun _ _ _ _ h=>h));have hY:=zi (h3.out.fr hC (fun _ _ _ _ h=>h));have hQ:=zi (h4.out.trans' (hC.mono (M':=MT b) (fun _ _ h=>h.elim)));clear c0 c1 c2 fz hB hC;obtain⟨c0,c1,c2,fz,hB⟩:=H5.out.cells
        go_wp2_with fail
        go_ret;exact⟨zig rfl,⟨hE,by rw[hj];exact H5.out.set2 true,fun h=>by rw[hj]at h;simp at h,AG⟩,hQ.out.setCell _ _ (fun o ho=>H.out.one o ho)⟩
      have AF:(c:Int)<hE:=by omega
      rcases hq with hq | ⟨hq,hk⟩
      all_goals
       go_wp2_with fail
       go_region_held3 (fun W=>W.cell? ⟨b,0,none⟩=some (.slice (some ⟨g0,o0,none⟩) L.length hE)∧W.cell? ⟨b,1,none⟩=some (.int .i64 (c:Int))∧W.cell? ⟨b,2,none⟩=some (.bool false)) (go_keep) ((go_at_call 198;refine(Hf.out _ _ he.out).mono ?_;rintro e w5 ⟨rfl,hC⟩;obtain⟨c0,c1,c2,fz,hB⟩:=(hN.out.frN hC).cells))
       have H5:=zi (hN.out.frN hC);have hf:=zi (h0.out.fr hC (fun _ _ _ _ h=>h));have hY:=zi (h3.out.fr hC (fun _ _ _ _ h=>h));have hQ:=zi (h4.out.trans' (hC.mono (M':=MT b) (fun _ _ h=>h.elim)));clear c0 c1 c2 fz hB hC;obtain⟨c0,c1,c2,fz,hB⟩:=H5.out.cells
       go_wp2_with fail
       go_ret;exact⟨zig rfl,⟨c,by rw[hj];exact H5.out.set2 true,fun h=>by rw[hj]at h;simp at h,AG⟩,hQ.out.setCell _ _ (fun o ho=>H.out.one o ho)⟩
     obtain⟨s1,s2,s3⟩:=hi.2 (by omega) (by omega);have hR:=hR (by omega);have hq:((z:Int)==0)=false:=by rw[beq_eq_false_iff_ne];omega
     have hk:decide (C<32)=false:=by rw[decide_eq_false_iff_not];omega
     have wz:IntKind.i64.wrap ((c:Int)+(z:Int))=(c:Int)+z:=by rw[IntKind.wrap_i64];omega
     have Ag:¬ hE=c:=by omega
     have AF:(c:Int)<hE:=by omega
     have hzp:1≤z:=by omega
     have AD:c+z≤L.length:=by omega
     have hZ:(L.drop c).drop z=L.drop (c+z):=List.drop_drop;clear hS hi;by_cases hU:C=34
     ·have Ab:=s1 hU;rw[Ab]at k2;simp only at k2;subst k2;have Am:(C==34)=true:=by rw[beq_iff_eq];exact hU
      have Hdz:=zi hZ;have h8:=fun W (hW:OB w.heap.size out (.slice oa out.length oc) W)=>hW.sb.text
      have Htx:=zi h8;clear Ab s1 s2 s3 hU hR hZ h8
      go_wp2_with fail
      go_region_held3 (fun W=>W.cell? ⟨b,0,none⟩=some (.slice (some ⟨g0,o0,none⟩) L.length hE)∧W.cell? ⟨b,1,none⟩=some (.int .i64 (c:Int))∧W.cell? ⟨b,2,none⟩=some (.bool false)) (go_keep) ((go_at_call 198;refine(Hf.out _ _ he.out).mono ?_;rintro e w5 ⟨rfl,hC⟩;obtain⟨c0,c1,c2,fz,hB⟩:=(hN.out.frN hC).cells))
      have H5:=zi (hN.out.frN hC);have hf:=zi (h0.out.fr hC (fun _ _ _ _ h=>h));have hY:=zi (h3.out.fr hC (fun _ _ _ _ h=>h));have hQ:=zi (h4.out.trans' (hC.mono (M':=MT b) (fun _ _ h=>h.elim)));clear c0 c1 c2 fz hB hC;obtain⟨c0,c1,c2,fz,hB⟩:=H5.out.cells;have AS:=zi (hY.out.mt (b:=b) (H5.out.setF 1 (.int .i64 ((c:Int)+z))));have h8:=Htx.out _ AS.out
      go_wp2_with fail
      go_ret;exact⟨rfl,⟨c+z,H5.out.put1 _ (c+z) (by push_cast;rfl),fun _=>⟨rfl,AD⟩,by omega⟩,hQ.out.setCell _ _ (fun o ho=>H.out.one o ho)⟩
     have Am:(C==34)=false:=by rw[beq_eq_false_iff_ne];exact hU
     by_cases hc:C=92
     ·have AA:=s2 hc;rw[hZ]at AA;rw[AA]at k2;simp only at k2;have Al:(C==92)=true:=by rw[beq_iff_eq];exact hc
      have Hes:=zi (fun W hW=>zpb b L (.slice (some ⟨g0,o0,none⟩) L.length hE) (c+z) W hW hL AD);have hI:=zx7 ⟨L.drop (c+z),false⟩;have Af:=zfb ⟨L.drop (c+z),false⟩;generalize qf ⟨L.drop (c+z),false⟩=E at *;obtain⟨C2,hh⟩:=E;simp only at k2 hI Af Hes;rw[z8]at Af;have K2:=zi k2;have Hsg:=zi (fun W=>zdt (C2:Int) hI W);have An:=za7 (C2:Int);have Hpos:=zi (zjz (C2:Int));clear AA s1 s2 s3 hU hc hR hZ k2 hI
      go_wp2_with fail
      go_region_held3 (fun W=>W.cell? ⟨b,0,none⟩=some (.slice (some ⟨g0,o0,none⟩) L.length hE)∧W.cell? ⟨b,1,none⟩=some (.int .i64 (c:Int))∧W.cell? ⟨b,2,none⟩=some (.bool false)) (go_keep) ((go_at_call 198;refine(Hf.out _ _ he.out).mono ?_;rintro e w5 ⟨rfl,hC⟩;obtain⟨c0,c1,c2,fz,hB⟩:=(hN.out.frN hC).cells))
      have H5:=zi (hN.out.frN hC);have hf:=zi (h0.out.fr hC (fun _ _ _ _ h=>h));have hY:=zi (h3.out.fr hC (fun _ _ _ _ h=>h));have hQ:=zi (h4.out.trans' (hC.mono (M':=MT b) (fun _ _ h=>h.elim)));clear c0 c1 c2 fz hB hC;obtain⟨c0,c1,c2,fz,hB⟩:=H5.out.cells;have H6:=zi (H5.out.put1 ((c:Int)+(z:Int)) (c+z) (by push_cast;rfl));have At:=zi (hQ.out.setCell ⟨b,1,none⟩ (.int .i64 ((c:Int)+(z:Int))) (fun o ho=>H.out.one o ho));have AS:=zi (hY.out.mt (b:=b) (H5.out.setF 1 (.int .i64 ((c:Int)+(z:Int)))));have Aq:=zi (zqc hf.out hO (H5.out.setF 1 (.int .i64 ((c:Int)+(z:Int)))))
      go_wp2_with fail
      refine(Hes.out _ H6.out).mono ?_;rintro e w6 ⟨rfl,⟨c7,Ah,Ac,Ap⟩,h6⟩;have AM:=zi Ah;have AV:=zi (At.out.trans' h6);have AR:=zi (AS.out.mt h6);have AP:=zi (zqc Aq.out hO h6);have AJ:=zi Ac;clear Ah h6 Ac
      go_wp2_with fail
      refine(Hsg.out _).mono ?_;rintro e w8 ⟨vs,rfl,hJ,hM⟩;obtain⟨g8,o8,hV,rfl,AE,AI,AB,hD⟩:=hJ.cellsAt Hpos.out;have hw:=zi (AR.out.fr hM (fun _ _ _ _ h=>h));have AL:=zi (AM.out.frN hM);have AO:=zi (AP.out.fr hM (fun _ _ _ _ h=>h));have hy:=zi (AV.out.trans' (hM.mono (M':=MT b) (fun _ _ h=>h.elim)));have AW:=zi hD;have AT:=zi (Fr.size hy.out);clear hJ hM hD AI
      go_wp2_with(at_builtin;refine wpList_append_own _ rfl _ _ 24 rfl w.heap.size 5 i0 (.int .u8 0) 1 1 Tryz.underlying24 Ad AZ AY AX rfl (by decide) (.slice oa out.length oc) out.length (zj out) (by rfl) hw.out ⟨g8,o8,none⟩ (zk C2).length hV (zj (zk C2)) (by rfl) ?c1 ?c2 ?c3 ?c4 ?c5 ?c6 ?_)
      case c1=>simp[zj]
      case c2 =>
       intro j u hu
       obtain ⟨x,hx,rfl⟩:∃ x,(zk C2)[j]? = some x∧u = .int .u8 x.toNat:=by
        unfold zj at hu;rw[List.getElem?_map]at hu;cases hx:(zk C2)[j]? with
        | none=>rw[hx]at hu;simp at hu
        | some x=>rw[hx]at hu;exact⟨x,rfl,by simpa using hu.symm⟩
       rw[Addr.add_lit];exact AW.out j x hx
      case c3 =>
       intro u hu;unfold zj at hu;rw[List.mem_map]at hu;obtain⟨x,_,rfl⟩:=hu;rfl
      case c4=>unfold maxLen;omega
      case c5=>omega
      case c6=>exact AT.out
      intro v' w9 hH hK _;obtain⟨hl,hT⟩:=OB.push hw.out Fr.refl hH hK;obtain⟨ht,hv⟩:=AL.out.grow AO.out hb hT;have AQ:=zi hl;have AK:=zi ht;have AN:=zi hv;have AU:=zi (hy.out.trans hT (fun _ _ h => .inr h));clear hH hK hl hT ht hv
      go_wp2_with fail
      go_roundg (if hh.bad=true then 0 else L.length+2 - c7)
      case measure =>
       cases hP:hh.bad with
       | true=>simp;omega
       | false =>
         obtain⟨q1,q2⟩:=AJ.out hP;have:=congrArg List.length q1;rw[z8]at this;simp;omega
      case rel =>
       refine⟨out++zk (C2:Int),c7,k,hh.bad,AK,AN,AQ,AU,Ap,fun hP=>?_,rfl,zi (fun hP=>?_),zi (fun hP=>?_)⟩
       ·obtain⟨q1,q2⟩:=AJ.out hP;have:=congrArg List.length q1;rw[z8]at this;rw[List.length_append];omega
       ·obtain⟨q1,q2⟩:=AJ.out hP;have:=congrArg List.length q1;rw[z8]at this;refine⟨q2,by rw[z8]at k1 ⊢;omega,?_⟩;rw[q1];have h5:(⟨hh.s,false⟩:St)=hh:=by rw[← hP]
        rw[h5];exact K2.out
       have:=K2.out;rw[zh6 _ _ _ hP]at this;rw[← this];exact⟨rfl,hP⟩
     have h9:=s3 hU hc;rw[hZ]at h9;rw[h9]at k2;simp only at k2;have Al:(C==92)=false:=by rw[beq_eq_false_iff_ne];exact hc
     have hI:=hR;have K2:=zi k2;have Hsg:=zi (fun W=>zdt C hI W);have An:=za7 C;have Hpos:=zi (zjz C);clear h9 s1 s2 s3 hU hc hR hZ k2 hI
     go_wp2_with fail
     go_region_held3 (fun W=>W.cell? ⟨b,0,none⟩=some (.slice (some ⟨g0,o0,none⟩) L.length hE)∧W.cell? ⟨b,1,none⟩=some (.int .i64 (c:Int))∧W.cell? ⟨b,2,none⟩=some (.bool false)) (go_keep) ((go_at_call 198;refine(Hf.out _ _ he.out).mono ?_;rintro e w5 ⟨rfl,hC⟩;obtain⟨c0,c1,c2,fz,hB⟩:=(hN.out.frN hC).cells))
     have H5:=zi (hN.out.frN hC);have hf:=zi (h0.out.fr hC (fun _ _ _ _ h=>h));have hY:=zi (h3.out.fr hC (fun _ _ _ _ h=>h));have hQ:=zi (h4.out.trans' (hC.mono (M':=MT b) (fun _ _ h=>h.elim)));clear c0 c1 c2 fz hB hC;obtain⟨c0,c1,c2,fz,hB⟩:=H5.out.cells;have AM:=zi (H5.out.put1 ((c:Int)+(z:Int)) (c+z) (by push_cast;rfl));have AV:=zi (hQ.out.setCell ⟨b,1,none⟩ (.int .i64 ((c:Int)+(z:Int))) (fun o ho=>H.out.one o ho));have AR:=zi (hY.out.mt (b:=b) (H5.out.setF 1 (.int .i64 ((c:Int)+(z:Int)))));have AP:=zi (zqc hf.out hO (H5.out.setF 1 (.int .i64 ((c:Int)+(z:Int)))))
     go_wp2_with fail
     refine(Hsg.out _).mono ?_;rintro e w8 ⟨vs,rfl,hJ,hM⟩;obtain⟨g8,o8,hV,rfl,AE,AI,AB,hD⟩:=hJ.cellsAt Hpos.out;have hw:=zi (AR.out.fr hM (fun _ _ _ _ h=>h));have AL:=zi (AM.out.frN hM);have AO:=zi (AP.out.fr hM (fun _ _ _ _ h=>h));have hy:=zi (AV.out.trans' (hM.mono (M':=MT b) (fun _ _ h=>h.elim)));have AW:=zi hD;have AT:=zi (Fr.size hy.out);clear hJ hM hD AI
     go_wp2_with(at_builtin;refine wpList_append_own _ rfl _ _ 24 rfl w.heap.size 5 i0 (.int .u8 0) 1 1 Tryz.underlying24 Ad AZ AY AX rfl (by decide) (.slice oa out.length oc) out.length (zj out) (by rfl) hw.out ⟨g8,o8,none⟩ (zk C).length hV (zj (zk C)) (by rfl) ?c1 ?c2 ?c3 ?c4 ?c5 ?c6 ?_)
     case c1=>simp[zj]
     case c2 =>
      intro j u hu
      obtain ⟨x,hx,rfl⟩:∃ x,(zk C)[j]? = some x∧u = .int .u8 x.toNat:=by
       unfold zj at hu;rw[List.getElem?_map]at hu;cases hx:(zk C)[j]? with
       | none=>rw[hx]at hu;simp at hu
       | some x=>rw[hx]at hu;exact⟨x,rfl,by simpa using hu.symm⟩
      rw[Addr.add_lit];exact AW.out j x hx
     case c3 =>
      intro u hu;unfold zj at hu;rw[List.mem_map]at hu;obtain⟨x,_,rfl⟩:=hu;rfl
     case c4=>unfold maxLen;omega
     case c5=>omega
     case c6=>exact AT.out
     intro v' w9 hH hK _;obtain⟨hl,hT⟩:=OB.push hw.out Fr.refl hH hK;obtain⟨ht,hv⟩:=AL.out.grow AO.out hb hT;have AQ:=zi hl;have AK:=zi ht;have AN:=zi hv;have AU:=zi (hy.out.trans hT (fun _ _ h => .inr h));clear hH hK hl hT ht hv
     go_wp2_with fail
     go_roundg (L.length+2 - (c+z))
     case measure=>omega
     case rel =>
      refine⟨out++zk C,c+z,k,false,AK,AN,AQ,AU,by omega,fun _=>⟨by omega,by rw[List.length_append];omega⟩,rfl,zi (fun _=>⟨AD,by rw[z8]at k1 ⊢;omega,K2.out⟩),zi (fun h=>by simp at h)⟩
 have hq:(nxT (L.drop a)==34)=false:=by rw[beq_eq_false_iff_ne];exact hm
 have hk:(nxT (L.drop a) != 34)=true:=by rw[bne,hq];rfl
 have hn:zaa [34] ⟨L.drop a,false⟩=⟨L.drop a,true⟩:=by
  unfold zaa;rw[if_neg];intro h;cases hr:L.drop a with
  | nil=>rw[hr]at h;simp[Lib.hasPrefix]at h
  | cons x l =>
    rw[hr]at h hm
    have:x=34:=by
     simp[Lib.hasPrefix]at h
     first | exact h.symm | exact h
    subst this;exact hm rfl
 rw[hn];have hs:qe ((⟨L.drop a,false⟩:St).s.length+2) [] ⟨L.drop a,true⟩=([],⟨L.drop a,true⟩):=zh6 _ _ _ rfl;rw[hs];clear hs hn hm;generalize nxT (L.drop a)=m0 at *;go_enter Tryz.func184,Tryz.ntmps184
 go_wp2_with fail
 refine(Hc.out _ H.out).mono ?_;rintro e w1 ⟨rfl,h2,hF⟩;obtain⟨c0,c1,c2,fz,hB⟩:=h2.cells;have h7:=zi ((hF.mono (M':=MT b) (fun _ _ h=>h.elim)).setCell ⟨b,2,none⟩ (.bool true) (fun o ho=>H.out.one o ho));have H2:=zi (h2.set2 true);clear h2 hF
 go_wp2_with fail
 go_ret;exact⟨rfl,⟨a,H2.out,fun h=>by simp at h,by omega⟩,h7.out⟩
end Go.Proofs.YtffggpplnjibgaaGreatDoor
