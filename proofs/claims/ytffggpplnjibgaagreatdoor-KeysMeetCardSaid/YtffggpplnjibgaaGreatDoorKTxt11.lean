/-
 The reference's reader of texts: a list,walked.
-/
import Derived.Test.YtffggpplnjibgaaGreatDoorKTxt10
open Go.Lib renaming hid→zi
namespace Go.Proofs.YtffggpplnjibgaaGreatDoor
set_option linter.unusedVariables false
set_option linter.unusedSimpArgs false
set_option linter.unusedSectionVars false
set_option maxRecDepth 100000
set_option maxHeartbeats 8000000
open Go.RowKit
variable [OldK]
attribute [local irreducible] wpStill
theorem zvq (f b:Nat) (L:Bs) (v:Value) (hv:zsw b L v f) (hL:L.length≤4096) (d:Int) (hd0:1≤d) (hdf:d+f=10) (a:Nat) (w:World) (h:TX b L v a false w) (l:Bs) (hl:L.drop a=91 :: l) :
 Calls Tryz.prog 185 #[.pointer (some ⟨b,0,none⟩),.int .i64 d] w fun e w'=>∃ j x,e = .returned x∧RJ (fun k=>w.heap.size≤k) w' j x ∧
  ((zaj (zbq (jy f d)) 91 93 d ⟨91 :: l,false⟩ []).1.bad=false→j = .mk 4 0 [] (zaj (zbq (jy f d)) 91 93 d ⟨91 :: l,false⟩ []).2 []) ∧
  RS b L v (L.length+11 - d.toNat) (zaj (zbq (jy f d)) 91 93 d ⟨91 :: l,false⟩ []).1 w'∧Fr (MT b) w w':=by
 obtain⟨d1,d2,d3,d4⟩:=zdi hl;have hO:=zi (LS.start h #[.int .i64 4,.int .i64 0,.string ⟨#[]⟩,.slice none 0 0,.slice none 0 0]);obtain⟨q,hg,rfl⟩:=h.2.1.form;by_cases hd:8<d
 ·have hb:=zl5 (one:=zbq (jy f d)) (shut:=93) (op:=91) (d:=d) (l:=l) (a:=[]) (by decide) hd;generalize zaj (zbq (jy f d)) 91 93 d ⟨91 :: l,false⟩ []=G at *;have Ac:decide (8<d)=true:=decide_eq_true hd;have Hb:=zi hb;obtain⟨c0,c1,c2,fz,hD⟩:=h.cells;have HH:=zi h;clear hv h hl d3 hb;go_enter Tryz.func185,Tryz.ntmps185
  go_wp2_with fail
  refine bodyPost_ret (v := .agg #[.int .i64 4,.int .i64 0,.string ⟨#[]⟩,.slice none 0 0,.slice none 0 0]) (by simp[results,Tryz.results185,go_sem]) rfl ?_;exact⟨.mk 4 0 [] [] [],_,rfl,RJ.flat _ _ 4 0 [],fun h=>by rw[Hb.out]at h;simp at h,⟨a,by rw[Hb.out];exact(HH.out.set2 true).frN ((Fr.refl.alloc _).alloc _),fun h=>by rw[Hb.out]at h;simp at h,by omega⟩,((HH.out.setF _ _).alloc _).alloc _⟩
 have Ac:decide (8<d)=false:=decide_eq_false hd;obtain⟨e1,e2⟩:=zj0 (one:=zbq (jy f d)) (shut:=93) (op:=91) (d:=d) (l:=l) (a:=[]) (by decide) (by omega);obtain⟨G,hG⟩:∃ G,zaj (zbq (jy f d)) 91 93 d ⟨91 :: l,false⟩ []=G:=⟨_,rfl⟩;rw[hG]at e1 e2 ⊢;have AH:=zha L (a+1);have hQ:=zea L (a+1);rw[d3]at hQ;obtain⟨p1,AQ⟩:∃ p1,blk L (a+1)=p1:=⟨_,rfl⟩;have hY:=fun W hW=>zcb b L (.slice q L.length hg) (a+1) false W hW hL (by omega)
 rw[AQ]at AH hQ hY;have Hbl:=zi hY;have hU:=fun W hW=>zdx b L (.slice q L.length hg) p1 false W hW hL (by omega)
 rw[hQ]at hU;have Hnx:=zi hU;have AG:p1≤L.length:=by omega
 have hac:a+1≤p1:=AH.1;have Hdb:=zi hQ;have wa:IntKind.i64.wrap ((a:Int)+1)=(a:Int)+1:=by rw[IntKind.wrap_i64];omega
 have AV:IntKind.i64.wrap ((p1:Int)+1)=(p1:Int)+1:=by rw[IntKind.wrap_i64];omega
 clear hG AH hY AQ h hl hU;by_cases hm:nxT (jq l)=93
 ·obtain⟨m,AD⟩:=zdp (t:=jq l) (x:=93) (by decide) hm;have he:=e1 m AD;rw[AD]at hQ;obtain⟨f1,f2,f3,f4⟩:=zdi hQ;have hq:(nxT (jq l)==93)=true:=by rw[beq_iff_eq];exact hm
  generalize nxT (jq l)=m0 at *;subst he;have F3:=zi f3;clear hv e1 e2 AD hQ f2 f3 hm d3 Hdb;obtain⟨c0,c1,c2,fz,hD⟩:=hO.out.tx.cells;obtain⟨r0,r1,r2,r3,r4,rz,hH⟩:=VB.at hO.out.ra;obtain⟨v0,v1,v2,v3,v4,vz,hF⟩:=VB.at hO.out.rb;go_enter Tryz.func185,Tryz.ntmps185
  go_wp2_with fail
  clear c0 c1 c2 fz hD r0 r1 r2 r3 r4 rz hH v0 v1 v2 v3 v4 vz hF;have hj:=zi (hO.out.put1 ((a:Int)+1) (a+1) rfl);refine(Hbl.out _ hj.out.tx).mono ?_;rintro e w2 ⟨rfl,h2,hB⟩;have hh:=zi (hj.out.call h2 hB);clear h2 hB
  go_wp2_with fail
  refine(Hnx.out _ hh.out.tx).mono ?_;rintro e w3 ⟨rfl,h2,hB⟩;have hS:=zi (hh.out.call h2 (hB.mono (fun _ _ h=>h.elim)));have hE:=zi (hB.mono (M':=MT b) (fun _ _ h=>h.elim));clear h2 hB;obtain⟨c0,c1,c2,fz,hD⟩:=hS.out.tx.cells;obtain⟨r0,r1,r2,r3,r4,rz,hH⟩:=VB.at hS.out.ra;obtain⟨v0,v1,v2,v3,v4,vz,hF⟩:=VB.at hS.out.rb;have AE:=hS.out.lt
  go_wp2_with fail
  refine bodyPost_ret (v := .agg #[.int .i64 4,.int .i64 0,.string ⟨#[]⟩,.slice none 0 0,.slice none 0 0]) (by simp[results,Tryz.results185,go_sem,r0,r1,r2,r3,r4]) rfl ?_;obtain⟨t1,t2⟩:=(hS.out.put1 ((p1:Int)+1) (p1+1) rfl).tset (.int .i64 4) (.int .i64 0) (.string ⟨#[]⟩) (.slice none 0 0) (.slice none 0 0);exact⟨.mk 4 0 [] [] [],_,rfl,RJ.flat _ _ 4 0 [],fun _=>rfl,⟨p1+1,t1,fun _=>⟨F3.out,by omega⟩,by omega⟩,t2⟩
 have hq:(nxT (jq l)==93)=false:=by rw[beq_eq_false_iff_ne];exact hm
 have he:=e2 (ztz (x:=93) hm);rw[← Hdb.out]at he;have AO:(L.drop p1).length+1≤l.length+2:=by rw[List.length_drop];omega
 generalize l.length+2=k0 at he AO;have AU:=zi he.symm;generalize nxT (jq l)=m0 at *;obtain⟨i0,hi,AY,AX,AW⟩:=info_parts zj4;clear e1 e2 hQ hm d3 Hdb he;obtain⟨c0,c1,c2,fz,hD⟩:=hO.out.tx.cells;obtain⟨r0,r1,r2,r3,r4,rz,hH⟩:=VB.at hO.out.ra;obtain⟨v0,v1,v2,v3,v4,vz,hF⟩:=VB.at hO.out.rb;go_enter Tryz.func185,Tryz.ntmps185
 go_wp2_with fail
 clear c0 c1 c2 fz hD r0 r1 r2 r3 r4 rz hH v0 v1 v2 v3 v4 vz hF;have hj:=zi (hO.out.put1 ((a:Int)+1) (a+1) rfl);refine(Hbl.out _ hj.out.tx).mono ?_;rintro e w2 ⟨rfl,h2,hB⟩;have hh:=zi (hj.out.call h2 hB);clear h2 hB
 go_wp2_with fail
 refine(Hnx.out _ hh.out.tx).mono ?_;rintro e w3 ⟨rfl,h2,hB⟩;have hS:=zi (hh.out.call h2 (hB.mono (fun _ _ h=>h.elim)));have hE:=zi (hB.mono (M':=MT b) (fun _ _ h=>h.elim));clear h2 hB
 go_wp2_with fail
 clear hO hj hh Hbl Hnx wa AV hq
 go_loopg [] (k0+1) (fun g wr=>∃ (hC:List J) (lv:Value) (c k:Nat) (bd:Bool),Hid (LS b L (.slice q L.length hg) w c bd #[.int .i64 4,.int .i64 0,.string ⟨#[]⟩,lv,.slice none 0 0] wr)∧Hid (LRow (fun _=>False) (w.heap.size+2) hC lv wr) ∧
  c≤L.length+11 - d.toNat∧(bd=false→hC.length≤c)∧k+1=g ∧
  Hid (bd=false→c≤L.length∧(L.drop c).length+1≤k∧zbz (zbq (jy f d)) 93 k ⟨L.drop c,false⟩ hC=G)∧Hid (bd=true→G.1.bad=true))
 case atStart=>exact⟨[],.slice none 0 0,p1,k0,false,hS,zi (LRow.nil _ _ _),by omega,fun _=>by simp,rfl,zi (fun _=>⟨AG,AO,AU.out⟩),zi (fun h=>by simp at h)⟩
 case round =>
  clear hS AU;obtain⟨hC,lv,c,k,bd,H,HR,Ad,hZ,hkg,HA,HB⟩:=hrel;cases bd with
  | true =>
    have HG:=zi (HB.out rfl);obtain⟨al,cl,rfl⟩:=zaw HR.out.choose_spec.1;clear HA HB hZ;obtain⟨c0,c1,c2,fz,hD⟩:=H.out.tx.cells;obtain⟨r0,r1,r2,r3,r4,rz,hH⟩:=VB.at H.out.ra;obtain⟨v0,v1,v2,v3,v4,vz,hF⟩:=VB.at H.out.rb
    go_wp2_with fail
    refine bodyPost_ret (v := .agg #[.int .i64 4,.int .i64 0,.string ⟨#[]⟩,.slice al hC.length cl,.slice none 0 0]) (by simp[results,Tryz.results185,go_sem,r0,r1,r2,r3,r4]) rfl ?_;obtain⟨t1,t2⟩:=H.out.tset (.int .i64 4) (.int .i64 0) (.string ⟨#[]⟩) (.slice al hC.length cl) (.slice none 0 0);exact⟨.mk 4 0 [] hC [],_,rfl,HR.out.val _ _ _ _ _,fun h=>by rw[HG.out]at h;simp at h,⟨c,by rw[HG.out];exact t1,fun h=>by rw[HG.out]at h;simp at h,Ad⟩,t2⟩
  | false =>
    have hZ:=hZ rfl;obtain⟨AK,k1,k2⟩:=HA.out rfl;obtain⟨k,rfl⟩:∃ k',k=k'+1:=⟨k - 1,by omega⟩;have hT:=fun W hW=>hv d c W hW AK (by omega) (by omega) hdf
    have AF:=zht f d ⟨L.drop c,false⟩;obtain⟨⟨jv,hn⟩,hV⟩:∃ V,jy f d ⟨L.drop c,false⟩=V:=⟨_,rfl⟩;have hx:zbq (jy f d) ⟨L.drop c,false⟩ hC=(hn,hC++[jv]):=by simp only[zbq,hV]
    simp only[hV]at hT AF;have Hround:=zi (fun a' hI hK=>zif (K:=L.length+11 - d.toNat) (a':=a') (shut:=93) (by decide) (by decide) hx AF AK k1 k2 hI hK (by omega));have Hval:=zi hT;obtain⟨xs,hJ,AM⟩:=HR.out;obtain⟨ao,co,rfl⟩:=zaw hJ;have Hown:=zi hJ;have Hrc:=zi AM;have HD:=zi (H.out.callN (Fr.refl.drew));have hacc2:hC.length≤4096:=by omega
    have h0:(hC.length+1) * 80≤140737488355328:=by omega
    have hz:hC.length+1≤maxLen:=by unfold maxLen;omega
    have hwN:w.heap.size+1<wr.heap.size:=ju H.out.rb;have AB:=zi (fun k hk=>(zcj hJ k hk).1);clear HA HB hT AF hV hx k2 hJ AM HR k1;obtain⟨c0,c1,c2,fz,hD⟩:=H.out.tx.cells;obtain⟨r0,r1,r2,r3,r4,rz,hH⟩:=VB.at H.out.ra;obtain⟨v0,v1,v2,v3,v4,vz,hF⟩:=VB.at H.out.rb
    go_wp2_with fail
    go_region_law (first
     | (go_simp;go_at_call 131;refine(Hval.out _ HD.out.tx).mono ?_;rintro e w1 ⟨⟨hw,ht,hp,hu,hr⟩,y,rfl,hy,AP,⟨a',AS,hI,hK⟩,AI⟩;obtain⟨z1,m1,z2,m2,rfl,_,_⟩:=hy.open;have Hy:=zi hy;have h8:=zi AI;have H1:=zi (HD.out.call AS AI);have Hjs:=zi AP;have Hpos:=zi hI;have Ak:=(VB.at H1.out.rb).2.2.2.1;have Ah:=(VB.at H1.out.rb).2.2.2.2.2.1 3;have Ai:=(VB.at H1.out.rb).2.2.2.2.2.2;clear hy AI AP hI AS)
     | (refine zcu rfl (.tmp 40) (.tmp 44) 62 rfl (w.heap.size+2) 65 i0 (.agg #[.int .i64 0,.int .i64 0,.string ⟨#[]⟩,.slice none 0 0,.slice none 0 0]) 5 80 Tryz.underlying62 hi AY AX AW rfl (by decide) (.slice ao hC.length co) hC.length xs rfl (by exact((zrn (wr:=wr.drew) Hown.out h8.out).alloc _)) ⟨w1.heap.size,0,none⟩ 1 [.int .i64 hw,.int .i64 ht,.string ⟨hp.toArray⟩,.slice z1 hu.length m1,.slice z2 hr.length m2] rfl rfl (by exact q6 w1 _ _ _ rfl) (by simp[Value.oneCell']) hz h0 (by simp;omega) ?_;intro g cp w2 hP hX h3 Ae Ab;have hR:=zi hP;have hc:=zi hX;have AT:=zi h3;have AJ:=zi (zg0 hX (zaf _ H1.out.rb) (fun e=>by have:=AB.out _ e;omega));have Aj:=(VB.at AJ.out).2.2.2.1;have Ag:=(VB.at AJ.out).2.2.2.2.2.1 3;clear hP hX h3 Ae Ab))
    all_goals
     have H3:Hid (LS b L (.slice q L.length hg) w a' hn.bad #[.int .i64 4,.int .i64 0,.string ⟨#[]⟩,.slice (some ⟨g,0,none⟩) (hC.length+1) cp,.slice none 0 0] (w2.setCell ⟨w.heap.size+1,3,none⟩ (.slice (some ⟨g,0,none⟩) (hC.length+1) cp))) :=
      zi (H1.out.push (lv := .slice ao hC.length co) (o:=3) hc.out (fun k hk=>AB.out k hk))
     have AA:Hid (LRow (fun _=>False) (w.heap.size+2) (hC++[J.mk hw ht hp hu hr]) (.slice (some ⟨g,0,none⟩) (hC.length+1) cp) (w2.setCell ⟨w.heap.size+1,3,none⟩ (.slice (some ⟨g,0,none⟩) (hC.length+1) cp))):=by
      have h3:(Value.slice ao hC.length co).ownBlock=some g∨w1.heap.size+1≤g:=by have:=AT.out;simp only[World.size_alloc]at this;exact this
      have AZ:=h8.out.size;simp only[World.size_drew]at AZ;refine zi (LRow.push (S:=fun _=>False) (N:=w.heap.size+2) (M:=wr.heap.size) (bv:=w.heap.size+1) (zrn (wr:=wr.drew) Hown.out h8.out) (RC.mt (wr:=wr.drew) (RC.kp (Kp.ofFr Fr.refl.drew) _ _ Hrc.out) H.out.old h8.out) (fun _ h=>h.elim) (RJ.kp (fun b o hs hb _=>⟨.inr (by simpa using hs),hb⟩) _ _ Hy.out) (by omega) (fun k hk=>?_) hc.out h3 hR.out (by omega) (fun h=>h) ?_ 3)
      ·obtain⟨_,o',ho,_⟩:=zcj Hown.out k hk;exact ju ho
      rcases h3 with h | h
      ·exact AB.out _ h
      omega
     have ha9:a'≤5000:=by omega
     have hY:=fun W hW=>zcb b L (.slice q L.length hg) a' hn.bad W hW hL (by omega)
     obtain⟨ra,h9,rc,rd⟩:=Hround.out a' Hpos.out (by omega);obtain⟨a2,AR⟩:∃ a2,blk L a'=a2:=⟨_,rfl⟩;rw[AR]at ra h9 rc rd hY;have hU:=fun W hW=>zdx b L (.slice q L.length hg) a2 hn.bad W hW hL (by omega)
     obtain⟨m0,AN⟩:∃ m0,nxT (L.drop a2)=m0:=⟨_,rfl⟩;rw[AN]at hU h9 rc rd;have Hbl:=zi hY;have Hnx:=zi hU;have Hrb:=zi h9;have hM:=zi rc;have Hrd:=zi rd;have wa2:IntKind.i64.wrap ((a2:Int)+1)=(a2:Int)+1:=by rw[IntKind.wrap_i64];omega
     clear hY hU h9 rc rd AR AN hR hc AT AJ Aj Ag Ak Ah Ai H1 h8 Hy HD Hown Hrc AB H hv Hval Hround Hpos;obtain⟨w3,AL⟩:∃ w3,w2.setCell ⟨w.heap.size+1,3,none⟩ (.slice (some ⟨g,0,none⟩) (hC.length+1) cp)=w3:=⟨_,rfl⟩;rw[AL]at H3 AA ⊢;clear AL;clear c0 c1 c2 fz hD r0 r1 r2 r3 r4 rz hH v0 v1 v2 v3 v4 vz hF;have AE:=H3.out.lt;by_cases ha:m0=93
     ·obtain⟨g1,g2⟩:=Hrb.out ha;have hq:(m0==93)=true:=by rw[beq_iff_eq];exact ha
      have h4:=zi g1;have hN:=zi g2;clear ha g1 g2 Hrb hM Hrd
      go_wp2_with fail
      refine(Hbl.out _ H3.out.tx).mono ?_;rintro e w4 ⟨rfl,h2,hB⟩;have H4:=zi (H3.out.call h2 hB);have hE:=zi hB;clear h2 hB;have h7:=zi (AA.out.mt H3.out.old hE.out)
      go_wp2_with fail
      refine(Hnx.out _ H4.out.tx).mono ?_;rintro e w5 ⟨rfl,h2,hB⟩;have H5:=zi (H4.out.call h2 (hB.mono (fun _ _ h=>h.elim)));have hE:=zi (hB.mono (M':=MT b) (fun _ _ h=>h.elim));clear h2 hB;have h6:=zi (h7.out.mt H3.out.old hE.out);have H6:=zi (H5.out.put1 ((a2:Int)+1) (a2+1) rfl);have h5:=zi (h6.out.mt H3.out.old (H5.out.tx.setF 1 (.int .i64 ((a2:Int)+1))));obtain⟨c0,c1,c2,fz,hD⟩:=H5.out.tx.cells;obtain⟨r0,r1,r2,r3,r4,rz,hH⟩:=VB.at H5.out.ra;obtain⟨v0,v1,v2,v3,v4,vz,hF⟩:=VB.at H5.out.rb
      go_wp2_with fail
      refine bodyPost_ret (v := .agg #[.int .i64 4,.int .i64 0,.string ⟨#[]⟩,.slice (some ⟨g,0,none⟩) (hC.length+1) cp,.slice none 0 0]) (by simp[results,Tryz.results185,go_sem,r0,r1,r2,r3,r4]) rfl ?_;obtain⟨t1,t2⟩:=H6.out.tset (.int .i64 4) (.int .i64 0) (.string ⟨#[]⟩) (.slice (some ⟨g,0,none⟩) (hC.length+1) cp) (.slice none 0 0);exact⟨.mk 4 0 [] (hC++[J.mk hw ht hp hu hr]) [],_,rfl,h5.out.val (.int .i64 4) (.int .i64 0) (.string ⟨#[]⟩) (.slice (some ⟨g,0,none⟩) (hC.length+1) cp) (.slice none 0 0),fun h=>by obtain⟨q1,q2⟩:=h4.out h;rw[q2,Hjs.out q1],hN.out _ _ _ t1,t2⟩
     have hq:(m0==93)=false:=by rw[beq_eq_false_iff_ne];exact ha
     by_cases hf:m0=44
     ·obtain ⟨g1,g2⟩:=hM.out hf;have AC:(m0==44)=true:=by rw[beq_iff_eq];exact hf
      have Aa:(m0 != 44)=false:=by rw[bne,AC];rfl
      have h4:=zi g1;have hN:=zi g2;clear ha hf g1 g2 Hrb hM Hrd
      go_wp2_with fail
      refine(Hbl.out _ H3.out.tx).mono ?_;rintro e w4 ⟨rfl,h2,hB⟩;have H4:=zi (H3.out.call h2 hB);have hE:=zi hB;clear h2 hB;have h7:=zi (AA.out.mt H3.out.old hE.out)
      go_wp2_with fail
      refine(Hnx.out _ H4.out.tx).mono ?_;rintro e w5 ⟨rfl,h2,hB⟩;have H5:=zi (H4.out.call h2 (hB.mono (fun _ _ h=>h.elim)));have hE:=zi (hB.mono (M':=MT b) (fun _ _ h=>h.elim));clear h2 hB;have h6:=zi (h7.out.mt H3.out.old hE.out);have H6:=zi (H5.out.put1 ((a2:Int)+1) (a2+1) rfl);have h5:=zi (h6.out.mt H3.out.old (H5.out.tx.setF 1 (.int .i64 ((a2:Int)+1))));obtain⟨c0,c1,c2,fz,hD⟩:=H5.out.tx.cells;obtain⟨r0,r1,r2,r3,r4,rz,hH⟩:=VB.at H5.out.ra;obtain⟨v0,v1,v2,v3,v4,vz,hF⟩:=VB.at H5.out.rb
      go_wp2_with fail
      go_roundg (gk - 1)
      case measure=>omega
      case rel =>
       refine⟨hC++[J.mk hw ht hp hu hr],_,a2+1,k,hn.bad,H6,h5,ra,fun hb=>?_,by omega,zi (fun hb=>?_),h4⟩
       ·have:=(hN.out hb).1;rw[List.length_append];simp only[List.length_cons,List.length_nil];omega
       obtain⟨-,x2,x3,x4⟩:=hN.out hb;exact⟨x2,x3,by rw[Hjs.out hb];exact x4⟩
     have AC:(m0==44)=false:=by rw[beq_eq_false_iff_ne];exact hf
     have Aa:(m0 != 44)=true:=by rw[bne,AC];rfl
     have h4:=zi (Hrd.out ha hf);clear ha hf Hrb hM Hrd
     go_wp2_with fail
     refine(Hbl.out _ H3.out.tx).mono ?_;rintro e w4 ⟨rfl,h2,hB⟩;have H4:=zi (H3.out.call h2 hB);have hE:=zi hB;clear h2 hB;have h7:=zi (AA.out.mt H3.out.old hE.out)
     go_wp2_with fail
     refine(Hnx.out _ H4.out.tx).mono ?_;rintro e w5 ⟨rfl,h2,hB⟩;have H5:=zi (H4.out.call h2 (hB.mono (fun _ _ h=>h.elim)));have hE:=zi (hB.mono (M':=MT b) (fun _ _ h=>h.elim));clear h2 hB;have h6:=zi (h7.out.mt H3.out.old hE.out);have H6:=zi (H5.out.put1 ((a2:Int)+1) (a2+1) rfl);have h5:=zi (h6.out.mt H3.out.old (H5.out.tx.setF 1 (.int .i64 ((a2:Int)+1))));have H7:=zi (H6.out.set2 true);have Af:=zi (h5.out.mt H3.out.old (H6.out.tx.setF 2 (.bool true)));obtain⟨c0,c1,c2,fz,hD⟩:=H5.out.tx.cells;obtain⟨r0,r1,r2,r3,r4,rz,hH⟩:=VB.at H5.out.ra;obtain⟨v0,v1,v2,v3,v4,vz,hF⟩:=VB.at H5.out.rb
     go_wp2_with fail
     go_roundg (gk - 1)
     case measure=>omega
     case rel =>
      exact⟨hC++[J.mk hw ht hp hu hr],_,a2+1,k,true,H7,Af,ra,fun hb=>by simp at hb,by omega,zi (fun hb=>by simp at hb),zi (fun _=>h4.out)⟩
end Go.Proofs.YtffggpplnjibgaaGreatDoor
