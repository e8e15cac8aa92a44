/-
 The reference's reader of texts: a list,walked.
-/
import Derived.Test.YtmgfncjfgkllcaaGreatDoorKTxt10
open Go.Lib renaming hid→za
namespace Go.Proofs.YtmgfncjfgkllcaaGreatDoor
set_option linter.unusedVariables false
set_option linter.unusedSimpArgs false
set_option linter.unusedSectionVars false
set_option maxRecDepth 100000
set_option maxHeartbeats 8000000
open Go.RowKit
variable [OldK]
attribute [local irreducible] wpStill
theorem zy8 (f b:Nat) (L:Bs) (v:Value) (hv:zv0 b L v f) (hL:L.length≤4096) (d:Int) (hd0:1≤d) (hdf:d+f=10) (a:Nat) (w:World) (h:TX b L v a false w) (l:Bs) (hl:L.drop a=91 :: l) :
 Calls Tryz.prog 210 #[.pointer (some ⟨b,0,none⟩),.int .i64 d] w fun e w'=>∃ j x,e = .returned x∧RJ (fun k=>w.heap.size≤k) w' j x ∧
  ((zae (zbn (jg f d)) 91 93 d ⟨91 :: l,false⟩ []).1.bad=false→j = .mk 4 0 [] (zae (zbn (jg f d)) 91 93 d ⟨91 :: l,false⟩ []).2 []) ∧
  RS b L v (L.length+11 - d.toNat) (zae (zbn (jg f d)) 91 93 d ⟨91 :: l,false⟩ []).1 w'∧Fr (MT b) w w':=by
 obtain⟨d1,d2,d3,d4⟩:=zd4 hl;have hN:=za (LS.start h #[.int .i64 4,.int .i64 0,.string ⟨#[]⟩,.slice none 0 0,.slice none 0 0]);obtain⟨q,hf,rfl⟩:=h.2.1.form;by_cases hd:8<d
 ·have hb:=znd (one:=zbn (jg f d)) (shut:=93) (op:=91) (d:=d) (l:=l) (a:=[]) (by decide) hd;generalize zae (zbn (jg f d)) 91 93 d ⟨91 :: l,false⟩ []=G at *;have Aa:decide (8<d)=true:=decide_eq_true hd;have Hb:=za hb;obtain⟨c0,c1,c2,fz,hC⟩:=h.cells;have HH:=za h;clear hv h hl d3 hb;go_enter Tryz.func210,Tryz.ntmps210
  go_wp2_with fail
  refine bodyPost_ret (v := .agg #[.int .i64 4,.int .i64 0,.string ⟨#[]⟩,.slice none 0 0,.slice none 0 0]) (by simp[results,Tryz.results210,go_sem]) rfl ?_;exact⟨.mk 4 0 [] [] [],_,rfl,RJ.flat _ _ 4 0 [],fun h=>by rw[Hb.out]at h;simp at h,⟨a,by rw[Hb.out];exact(HH.out.set2 true).frN ((Fr.refl.alloc _).alloc _),fun h=>by rw[Hb.out]at h;simp at h,by omega⟩,((HH.out.setF _ _).alloc _).alloc _⟩
 have Aa:decide (8<d)=false:=decide_eq_false hd;obtain⟨e1,e2⟩:=zkw (one:=zbn (jg f d)) (shut:=93) (op:=91) (d:=d) (l:=l) (a:=[]) (by decide) (by omega);obtain⟨G,hG⟩:∃ G,zae (zbn (jg f d)) 91 93 d ⟨91 :: l,false⟩ []=G:=⟨_,rfl⟩;rw[hG]at e1 e2 ⊢;have AF:=zh0 L (a+1);have hP:=zeo L (a+1);rw[d3]at hP;obtain⟨p1,AO⟩:∃ p1,blk L (a+1)=p1:=⟨_,rfl⟩;have hX:=fun W hW=>zcv b L (.slice q L.length hf) (a+1) false W hW hL (by omega)
 rw[AO]at AF hP hX;have Hbl:=za hX;have hT:=fun W hW=>zed b L (.slice q L.length hf) p1 false W hW hL (by omega)
 rw[hP]at hT;have Hnx:=za hT;have AE:p1≤L.length:=by omega
 have hac:a+1≤p1:=AF.1;have Hdb:=za hP;have wa:IntKind.i64.wrap ((a:Int)+1)=(a:Int)+1:=by rw[IntKind.wrap_i64];omega
 have AT:IntKind.i64.wrap ((p1:Int)+1)=(p1:Int)+1:=by rw[IntKind.wrap_i64];omega
 clear hG AF hX AO h hl hT;by_cases hm:nxT (ja l)=93
 ·obtain⟨m,AB⟩:=zd8 (t:=ja l) (x:=93) (by decide) hm;have hc:=e1 m AB;rw[AB]at hP;obtain⟨f1,f2,f3,f4⟩:=zd4 hP;have hq:(nxT (ja l)==93)=true:=by rw[beq_iff_eq];exact hm
  generalize nxT (ja l)=m0 at *;subst hc;have F3:=za f3;clear hv e1 e2 AB hP f2 f3 hm d3 Hdb;obtain⟨c0,c1,c2,fz,hC⟩:=hN.out.tx.cells;obtain⟨r0,r1,r2,r3,r4,rz,hF⟩:=VB.at hN.out.ra;obtain⟨v0,v1,v2,v3,v4,vz,hE⟩:=VB.at hN.out.rb;go_enter Tryz.func210,Tryz.ntmps210
  go_wp2_with fail
  clear c0 c1 c2 fz hC r0 r1 r2 r3 r4 rz hF v0 v1 v2 v3 v4 vz hE;have hh:=za (hN.out.put1 ((a:Int)+1) (a+1) rfl);refine(Hbl.out _ hh.out.tx).mono ?_;rintro e w2 ⟨rfl,h2,hA⟩;have hg:=za (hh.out.call h2 hA);clear h2 hA
  go_wp2_with fail
  refine(Hnx.out _ hg.out.tx).mono ?_;rintro e w3 ⟨rfl,h2,hA⟩;have hR:=za (hg.out.call h2 (hA.mono (fun _ _ h=>h.elim)));have hD:=za (hA.mono (M':=MT b) (fun _ _ h=>h.elim));clear h2 hA;obtain⟨c0,c1,c2,fz,hC⟩:=hR.out.tx.cells;obtain⟨r0,r1,r2,r3,r4,rz,hF⟩:=VB.at hR.out.ra;obtain⟨v0,v1,v2,v3,v4,vz,hE⟩:=VB.at hR.out.rb;have AC:=hR.out.lt
  go_wp2_with fail
  refine bodyPost_ret (v := .agg #[.int .i64 4,.int .i64 0,.string ⟨#[]⟩,.slice none 0 0,.slice none 0 0]) (by simp[results,Tryz.results210,go_sem,r0,r1,r2,r3,r4]) rfl ?_;obtain⟨t1,t2⟩:=(hR.out.put1 ((p1:Int)+1) (p1+1) rfl).tset (.int .i64 4) (.int .i64 0) (.string ⟨#[]⟩) (.slice none 0 0) (.slice none 0 0);exact⟨.mk 4 0 [] [] [],_,rfl,RJ.flat _ _ 4 0 [],fun _=>rfl,⟨p1+1,t1,fun _=>⟨F3.out,by omega⟩,by omega⟩,t2⟩
 have hq:(nxT (ja l)==93)=false:=by rw[beq_eq_false_iff_ne];exact hm
 have hc:=e2 (zw5 (x:=93) hm);rw[← Hdb.out]at hc;have AM:(L.drop p1).length+1≤l.length+2:=by rw[List.length_drop];omega
 generalize l.length+2=k0 at hc AM;have AS:=za hc.symm;generalize nxT (ja l)=m0 at *;obtain⟨i0,hi,AW,AV,AU⟩:=info_parts zfw;clear e1 e2 hP hm d3 Hdb hc;obtain⟨c0,c1,c2,fz,hC⟩:=hN.out.tx.cells;obtain⟨r0,r1,r2,r3,r4,rz,hF⟩:=VB.at hN.out.ra;obtain⟨v0,v1,v2,v3,v4,vz,hE⟩:=VB.at hN.out.rb;go_enter Tryz.func210,Tryz.ntmps210
 go_wp2_with fail
 clear c0 c1 c2 fz hC r0 r1 r2 r3 r4 rz hF v0 v1 v2 v3 v4 vz hE;have hh:=za (hN.out.put1 ((a:Int)+1) (a+1) rfl);refine(Hbl.out _ hh.out.tx).mono ?_;rintro e w2 ⟨rfl,h2,hA⟩;have hg:=za (hh.out.call h2 hA);clear h2 hA
 go_wp2_with fail
 refine(Hnx.out _ hg.out.tx).mono ?_;rintro e w3 ⟨rfl,h2,hA⟩;have hR:=za (hg.out.call h2 (hA.mono (fun _ _ h=>h.elim)));have hD:=za (hA.mono (M':=MT b) (fun _ _ h=>h.elim));clear h2 hA
 go_wp2_with fail
 clear hN hh hg Hbl Hnx wa AT hq
 go_loopg [] (k0+1) (fun g wr=>∃ (hB:List J) (lv:Value) (c k:Nat) (bd:Bool),Hid (LS b L (.slice q L.length hf) w c bd #[.int .i64 4,.int .i64 0,.string ⟨#[]⟩,lv,.slice none 0 0] wr)∧Hid (LRow (fun _=>False) (w.heap.size+2) hB lv wr) ∧
  c≤L.length+11 - d.toNat∧(bd=false→hB.length≤c)∧k+1=g ∧
  Hid (bd=false→c≤L.length∧(L.drop c).length+1≤k∧zbm (zbn (jg f d)) 93 k ⟨L.drop c,false⟩ hB=G)∧Hid (bd=true→G.1.bad=true))
 case atStart=>exact⟨[],.slice none 0 0,p1,k0,false,hR,za (LRow.nil _ _ _),by omega,fun _=>by simp,rfl,za (fun _=>⟨AE,AM,AS.out⟩),za (fun h=>by simp at h)⟩
 case round =>
  clear hR AS;obtain⟨hB,lv,c,k,bd,H,HR,Ab,hY,hkg,HA,HB⟩:=hrel;cases bd with
  | true =>
    have HG:=za (HB.out rfl);obtain⟨al,cl,rfl⟩:=qj HR.out.choose_spec.1;clear HA HB hY;obtain⟨c0,c1,c2,fz,hC⟩:=H.out.tx.cells;obtain⟨r0,r1,r2,r3,r4,rz,hF⟩:=VB.at H.out.ra;obtain⟨v0,v1,v2,v3,v4,vz,hE⟩:=VB.at H.out.rb
    go_wp2_with fail
    refine bodyPost_ret (v := .agg #[.int .i64 4,.int .i64 0,.string ⟨#[]⟩,.slice al hB.length cl,.slice none 0 0]) (by simp[results,Tryz.results210,go_sem,r0,r1,r2,r3,r4]) rfl ?_;obtain⟨t1,t2⟩:=H.out.tset (.int .i64 4) (.int .i64 0) (.string ⟨#[]⟩) (.slice al hB.length cl) (.slice none 0 0);exact⟨.mk 4 0 [] hB [],_,rfl,HR.out.val _ _ _ _ _,fun h=>by rw[HG.out]at h;simp at h,⟨c,by rw[HG.out];exact t1,fun h=>by rw[HG.out]at h;simp at h,Ab⟩,t2⟩
  | false =>
    have hY:=hY rfl;obtain⟨AI,k1,k2⟩:=HA.out rfl;obtain⟨k,rfl⟩:∃ k',k=k'+1:=⟨k - 1,by omega⟩;have hS:=fun W hW=>hv d c W hW AI (by omega) (by omega) hdf
    have AD:=zig f d ⟨L.drop c,false⟩;obtain⟨⟨jv,hj⟩,hV⟩:∃ V,jg f d ⟨L.drop c,false⟩=V:=⟨_,rfl⟩;have hw:zbn (jg f d) ⟨L.drop c,false⟩ hB=(hj,hB++[jv]):=by simp only[zbn,hV]
    simp only[hV]at hS AD;have Hround:=za (fun a' hH hK=>zi7 (K:=L.length+11 - d.toNat) (a':=a') (shut:=93) (by decide) (by decide) hw AD AI k1 k2 hH hK (by omega));have Hval:=za hS;obtain⟨xs,hI,AK⟩:=HR.out;obtain⟨ao,co,rfl⟩:=qj hI;have Hown:=za hI;have Hrc:=za AK;have HD:=za (H.out.callN (Fr.refl.drew));have hacc2:hB.length≤4096:=by omega
    have hz:(hB.length+1) * 80≤140737488355328:=by omega
    have hx:hB.length+1≤maxLen:=by unfold maxLen;omega
    have hwN:w.heap.size+1<wr.heap.size:=jb H.out.rb;have h9:=za (fun k hk=>(zam hI k hk).1);clear HA HB hS AD hV hw k2 hI AK HR k1;obtain⟨c0,c1,c2,fz,hC⟩:=H.out.tx.cells;obtain⟨r0,r1,r2,r3,r4,rz,hF⟩:=VB.at H.out.ra;obtain⟨v0,v1,v2,v3,v4,vz,hE⟩:=VB.at H.out.rb
    go_wp2_with fail
    go_region_law (first
     | (go_simp;go_at_call 136;refine(Hval.out _ HD.out.tx).mono ?_;rintro e w1 ⟨⟨hu,hr,hn,ht,hp⟩,y,rfl,hy,AN,⟨a',AQ,hH,hK⟩,AG⟩;obtain⟨z1,m1,z2,m2,rfl,_,_⟩:=hy.open;have Hy:=za hy;have h6:=za AG;have H1:=za (HD.out.call AQ AG);have Hjs:=za AN;have Hpos:=za hH;have Ai:=(VB.at H1.out.rb).2.2.2.1;have Af:=(VB.at H1.out.rb).2.2.2.2.2.1 3;have Ag:=(VB.at H1.out.rb).2.2.2.2.2.2;clear hy AG AN hH AQ)
     | (refine zbe rfl (.tmp 40) (.tmp 44) 53 rfl (w.heap.size+2) 56 i0 (.agg #[.int .i64 0,.int .i64 0,.string ⟨#[]⟩,.slice none 0 0,.slice none 0 0]) 5 80 Tryz.underlying53 hi AW AV AU rfl (by decide) (.slice ao hB.length co) hB.length xs rfl (by exact((zuh (wr:=wr.drew) Hown.out h6.out).alloc _)) ⟨w1.heap.size,0,none⟩ 1 [.int .i64 hu,.int .i64 hr,.string ⟨hn.toArray⟩,.slice z1 ht.length m1,.slice z2 hp.length m2] rfl rfl (by exact zck w1 _ _ _ rfl) (by simp[Value.oneCell']) hx hz (by simp;omega) ?_;intro g cp w2 hO hU h0 Ac AZ;have hQ:=za hO;have ha:=za hU;have AR:=za h0;have AH:=za (zaq hU (qm _ H1.out.rb) (fun e=>by have:=h9.out _ e;omega));have Ah:=(VB.at AH.out).2.2.2.1;have Ae:=(VB.at AH.out).2.2.2.2.2.1 3;clear hO hU h0 Ac AZ))
    all_goals
     have H3:Hid (LS b L (.slice q L.length hf) w a' hj.bad #[.int .i64 4,.int .i64 0,.string ⟨#[]⟩,.slice (some ⟨g,0,none⟩) (hB.length+1) cp,.slice none 0 0] (w2.setCell ⟨w.heap.size+1,3,none⟩ (.slice (some ⟨g,0,none⟩) (hB.length+1) cp))) :=
      za (H1.out.push (lv := .slice ao hB.length co) (o:=3) ha.out (fun k hk=>h9.out k hk))
     have h8:Hid (LRow (fun _=>False) (w.heap.size+2) (hB++[J.mk hu hr hn ht hp]) (.slice (some ⟨g,0,none⟩) (hB.length+1) cp) (w2.setCell ⟨w.heap.size+1,3,none⟩ (.slice (some ⟨g,0,none⟩) (hB.length+1) cp))):=by
      have h0:(Value.slice ao hB.length co).ownBlock=some g∨w1.heap.size+1≤g:=by have:=AR.out;simp only[World.size_alloc]at this;exact this
      have AX:=h6.out.size;simp only[World.size_drew]at AX;refine za (LRow.push (S:=fun _=>False) (N:=w.heap.size+2) (M:=wr.heap.size) (bv:=w.heap.size+1) (zuh (wr:=wr.drew) Hown.out h6.out) (RC.mt (wr:=wr.drew) (RC.kp (Kp.ofFr Fr.refl.drew) _ _ Hrc.out) H.out.old h6.out) (fun _ h=>h.elim) (RJ.kp (fun b o hs hb _=>⟨.inr (by simpa using hs),hb⟩) _ _ Hy.out) (by omega) (fun k hk=>?_) ha.out h0 hQ.out (by omega) (fun h=>h) ?_ 3)
      ·obtain⟨_,o',ho,_⟩:=zam Hown.out k hk;exact jb ho
      rcases h0 with h | h
      ·exact h9.out _ h
      omega
     have ha9:a'≤5000:=by omega
     have hX:=fun W hW=>zcv b L (.slice q L.length hf) a' hj.bad W hW hL (by omega)
     obtain⟨ra,h7,rc,rd⟩:=Hround.out a' Hpos.out (by omega);obtain⟨a2,AP⟩:∃ a2,blk L a'=a2:=⟨_,rfl⟩;rw[AP]at ra h7 rc rd hX;have hT:=fun W hW=>zed b L (.slice q L.length hf) a2 hj.bad W hW hL (by omega)
     obtain⟨m0,AL⟩:∃ m0,nxT (L.drop a2)=m0:=⟨_,rfl⟩;rw[AL]at hT h7 rc rd;have Hbl:=za hX;have Hnx:=za hT;have Hrb:=za h7;have hJ:=za rc;have Hrd:=za rd;have wa2:IntKind.i64.wrap ((a2:Int)+1)=(a2:Int)+1:=by rw[IntKind.wrap_i64];omega
     clear hX hT h7 rc rd AP AL hQ ha AR AH Ah Ae Ai Af Ag H1 h6 Hy HD Hown Hrc h9 H hv Hval Hround Hpos;obtain⟨w3,AJ⟩:∃ w3,w2.setCell ⟨w.heap.size+1,3,none⟩ (.slice (some ⟨g,0,none⟩) (hB.length+1) cp)=w3:=⟨_,rfl⟩;rw[AJ]at H3 h8 ⊢;clear AJ;clear c0 c1 c2 fz hC r0 r1 r2 r3 r4 rz hF v0 v1 v2 v3 v4 vz hE;have AC:=H3.out.lt;by_cases hZ:m0=93
     ·obtain⟨g1,g2⟩:=Hrb.out hZ;have hq:(m0==93)=true:=by rw[beq_iff_eq];exact hZ
      have h1:=za g1;have hM:=za g2;clear hZ g1 g2 Hrb hJ Hrd
      go_wp2_with fail
      refine(Hbl.out _ H3.out.tx).mono ?_;rintro e w4 ⟨rfl,h2,hA⟩;have H4:=za (H3.out.call h2 hA);have hD:=za hA;clear h2 hA;have h5:=za (h8.out.mt H3.out.old hD.out)
      go_wp2_with fail
      refine(Hnx.out _ H4.out.tx).mono ?_;rintro e w5 ⟨rfl,h2,hA⟩;have H5:=za (H4.out.call h2 (hA.mono (fun _ _ h=>h.elim)));have hD:=za (hA.mono (M':=MT b) (fun _ _ h=>h.elim));clear h2 hA;have h4:=za (h5.out.mt H3.out.old hD.out);have H6:=za (H5.out.put1 ((a2:Int)+1) (a2+1) rfl);have h3:=za (h4.out.mt H3.out.old (H5.out.tx.setF 1 (.int .i64 ((a2:Int)+1))));obtain⟨c0,c1,c2,fz,hC⟩:=H5.out.tx.cells;obtain⟨r0,r1,r2,r3,r4,rz,hF⟩:=VB.at H5.out.ra;obtain⟨v0,v1,v2,v3,v4,vz,hE⟩:=VB.at H5.out.rb
      go_wp2_with fail
      refine bodyPost_ret (v := .agg #[.int .i64 4,.int .i64 0,.string ⟨#[]⟩,.slice (some ⟨g,0,none⟩) (hB.length+1) cp,.slice none 0 0]) (by simp[results,Tryz.results210,go_sem,r0,r1,r2,r3,r4]) rfl ?_;obtain⟨t1,t2⟩:=H6.out.tset (.int .i64 4) (.int .i64 0) (.string ⟨#[]⟩) (.slice (some ⟨g,0,none⟩) (hB.length+1) cp) (.slice none 0 0);exact⟨.mk 4 0 [] (hB++[J.mk hu hr hn ht hp]) [],_,rfl,h3.out.val (.int .i64 4) (.int .i64 0) (.string ⟨#[]⟩) (.slice (some ⟨g,0,none⟩) (hB.length+1) cp) (.slice none 0 0),fun h=>by obtain⟨q1,q2⟩:=h1.out h;rw[q2,Hjs.out q1],hM.out _ _ _ t1,t2⟩
     have hq:(m0==93)=false:=by rw[beq_eq_false_iff_ne];exact hZ
     by_cases he:m0=44
     ·obtain ⟨g1,g2⟩:=hJ.out he;have AA:(m0==44)=true:=by rw[beq_iff_eq];exact he
      have AY:(m0 != 44)=false:=by rw[bne,AA];rfl
      have h1:=za g1;have hM:=za g2;clear hZ he g1 g2 Hrb hJ Hrd
      go_wp2_with fail
      refine(Hbl.out _ H3.out.tx).mono ?_;rintro e w4 ⟨rfl,h2,hA⟩;have H4:=za (H3.out.call h2 hA);have hD:=za hA;clear h2 hA;have h5:=za (h8.out.mt H3.out.old hD.out)
      go_wp2_with fail
      refine(Hnx.out _ H4.out.tx).mono ?_;rintro e w5 ⟨rfl,h2,hA⟩;have H5:=za (H4.out.call h2 (hA.mono (fun _ _ h=>h.elim)));have hD:=za (hA.mono (M':=MT b) (fun _ _ h=>h.elim));clear h2 hA;have h4:=za (h5.out.mt H3.out.old hD.out);have H6:=za (H5.out.put1 ((a2:Int)+1) (a2+1) rfl);have h3:=za (h4.out.mt H3.out.old (H5.out.tx.setF 1 (.int .i64 ((a2:Int)+1))));obtain⟨c0,c1,c2,fz,hC⟩:=H5.out.tx.cells;obtain⟨r0,r1,r2,r3,r4,rz,hF⟩:=VB.at H5.out.ra;obtain⟨v0,v1,v2,v3,v4,vz,hE⟩:=VB.at H5.out.rb
      go_wp2_with fail
      go_roundg (gk - 1)
      case measure=>omega
      case rel =>
       refine⟨hB++[J.mk hu hr hn ht hp],_,a2+1,k,hj.bad,H6,h3,ra,fun hb=>?_,by omega,za (fun hb=>?_),h1⟩
       ·have:=(hM.out hb).1;rw[List.length_append];simp only[List.length_cons,List.length_nil];omega
       obtain⟨-,x2,x3,x4⟩:=hM.out hb;exact⟨x2,x3,by rw[Hjs.out hb];exact x4⟩
     have AA:(m0==44)=false:=by rw[beq_eq_false_iff_ne];exact he
     have AY:(m0 != 44)=true:=by rw[bne,AA];rfl
     have h1:=za (Hrd.out hZ he);clear hZ he Hrb hJ Hrd
     go_wp2_with fail
     refine(Hbl.out _ H3.out.tx).mono ?_;rintro e w4 ⟨rfl,h2,hA⟩;have H4:=za (H3.out.call h2 hA);have hD:=za hA;clear h2 hA;have h5:=za (h8.out.mt H3.out.old hD.out)
     go_wp2_with fail
     refine(Hnx.out _ H4.out.tx).mono ?_;rintro e w5 ⟨rfl,h2,hA⟩;have H5:=za (H4.out.call h2 (hA.mono (fun _ _ h=>h.elim)));have hD:=za (hA.mono (M':=MT b) (fun _ _ h=>h.elim));clear h2 hA;have h4:=za (h5.out.mt H3.out.old hD.out);have H6:=za (H5.out.put1 ((a2:Int)+1) (a2+1) rfl);have h3:=za (h4.out.mt H3.out.old (H5.out.tx.setF 1 (.int .i64 ((a2:Int)+1))));have H7:=za (H6.out.set2 true);have Ad:=za (h3.out.mt H3.out.old (H6.out.tx.setF 2 (.bool true)));obtain⟨c0,c1,c2,fz,hC⟩:=H5.out.tx.cells;obtain⟨r0,r1,r2,r3,r4,rz,hF⟩:=VB.at H5.out.ra;obtain⟨v0,v1,v2,v3,v4,vz,hE⟩:=VB.at H5.out.rb
     go_wp2_with fail
     go_roundg (gk - 1)
     case measure=>omega
     case rel =>
      exact⟨hB++[J.mk hu hr hn ht hp],_,a2+1,k,true,H7,Ad,ra,fun hb=>by simp at hb,by omega,za (fun hb=>by simp at hb),za (fun _=>h1.out)⟩
end Go.Proofs.YtmgfncjfgkllcaaGreatDoor
