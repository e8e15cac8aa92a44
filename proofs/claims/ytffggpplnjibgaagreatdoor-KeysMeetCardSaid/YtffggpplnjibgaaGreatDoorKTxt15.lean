/-
 The reference's reader of texts: a value.
-/
import Derived.Test.YtffggpplnjibgaaGreatDoorKTxt14
open Go.Lib renaming hid→zi
open Go.World renaming size_alloc→zm
open Go renaming heap_alloc_new→zo
open Nat renaming le_refl→ja
namespace Go.Proofs.YtffggpplnjibgaaGreatDoor
set_option linter.unusedVariables false
set_option linter.unusedSimpArgs false
set_option linter.unusedSectionVars false
set_option maxRecDepth 100000
set_option maxHeartbeats 8000000
section
open Go.RowKit
variable [OldK]
attribute [local irreducible] wpStill
structure US (b:Nat) (L:Bs) (v:Value) (w:World) (c:Nat) (bd:Bool) (wr:World):Prop where
 tx:TX b L v c bd wr
 sb:SB (fun k=>k<w.heap.size) L v wr
 fr:Fr (MT b) w wr
 lt:b<w.heap.size
 old:OldK.k≤b
section
variable {b:Nat} {L:Bs} {v:Value} {w wr w1:World} {c c':Nat} {bd bd':Bool}
theorem US.start (h:TX b L v c bd w):US b L v w c bd w:=⟨h,h.2.1.below,Fr.refl,h.lt,h.1.2⟩
theorem US.call (h:US b L v w c bd wr)(hT:TX b L v c' bd' w1)(hF:Fr (MT b) wr w1):US b L v w c' bd' w1 :=
 ⟨hT,zqc h.sb h.old hF,h.fr.trans' hF,h.lt,h.old⟩
theorem US.callN (h:US b L v w c bd wr)(hF:Fr NoB wr w1):US b L v w c bd w1:=h.call (h.tx.frN hF) (hF.mono (fun _ _ h=>h.elim))
theorem US.set (h:US b L v w c bd wr){B:Nat}(hB:w.heap.size≤B)(v0 v1 v2 v3 v4:Value):US b L v w c bd (setV B v0 v1 v2 v3 v4 wr):=by
 obtain⟨g1,g2⟩:=h.tx.grow h.sb h.lt ((za1 B v0 v1 v2 v3 v4 wr).mono (M':=fun k _=>w.heap.size≤k) (fun k _ hm=>by omega));exact⟨g1,g2,h.fr.setV hB _ _ _ _ _,h.lt,h.old⟩
theorem zni {p:Bs}(h:if Lib.hasPrefix (L.drop c) p=true then TX b L v (c+p.length) false wr∧c+p.length≤L.length else TX b L v c true wr)(hc:c≤L.length) :
 ∃ c' bd',TX b L v c' bd' wr∧bd'=(zaa p ⟨L.drop c,false⟩).bad∧(bd'=false→L.drop c'=(zaa p ⟨L.drop c,false⟩).s∧c'≤L.length)∧c'≤L.length:=by
 unfold zaa;by_cases hp:Lib.hasPrefix (L.drop c) p=true
 ·rw[if_pos hp]at h;rw[if_pos hp];refine⟨_,_,h.1,rfl,fun _=>⟨?_,h.2⟩,h.2⟩;simp only[Lib.trimPrefix];rw[if_pos hp,List.drop_drop]
 rw[if_neg hp]at h;rw[if_neg hp];exact⟨_,_,h,rfl,fun h=>by simp at h,hc⟩
end
section
variable {val:St→J × St} {d:Int} {st:St}
theorem zvx:zcw val d 110 st=(J.zero,zaa zlg st):=by unfold zcw;rw[if_pos rfl]
theorem zvu:zcw val d 116 st=(.mk 1 1 [] [] [],zaa zlf st):=by unfold zcw;rw[if_neg (by decide),if_pos rfl]
theorem zvz:zcw val d 102 st=(.mk 1 0 [] [] [],zaa zg5 st):=by unfold zcw;rw[if_neg (by decide),if_neg (by decide),if_pos rfl]
theorem zvv:zcw val d 34 st=(.mk 3 0 (zbc st).1 [] [],(zbc st).2):=by unfold zcw;rw[if_neg (by decide),if_neg (by decide),if_neg (by decide),if_pos rfl]
theorem zvy:zcw val d 91 st=(.mk 4 0 [] (zaj (zbq val) 91 93 (d+1) st []).2 [],(zaj (zbq val) 91 93 (d+1) st []).1):=by
 unfold zcw;rw[if_neg (by decide),if_neg (by decide),if_neg (by decide),if_neg (by decide),if_pos rfl]
theorem zvw:zcw val d 123 st=(.mk 5 0 [] [] (zaj (za2 val) 123 125 (d+1) st []).2,(zaj (za2 val) 123 125 (d+1) st []).1):=by
 unfold zcw;rw[if_neg (by decide),if_neg (by decide),if_neg (by decide),if_neg (by decide),if_neg (by decide),if_pos rfl]
def zjb (val:St→J × St) (d:Int):Bs→J × St
 | []=>(J.zero,⟨[],true⟩)
 | c :: l=>zcw val d c ⟨c :: l,false⟩
theorem zqu {s:Bs} (h:¬ nxT s=110∧¬ nxT s=116∧¬ nxT s=102∧¬ nxT s=34∧¬ nxT s=91∧¬ nxT s=123) :
 zjb val d s=zwn s:=by
 obtain⟨h1,h2,h3,h4,h5,h6⟩:=h;cases s with
 | nil=>rfl
 | cons c l =>
   simp only[zjb]
   have hc:∀ x:UInt8,¬ nxT (c :: l)=(x.toNat:Int)→¬ c=x:=by
    rintro x hx rfl;exact hx rfl
   unfold zcw;rw[if_neg (hc 110 h1),if_neg (hc 116 h2),if_neg (hc 102 h3),if_neg (hc 34 h4),if_neg (hc 91 h5),if_neg (hc 123 h6)];unfold zcl zwn;simp only;by_cases hB:c=45
   ·rw[if_pos hB,if_pos (by rw[hB];rfl)];rfl
   rw[if_neg hB,if_neg (fun h=>hB (UInt8.toNat_inj.1 (by simp only[nxT]at h;show c.toNat=45;omega)))]
end
theorem ztb (b:Nat) (L:Bs) (v:Value) (hL:L.length≤4096):∀ f,zsw b L v f:=by
 intro f
 induction f with
 | zero=>intro d a w h ha h0 h1 h2;exfalso;simp at h2;omega
 | succ f ih =>
   intro d a w h ha hd0 hd8 hx;have hg:d+1+(f:Int)=10:=by simp at hx;omega
   have hr:=zha L a;have hh:=zea L a;have hi:=fun W hW=>zcb b L v a false W hW hL (by omega)
   obtain⟨p1,hk⟩:∃ p1,blk L a=p1:=⟨_,rfl⟩;rw[hk]at hr hh hi;have hV:p1≤L.length:=by omega
   have hn:=fun W hW=>zdx b L v p1 false W hW hL (by omega)
   have hG:jy (f+1) d ⟨L.drop a,false⟩=zjb (jy f (d+1)) d (L.drop p1):=by
    simp only[jy];rw[hh];cases jq (L.drop a)<;>simp[zjb]
   obtain⟨G,ht⟩:∃ G,jy (f+1) d ⟨L.drop a,false⟩=G:=⟨_,rfl⟩;rw[ht]at hG ⊢;have HG:=zi hG;have Hbl:=zi hi;have Hnx:=zi hn;have hI:=zi ((US.start h).callN ((Fr.refl (M:=NoB)).alloc (.cells #[.int .i64 0,.int .i64 0,.string ⟨#[]⟩,.slice none 0 0,.slice none 0 0] 65)));have hs:=zo w (.cells #[.int .i64 0,.int .i64 0,.string ⟨#[]⟩,.slice none 0 0,.slice none 0 0] 65);have hO:=zi hs;have wd:IntKind.i64.wrap (d+1)=d+1:=by rw[IntKind.wrap_i64];omega
   obtain⟨m,hm⟩:∃ m,nxT (L.drop p1)=m:=⟨_,rfl⟩;rw[hm]at Hnx;have HM:=zi hm;clear hG ht hi hn hs hm h hh hr hk;by_cases mx:m=110
   ·have Hw:=zi (fun W hW=>zk5 zlg b L v p1 false W hW hL (by omega) (by decide) (by decide));obtain⟨l,hl⟩:=zdp (x:=110) (by decide) (HM.out.trans mx);have hG:=HG.out;rw[hl]at hG;simp only[zjb,zvx]at hG;rw[← hl]at hG;subst hG;have qx:(m==110)=true:=by rw[beq_iff_eq];exact mx
    clear HG HM mx;clear ih hl;go_enter Tryz.func131,Tryz.ntmps131
    go_wp2_with fail
    refine(Hbl.out _ hI.out.tx).mono ?_;rintro e w2 ⟨rfl,h2,hD⟩;have hH:=zi (hI.out.call h2 hD);have hN:=zi (hD.block _ _ hO.out zae);clear h2 hD
    go_wp2_with fail
    refine(Hnx.out _ hH.out.tx).mono ?_;rintro e w3 ⟨rfl,h3,hC⟩;have hE:=zi ((hH.out.call h3 (hC.mono (fun _ _ h=>h.elim))).callN ((Fr.refl (M:=NoB)).alloc (.cells #[.int .i64 0,.int .i64 0,.string ⟨#[]⟩,.slice none 0 0,.slice none 0 0] 65)));have hB:=hC.block _ _ hN.out (fun h=>h);have he:w.heap.size<w3.heap.size:=ju hB;have hM:=zi (zaf (.cells #[.int .i64 0,.int .i64 0,.string ⟨#[]⟩,.slice none 0 0,.slice none 0 0] 65) hB);have hJ:=zi (zo w3 (.cells #[.int .i64 0,.int .i64 0,.string ⟨#[]⟩,.slice none 0 0,.slice none 0 0] 65));clear h3 hC hI hO hH hN Hbl Hnx hB
    go_wp2_with fail
    refine(Hw.out _ hE.out.tx).mono ?_;rintro e w5 ⟨rfl,hT,hF⟩;obtain⟨c',hu,hY,hb,hp,hc⟩:=zni hT hV;have hS:=zi hY;have Hp:=zi hp;have Hb:=zi hb;have HF:=zi hF;clear hT hF hY hp hb;have hR:=zi (hE.out.call hS.out HF.out);have hU:=zi ((HF.out).block _ _ hM.out zae);have hP:=zi ((HF.out).block _ _ hJ.out zae);have hf:=zi (Fr.size HF.out);clear hE hM hJ;obtain⟨r0,r1,r2,r3,r4,rz,hd⟩:=VB.at hU.out;obtain⟨v0,v1,v2,v3,v4,vz,hZ⟩:=VB.at hP.out
    go_wp2_with fail
    refine bodyPost_ret (v := .agg #[.int .i64 0,.int .i64 0,.string ⟨#[]⟩,.slice none 0 0,.slice none 0 0]) (by simp[results,Tryz.results131,go_sem,r0,r1,r2,r3,r4]) rfl ?_;have h6:=hR.out.set (ja _) (.int .i64 0) (.int .i64 0) (.string ⟨#[]⟩) (.slice none 0 0) (.slice none 0 0);exact⟨J.zero,_,rfl,RJ.zero _ _,fun _=>rfl,⟨c',by rw[← Hb.out];exact h6.tx,fun h=>Hp.out (by rw[Hb.out];exact h),by omega⟩,h6.fr⟩
   have m1:(m==110)=false:=by rw[beq_eq_false_iff_ne];exact mx
   have n1:=mx;clear mx;by_cases mx:m=116
   ·have Hw:=zi (fun W hW=>zk5 zlf b L v p1 false W hW hL (by omega) (by decide) (by decide));obtain⟨l,hl⟩:=zdp (x:=116) (by decide) (HM.out.trans mx);have hG:=HG.out;rw[hl]at hG;simp only[zjb,zvu]at hG;rw[← hl]at hG;subst hG;have qx:(m==116)=true:=by rw[beq_iff_eq];exact mx
    clear HG HM mx;clear ih n1 hl;go_enter Tryz.func131,Tryz.ntmps131
    go_wp2_with fail
    refine(Hbl.out _ hI.out.tx).mono ?_;rintro e w2 ⟨rfl,h2,hD⟩;have hH:=zi (hI.out.call h2 hD);have hN:=zi (hD.block _ _ hO.out zae);clear h2 hD
    go_wp2_with fail
    refine(Hnx.out _ hH.out.tx).mono ?_;rintro e w3 ⟨rfl,h3,hC⟩;have hE:=zi ((hH.out.call h3 (hC.mono (fun _ _ h=>h.elim))).callN ((Fr.refl (M:=NoB)).alloc (.cells #[.int .i64 0,.int .i64 0,.string ⟨#[]⟩,.slice none 0 0,.slice none 0 0] 65)));have hB:=hC.block _ _ hN.out (fun h=>h);have he:w.heap.size<w3.heap.size:=ju hB;have hM:=zi (zaf (.cells #[.int .i64 0,.int .i64 0,.string ⟨#[]⟩,.slice none 0 0,.slice none 0 0] 65) hB);have hJ:=zi (zo w3 (.cells #[.int .i64 0,.int .i64 0,.string ⟨#[]⟩,.slice none 0 0,.slice none 0 0] 65));clear h3 hC hI hO hH hN Hbl Hnx hB
    go_wp2_with fail
    refine(Hw.out _ hE.out.tx).mono ?_;rintro e w5 ⟨rfl,hT,hF⟩;obtain⟨c',hu,hY,hb,hp,hc⟩:=zni hT hV;have hS:=zi hY;have Hp:=zi hp;have Hb:=zi hb;have HF:=zi hF;clear hT hF hY hp hb;have hR:=zi (hE.out.call hS.out HF.out);have hU:=zi ((HF.out).block _ _ hM.out zae);have hP:=zi ((HF.out).block _ _ hJ.out zae);have hf:=zi (Fr.size HF.out);clear hE hM hJ;obtain⟨r0,r1,r2,r3,r4,rz,hd⟩:=VB.at hU.out;obtain⟨v0,v1,v2,v3,v4,vz,hZ⟩:=VB.at hP.out
    go_wp2_with fail
    refine bodyPost_ret (v := .agg #[.int .i64 1,.int .i64 1,.string ⟨#[]⟩,.slice none 0 0,.slice none 0 0]) (by simp[results,Tryz.results131,go_sem,r0,r1,r2,r3,r4]) rfl ?_;have h6:=(hR.out.set (B:=w3.heap.size) (by omega) (.int .i64 1) (.int .i64 1) (.string ⟨#[]⟩) (.slice none 0 0) (.slice none 0 0)).set (ja _) (.int .i64 1) (.int .i64 1) (.string ⟨#[]⟩) (.slice none 0 0) (.slice none 0 0);exact⟨.mk 1 1 [] [] [],_,rfl,RJ.flat _ _ 1 1 [],fun _=>rfl,⟨c',by rw[← Hb.out];exact h6.tx,fun h=>Hp.out (by rw[Hb.out];exact h),by omega⟩,h6.fr⟩
   have m2:(m==116)=false:=by rw[beq_eq_false_iff_ne];exact mx
   have n2:=mx;clear mx;by_cases mx:m=102
   ·have Hw:=zi (fun W hW=>zk5 zg5 b L v p1 false W hW hL (by omega) (by decide) (by decide));obtain⟨l,hl⟩:=zdp (x:=102) (by decide) (HM.out.trans mx);have hG:=HG.out;rw[hl]at hG;simp only[zjb,zvz]at hG;rw[← hl]at hG;subst hG;have qx:(m==102)=true:=by rw[beq_iff_eq];exact mx
    clear HG HM mx;clear ih n1 n2 hl;go_enter Tryz.func131,Tryz.ntmps131
    go_wp2_with fail
    refine(Hbl.out _ hI.out.tx).mono ?_;rintro e w2 ⟨rfl,h2,hD⟩;have hH:=zi (hI.out.call h2 hD);have hN:=zi (hD.block _ _ hO.out zae);clear h2 hD
    go_wp2_with fail
    refine(Hnx.out _ hH.out.tx).mono ?_;rintro e w3 ⟨rfl,h3,hC⟩;have hE:=zi ((hH.out.call h3 (hC.mono (fun _ _ h=>h.elim))).callN ((Fr.refl (M:=NoB)).alloc (.cells #[.int .i64 0,.int .i64 0,.string ⟨#[]⟩,.slice none 0 0,.slice none 0 0] 65)));have hB:=hC.block _ _ hN.out (fun h=>h);have he:w.heap.size<w3.heap.size:=ju hB;have hM:=zi (zaf (.cells #[.int .i64 0,.int .i64 0,.string ⟨#[]⟩,.slice none 0 0,.slice none 0 0] 65) hB);have hJ:=zi (zo w3 (.cells #[.int .i64 0,.int .i64 0,.string ⟨#[]⟩,.slice none 0 0,.slice none 0 0] 65));clear h3 hC hI hO hH hN Hbl Hnx hB
    go_wp2_with fail
    refine(Hw.out _ hE.out.tx).mono ?_;rintro e w5 ⟨rfl,hT,hF⟩;obtain⟨c',hu,hY,hb,hp,hc⟩:=zni hT hV;have hS:=zi hY;have Hp:=zi hp;have Hb:=zi hb;have HF:=zi hF;clear hT hF hY hp hb;have hR:=zi (hE.out.call hS.out HF.out);have hU:=zi ((HF.out).block _ _ hM.out zae);have hP:=zi ((HF.out).block _ _ hJ.out zae);have hf:=zi (Fr.size HF.out);clear hE hM hJ;obtain⟨r0,r1,r2,r3,r4,rz,hd⟩:=VB.at hU.out;obtain⟨v0,v1,v2,v3,v4,vz,hZ⟩:=VB.at hP.out
    go_wp2_with fail
    refine bodyPost_ret (v := .agg #[.int .i64 1,.int .i64 0,.string ⟨#[]⟩,.slice none 0 0,.slice none 0 0]) (by simp[results,Tryz.results131,go_sem,r0,r1,r2,r3,r4]) rfl ?_;have h6:=(hR.out.set (B:=w3.heap.size) (by omega) (.int .i64 1) (.int .i64 0) (.string ⟨#[]⟩) (.slice none 0 0) (.slice none 0 0)).set (ja _) (.int .i64 1) (.int .i64 0) (.string ⟨#[]⟩) (.slice none 0 0) (.slice none 0 0);exact⟨.mk 1 0 [] [] [],_,rfl,RJ.flat _ _ 1 0 [],fun _=>rfl,⟨c',by rw[← Hb.out];exact h6.tx,fun h=>Hp.out (by rw[Hb.out];exact h),by omega⟩,h6.fr⟩
   have m3:(m==102)=false:=by rw[beq_eq_false_iff_ne];exact mx
   have n3:=mx;clear mx;by_cases mx:m=34
   ·have hw:=fun W hW=>zk6 b L v p1 W hW hL hV
    obtain⟨l,hl⟩:=zdp (x:=34) (by decide) (HM.out.trans mx);have hG:=HG.out;rw[hl]at hG;simp only[zjb,zvv]at hG;rw[← hl]at hG;subst hG;have qx:(m==34)=true:=by rw[beq_iff_eq];exact mx
    clear HG HM mx;clear ih n1 n2 n3 hl;obtain⟨⟨tx,st⟩,hQ⟩:∃ Q,zbc ⟨L.drop p1,false⟩=Q:=⟨_,rfl⟩;simp only[hQ]at hw ⊢;have Hw:=zi hw;clear hw hQ;go_enter Tryz.func131,Tryz.ntmps131
    go_wp2_with fail
    refine(Hbl.out _ hI.out.tx).mono ?_;rintro e w2 ⟨rfl,h2,hD⟩;have hH:=zi (hI.out.call h2 hD);have hN:=zi (hD.block _ _ hO.out zae);clear h2 hD
    go_wp2_with fail
    refine(Hnx.out _ hH.out.tx).mono ?_;rintro e w3 ⟨rfl,h3,hC⟩;have hE:=zi ((hH.out.call h3 (hC.mono (fun _ _ h=>h.elim))).callN ((Fr.refl (M:=NoB)).alloc (.cells #[.int .i64 0,.int .i64 0,.string ⟨#[]⟩,.slice none 0 0,.slice none 0 0] 65)));have hB:=hC.block _ _ hN.out (fun h=>h);have he:w.heap.size<w3.heap.size:=ju hB;have hM:=zi (zaf (.cells #[.int .i64 0,.int .i64 0,.string ⟨#[]⟩,.slice none 0 0,.slice none 0 0] 65) hB);have hJ:=zi (zo w3 (.cells #[.int .i64 0,.int .i64 0,.string ⟨#[]⟩,.slice none 0 0,.slice none 0 0] 65));clear h3 hC hI hO hH hN Hbl Hnx hB
    go_wp2_with fail
    refine(Hw.out _ hE.out.tx).mono ?_;rintro e w5 ⟨rfl,⟨c',hT,hp,hK⟩,hF⟩;have hS:=zi hT;have Hp:=zi hp;have HF:=zi hF;clear hT hF hp Hw;have hR:=zi (hE.out.call hS.out HF.out);have hU:=zi ((HF.out).block _ _ hM.out zae);have hP:=zi ((HF.out).block _ _ hJ.out zae);have hf:=zi (Fr.size HF.out);clear hE hM hJ;obtain⟨r0,r1,r2,r3,r4,rz,hd⟩:=VB.at hU.out;obtain⟨v0,v1,v2,v3,v4,vz,hZ⟩:=VB.at hP.out
    go_wp2_with fail
    refine bodyPost_ret (v := .agg #[.int .i64 3,.int .i64 0,.string ⟨tx.toArray⟩,.slice none 0 0,.slice none 0 0]) (by simp[results,Tryz.results131,go_sem,r0,r1,r2,r3,r4]) rfl ?_;have h6:=(hR.out.set (B:=w3.heap.size) (by omega) (.int .i64 3) (.int .i64 0) (.string ⟨tx.toArray⟩) (.slice none 0 0) (.slice none 0 0)).set (ja _) (.int .i64 3) (.int .i64 0) (.string ⟨tx.toArray⟩) (.slice none 0 0) (.slice none 0 0);exact⟨.mk 3 0 tx [] [],_,rfl,RJ.flat _ _ 3 0 tx,fun _=>rfl,⟨c',h6.tx,Hp.out,by omega⟩,h6.fr⟩
   have m4:(m==34)=false:=by rw[beq_eq_false_iff_ne];exact mx
   have n4:=mx;clear mx;by_cases mx:m=91
   ·obtain⟨l,hl⟩:=zdp (x:=91) (by decide) (HM.out.trans mx);have hG:=HG.out;rw[hl]at hG;simp only[zjb,zvy]at hG;rw[← hl]at hG;subst hG;have qx:(m==91)=true:=by rw[beq_iff_eq];exact mx
    clear HG HM mx;have hw:=fun W hW=>zvq f b L v ih hL (d+1) (by omega) hg p1 W hW l hl
    rw[hl];clear ih n1 n2 n3 n4 hl;generalize zaj (zbq (jy f (d+1))) 91 93 (d+1) ⟨91 :: l,false⟩ []=E at *;have Hw:=zi hw;clear hw;go_enter Tryz.func131,Tryz.ntmps131
    go_wp2_with fail
    refine(Hbl.out _ hI.out.tx).mono ?_;rintro e w2 ⟨rfl,h2,hD⟩;have hH:=zi (hI.out.call h2 hD);have hN:=zi (hD.block _ _ hO.out zae);clear h2 hD
    go_wp2_with fail
    refine(Hnx.out _ hH.out.tx).mono ?_;rintro e w3 ⟨rfl,h3,hC⟩;have hE:=zi ((hH.out.call h3 (hC.mono (fun _ _ h=>h.elim))).callN ((Fr.refl (M:=NoB)).alloc (.cells #[.int .i64 0,.int .i64 0,.string ⟨#[]⟩,.slice none 0 0,.slice none 0 0] 65)));have hB:=hC.block _ _ hN.out (fun h=>h);have he:w.heap.size<w3.heap.size:=ju hB;have hM:=zi (zaf (.cells #[.int .i64 0,.int .i64 0,.string ⟨#[]⟩,.slice none 0 0,.slice none 0 0] 65) hB);have hJ:=zi (zo w3 (.cells #[.int .i64 0,.int .i64 0,.string ⟨#[]⟩,.slice none 0 0,.slice none 0 0] 65));clear h3 hC hI hO hH hN Hbl Hnx hB
    go_wp2_with fail
    refine(Hw.out _ hE.out.tx).mono ?_;rintro e w5 ⟨⟨jk,jn,jt,jl,jp⟩,x,rfl,hj,hX,⟨c',hT,hp,hK⟩,hF⟩;obtain⟨y1,n1,y2,n2,rfl,_,_⟩:=hj.open;have hS:=zi hT;have Hp:=zi hp;have HF:=zi hF;have Hj:=zi hj;have Hjs:=zi hX;clear hT hF hp hj hX Hw;have hR:=zi (hE.out.call hS.out HF.out);have hU:=zi ((HF.out).block _ _ hM.out zae);have hP:=zi ((HF.out).block _ _ hJ.out zae);have hf:=zi (Fr.size HF.out);clear hE hM hJ;obtain⟨r0,r1,r2,r3,r4,rz,hd⟩:=VB.at hU.out;obtain⟨v0,v1,v2,v3,v4,vz,hZ⟩:=VB.at hP.out
    go_wp2_with fail
    refine bodyPost_ret (v := .agg #[.int .i64 jk,.int .i64 jn,.string ⟨jt.toArray⟩,.slice y1 jl.length n1,.slice y2 jp.length n2]) (by simp[results,Tryz.results131,go_sem,r0,r1,r2,r3,r4]) rfl ?_;have h6:=(hR.out.set (B:=w3.heap.size) (by omega) (.int .i64 jk) (.int .i64 jn) (.string ⟨jt.toArray⟩) (.slice y1 jl.length n1) (.slice y2 jp.length n2)).set (ja _) (.int .i64 jk) (.int .i64 jn) (.string ⟨jt.toArray⟩) (.slice y1 jl.length n1) (.slice y2 jp.length n2);have hv:(w3.alloc (.cells #[.int .i64 0,.int .i64 0,.string ⟨#[]⟩,.slice none 0 0,.slice none 0 0] 65)).heap.size=w3.heap.size+1:=zm _ _;exact⟨J.mk jk jn jt jl jp,_,rfl,RJ.kp (fun q o hq ho _=>⟨by omega,(za1 _ _ _ _ _ _ _).block q o ((za1 _ _ _ _ _ _ _).block q o ho (by omega)) (by omega)⟩) _ _ Hj.out,Hjs.out,⟨c',h6.tx,Hp.out,by omega⟩,h6.fr⟩
   have m5:(m==91)=false:=by rw[beq_eq_false_iff_ne];exact mx
   have n5:=mx;clear mx;by_cases mx:m=123
   ·obtain⟨l,hl⟩:=zdp (x:=123) (by decide) (HM.out.trans mx);have hG:=HG.out;rw[hl]at hG;simp only[zjb,zvw]at hG;rw[← hl]at hG;subst hG;have qx:(m==123)=true:=by rw[beq_iff_eq];exact mx
    clear HG HM mx;have hw:=fun W hW=>zqn f b L v ih hL (d+1) (by omega) hg p1 W hW l hl
    rw[hl];clear ih n1 n2 n3 n4 n5 hl;generalize zaj (za2 (jy f (d+1))) 123 125 (d+1) ⟨123 :: l,false⟩ []=E at *;have Hw:=zi hw;clear hw;go_enter Tryz.func131,Tryz.ntmps131
    go_wp2_with fail
    refine(Hbl.out _ hI.out.tx).mono ?_;rintro e w2 ⟨rfl,h2,hD⟩;have hH:=zi (hI.out.call h2 hD);have hN:=zi (hD.block _ _ hO.out zae);clear h2 hD
    go_wp2_with fail
    refine(Hnx.out _ hH.out.tx).mono ?_;rintro e w3 ⟨rfl,h3,hC⟩;have hE:=zi ((hH.out.call h3 (hC.mono (fun _ _ h=>h.elim))).callN ((Fr.refl (M:=NoB)).alloc (.cells #[.int .i64 0,.int .i64 0,.string ⟨#[]⟩,.slice none 0 0,.slice none 0 0] 65)));have hB:=hC.block _ _ hN.out (fun h=>h);have he:w.heap.size<w3.heap.size:=ju hB;have hM:=zi (zaf (.cells #[.int .i64 0,.int .i64 0,.string ⟨#[]⟩,.slice none 0 0,.slice none 0 0] 65) hB);have hJ:=zi (zo w3 (.cells #[.int .i64 0,.int .i64 0,.string ⟨#[]⟩,.slice none 0 0,.slice none 0 0] 65));clear h3 hC hI hO hH hN Hbl Hnx hB
    go_wp2_with fail
    refine(Hw.out _ hE.out.tx).mono ?_;rintro e w5 ⟨⟨jk,jn,jt,jl,jp⟩,x,rfl,hj,hX,⟨c',hT,hp,hK⟩,hF⟩;obtain⟨y1,n1,y2,n2,rfl,_,_⟩:=hj.open;have hS:=zi hT;have Hp:=zi hp;have HF:=zi hF;have Hj:=zi hj;have Hjs:=zi hX;clear hT hF hp hj hX Hw;have hR:=zi (hE.out.call hS.out HF.out);have hU:=zi ((HF.out).block _ _ hM.out zae);have hP:=zi ((HF.out).block _ _ hJ.out zae);have hf:=zi (Fr.size HF.out);clear hE hM hJ;obtain⟨r0,r1,r2,r3,r4,rz,hd⟩:=VB.at hU.out;obtain⟨v0,v1,v2,v3,v4,vz,hZ⟩:=VB.at hP.out
    go_wp2_with fail
    refine bodyPost_ret (v := .agg #[.int .i64 jk,.int .i64 jn,.string ⟨jt.toArray⟩,.slice y1 jl.length n1,.slice y2 jp.length n2]) (by simp[results,Tryz.results131,go_sem,r0,r1,r2,r3,r4]) rfl ?_;have h6:=(hR.out.set (B:=w3.heap.size) (by omega) (.int .i64 jk) (.int .i64 jn) (.string ⟨jt.toArray⟩) (.slice y1 jl.length n1) (.slice y2 jp.length n2)).set (ja _) (.int .i64 jk) (.int .i64 jn) (.string ⟨jt.toArray⟩) (.slice y1 jl.length n1) (.slice y2 jp.length n2);have hv:(w3.alloc (.cells #[.int .i64 0,.int .i64 0,.string ⟨#[]⟩,.slice none 0 0,.slice none 0 0] 65)).heap.size=w3.heap.size+1:=zm _ _;exact⟨J.mk jk jn jt jl jp,_,rfl,RJ.kp (fun q o hq ho _=>⟨by omega,(za1 _ _ _ _ _ _ _).block q o ((za1 _ _ _ _ _ _ _).block q o ho (by omega)) (by omega)⟩) _ _ Hj.out,Hjs.out,⟨c',h6.tx,Hp.out,by omega⟩,h6.fr⟩
   have m6:(m==123)=false:=by rw[beq_eq_false_iff_ne];exact mx
   have hG:=HG.out;rw[zqu (by rw[HM.out];exact⟨n1,n2,n3,n4,n5,mx⟩)]at hG;subst hG;have hw:=fun W hW=>zqo b L v p1 W hW hL hV
   generalize zwn (L.drop p1)=E at *;have Hw:=zi hw;clear ih n1 n2 n3 n4 n5 mx HG HM hw;go_enter Tryz.func131,Tryz.ntmps131
   go_wp2_with fail
   refine(Hbl.out _ hI.out.tx).mono ?_;rintro e w2 ⟨rfl,h2,hD⟩;have hH:=zi (hI.out.call h2 hD);have hN:=zi (hD.block _ _ hO.out zae);clear h2 hD
   go_wp2_with fail
   refine(Hnx.out _ hH.out.tx).mono ?_;rintro e w3 ⟨rfl,h3,hC⟩;have hE:=zi ((hH.out.call h3 (hC.mono (fun _ _ h=>h.elim))).callN ((Fr.refl (M:=NoB)).alloc (.cells #[.int .i64 0,.int .i64 0,.string ⟨#[]⟩,.slice none 0 0,.slice none 0 0] 65)));have hB:=hC.block _ _ hN.out (fun h=>h);have he:w.heap.size<w3.heap.size:=ju hB;have hM:=zi (zaf (.cells #[.int .i64 0,.int .i64 0,.string ⟨#[]⟩,.slice none 0 0,.slice none 0 0] 65) hB);have hJ:=zi (zo w3 (.cells #[.int .i64 0,.int .i64 0,.string ⟨#[]⟩,.slice none 0 0,.slice none 0 0] 65));clear h3 hC hI hO hH hN Hbl Hnx hB
   go_wp2_with fail
   refine(Hw.out _ hE.out.tx).mono ?_;rintro e w5 ⟨x,rfl,⟨hX,⟨c',hT,hp,hK⟩⟩,hF⟩;have hS:=zi hT;have Hp:=zi hp;have HF:=zi hF;have Hjs:=zi hX;clear hT hF hp hX Hw;have hR:=zi (hE.out.call hS.out HF.out);have hU:=zi ((HF.out).block _ _ hM.out zae);have hP:=zi ((HF.out).block _ _ hJ.out zae);have hf:=zi (Fr.size HF.out);clear hE hM hJ;obtain⟨r0,r1,r2,r3,r4,rz,hd⟩:=VB.at hU.out;obtain⟨v0,v1,v2,v3,v4,vz,hZ⟩:=VB.at hP.out
   go_wp2_with fail
   refine bodyPost_ret (v := .agg #[.int .i64 2,.int .i64 x,.string ⟨#[]⟩,.slice none 0 0,.slice none 0 0]) (by simp[results,Tryz.results131,go_sem,r0,r1,r2,r3,r4]) rfl ?_;have h6:=(hR.out.set (B:=w3.heap.size) (by omega) (.int .i64 2) (.int .i64 x) (.string ⟨#[]⟩) (.slice none 0 0) (.slice none 0 0)).set (ja _) (.int .i64 2) (.int .i64 x) (.string ⟨#[]⟩) (.slice none 0 0) (.slice none 0 0);exact⟨.mk 2 x [] [] [],_,rfl,RJ.flat _ _ 2 x [],fun h=>(Hjs.out h).symm,⟨c',h6.tx,Hp.out,by omega⟩,h6.fr⟩
end
section
open Go.RowKit
variable [OldK]
attribute [local irreducible] wpStill
theorem znb {l:Bs} {a':Nat} {st:St} {j:J} (hl:¬ 4096<l.length) (hV:jy 10 0 ⟨l,false⟩=(j,st)) (hp:st.bad=false→l.drop a'=st.s∧a'≤l.length) :
 (st.bad=true→za3 l=(J.zero,1))∧(st.bad=false→(blk l a'=l.length→za3 l=(j,0))∧(¬ blk l a'=l.length→za3 l=(J.zero,1))):=by
 have hd:=zea l a';have hb:=zha l a';unfold za3 zjo;rw[if_neg hl,hV];simp only;refine⟨fun h=>by rw[if_pos (.inl h)],fun h=>⟨fun h2=>?_,fun h2=>?_⟩⟩
 ·rw[h2,List.drop_length,(hp h).1]at hd;rw[if_neg];rintro(h3 | h3)
  ·rw[h]at h3;simp at h3
  exact h3 hd.symm
 rw[(hp h).1]at hd;have h3:=(hp h).2;rw[if_pos];right;rw[← hd];intro h4;have:=List.drop_eq_nil_iff.1 h4;omega
theorem zyg {b:Nat}{w w':World}(h:Fr (MT b) w w')(hb:w.heap.size≤b):Fr NoB w w' :=
 (Fr.refl (M:=NoB)).trans h (fun k _ hm => .inr (by rw[hm.1];exact hb))
theorem zpp (S:Nat→Prop) (l:Bs) (v:Value) (w:World) (hv:SB S l v w) (hg:Gl w) (hlen:l.length≤maxLen) :
 Calls Tryz.prog 76 #[v] w fun e w'=>∃ x,e = .returned (.tuple #[x,.int .i64 (za3 l).2])∧RJ (fun k=>w.heap.size≤k) w' (za3 l).1 x∧Fr NoB w w':=by
 obtain⟨q,hH,rfl⟩:=hv.form;have hgs:=hg.size;by_cases hl:4096<l.length
 ·have hG:za3 l=(J.zero,10):=by unfold za3;rw[if_pos hl]
  rw[hG];unfold maxLen at hlen;clear hG hv;obtain⟨a0,a1,a2,a3,a4,fz,hL⟩:=VB.at (zo w (.cells #[.int .i64 0,.int .i64 0,.string ⟨#[]⟩,.slice none 0 0,.slice none 0 0] 65));go_enter Tryz.func76,Tryz.ntmps76
  go_wp2_with fail
  refine bodyPost_ret (v := .tuple #[.agg #[.int .i64 0,.int .i64 0,.string ⟨#[]⟩,.slice none 0 0,.slice none 0 0],.int .i64 10]) (by simp[results,Tryz.results76,go_sem,a0,a1,a2,a3,a4]) rfl ?_;exact⟨_,rfl,RJ.zero _ _,Fr.refl.alloc _⟩
 have hl2:decide ((4096:Int)<(l.length:Int))=false:=by rw[decide_eq_false_iff_not];omega
 obtain⟨hA,hB⟩:=zqm w (.cells #[.int .i64 0,.int .i64 0,.string ⟨#[]⟩,.slice none 0 0,.slice none 0 0] 65) (.cells #[.slice q l.length hH,.int .i64 0,.bool false] 183);have hO:Fr NoB w ((w.alloc (.cells #[.int .i64 0,.int .i64 0,.string ⟨#[]⟩,.slice none 0 0,.slice none 0 0] 65)).alloc (.cells #[.slice q l.length hH,.int .i64 0,.bool false] 183)):=(Fr.refl.alloc _).alloc _;have hT:TX (w.heap.size+1) l (.slice q l.length hH) 0 false _:=⟨⟨by omega,by have:=hg.old;omega⟩,(hv.fr hO (fun _ _ _ _ h=>h)).kp (fun k o _ hk _=>⟨trivial,hk⟩),hB⟩;have hC:=ztb (w.heap.size+1) l (.slice q l.length hH) (by omega) 10 0 0 _ hT (Nat.zero_le _) (by omega) (by omega) (by decide);simp only[List.drop_zero]at hC;obtain⟨⟨j,st⟩,hV⟩:∃ V,jy 10 0 ⟨l,false⟩=V:=⟨_,rfl⟩;rw[hV]at hC;have hM:=fun a' hp=>znb (a':=a') hl hV hp
 obtain⟨G,hG⟩:∃ G,za3 l=G:=⟨_,rfl⟩;rw[hG]at hM ⊢;have Hcs:=zi hM;have Hval:=zi hC;have HA:=zi hA;have hZ:=zi hO;have hd:l.length≤4096:=by omega
 clear hA hB hO hT hC hV hM hG hv hl;go_enter Tryz.func76,Tryz.ntmps76
 go_wp2_with fail
 refine Hval.out.mono ?_;rintro e w3 ⟨⟨jk,jn,jt,jl,jp⟩,x,rfl,hj,hS,⟨a',hW,hp,hK⟩,hJ⟩;obtain⟨y1,n1,y2,n2,rfl,_,_⟩:=hj.open;have hf:a'≤900000:=by simp at hK;omega
 obtain⟨f1,f2⟩:=Hcs.out a' hp;have he:=zha l a';have hN:=zcb (w.heap.size+1) l (.slice q l.length hH) a' st.bad _ (hW.frN ((Fr.refl (M:=NoB)).alloc (.cells #[.int .i64 jk,.int .i64 jn,.string ⟨jt.toArray⟩,.slice y1 jl.length n1,.slice y2 jp.length n2] 65))) hd hf;obtain⟨p,hR⟩:∃ p,blk l a'=p:=⟨_,rfl⟩;rw[hR]at f2 hN;have Hbl:=zi hN;have hQ:=zi f1;have hD:=zi f2;have ha:=zi (zaf (.cells #[.int .i64 jk,.int .i64 jn,.string ⟨jt.toArray⟩,.slice y1 jl.length n1,.slice y2 jp.length n2] 65) (hJ.block _ _ HA.out zae));have hX:=zi (zo w3 (.cells #[.int .i64 jk,.int .i64 jn,.string ⟨jt.toArray⟩,.slice y1 jl.length n1,.slice y2 jp.length n2] 65));have hc:=hJ.size;simp only[zm]at hc;have hY:=zi (((hZ.out.mono (M':=MT (w.heap.size+1)) (fun _ _ h=>h.elim)).trans' hJ).alloc (.cells #[.int .i64 jk,.int .i64 jn,.string ⟨jt.toArray⟩,.slice y1 jl.length n1,.slice y2 jp.length n2] 65));have Hj:=zi hj;have Hjs:=zi hS;clear hj hS hW hp hJ hN f1 f2 hR HA Hval hZ he hK
 go_wp2_with fail
 refine Hbl.out.mono ?_;rintro e w5 ⟨rfl,hU,hF⟩;obtain⟨c0,c1,c2,fz,hL⟩:=hU.cells;obtain⟨r0,r1,r2,r3,r4,rz,rlt⟩:=VB.at (hF.block _ _ ha.out zae);obtain⟨v0,v1,v2,v3,v4,vz,vlt⟩:=VB.at (hF.block _ _ hX.out zae);have hP:=zi (zyg (hY.out.trans' hF) (by omega));have hE:=fun(v0 v1 v2 v3 v4:Value)=>RJ.kp (S':=fun k=>w.heap.size≤k) (w':=setV w.heap.size v0 v1 v2 v3 v4 w5) (fun q o hq ho _=>⟨by simp only[zm]at hq;omega,(za1 _ _ _ _ _ _ _).block q o (hF.block q o (zaf _ ho) (fun hm=>by have:=hm.1;simp only[zm]at hq;omega)) (by simp only[zm]at hq;omega)⟩) _ _ Hj.out
 have Hfin:=zi hE;clear hF hU hE Hj hX ha hY Hbl;cases hb:st.bad with
 | true =>
   have hG:=hQ.out hb;subst hG;rw[hb]at c2;clear hQ hD hb Hjs Hcs
   go_wp2_with fail
   refine bodyPost_ret (v := .tuple #[.agg #[.int .i64 0,.int .i64 0,.string ⟨#[]⟩,.slice none 0 0,.slice none 0 0],.int .i64 1]) (by simp[results,Tryz.results76,go_sem,r0,r1,r2,r3,r4]) rfl ?_;exact⟨_,rfl,RJ.zero _ _,hP.out.setV (ja _) _ _ _ _ _⟩
 | false =>
   obtain⟨g1,g2⟩:=hD.out hb;have hj:=Hjs.out hb;rw[hb]at c2;clear hQ hD hb Hcs Hjs;by_cases hI:p=l.length
   ·have hG:=g1 hI;subst hG;subst hj;rw[hI]at c1;clear g1 g2 hI
    go_wp2_with fail
    refine bodyPost_ret (v := .tuple #[.agg #[.int .i64 jk,.int .i64 jn,.string ⟨jt.toArray⟩,.slice y1 jl.length n1,.slice y2 jp.length n2],.int .i64 0]) (by simp[results,Tryz.results76,go_sem,r0,r1,r2,r3,r4]) rfl ?_;exact⟨_,rfl,Hfin.out _ _ _ _ _,hP.out.setV (ja _) _ _ _ _ _⟩
   have hG:=g2 hI;subst hG;have q1:((p:Int)==(l.length:Int))=false:=by rw[beq_eq_false_iff_ne];omega
   have q2:(p==l.length)=false:=by rw[beq_eq_false_iff_ne];omega
   have q3:(p != l.length)=true:=by rw[bne,q2];rfl
   have q4:((p:Int) != (l.length:Int))=true:=by rw[bne,q1];rfl
   clear g1 g2
   go_wp2_with fail
   refine bodyPost_ret (v := .tuple #[.agg #[.int .i64 0,.int .i64 0,.string ⟨#[]⟩,.slice none 0 0,.slice none 0 0],.int .i64 1]) (by simp[results,Tryz.results76,go_sem,r0,r1,r2,r3,r4]) rfl ?_;exact⟨_,rfl,RJ.zero _ _,hP.out.setV (ja _) _ _ _ _ _⟩
end
end Go.Proofs.YtffggpplnjibgaaGreatDoor
