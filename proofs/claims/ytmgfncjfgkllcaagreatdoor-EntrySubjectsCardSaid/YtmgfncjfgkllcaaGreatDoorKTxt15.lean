/-
 The reference's reader of texts: a value.
-/
import Derived.Test.YtmgfncjfgkllcaaGreatDoorKTxt14
open Go.Lib renaming hid→za
open Go.World renaming size_alloc→zf
open Go renaming heap_alloc_new→zh
open Nat renaming le_refl→zt
namespace Go.Proofs.YtmgfncjfgkllcaaGreatDoor
set_option linter.unusedVariables false
set_option linter.unusedSimpArgs false
set_option linter.unusedSectionVars false
set_option maxRecDepth 100000
set_option maxHeartbeats 8000000
section
open Go.RowKit
variable [OldK]
attribute [local irreducible] wpStill
structure US (b:Nat) (L:Bs) (v:Value) (w:World) (c:Nat) (bd:Bool) (wr:World):Prop where
 tx:TX b L v c bd wr
 sb:SB (fun k=>k<w.heap.size) L v wr
 fr:Fr (MT b) w wr
 lt:b<w.heap.size
 old:OldK.k≤b
section
variable {b:Nat} {L:Bs} {v:Value} {w wr w1:World} {c c':Nat} {bd bd':Bool}
theorem US.start (h:TX b L v c bd w):US b L v w c bd w:=⟨h,h.2.1.below,Fr.refl,h.lt,h.1.2⟩
theorem US.call (h:US b L v w c bd wr)(hT:TX b L v c' bd' w1)(hF:Fr (MT b) wr w1):US b L v w c' bd' w1 :=
 ⟨hT,zs2 h.sb h.old hF,h.fr.trans' hF,h.lt,h.old⟩
theorem US.callN (h:US b L v w c bd wr)(hF:Fr NoB wr w1):US b L v w c bd w1:=h.call (h.tx.frN hF) (hF.mono (fun _ _ h=>h.elim))
theorem US.set (h:US b L v w c bd wr){B:Nat}(hB:w.heap.size≤B)(v0 v1 v2 v3 v4:Value):US b L v w c bd (setV B v0 v1 v2 v3 v4 wr):=by
 obtain⟨g1,g2⟩:=h.tx.grow h.sb h.lt ((q9 B v0 v1 v2 v3 v4 wr).mono (M':=fun k _=>w.heap.size≤k) (fun k _ hm=>by omega));exact⟨g1,g2,h.fr.setV hB _ _ _ _ _,h.lt,h.old⟩
theorem zo1 {p:Bs}(h:if Lib.hasPrefix (L.drop c) p=true then TX b L v (c+p.length) false wr∧c+p.length≤L.length else TX b L v c true wr)(hc:c≤L.length) :
 ∃ c' bd',TX b L v c' bd' wr∧bd'=(zaa p ⟨L.drop c,false⟩).bad∧(bd'=false→L.drop c'=(zaa p ⟨L.drop c,false⟩).s∧c'≤L.length)∧c'≤L.length:=by
 unfold zaa;by_cases hp:Lib.hasPrefix (L.drop c) p=true
 ·rw[if_pos hp]at h;rw[if_pos hp];refine⟨_,_,h.1,rfl,fun _=>⟨?_,h.2⟩,h.2⟩;simp only[Lib.trimPrefix];rw[if_pos hp,List.drop_drop]
 rw[if_neg hp]at h;rw[if_neg hp];exact⟨_,_,h,rfl,fun h=>by simp at h,hc⟩
end
section
variable {val:St→J × St} {d:Int} {st:St}
theorem zze:zc5 val d 110 st=(J.zero,zaa zlc st):=by unfold zc5;rw[if_pos rfl]
theorem zzb:zc5 val d 116 st=(.mk 1 1 [] [] [],zaa zlb st):=by unfold zc5;rw[if_neg (by decide),if_pos rfl]
theorem zzg:zc5 val d 102 st=(.mk 1 0 [] [] [],zaa zgn st):=by unfold zc5;rw[if_neg (by decide),if_neg (by decide),if_pos rfl]
theorem zzc:zc5 val d 34 st=(.mk 3 0 (zbk st).1 [] [],(zbk st).2):=by unfold zc5;rw[if_neg (by decide),if_neg (by decide),if_neg (by decide),if_pos rfl]
theorem zzf:zc5 val d 91 st=(.mk 4 0 [] (zae (zbn val) 91 93 (d+1) st []).2 [],(zae (zbn val) 91 93 (d+1) st []).1):=by
 unfold zc5;rw[if_neg (by decide),if_neg (by decide),if_neg (by decide),if_neg (by decide),if_pos rfl]
theorem zzd:zc5 val d 123 st=(.mk 5 0 [] [] (zae (za4 val) 123 125 (d+1) st []).2,(zae (za4 val) 123 125 (d+1) st []).1):=by
 unfold zc5;rw[if_neg (by decide),if_neg (by decide),if_neg (by decide),if_neg (by decide),if_neg (by decide),if_pos rfl]
def zj3 (val:St→J × St) (d:Int):Bs→J × St
 | []=>(J.zero,⟨[],true⟩)
 | c :: l=>zc5 val d c ⟨c :: l,false⟩
theorem ztn {s:Bs} (h:¬ nxT s=110∧¬ nxT s=116∧¬ nxT s=102∧¬ nxT s=34∧¬ nxT s=91∧¬ nxT s=123) :
 zj3 val d s=zzz s:=by
 obtain⟨h1,h2,h3,h4,h5,h6⟩:=h;cases s with
 | nil=>rfl
 | cons c l =>
   simp only[zj3]
   have hc:∀ x:UInt8,¬ nxT (c :: l)=(x.toNat:Int)→¬ c=x:=by
    rintro x hx rfl;exact hx rfl
   unfold zc5;rw[if_neg (hc 110 h1),if_neg (hc 116 h2),if_neg (hc 102 h3),if_neg (hc 34 h4),if_neg (hc 91 h5),if_neg (hc 123 h6)];unfold zb1 zzz;simp only;by_cases hA:c=45
   ·rw[if_pos hA,if_pos (by rw[hA];rfl)];rfl
   rw[if_neg hA,if_neg (fun h=>hA (UInt8.toNat_inj.1 (by simp only[nxT]at h;show c.toNat=45;omega)))]
end
theorem zwc (b:Nat) (L:Bs) (v:Value) (hL:L.length≤4096):∀ f,zv0 b L v f:=by
 intro f
 induction f with
 | zero=>intro d a w h ha h0 h1 h2;exfalso;simp at h2;omega
 | succ f ih =>
   intro d a w h ha hd0 hd8 hv;have hf:d+1+(f:Int)=10:=by simp at hv;omega
   have hn:=zh0 L a;have hg:=zeo L a;have hh:=fun W hW=>zcv b L v a false W hW hL (by omega)
   obtain⟨p1,hi⟩:∃ p1,blk L a=p1:=⟨_,rfl⟩;rw[hi]at hn hg hh;have hU:p1≤L.length:=by omega
   have hk:=fun W hW=>zed b L v p1 false W hW hL (by omega)
   have hG:jg (f+1) d ⟨L.drop a,false⟩=zj3 (jg f (d+1)) d (L.drop p1):=by
    simp only[jg];rw[hg];cases ja (L.drop a)<;>simp[zj3]
   obtain⟨G,hs⟩:∃ G,jg (f+1) d ⟨L.drop a,false⟩=G:=⟨_,rfl⟩;rw[hs]at hG ⊢;have HG:=za hG;have Hbl:=za hh;have Hnx:=za hk;have hH:=za ((US.start h).callN ((Fr.refl (M:=NoB)).alloc (.cells #[.int .i64 0,.int .i64 0,.string ⟨#[]⟩,.slice none 0 0,.slice none 0 0] 56)));have hr:=zh w (.cells #[.int .i64 0,.int .i64 0,.string ⟨#[]⟩,.slice none 0 0,.slice none 0 0] 56);have hN:=za hr;have wd:IntKind.i64.wrap (d+1)=d+1:=by rw[IntKind.wrap_i64];omega
   obtain⟨m,hm⟩:∃ m,nxT (L.drop p1)=m:=⟨_,rfl⟩;rw[hm]at Hnx;have HM:=za hm;clear hG hs hh hk hr hm h hg hn hi;by_cases mx:m=110
   ·have Hw:=za (fun W hW=>zmd zlc b L v p1 false W hW hL (by omega) (by decide) (by decide));obtain⟨l,hl⟩:=zd8 (x:=110) (by decide) (HM.out.trans mx);have hG:=HG.out;rw[hl]at hG;simp only[zj3,zze]at hG;rw[← hl]at hG;subst hG;have qx:(m==110)=true:=by rw[beq_iff_eq];exact mx
    clear HG HM mx;clear ih hl;go_enter Tryz.func136,Tryz.ntmps136
    go_wp2_with fail
    refine(Hbl.out _ hH.out.tx).mono ?_;rintro e w2 ⟨rfl,h2,hC⟩;have hE:=za (hH.out.call h2 hC);have hM:=za (hC.block _ _ hN.out zai);clear h2 hC
    go_wp2_with fail
    refine(Hnx.out _ hE.out.tx).mono ?_;rintro e w3 ⟨rfl,h3,hB⟩;have hD:=za ((hE.out.call h3 (hB.mono (fun _ _ h=>h.elim))).callN ((Fr.refl (M:=NoB)).alloc (.cells #[.int .i64 0,.int .i64 0,.string ⟨#[]⟩,.slice none 0 0,.slice none 0 0] 56)));have hA:=hB.block _ _ hM.out (fun h=>h);have hd:w.heap.size<w3.heap.size:=jb hA;have hJ:=za (qm (.cells #[.int .i64 0,.int .i64 0,.string ⟨#[]⟩,.slice none 0 0,.slice none 0 0] 56) hA);have hI:=za (zh w3 (.cells #[.int .i64 0,.int .i64 0,.string ⟨#[]⟩,.slice none 0 0,.slice none 0 0] 56));clear h3 hB hH hN hE hM Hbl Hnx hA
    go_wp2_with fail
    refine(Hw.out _ hD.out.tx).mono ?_;rintro e w5 ⟨rfl,hT,hF⟩;obtain⟨c',ht,hX,hb,hp,hc⟩:=zo1 hT hU;have hR:=za hX;have Hp:=za hp;have Hb:=za hb;have HF:=za hF;clear hT hF hX hp hb;have hP:=za (hD.out.call hR.out HF.out);have hS:=za ((HF.out).block _ _ hJ.out zai);have hO:=za ((HF.out).block _ _ hI.out zai);have he:=za (Fr.size HF.out);clear hD hJ hI;obtain⟨r0,r1,r2,r3,r4,rz,hZ⟩:=VB.at hS.out;obtain⟨v0,v1,v2,v3,v4,vz,hY⟩:=VB.at hO.out
    go_wp2_with fail
    refine bodyPost_ret (v := .agg #[.int .i64 0,.int .i64 0,.string ⟨#[]⟩,.slice none 0 0,.slice none 0 0]) (by simp[results,Tryz.results136,go_sem,r0,r1,r2,r3,r4]) rfl ?_;have h6:=hP.out.set (zt _) (.int .i64 0) (.int .i64 0) (.string ⟨#[]⟩) (.slice none 0 0) (.slice none 0 0);exact⟨J.zero,_,rfl,RJ.zero _ _,fun _=>rfl,⟨c',by rw[← Hb.out];exact h6.tx,fun h=>Hp.out (by rw[Hb.out];exact h),by omega⟩,h6.fr⟩
   have m1:(m==110)=false:=by rw[beq_eq_false_iff_ne];exact mx
   have n1:=mx;clear mx;by_cases mx:m=116
   ·have Hw:=za (fun W hW=>zmd zlb b L v p1 false W hW hL (by omega) (by decide) (by decide));obtain⟨l,hl⟩:=zd8 (x:=116) (by decide) (HM.out.trans mx);have hG:=HG.out;rw[hl]at hG;simp only[zj3,zzb]at hG;rw[← hl]at hG;subst hG;have qx:(m==116)=true:=by rw[beq_iff_eq];exact mx
    clear HG HM mx;clear ih n1 hl;go_enter Tryz.func136,Tryz.ntmps136
    go_wp2_with fail
    refine(Hbl.out _ hH.out.tx).mono ?_;rintro e w2 ⟨rfl,h2,hC⟩;have hE:=za (hH.out.call h2 hC);have hM:=za (hC.block _ _ hN.out zai);clear h2 hC
    go_wp2_with fail
    refine(Hnx.out _ hE.out.tx).mono ?_;rintro e w3 ⟨rfl,h3,hB⟩;have hD:=za ((hE.out.call h3 (hB.mono (fun _ _ h=>h.elim))).callN ((Fr.refl (M:=NoB)).alloc (.cells #[.int .i64 0,.int .i64 0,.string ⟨#[]⟩,.slice none 0 0,.slice none 0 0] 56)));have hA:=hB.block _ _ hM.out (fun h=>h);have hd:w.heap.size<w3.heap.size:=jb hA;have hJ:=za (qm (.cells #[.int .i64 0,.int .i64 0,.string ⟨#[]⟩,.slice none 0 0,.slice none 0 0] 56) hA);have hI:=za (zh w3 (.cells #[.int .i64 0,.int .i64 0,.string ⟨#[]⟩,.slice none 0 0,.slice none 0 0] 56));clear h3 hB hH hN hE hM Hbl Hnx hA
    go_wp2_with fail
    refine(Hw.out _ hD.out.tx).mono ?_;rintro e w5 ⟨rfl,hT,hF⟩;obtain⟨c',ht,hX,hb,hp,hc⟩:=zo1 hT hU;have hR:=za hX;have Hp:=za hp;have Hb:=za hb;have HF:=za hF;clear hT hF hX hp hb;have hP:=za (hD.out.call hR.out HF.out);have hS:=za ((HF.out).block _ _ hJ.out zai);have hO:=za ((HF.out).block _ _ hI.out zai);have he:=za (Fr.size HF.out);clear hD hJ hI;obtain⟨r0,r1,r2,r3,r4,rz,hZ⟩:=VB.at hS.out;obtain⟨v0,v1,v2,v3,v4,vz,hY⟩:=VB.at hO.out
    go_wp2_with fail
    refine bodyPost_ret (v := .agg #[.int .i64 1,.int .i64 1,.string ⟨#[]⟩,.slice none 0 0,.slice none 0 0]) (by simp[results,Tryz.results136,go_sem,r0,r1,r2,r3,r4]) rfl ?_;have h6:=(hP.out.set (B:=w3.heap.size) (by omega) (.int .i64 1) (.int .i64 1) (.string ⟨#[]⟩) (.slice none 0 0) (.slice none 0 0)).set (zt _) (.int .i64 1) (.int .i64 1) (.string ⟨#[]⟩) (.slice none 0 0) (.slice none 0 0);exact⟨.mk 1 1 [] [] [],_,rfl,RJ.flat _ _ 1 1 [],fun _=>rfl,⟨c',by rw[← Hb.out];exact h6.tx,fun h=>Hp.out (by rw[Hb.out];exact h),by omega⟩,h6.fr⟩
   have m2:(m==116)=false:=by rw[beq_eq_false_iff_ne];exact mx
   have n2:=mx;clear mx;by_cases mx:m=102
   ·have Hw:=za (fun W hW=>zmd zgn b L v p1 false W hW hL (by omega) (by decide) (by decide));obtain⟨l,hl⟩:=zd8 (x:=102) (by decide) (HM.out.trans mx);have hG:=HG.out;rw[hl]at hG;simp only[zj3,zzg]at hG;rw[← hl]at hG;subst hG;have qx:(m==102)=true:=by rw[beq_iff_eq];exact mx
    clear HG HM mx;clear ih n1 n2 hl;go_enter Tryz.func136,Tryz.ntmps136
    go_wp2_with fail
    refine(Hbl.out _ hH.out.tx).mono ?_;rintro e w2 ⟨rfl,h2,hC⟩;have hE:=za (hH.out.call h2 hC);have hM:=za (hC.block _ _ hN.out zai);clear h2 hC
    go_wp2_with fail
    refine(Hnx.out _ hE.out.tx).mono ?_;rintro e w3 ⟨rfl,h3,hB⟩;have hD:=za ((hE.out.call h3 (hB.mono (fun _ _ h=>h.elim))).callN ((Fr.refl (M:=NoB)).alloc (.cells #[.int .i64 0,.int .i64 0,.string ⟨#[]⟩,.slice none 0 0,.slice none 0 0] 56)));have hA:=hB.block _ _ hM.out (fun h=>h);have hd:w.heap.size<w3.heap.size:=jb hA;have hJ:=za (qm (.cells #[.int .i64 0,.int .i64 0,.string ⟨#[]⟩,.slice none 0 0,.slice none 0 0] 56) hA);have hI:=za (zh w3 (.cells #[.int .i64 0,.int .i64 0,.string ⟨#[]⟩,.slice none 0 0,.slice none 0 0] 56));clear h3 hB hH hN hE hM Hbl Hnx hA
    go_wp2_with fail
    refine(Hw.out _ hD.out.tx).mono ?_;rintro e w5 ⟨rfl,hT,hF⟩;obtain⟨c',ht,hX,hb,hp,hc⟩:=zo1 hT hU;have hR:=za hX;have Hp:=za hp;have Hb:=za hb;have HF:=za hF;clear hT hF hX hp hb;have hP:=za (hD.out.call hR.out HF.out);have hS:=za ((HF.out).block _ _ hJ.out zai);have hO:=za ((HF.out).block _ _ hI.out zai);have he:=za (Fr.size HF.out);clear hD hJ hI;obtain⟨r0,r1,r2,r3,r4,rz,hZ⟩:=VB.at hS.out;obtain⟨v0,v1,v2,v3,v4,vz,hY⟩:=VB.at hO.out
    go_wp2_with fail
    refine bodyPost_ret (v := .agg #[.int .i64 1,.int .i64 0,.string ⟨#[]⟩,.slice none 0 0,.slice none 0 0]) (by simp[results,Tryz.results136,go_sem,r0,r1,r2,r3,r4]) rfl ?_;have h6:=(hP.out.set (B:=w3.heap.size) (by omega) (.int .i64 1) (.int .i64 0) (.string ⟨#[]⟩) (.slice none 0 0) (.slice none 0 0)).set (zt _) (.int .i64 1) (.int .i64 0) (.string ⟨#[]⟩) (.slice none 0 0) (.slice none 0 0);exact⟨.mk 1 0 [] [] [],_,rfl,RJ.flat _ _ 1 0 [],fun _=>rfl,⟨c',by rw[← Hb.out];exact h6.tx,fun h=>Hp.out (by rw[Hb.out];exact h),by omega⟩,h6.fr⟩
   have m3:(m==102)=false:=by rw[beq_eq_false_iff_ne];exact mx
   have n3:=mx;clear mx;by_cases mx:m=34
   ·have hw:=fun W hW=>zmi b L v p1 W hW hL hU
    obtain⟨l,hl⟩:=zd8 (x:=34) (by decide) (HM.out.trans mx);have hG:=HG.out;rw[hl]at hG;simp only[zj3,zzc]at hG;rw[← hl]at hG;subst hG;have qx:(m==34)=true:=by rw[beq_iff_eq];exact mx
    clear HG HM mx;clear ih n1 n2 n3 hl;obtain⟨⟨tx,st⟩,hQ⟩:∃ Q,zbk ⟨L.drop p1,false⟩=Q:=⟨_,rfl⟩;simp only[hQ]at hw ⊢;have Hw:=za hw;clear hw hQ;go_enter Tryz.func136,Tryz.ntmps136
    go_wp2_with fail
    refine(Hbl.out _ hH.out.tx).mono ?_;rintro e w2 ⟨rfl,h2,hC⟩;have hE:=za (hH.out.call h2 hC);have hM:=za (hC.block _ _ hN.out zai);clear h2 hC
    go_wp2_with fail
    refine(Hnx.out _ hE.out.tx).mono ?_;rintro e w3 ⟨rfl,h3,hB⟩;have hD:=za ((hE.out.call h3 (hB.mono (fun _ _ h=>h.elim))).callN ((Fr.refl (M:=NoB)).alloc (.cells #[.int .i64 0,.int .i64 0,.string ⟨#[]⟩,.slice none 0 0,.slice none 0 0] 56)));have hA:=hB.block _ _ hM.out (fun h=>h);have hd:w.heap.size<w3.heap.size:=jb hA;have hJ:=za (qm (.cells #[.int .i64 0,.int .i64 0,.string ⟨#[]⟩,.slice none 0 0,.slice none 0 0] 56) hA);have hI:=za (zh w3 (.cells #[.int .i64 0,.int .i64 0,.string ⟨#[]⟩,.slice none 0 0,.slice none 0 0] 56));clear h3 hB hH hN hE hM Hbl Hnx hA
    go_wp2_with fail
    refine(Hw.out _ hD.out.tx).mono ?_;rintro e w5 ⟨rfl,⟨c',hT,hp,hK⟩,hF⟩;have hR:=za hT;have Hp:=za hp;have HF:=za hF;clear hT hF hp Hw;have hP:=za (hD.out.call hR.out HF.out);have hS:=za ((HF.out).block _ _ hJ.out zai);have hO:=za ((HF.out).block _ _ hI.out zai);have he:=za (Fr.size HF.out);clear hD hJ hI;obtain⟨r0,r1,r2,r3,r4,rz,hZ⟩:=VB.at hS.out;obtain⟨v0,v1,v2,v3,v4,vz,hY⟩:=VB.at hO.out
    go_wp2_with fail
    refine bodyPost_ret (v := .agg #[.int .i64 3,.int .i64 0,.string ⟨tx.toArray⟩,.slice none 0 0,.slice none 0 0]) (by simp[results,Tryz.results136,go_sem,r0,r1,r2,r3,r4]) rfl ?_;have h6:=(hP.out.set (B:=w3.heap.size) (by omega) (.int .i64 3) (.int .i64 0) (.string ⟨tx.toArray⟩) (.slice none 0 0) (.slice none 0 0)).set (zt _) (.int .i64 3) (.int .i64 0) (.string ⟨tx.toArray⟩) (.slice none 0 0) (.slice none 0 0);exact⟨.mk 3 0 tx [] [],_,rfl,RJ.flat _ _ 3 0 tx,fun _=>rfl,⟨c',h6.tx,Hp.out,by omega⟩,h6.fr⟩
   have m4:(m==34)=false:=by rw[beq_eq_false_iff_ne];exact mx
   have n4:=mx;clear mx;by_cases mx:m=91
   ·obtain⟨l,hl⟩:=zd8 (x:=91) (by decide) (HM.out.trans mx);have hG:=HG.out;rw[hl]at hG;simp only[zj3,zzf]at hG;rw[← hl]at hG;subst hG;have qx:(m==91)=true:=by rw[beq_iff_eq];exact mx
    clear HG HM mx;have hw:=fun W hW=>zy8 f b L v ih hL (d+1) (by omega) hf p1 W hW l hl
    rw[hl];clear ih n1 n2 n3 n4 hl;generalize zae (zbn (jg f (d+1))) 91 93 (d+1) ⟨91 :: l,false⟩ []=E at *;have Hw:=za hw;clear hw;go_enter Tryz.func136,Tryz.ntmps136
    go_wp2_with fail
    refine(Hbl.out _ hH.out.tx).mono ?_;rintro e w2 ⟨rfl,h2,hC⟩;have hE:=za (hH.out.call h2 hC);have hM:=za (hC.block _ _ hN.out zai);clear h2 hC
    go_wp2_with fail
    refine(Hnx.out _ hE.out.tx).mono ?_;rintro e w3 ⟨rfl,h3,hB⟩;have hD:=za ((hE.out.call h3 (hB.mono (fun _ _ h=>h.elim))).callN ((Fr.refl (M:=NoB)).alloc (.cells #[.int .i64 0,.int .i64 0,.string ⟨#[]⟩,.slice none 0 0,.slice none 0 0] 56)));have hA:=hB.block _ _ hM.out (fun h=>h);have hd:w.heap.size<w3.heap.size:=jb hA;have hJ:=za (qm (.cells #[.int .i64 0,.int .i64 0,.string ⟨#[]⟩,.slice none 0 0,.slice none 0 0] 56) hA);have hI:=za (zh w3 (.cells #[.int .i64 0,.int .i64 0,.string ⟨#[]⟩,.slice none 0 0,.slice none 0 0] 56));clear h3 hB hH hN hE hM Hbl Hnx hA
    go_wp2_with fail
    refine(Hw.out _ hD.out.tx).mono ?_;rintro e w5 ⟨⟨jk,jn,jt,jl,jp⟩,x,rfl,hj,hV,⟨c',hT,hp,hK⟩,hF⟩;obtain⟨y1,n1,y2,n2,rfl,_,_⟩:=hj.open;have hR:=za hT;have Hp:=za hp;have HF:=za hF;have Hj:=za hj;have Hjs:=za hV;clear hT hF hp hj hV Hw;have hP:=za (hD.out.call hR.out HF.out);have hS:=za ((HF.out).block _ _ hJ.out zai);have hO:=za ((HF.out).block _ _ hI.out zai);have he:=za (Fr.size HF.out);clear hD hJ hI;obtain⟨r0,r1,r2,r3,r4,rz,hZ⟩:=VB.at hS.out;obtain⟨v0,v1,v2,v3,v4,vz,hY⟩:=VB.at hO.out
    go_wp2_with fail
    refine bodyPost_ret (v := .agg #[.int .i64 jk,.int .i64 jn,.string ⟨jt.toArray⟩,.slice y1 jl.length n1,.slice y2 jp.length n2]) (by simp[results,Tryz.results136,go_sem,r0,r1,r2,r3,r4]) rfl ?_;have h6:=(hP.out.set (B:=w3.heap.size) (by omega) (.int .i64 jk) (.int .i64 jn) (.string ⟨jt.toArray⟩) (.slice y1 jl.length n1) (.slice y2 jp.length n2)).set (zt _) (.int .i64 jk) (.int .i64 jn) (.string ⟨jt.toArray⟩) (.slice y1 jl.length n1) (.slice y2 jp.length n2);have hu:(w3.alloc (.cells #[.int .i64 0,.int .i64 0,.string ⟨#[]⟩,.slice none 0 0,.slice none 0 0] 56)).heap.size=w3.heap.size+1:=zf _ _;exact⟨J.mk jk jn jt jl jp,_,rfl,RJ.kp (fun q o hq ho _=>⟨by omega,(q9 _ _ _ _ _ _ _).block q o ((q9 _ _ _ _ _ _ _).block q o ho (by omega)) (by omega)⟩) _ _ Hj.out,Hjs.out,⟨c',h6.tx,Hp.out,by omega⟩,h6.fr⟩
   have m5:(m==91)=false:=by rw[beq_eq_false_iff_ne];exact mx
   have n5:=mx;clear mx;by_cases mx:m=123
   ·obtain⟨l,hl⟩:=zd8 (x:=123) (by decide) (HM.out.trans mx);have hG:=HG.out;rw[hl]at hG;simp only[zj3,zzd]at hG;rw[← hl]at hG;subst hG;have qx:(m==123)=true:=by rw[beq_iff_eq];exact mx
    clear HG HM mx;have hw:=fun W hW=>ztf f b L v ih hL (d+1) (by omega) hf p1 W hW l hl
    rw[hl];clear ih n1 n2 n3 n4 n5 hl;generalize zae (za4 (jg f (d+1))) 123 125 (d+1) ⟨123 :: l,false⟩ []=E at *;have Hw:=za hw;clear hw;go_enter Tryz.func136,Tryz.ntmps136
    go_wp2_with fail
    refine(Hbl.out _ hH.out.tx).mono ?_;rintro e w2 ⟨rfl,h2,hC⟩;have hE:=za (hH.out.call h2 hC);have hM:=za (hC.block _ _ hN.out zai);clear h2 hC
    go_wp2_with fail
    refine(Hnx.out _ hE.out.tx).mono ?_;rintro e w3 ⟨rfl,h3,hB⟩;have hD:=za ((hE.out.call h3 (hB.mono (fun _ _ h=>h.elim))).callN ((Fr.refl (M:=NoB)).alloc (.cells #[.int .i64 0,.int .i64 0,.string ⟨#[]⟩,.slice none 0 0,.slice none 0 0] 56)));have hA:=hB.block _ _ hM.out (fun h=>h);have hd:w.heap.size<w3.heap.size:=jb hA;have hJ:=za (qm (.cells #[.int .i64 0,.int .i64 0,.string ⟨#[]⟩,.slice none 0 0,.slice none 0 0] 56) hA);have hI:=za (zh w3 (.cells #[.int .i64 0,.int .i64 0,.string ⟨#[]⟩,.slice none 0 0,.slice none 0 0] 56));clear h3 hB hH hN hE hM Hbl Hnx hA
    go_wp2_with fail
    refine(Hw.out _ hD.out.tx).mono ?_;rintro e w5 ⟨⟨jk,jn,jt,jl,jp⟩,x,rfl,hj,hV,⟨c',hT,hp,hK⟩,hF⟩;obtain⟨y1,n1,y2,n2,rfl,_,_⟩:=hj.open;have hR:=za hT;have Hp:=za hp;have HF:=za hF;have Hj:=za hj;have Hjs:=za hV;clear hT hF hp hj hV Hw;have hP:=za (hD.out.call hR.out HF.out);have hS:=za ((HF.out).block _ _ hJ.out zai);have hO:=za ((HF.out).block _ _ hI.out zai);have he:=za (Fr.size HF.out);clear hD hJ hI;obtain⟨r0,r1,r2,r3,r4,rz,hZ⟩:=VB.at hS.out;obtain⟨v0,v1,v2,v3,v4,vz,hY⟩:=VB.at hO.out
    go_wp2_with fail
    refine bodyPost_ret (v := .agg #[.int .i64 jk,.int .i64 jn,.string ⟨jt.toArray⟩,.slice y1 jl.length n1,.slice y2 jp.length n2]) (by simp[results,Tryz.results136,go_sem,r0,r1,r2,r3,r4]) rfl ?_;have h6:=(hP.out.set (B:=w3.heap.size) (by omega) (.int .i64 jk) (.int .i64 jn) (.string ⟨jt.toArray⟩) (.slice y1 jl.length n1) (.slice y2 jp.length n2)).set (zt _) (.int .i64 jk) (.int .i64 jn) (.string ⟨jt.toArray⟩) (.slice y1 jl.length n1) (.slice y2 jp.length n2);have hu:(w3.alloc (.cells #[.int .i64 0,.int .i64 0,.string ⟨#[]⟩,.slice none 0 0,.slice none 0 0] 56)).heap.size=w3.heap.size+1:=zf _ _;exact⟨J.mk jk jn jt jl jp,_,rfl,RJ.kp (fun q o hq ho _=>⟨by omega,(q9 _ _ _ _ _ _ _).block q o ((q9 _ _ _ _ _ _ _).block q o ho (by omega)) (by omega)⟩) _ _ Hj.out,Hjs.out,⟨c',h6.tx,Hp.out,by omega⟩,h6.fr⟩
   have m6:(m==123)=false:=by rw[beq_eq_false_iff_ne];exact mx
   have hG:=HG.out;rw[ztn (by rw[HM.out];exact⟨n1,n2,n3,n4,n5,mx⟩)]at hG;subst hG;have hw:=fun W hW=>ztg b L v p1 W hW hL hU
   generalize zzz (L.drop p1)=E at *;have Hw:=za hw;clear ih n1 n2 n3 n4 n5 mx HG HM hw;go_enter Tryz.func136,Tryz.ntmps136
   go_wp2_with fail
   refine(Hbl.out _ hH.out.tx).mono ?_;rintro e w2 ⟨rfl,h2,hC⟩;have hE:=za (hH.out.call h2 hC);have hM:=za (hC.block _ _ hN.out zai);clear h2 hC
   go_wp2_with fail
   refine(Hnx.out _ hE.out.tx).mono ?_;rintro e w3 ⟨rfl,h3,hB⟩;have hD:=za ((hE.out.call h3 (hB.mono (fun _ _ h=>h.elim))).callN ((Fr.refl (M:=NoB)).alloc (.cells #[.int .i64 0,.int .i64 0,.string ⟨#[]⟩,.slice none 0 0,.slice none 0 0] 56)));have hA:=hB.block _ _ hM.out (fun h=>h);have hd:w.heap.size<w3.heap.size:=jb hA;have hJ:=za (qm (.cells #[.int .i64 0,.int .i64 0,.string ⟨#[]⟩,.slice none 0 0,.slice none 0 0] 56) hA);have hI:=za (zh w3 (.cells #[.int .i64 0,.int .i64 0,.string ⟨#[]⟩,.slice none 0 0,.slice none 0 0] 56));clear h3 hB hH hN hE hM Hbl Hnx hA
   go_wp2_with fail
   refine(Hw.out _ hD.out.tx).mono ?_;rintro e w5 ⟨x,rfl,⟨hV,⟨c',hT,hp,hK⟩⟩,hF⟩;have hR:=za hT;have Hp:=za hp;have HF:=za hF;have Hjs:=za hV;clear hT hF hp hV Hw;have hP:=za (hD.out.call hR.out HF.out);have hS:=za ((HF.out).block _ _ hJ.out zai);have hO:=za ((HF.out).block _ _ hI.out zai);have he:=za (Fr.size HF.out);clear hD hJ hI;obtain⟨r0,r1,r2,r3,r4,rz,hZ⟩:=VB.at hS.out;obtain⟨v0,v1,v2,v3,v4,vz,hY⟩:=VB.at hO.out
   go_wp2_with fail
   refine bodyPost_ret (v := .agg #[.int .i64 2,.int .i64 x,.string ⟨#[]⟩,.slice none 0 0,.slice none 0 0]) (by simp[results,Tryz.results136,go_sem,r0,r1,r2,r3,r4]) rfl ?_;have h6:=(hP.out.set (B:=w3.heap.size) (by omega) (.int .i64 2) (.int .i64 x) (.string ⟨#[]⟩) (.slice none 0 0) (.slice none 0 0)).set (zt _) (.int .i64 2) (.int .i64 x) (.string ⟨#[]⟩) (.slice none 0 0) (.slice none 0 0);exact⟨.mk 2 x [] [] [],_,rfl,RJ.flat _ _ 2 x [],fun h=>(Hjs.out h).symm,⟨c',h6.tx,Hp.out,by omega⟩,h6.fr⟩
end
section
open Go.RowKit
variable [OldK]
attribute [local irreducible] wpStill
theorem zot {l:Bs} {a':Nat} {st:St} {j:J} (hl:¬ 4096<l.length) (hV:jg 10 0 ⟨l,false⟩=(j,st)) (hp:st.bad=false→l.drop a'=st.s∧a'≤l.length) :
 (st.bad=true→zaf l=(J.zero,1))∧(st.bad=false→(blk l a'=l.length→zaf l=(j,0))∧(¬ blk l a'=l.length→zaf l=(J.zero,1))):=by
 have hd:=zeo l a';have hb:=zh0 l a';unfold zaf zht;rw[if_neg hl,hV];simp only;refine⟨fun h=>by rw[if_pos (.inl h)],fun h=>⟨fun h2=>?_,fun h2=>?_⟩⟩
 ·rw[h2,List.drop_length,(hp h).1]at hd;rw[if_neg];rintro(h3 | h3)
  ·rw[h]at h3;simp at h3
  exact h3 hd.symm
 rw[(hp h).1]at hd;have h3:=(hp h).2;rw[if_pos];right;rw[← hd];intro h4;have:=List.drop_eq_nil_iff.1 h4;omega
theorem z1w {b:Nat}{w w':World}(h:Fr (MT b) w w')(hb:w.heap.size≤b):Fr NoB w w' :=
 (Fr.refl (M:=NoB)).trans h (fun k _ hm => .inr (by rw[hm.1];exact hb))
theorem zr3 (S:Nat→Prop) (l:Bs) (v:Value) (w:World) (hv:SB S l v w) (hg:Gl w) (hlen:l.length≤maxLen) :
 Calls Tryz.prog 69 #[v] w fun e w'=>∃ x,e = .returned (.tuple #[x,.int .i64 (zaf l).2])∧RJ (fun k=>w.heap.size≤k) w' (zaf l).1 x∧Fr NoB w w':=by
 obtain⟨q,hH,rfl⟩:=hv.form;have hgs:=hg.size;by_cases hl:4096<l.length
 ·have hG:zaf l=(J.zero,10):=by unfold zaf;rw[if_pos hl]
  rw[hG];unfold maxLen at hlen;clear hG hv;obtain⟨a0,a1,a2,a3,a4,fz,hL⟩:=VB.at (zh w (.cells #[.int .i64 0,.int .i64 0,.string ⟨#[]⟩,.slice none 0 0,.slice none 0 0] 56));go_enter Tryz.func69,Tryz.ntmps69
  go_wp2_with fail
  refine bodyPost_ret (v := .tuple #[.agg #[.int .i64 0,.int .i64 0,.string ⟨#[]⟩,.slice none 0 0,.slice none 0 0],.int .i64 10]) (by simp[results,Tryz.results69,go_sem,a0,a1,a2,a3,a4]) rfl ?_;exact⟨_,rfl,RJ.zero _ _,Fr.refl.alloc _⟩
 have hl2:decide ((4096:Int)<(l.length:Int))=false:=by rw[decide_eq_false_iff_not];omega
 obtain⟨hA,hB⟩:=ztd w (.cells #[.int .i64 0,.int .i64 0,.string ⟨#[]⟩,.slice none 0 0,.slice none 0 0] 56) (.cells #[.slice q l.length hH,.int .i64 0,.bool false] 210);have hO:Fr NoB w ((w.alloc (.cells #[.int .i64 0,.int .i64 0,.string ⟨#[]⟩,.slice none 0 0,.slice none 0 0] 56)).alloc (.cells #[.slice q l.length hH,.int .i64 0,.bool false] 210)):=(Fr.refl.alloc _).alloc _;have hT:TX (w.heap.size+1) l (.slice q l.length hH) 0 false _:=⟨⟨by omega,by have:=hg.old;omega⟩,(hv.fr hO (fun _ _ _ _ h=>h)).kp (fun k o _ hk _=>⟨trivial,hk⟩),hB⟩;have hC:=zwc (w.heap.size+1) l (.slice q l.length hH) (by omega) 10 0 0 _ hT (Nat.zero_le _) (by omega) (by omega) (by decide);simp only[List.drop_zero]at hC;obtain⟨⟨j,st⟩,hV⟩:∃ V,jg 10 0 ⟨l,false⟩=V:=⟨_,rfl⟩;rw[hV]at hC;have hM:=fun a' hp=>zot (a':=a') hl hV hp
 obtain⟨G,hG⟩:∃ G,zaf l=G:=⟨_,rfl⟩;rw[hG]at hM ⊢;have Hcs:=za hM;have Hval:=za hC;have HA:=za hA;have hZ:=za hO;have hd:l.length≤4096:=by omega
 clear hA hB hO hT hC hV hM hG hv hl;go_enter Tryz.func69,Tryz.ntmps69
 go_wp2_with fail
 refine Hval.out.mono ?_;rintro e w3 ⟨⟨jk,jn,jt,jl,jp⟩,x,rfl,hj,hS,⟨a',hW,hp,hK⟩,hJ⟩;obtain⟨y1,n1,y2,n2,rfl,_,_⟩:=hj.open;have hf:a'≤900000:=by simp at hK;omega
 obtain⟨f1,f2⟩:=Hcs.out a' hp;have he:=zh0 l a';have hN:=zcv (w.heap.size+1) l (.slice q l.length hH) a' st.bad _ (hW.frN ((Fr.refl (M:=NoB)).alloc (.cells #[.int .i64 jk,.int .i64 jn,.string ⟨jt.toArray⟩,.slice y1 jl.length n1,.slice y2 jp.length n2] 56))) hd hf;obtain⟨p,hR⟩:∃ p,blk l a'=p:=⟨_,rfl⟩;rw[hR]at f2 hN;have Hbl:=za hN;have hQ:=za f1;have hD:=za f2;have ha:=za (qm (.cells #[.int .i64 jk,.int .i64 jn,.string ⟨jt.toArray⟩,.slice y1 jl.length n1,.slice y2 jp.length n2] 56) (hJ.block _ _ HA.out zai));have hX:=za (zh w3 (.cells #[.int .i64 jk,.int .i64 jn,.string ⟨jt.toArray⟩,.slice y1 jl.length n1,.slice y2 jp.length n2] 56));have hc:=hJ.size;simp only[zf]at hc;have hY:=za (((hZ.out.mono (M':=MT (w.heap.size+1)) (fun _ _ h=>h.elim)).trans' hJ).alloc (.cells #[.int .i64 jk,.int .i64 jn,.string ⟨jt.toArray⟩,.slice y1 jl.length n1,.slice y2 jp.length n2] 56));have Hj:=za hj;have Hjs:=za hS;clear hj hS hW hp hJ hN f1 f2 hR HA Hval hZ he hK
 go_wp2_with fail
 refine Hbl.out.mono ?_;rintro e w5 ⟨rfl,hU,hF⟩;obtain⟨c0,c1,c2,fz,hL⟩:=hU.cells;obtain⟨r0,r1,r2,r3,r4,rz,rlt⟩:=VB.at (hF.block _ _ ha.out zai);obtain⟨v0,v1,v2,v3,v4,vz,vlt⟩:=VB.at (hF.block _ _ hX.out zai);have hP:=za (z1w (hY.out.trans' hF) (by omega));have hE:=fun(v0 v1 v2 v3 v4:Value)=>RJ.kp (S':=fun k=>w.heap.size≤k) (w':=setV w.heap.size v0 v1 v2 v3 v4 w5) (fun q o hq ho _=>⟨by simp only[zf]at hq;omega,(q9 _ _ _ _ _ _ _).block q o (hF.block q o (qm _ ho) (fun hm=>by have:=hm.1;simp only[zf]at hq;omega)) (by simp only[zf]at hq;omega)⟩) _ _ Hj.out
 have Hfin:=za hE;clear hF hU hE Hj hX ha hY Hbl;cases hb:st.bad with
 | true =>
   have hG:=hQ.out hb;subst hG;rw[hb]at c2;clear hQ hD hb Hjs Hcs
   go_wp2_with fail
   refine bodyPost_ret (v := .tuple #[.agg #[.int .i64 0,.int .i64 0,.string ⟨#[]⟩,.slice none 0 0,.slice none 0 0],.int .i64 1]) (by simp[results,Tryz.results69,go_sem,r0,r1,r2,r3,r4]) rfl ?_;exact⟨_,rfl,RJ.zero _ _,hP.out.setV (zt _) _ _ _ _ _⟩
 | false =>
   obtain⟨g1,g2⟩:=hD.out hb;have hj:=Hjs.out hb;rw[hb]at c2;clear hQ hD hb Hcs Hjs;by_cases hI:p=l.length
   ·have hG:=g1 hI;subst hG;subst hj;rw[hI]at c1;clear g1 g2 hI
    go_wp2_with fail
    refine bodyPost_ret (v := .tuple #[.agg #[.int .i64 jk,.int .i64 jn,.string ⟨jt.toArray⟩,.slice y1 jl.length n1,.slice y2 jp.length n2],.int .i64 0]) (by simp[results,Tryz.results69,go_sem,r0,r1,r2,r3,r4]) rfl ?_;exact⟨_,rfl,Hfin.out _ _ _ _ _,hP.out.setV (zt _) _ _ _ _ _⟩
   have hG:=g2 hI;subst hG;have q1:((p:Int)==(l.length:Int))=false:=by rw[beq_eq_false_iff_ne];omega
   have q2:(p==l.length)=false:=by rw[beq_eq_false_iff_ne];omega
   have q3:(p != l.length)=true:=by rw[bne,q2];rfl
   have q4:((p:Int) != (l.length:Int))=true:=by rw[bne,q1];rfl
   clear g1 g2
   go_wp2_with fail
   refine bodyPost_ret (v := .tuple #[.agg #[.int .i64 0,.int .i64 0,.string ⟨#[]⟩,.slice none 0 0,.slice none 0 0],.int .i64 1]) (by simp[results,Tryz.results69,go_sem,r0,r1,r2,r3,r4]) rfl ?_;exact⟨_,rfl,RJ.zero _ _,hP.out.setV (zt _) _ _ _ _ _⟩
end
end Go.Proofs.YtmgfncjfgkllcaaGreatDoor
