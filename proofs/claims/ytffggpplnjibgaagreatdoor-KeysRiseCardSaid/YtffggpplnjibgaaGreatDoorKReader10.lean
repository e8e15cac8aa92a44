/-
 The walks of json's reader,further: how a value is read by its first sign.
-/
import Derived.Test.YtffggpplnjibgaaGreatDoorKReader8
open Go.Lib renaming hid→zi
open Go.Proofs.Tryz renaming prog→zl
open Nat renaming le_refl→ja
namespace Go.Proofs.YtffggpplnjibgaaGreatDoor
set_option linter.unusedVariables false
set_option linter.unusedSimpArgs false
set_option linter.unusedSectionVars false
set_option maxRecDepth 100000
set_option maxHeartbeats 1000000
section
open Go.RowKit
attribute [local instance] zaj

theorem zpv (q r:Nat)(s:Bs)(bad:Bool)(d:Int)(w:World)(hq:Bx q r w)(h:Rd r s bad d w) :
 Calls zl 219 #[.pointer (some ⟨q,0,none⟩)] w fun e w'=>∃ v,e = .returned v∧RJ (fun k=>w.heap.size≤k) w' J.zero v∧Rd r (qu zkl ⟨s,bad⟩).s (qu zkl ⟨s,bad⟩).bad d w'∧Fr (MR r) w w':=by
 have cq:=hq.cell;have hql:=jq hq;have hlt:=h.lt;have hA:=fun W hR=>zhs r s zkl bad d W hR
 generalize qu zkl ⟨s,bad⟩=G at *;obtain⟨s1,b1⟩:=G;have Hmust:=zi hA;clear hA;go_enter Tryz.func219,Tryz.ntmps219
 go_wp2_with fail
 refine(Hmust.out _ (h.alloc _)).mono ?_;rintro e w1 ⟨rfl,hD,hB⟩;have hC:=(VB.new w _ _ _ _ _).rd hB;obtain⟨q0,q1,q2,q3,q4,a0,a1,a2,a3,a4,fz,hlt1⟩:=hC.cells
 go_wp2_with fail
 refine bodyPost_ret (v := .agg #[.int .i64 0,.int .i64 0,.string ⟨#[]⟩,.slice none 0 0,.slice none 0 0]) (by simp[results,Tryz.results219,go_sem,a0,a1,a2,a3,a4]) rfl ?_;exact⟨_,rfl,RJ.zero _ _,hD.setV (by omega) _ _ _ _ _,((Fr.refl.alloc _).trans' hB).setV (ja _) _ _ _ _ _⟩
theorem zpu (q r:Nat)(s:Bs)(bad:Bool)(d:Int)(w:World)(hq:Bx q r w)(h:Rd r s bad d w) :
 Calls zl 221 #[.pointer (some ⟨q,0,none⟩)] w fun e w'=>∃ v,e = .returned v∧RJ (fun k=>w.heap.size≤k) w' (.mk 1 1 [] [] []) v∧Rd r (qu zkk ⟨s,bad⟩).s (qu zkk ⟨s,bad⟩).bad d w'∧Fr (MR r) w w':=by
 have cq:=hq.cell;have hql:=jq hq;have hlt:=h.lt;have hA:=fun W hR=>zhs r s zkk bad d W hR
 generalize qu zkk ⟨s,bad⟩=G at *;obtain⟨s1,b1⟩:=G;have Hmust:=zi hA;clear hA;go_enter Tryz.func221,Tryz.ntmps221
 go_wp2_with fail
 refine(Hmust.out _ (h.alloc _)).mono ?_;rintro e w1 ⟨rfl,hD,hB⟩;have hC:=(VB.new w _ _ _ _ _).rd hB;obtain⟨q0,q1,q2,q3,q4,a0,a1,a2,a3,a4,fz,hlt1⟩:=hC.cells
 go_wp2_with fail
 refine bodyPost_ret (v := .agg #[.int .i64 1,.int .i64 1,.string ⟨#[]⟩,.slice none 0 0,.slice none 0 0]) (by simp[results,Tryz.results221,go_sem,a0,a1,a2,a3,a4]) rfl ?_;exact⟨_,rfl,RJ.flat _ _ _ _ [],hD.setV (by omega) _ _ _ _ _,((Fr.refl.alloc _).trans' hB).setV (ja _) _ _ _ _ _⟩
theorem zpt (q r:Nat)(s:Bs)(bad:Bool)(d:Int)(w:World)(hq:Bx q r w)(h:Rd r s bad d w) :
 Calls zl 222 #[.pointer (some ⟨q,0,none⟩)] w fun e w'=>∃ v,e = .returned v∧RJ (fun k=>w.heap.size≤k) w' (.mk 1 0 [] [] []) v∧Rd r (qu zge ⟨s,bad⟩).s (qu zge ⟨s,bad⟩).bad d w'∧Fr (MR r) w w':=by
 have cq:=hq.cell;have hql:=jq hq;have hlt:=h.lt;have hA:=fun W hR=>zhs r s zge bad d W hR
 generalize qu zge ⟨s,bad⟩=G at *;obtain⟨s1,b1⟩:=G;have Hmust:=zi hA;clear hA;go_enter Tryz.func222,Tryz.ntmps222
 go_wp2_with fail
 refine(Hmust.out _ (h.alloc _)).mono ?_;rintro e w1 ⟨rfl,hD,hB⟩;have hC:=(VB.new w _ _ _ _ _).rd hB;obtain⟨q0,q1,q2,q3,q4,a0,a1,a2,a3,a4,fz,hlt1⟩:=hC.cells
 go_wp2_with fail
 refine bodyPost_ret (v := .agg #[.int .i64 1,.int .i64 0,.string ⟨#[]⟩,.slice none 0 0,.slice none 0 0]) (by simp[results,Tryz.results222,go_sem,a0,a1,a2,a3,a4]) rfl ?_;exact⟨_,rfl,RJ.flat _ _ _ _ [],hD.setV (by omega) _ _ _ _ _,((Fr.refl.alloc _).trans' hB).setV (ja _) _ _ _ _ _⟩
theorem zps (q r:Nat)(s:Bs)(bad:Bool)(d:Int)(w:World)(hq:Bx q r w)(h:Rd r s bad d w)(hg:Gl w)(hlen:s.length≤1073741824) :
 Calls zl 223 #[.pointer (some ⟨q,0,none⟩)] w fun e w'=>∃ v,e = .returned v∧RJ (fun k=>w.heap.size≤k) w' (.mk 3 0 (zav ⟨s,bad⟩).1 [] []) v∧Rd r (zav ⟨s,bad⟩).2.s (zav ⟨s,bad⟩).2.bad d w'∧Fr (MR r) w w':=by
 have cq:=hq.cell;have hql:=jq hq;have hlt:=h.lt;have hA:=fun W hR hC=>zox r s bad d W hR hC hlen
 generalize zav ⟨s,bad⟩=G at *;obtain⟨nm,s1,b1⟩:=G;have Htext:=zi hA;clear hA;go_enter Tryz.func223,Tryz.ntmps223
 go_wp2_with fail
 refine(Htext.out _ (h.alloc _) (hg.alloc _)).mono ?_;rintro e w1 ⟨rfl,hE,hB⟩;have hD:=(VB.new w _ _ _ _ _).rd hB;obtain⟨q0,q1,q2,q3,q4,a0,a1,a2,a3,a4,fz,hlt1⟩:=hD.cells
 go_wp2_with fail
 refine bodyPost_ret (v := .agg #[.int .i64 3,.int .i64 0,.string ⟨nm.toArray⟩,.slice none 0 0,.slice none 0 0]) (by simp[results,Tryz.results223,go_sem,a0,a1,a2,a3,a4]) rfl ?_;exact⟨_,rfl,RJ.flat _ _ _ _ nm,hE.setV (by omega) _ _ _ _ _,((Fr.refl.alloc _).trans' hB).setV (ja _) _ _ _ _ _⟩
def zqu (r q:Nat) (c:UInt8):Value :=
 if c=110 then .func (.func 219) #[] #[.pointer (some ⟨q,0,none⟩)]
 else if c=116 then .func (.func 221) #[] #[.pointer (some ⟨q,0,none⟩)]
 else if c=102 then .func (.func 222) #[] #[.pointer (some ⟨q,0,none⟩)]
 else if c=34 then .func (.func 223) #[] #[.pointer (some ⟨q,0,none⟩)]
 else if c=91 then .func (.func 225) #[.pointer (some ⟨r,0,none⟩)] #[]
 else if c=123 then .func (.func 226) #[.pointer (some ⟨r,0,none⟩)] #[]
 else .func (.func 227) #[.pointer (some ⟨r,0,none⟩)] #[]
theorem zd5 (c:UInt8) (n:Nat) (hn:n<256):((c.toNat:Int)==(n:Int))=decide (c=UInt8.ofNat n):=by
 rw[Bool.eq_iff_iff,beq_iff_eq,decide_eq_true_eq];constructor
 ·intro e;have:c.toNat=n:=by omega
  apply UInt8.toNat_inj.1;rw[this];simp;omega
 rintro rfl;simp;omega
theorem zqt (r:Nat) (c:UInt8) (w:World) :
 Calls zl 180 #[.pointer (some ⟨r,0,none⟩),.int .u8 c.toNat] w fun e w'=>e = .returned (zqu r w.heap.size c)∧w'=w.alloc (.cells #[.pointer (some ⟨r,0,none⟩)] 177):=by
 have e1:((c.toNat:Int)==110)=decide (c=110):=zd5 c 110 (by decide);have e2:((c.toNat:Int)==116)=decide (c=116):=zd5 c 116 (by decide);have e3:((c.toNat:Int)==102)=decide (c=102):=zd5 c 102 (by decide);have e4:((c.toNat:Int)==34)=decide (c=34):=zd5 c 34 (by decide);have e5:((c.toNat:Int)==91)=decide (c=91):=zd5 c 91 (by decide);have e6:((c.toNat:Int)==123)=decide (c=123):=zd5 c 123 (by decide);generalize hG:zqu r w.heap.size c=G;unfold zqu at hG;by_cases h1:c=110
 ·rw[decide_eq_true h1]at e1;rw[if_pos h1]at hG;clear e2 e3 e4 e5 e6;go_enter Tryz.func180,Tryz.ntmps180
  go_wp2_with fail
  go_ret;exact⟨rfl,rfl⟩
 rw[decide_eq_false h1]at e1;rw[if_neg h1]at hG;by_cases h2:c=116
 ·rw[decide_eq_true h2]at e2;rw[if_pos h2]at hG;clear e3 e4 e5 e6;go_enter Tryz.func180,Tryz.ntmps180
  go_wp2_with fail
  go_ret;exact⟨rfl,rfl⟩
 rw[decide_eq_false h2]at e2;rw[if_neg h2]at hG;by_cases h3:c=102
 ·rw[decide_eq_true h3]at e3;rw[if_pos h3]at hG;clear e4 e5 e6;go_enter Tryz.func180,Tryz.ntmps180
  go_wp2_with fail
  go_ret;exact⟨rfl,rfl⟩
 rw[decide_eq_false h3]at e3;rw[if_neg h3]at hG;by_cases h4:c=34
 ·rw[decide_eq_true h4]at e4;rw[if_pos h4]at hG;clear e5 e6;go_enter Tryz.func180,Tryz.ntmps180
  go_wp2_with fail
  go_ret;exact⟨rfl,rfl⟩
 rw[decide_eq_false h4]at e4;rw[if_neg h4]at hG;by_cases h5:c=91
 ·rw[decide_eq_true h5]at e5;rw[if_pos h5]at hG;clear e6;go_enter Tryz.func180,Tryz.ntmps180
  go_wp2_with fail
  go_ret;exact⟨rfl,rfl⟩
 rw[decide_eq_false h5]at e5;rw[if_neg h5]at hG;by_cases h6:c=123
 ·rw[decide_eq_true h6]at e6;rw[if_pos h6]at hG;go_enter Tryz.func180,Tryz.ntmps180
  go_wp2_with fail
  go_ret;exact⟨rfl,rfl⟩
 rw[decide_eq_false h6]at e6;rw[if_neg h6]at hG;go_enter Tryz.func180,Tryz.ntmps180
 go_wp2_with fail
 go_ret;exact⟨rfl,rfl⟩
end
section
open Go.RowKit
attribute [local instance] zaj

theorem zr4 (f:Nat) (hv:zh7 f) (d:Int) (hd0:0≤d) (hd1:d≤8) (hdf:d+1+f=10) (r q:Nat) (c:UInt8) (l:Bs) (w:World) (hq:Bx q r w) (h:Rd r (c :: l) false d w) (hg:Gl w) (hlen:(c :: l).length≤67108864) :
 ∃ g a b,zqu r q c = .func (.func g) a b∧(callFunc g (a++b)).run zl w = .ok (.enter g (a++b)) w∧Calls zl g (a++b) w fun e w'=>∃ v,e = .returned v ∧
  RJ (fun k=>w.heap.size≤k) w' (zgu (j6 f (d+1)) d c ⟨c :: l,false⟩).1 v ∧
  Rd r (zgu (j6 f (d+1)) d c ⟨c :: l,false⟩).2.s (zgu (j6 f (d+1)) d c ⟨c :: l,false⟩).2.bad d w'∧Fr (MR r) w w':=by
 unfold zqu zgu;by_cases h1:c=110
 ·simp only[if_pos h1];exact⟨_,_,_,rfl,by simp[go_sem],zpv q r _ _ d w hq h⟩
 simp only[if_neg h1];by_cases h2:c=116
 ·simp only[if_pos h2];exact⟨_,_,_,rfl,by simp[go_sem],zpu q r _ _ d w hq h⟩
 simp only[if_neg h2];by_cases h3:c=102
 ·simp only[if_pos h3];exact⟨_,_,_,rfl,by simp[go_sem],zpt q r _ _ d w hq h⟩
 simp only[if_neg h3];by_cases h4:c=34
 ·simp only[if_pos h4];exact⟨_,_,_,rfl,by simp[go_sem],zps q r _ _ d w hq h hg (by omega)⟩
 simp only[if_neg h4];by_cases h5:c=91
 ·simp only[if_pos h5];exact⟨_,_,_,rfl,by simp[go_sem],zqz f hv d hd0 hd1 hdf r _ w h hg hlen⟩
 simp only[if_neg h5];by_cases h6:c=123
 ·simp only[if_pos h6];exact⟨_,_,_,rfl,by simp[go_sem],zn2 f hv d hd0 hd1 hdf r _ w h hg hlen⟩
 simp only[if_neg h6];exact⟨_,_,_,rfl,by simp[go_sem],zn3 r c l false d w h (by omega)⟩
theorem zpj:∀ f,zh7 f:=by
 intro f
 induction f with
 | zero=>intro d r s hL w _ _ _ h0 h1 h2;exfalso;simp at h2;omega
 | succ f ih =>
   intro d r s hL w h hg hlen hV hU hT;have hlt:=h.lt;have hH:d+1+(f:Int)=10:=by simp at hT;omega
   have hW:=qf s;simp only[j6];cases hs:jr s with
   | nil =>
     simp only;go_enter Tryz.func129,Tryz.ntmps129
     go_wp2_with fail
     refine(zb6 r s hL d _ (h.alloc _)).mono ?_;rintro e w1 ⟨rfl,hA,hB⟩;rw[hs]at hA;have hE:=(VB.new w _ _ _ _ _).rd hB;obtain⟨c0,c1,c2,f1,hM⟩:=hA.cells
     go_wp2_with fail
     refine(zah r _ _ d _ hA).mono ?_;rintro e w2 ⟨rfl,hJ,hF⟩;have hI:=hE.rd hF;obtain⟨q0,q1,q2,q3,q4,a0,a1,a2,a3,a4,fz,hD⟩:=hI.cells
     go_wp2_with fail
     refine bodyPost_ret (v := .agg #[.int .i64 0,.int .i64 0,.string ⟨#[]⟩,.slice none 0 0,.slice none 0 0]) (by simp[results,Tryz.results129,go_sem,a0,a1,a2,a3,a4]) rfl ?_;exact⟨_,rfl,RJ.zero _ _,hJ.setV (by omega) _ _ _ _ _,(((Fr.refl.alloc _).trans' hB).trans' hF).setV (ja _) _ _ _ _ _⟩
   | cons c l =>
     rw[hs]at hW;cases hL with
     | true =>
       simp only[if_true];go_enter Tryz.func129,Tryz.ntmps129
       go_wp2_with fail
       refine(zb6 r s true d _ (h.alloc _)).mono ?_;rintro e w1 ⟨rfl,hA,hB⟩;rw[hs]at hA;have hE:=(VB.new w _ _ _ _ _).rd hB;obtain⟨c0,c1,c2,f1,hM⟩:=hA.cells
       go_wp2_with fail
       refine(zah r _ _ d _ hA).mono ?_;rintro e w2 ⟨rfl,hJ,hF⟩;have hI:=hE.rd hF;obtain⟨q0,q1,q2,q3,q4,a0,a1,a2,a3,a4,fz,hD⟩:=hI.cells
       go_wp2_with fail
       refine bodyPost_ret (v := .agg #[.int .i64 0,.int .i64 0,.string ⟨#[]⟩,.slice none 0 0,.slice none 0 0]) (by simp[results,Tryz.results129,go_sem,a0,a1,a2,a3,a4]) rfl ?_;exact⟨_,rfl,RJ.zero _ _,hJ.setV (by omega) _ _ _ _ _,(((Fr.refl.alloc _).trans' hB).trans' hF).setV (ja _) _ _ _ _ _⟩
     | false =>
       simp only[Bool.false_eq_true,if_false];have hG:=fun q W hq hR hQ=>zr4 f ih d hV hU hH r q c l W hq hR hQ (by omega)
       generalize zgu (j6 f (d+1)) d c ⟨c :: l,false⟩=G at *;obtain⟨j,st⟩:=G;have Hfn:=zi hG;clear hG;go_enter Tryz.func129,Tryz.ntmps129
       go_wp2_with fail
       refine(zb6 r s false d _ (h.alloc _)).mono ?_;rintro e w1 ⟨rfl,hA,hB⟩;rw[hs]at hA;have hE:=(VB.new w _ _ _ _ _).rd hB;have hS:=(hg.alloc _).rd (h.alloc _) hB;obtain⟨c0,c1,c2,f1,hM⟩:=hA.cells
       go_wp2_with fail
       refine(zqt r c w1).mono ?_;rintro e w2 ⟨rfl,rfl⟩;obtain⟨g,a,b,hG,hent,hC⟩:=Hfn.out w1.heap.size _ (heap_alloc_new w1 _) (hA.alloc _) (hS.alloc _);have Hcall:=zi hC;clear hC;rw[hG]
       go_wp2_with fail
       refine Hcall.out.mono ?_;rintro e w3 ⟨v,rfl,hj,hY,hK⟩;have hX:=(hE.fr (Fr.refl.alloc (M:=NoB) _) (fun _ _ h=>h)).rd hK;obtain⟨q0,q1,q2,q3,q4,a0,a1,a2,a3,a4,fz,hD⟩:=hX.cells;obtain⟨jk,jn,jt,jl,jp⟩:=j;have hN:=hj;unfold RJ at hN;obtain⟨x1,n1,x2,n2,rfl,_,_⟩:=hN;have Hj:=zi hj;clear hj;have hP:=hB.size;have hO:=hK.size;simp only[World.size_alloc]at hP hO
       go_wp2_with fail
       refine bodyPost_ret (v := .agg #[.int .i64 jk,.int .i64 jn,.string ⟨jt.toArray⟩,.slice x1 jl.length n1,.slice x2 jp.length n2]) (by simp[results,Tryz.results129,go_sem,a0,a1,a2,a3,a4]) rfl ?_;refine⟨_,rfl,RJ.kp (fun b o hb ho _=>⟨?_,(zgt _ _ _ _ _ _ _).block b o ho ?_⟩) _ _ Hj.out,hY.setV (by omega) _ _ _ _ _,((((Fr.refl.alloc _).trans' hB).alloc _).trans' hK).setV (ja _) _ _ _ _ _⟩
       ·simp only[World.size_alloc]at hb;omega
       simp only[World.size_alloc]at hb;omega
end
end Go.Proofs.YtffggpplnjibgaaGreatDoor
