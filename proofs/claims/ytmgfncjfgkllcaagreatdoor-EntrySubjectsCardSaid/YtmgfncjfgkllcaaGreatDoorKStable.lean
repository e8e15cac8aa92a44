/-
 The walk of insertionSortCmpFunc at pairs.
-/
import Derived.Test.YtmgfncjfgkllcaaGreatDoorKStart5
import Derived.Deep.LoopGhost
import Derived.Deep.RegionWith
import Derived.BigQuiet
import Derived.BigRegion
import Derived.StillTailTactics
open Go.Lib renaming hid→za
namespace Go.Proofs.YtmgfncjfgkllcaaGreatDoor
set_option linter.unusedVariables false
set_option linter.unusedSimpArgs false
set_option linter.unusedSectionVars false
set_option maxRecDepth 100000
set_option maxHeartbeats 2000000
section
open Go.RowKit

variable [PostL]
def MBk (b:Nat):Nat→Obj→Prop:=fun k _=>k=b
theorem PRow.two {b o k:Nat} {L1 L2:List PV} {y x:PV} {w:World} (h:PRow b o (L1++y :: x :: L2) w) (hk:L1.length=k) :
 (w.cell? ⟨b,o+k * 6,none⟩=some (.string ⟨y.nm.toArray⟩)∧w.cell? ⟨b,o+k * 6+1,none⟩=some (.int .i64 y.k)∧w.cell? ⟨b,o+k * 6+2,none⟩=some (.int .i64 y.n) ∧
   w.cell? ⟨b,o+k * 6+3,none⟩=some (.string ⟨y.t.toArray⟩)∧w.cell? ⟨b,o+k * 6+4,none⟩=some (.slice y.a1 y.n1 y.c1)∧w.cell? ⟨b,o+k * 6+5,none⟩=some (.slice y.a2 y.n2 y.c2)) ∧
 (w.cell? ⟨b,o+(k+1) * 6,none⟩=some (.string ⟨x.nm.toArray⟩)∧w.cell? ⟨b,o+(k+1) * 6+1,none⟩=some (.int .i64 x.k)∧w.cell? ⟨b,o+(k+1) * 6+2,none⟩=some (.int .i64 x.n) ∧
   w.cell? ⟨b,o+(k+1) * 6+3,none⟩=some (.string ⟨x.t.toArray⟩)∧w.cell? ⟨b,o+(k+1) * 6+4,none⟩=some (.slice x.a1 x.n1 x.c1)∧w.cell? ⟨b,o+(k+1) * 6+5,none⟩=some (.slice x.a2 x.n2 x.c2)):=by
 refine⟨h.at (i:=k) (p:=y) ?_,h.at (i:=k+1) (p:=x) ?_⟩
 ·subst hk;simp
 subst hk;simp
theorem PRow.swap {b o k:Nat} {L1 L2:List PV} {y x:PV} {W:World} (h:PRow b o (L1++y :: x :: L2) W) (hk:L1.length=k) :
 PRow b o (L1++x :: y :: L2) (put6 b (o+k * 6) (.string ⟨x.nm.toArray⟩) (.int .i64 x.k) (.int .i64 x.n) (.string ⟨x.t.toArray⟩) (.slice x.a1 x.n1 x.c1) (.slice x.a2 x.n2 x.c2)
  (put6 b (o+(k+1) * 6) (.string ⟨y.nm.toArray⟩) (.int .i64 y.k) (.int .i64 y.n) (.string ⟨y.t.toArray⟩) (.slice y.a1 y.n1 y.c1) (.slice y.a2 y.n2 y.c2) W)):=by
 subst hk;have h1:PRow b o ((L1++[y])++x :: L2) W:=by simpa using h
 have h2:=h1.put y;have e0:(L1++[y])++y :: L2=L1++y :: (y :: L2):=by simp
 have e:(L1++[y]).length=L1.length+1:=by simp
 rw[e0,e]at h2;exact h2.put x
theorem PRow.drew {b o:Nat}{l:List PV}{w:World}(h:PRow b o l w):PRow b o l w.drew:=by
 obtain⟨hB,hA,h,ho⟩:=h;exact⟨hB,hA,h,ho⟩
theorem zxh (b o c n a bb:Nat) (front seg back:List PV) (w:World) (h:PRow b o (front++(seg++back)) w) (ha:front.length=a) (hbb:a+seg.length=bb) (hn:bb+back.length=n) (hn':n≤67108864) :
 Calls Tryz.prog 324 #[.slice (some ⟨b,o,none⟩) n c,.int .i64 a,.int .i64 bb,.func (.func 247) #[] #[]] w fun e w' =>
  e = .returned (.tuple #[])∧PRow b o (front++(zek PV.nm seg++back)) w'∧Fr (MBk b) w w':=by
 unfold zek;generalize hG:(zd1 PV.nm [] seg).reverse=G;have HG:=za hG;clear hG;cases seg with
 | nil =>
   have hab:¬ (a:Int)+1<bb:=by simp at hbb;omega
   go_enter Tryz.func324,Tryz.ntmps324
   go_wp2_with fail
   go_loopg [8] 0 (fun g vi wr=>vi = .int .i64 ((a:Int)+1)∧wr=w)
   case atStart=>exact⟨rfl,rfl⟩
   case round =>
    obtain⟨rfl,rfl⟩:=hrel
    go_wp2_with fail
    go_end0
    have:=HG.out;simp[zd1]at this;subst this;exact⟨rfl,h,Fr.refl⟩
 | cons x0 seg =>
   go_enter Tryz.func324,Tryz.ntmps324
   go_wp2_with fail
   go_loopg [8] (seg.length+1) (fun g vi wr=>∃ (i:Nat) (hI hA:List PV),vi = .int .i64 i∧i=a+hI.length∧i+hA.length=bb∧g=hA.length+1∧1≤hI.length ∧
    PRow b o (front++(hI.reverse++(hA++back))) wr∧Fr (MBk b) w wr∧Hid ((zd1 PV.nm hI hA).reverse=G))
   case atStart=>exact⟨a+1,[x0],seg,by simp,by simp,by simp at hbb;omega,rfl,by simp,by simpa using h,Fr.refl,HG⟩
   case round =>
    obtain⟨i,hI,hA,rfl,hi,hM,hg,hacc,hK,hF,hS⟩:=hrel;cases hA with
    | nil =>
      have hX:i=bb:=by simpa using hM
      go_wp2_with fail
      go_end0
      have hR:=hS.out;simp[zd1]at hR;subst hR;exact⟨rfl,by simpa using hK,hF⟩
    | cons x hA =>
      have hX:i<bb:=by simp at hM;omega
      have HI:=za hi;clear hi;have hH:=hS.out;rw[zd1]at hH;have hP:=za hH;clear hS hH HG;have hT:PRow b o (front++(hI.reverse++(x :: (hA++back)))) wr:=by simpa using hK
      clear hK
      go_wp2_with fail
      generalize hU:(zob PV.nm x hI).reverse++(hA++back)=G2 at *;have hb:=za hU
      go_loopg [9] (hI.length+1) (fun g vj wq=>∃ (j:Nat) (hD hC:List PV),vj = .int .i64 j∧j=a+hD.length∧g=hD.length+1∧j+hC.length+1=n ∧
       PRow b o (front++(hD.reverse++x :: hC)) wq∧Fr (MBk b) w wq∧Hid ((zob PV.nm x hD).reverse++hC=G2))
      case atStart=>exact⟨i,hI,hA++back,rfl,HI.out,rfl,by simp at hM ⊢;omega,hT,hF,hb⟩
      case round =>
       obtain⟨j,hD,hC,rfl,hj,hQ,hjt,hK,hO,hS⟩:=hrel;cases hD with
       | nil =>
         have hja:decide (a<j)=false:=by rw[decide_eq_false_iff_not];simp at hj;omega
         have Hj:=za hj;clear hj
         go_wp2_with fail
         go_quiet (fail)
         go_wp2_with fail
         go_roundg (hA.length+1)
         case measure=>simp at hg;omega
         case rel =>
          refine⟨i+1,zob PV.nm x hI,hA,by simp,by rw[zde];have:=HI.out;omega,by simp at hM;omega,rfl,by rw[zde];omega,?_,hO.trans' ((zct _ nq).mono (fun _ _ h=>h.elim)),hP⟩;have h2:=hK.fr (zct _ nq) (fun _ _ h=>h);have e1:=hS.out;simp[zob]at e1;rw[hU,← e1];simpa using h2
       | cons y hD =>
         obtain⟨k,rfl,hk⟩:∃ k,j=k+1∧k=a+hD.length:=⟨a+hD.length,by simp at hj;omega,rfl⟩;have Hk:=za hk;clear hj hk;have hE:PRow b o ((front++hD.reverse)++y :: x :: hC) wr:=by simpa using hK
         have hL:(front++hD.reverse).length=k:=by have:=Hk.out;simp;omega
         obtain⟨⟨y0,y1,y2,y3,y4,y5⟩,x0,x1,x2,x3,x4,x5⟩:=hE.two hL;have HL:=za hL;clear hL;have fz:=hE.open;have ep:((k+1:Nat):Int)=(k:Int)+1:=by omega
         rw[ep];have e1:decide ((a:Int)<(k:Int)+1)=true:=by rw[decide_eq_true_eq];have:=Hk.out;omega
         have e2:k+1<n:=by omega
         have e4:(0:Int)≤(k:Int)+1:=by omega
         have e5:k<n:=by omega
         have e6:IntKind.i64.wrap (k:Int)=k:=by rw[IntKind.wrap_i64];omega
         have e3:(k:Int)+1<n:=by omega
         clear hK ep;have hH:=hS.out;unfold zob at hH;cases hc:Op.bytesLess x.nm y.nm with
         | true =>
           rw[hc,if_pos rfl]at hH;have hP:=za hH;have hJ:=za hE;have Hc:=za hc;have hY:z0e x.nm y.nm<0:=by unfold z0e;rw[hc,if_pos rfl];decide
           clear hH hS hE hc
           go_wp2_with fail
           go_still_tail 14,(by kernel_rfl)
           change wpList _ _ _ _ _ wr.drew
           go_wp2_with fail
           refine(zq0 x.nm y.nm _ _ _ _ _ _ _ _ _ _ _).mono ?_;rintro e w' ⟨rfl,rfl⟩
           go_wp2_with fail
           have hB:=hJ.out.alloc (.cells #[.string ⟨x.nm.toArray⟩,.int .i64 x.k,.int .i64 x.n,.string ⟨x.t.toArray⟩,.slice x.a1 x.n1 x.c1,.slice x.a2 x.n2 x.c2] 133) |>.alloc (.cells #[.string ⟨y.nm.toArray⟩,.int .i64 y.k,.int .i64 y.n,.string ⟨y.t.toArray⟩,.slice y.a1 y.n1 y.c1,.slice y.a2 y.n2 y.c2] 133)
           have hN:=(hO.alloc (.cells #[.string ⟨x.nm.toArray⟩,.int .i64 x.k,.int .i64 x.n,.string ⟨x.t.toArray⟩,.slice x.a1 x.n1 x.c1,.slice x.a2 x.n2 x.c2] 133)).alloc (.cells #[.string ⟨y.nm.toArray⟩,.int .i64 y.k,.int .i64 y.n,.string ⟨y.t.toArray⟩,.slice y.a1 y.n1 y.c1,.slice y.a2 y.n2 y.c2] 133);obtain⟨W,hW⟩:∃ W,((wr.alloc (.cells #[.string ⟨x.nm.toArray⟩,.int .i64 x.k,.int .i64 x.n,.string ⟨x.t.toArray⟩,.slice x.a1 x.n1 x.c1,.slice x.a2 x.n2 x.c2] 133)).alloc (.cells #[.string ⟨y.nm.toArray⟩,.int .i64 y.k,.int .i64 y.n,.string ⟨y.t.toArray⟩,.slice y.a1 y.n1 y.c1,.slice y.a2 y.n2 y.c2] 133))=W:=⟨_,rfl⟩;rw[hW]at hB hN ⊢;clear hW;clear y0 y1 y2 y3 y4 y5 x0 x1 x2 x3 x4 x5 fz;obtain⟨⟨y0,y1,y2,y3,y4,y5⟩,x0,x1,x2,x3,x4,x5⟩:=hB.two HL.out;have fz:=hB.open;have hV:=za hB;have hd:=za hN;clear hB hN hJ hO
           go_region
           go_wp2_with fail
           go_roundg (hD.length+1)
           case measure=>simp at hQ;omega
           case rel =>
            refine⟨k,hD,y :: hC,rfl,Hk.out,rfl,by simp;omega,?_,?_,?_⟩
            ·have h1:=hV.out.swap HL.out;have h2:=(h1.fr (zct _ 1) (fun _ _ h=>h)).fr (zct _ 1) (fun _ _ h=>h);rw[List.append_assoc]at h2;exact h2
            ·exact(((hd.out.put6 b _ _ _ _ _ _ _ (fun _ _=>rfl)).put6 b _ _ _ _ _ _ _ (fun _ _=>rfl)).drew).drew
            have:=hP.out;simpa using za this
         | false =>
           rw[hc,if_neg (by simp)]at hH;have hZ:=za hH;have hJ:=za hE;have hY:¬ z0e x.nm y.nm<0:=by unfold z0e;rw[hc,if_neg (by simp)];split<;>decide
           clear hH hS hE hc
           go_wp2_with fail
           go_still_tail 14,(by kernel_rfl)
           change wpList _ _ _ _ _ wr.drew
           go_wp2_with fail
           refine(zq0 x.nm y.nm _ _ _ _ _ _ _ _ _ _ _).mono ?_;rintro e w' ⟨rfl,rfl⟩
           go_wp2_with fail
           have hB:=hJ.out.alloc (.cells #[.string ⟨x.nm.toArray⟩,.int .i64 x.k,.int .i64 x.n,.string ⟨x.t.toArray⟩,.slice x.a1 x.n1 x.c1,.slice x.a2 x.n2 x.c2] 133) |>.alloc (.cells #[.string ⟨y.nm.toArray⟩,.int .i64 y.k,.int .i64 y.n,.string ⟨y.t.toArray⟩,.slice y.a1 y.n1 y.c1,.slice y.a2 y.n2 y.c2] 133)
           have hN:=(hO.alloc (.cells #[.string ⟨x.nm.toArray⟩,.int .i64 x.k,.int .i64 x.n,.string ⟨x.t.toArray⟩,.slice x.a1 x.n1 x.c1,.slice x.a2 x.n2 x.c2] 133)).alloc (.cells #[.string ⟨y.nm.toArray⟩,.int .i64 y.k,.int .i64 y.n,.string ⟨y.t.toArray⟩,.slice y.a1 y.n1 y.c1,.slice y.a2 y.n2 y.c2] 133)
           go_roundg (hA.length+1)
           case measure=>simp at hg;omega
           case rel =>
            refine⟨i+1,zob PV.nm x hI,hA,by simp,by rw[zde];have:=HI.out;omega,by simp at hM;omega,rfl,by rw[zde];omega,?_,hN.drew,hP⟩;have h2:=hB.drew;have e1:=hZ.out;rw[hU];rw[← e1];simpa using h2
end
section
open Go.RowKit

def zn7 (N:Nat):Prop:=∀ [PostL] (b o c:Nat) (l:List PV) (w:World),PRow b o l w→l.length≤N →
 Calls Tryz.prog 246 #[.slice (some ⟨b,o,none⟩) l.length c,.func (.func 247) #[] #[]] w fun e w'=>e = .returned (.tuple #[])∧PRow b o (zek PV.nm l) w'∧Fr (MBk b) w w'
theorem zo3 (v:Value) (w:World) :
 Calls Tryz.prog 324 #[v,.int .i64 0,.int .i64 0,.func (.func 247) #[] #[]] w fun e w'=>e = .returned (.tuple #[])∧w'=w:=by
 go_enter Tryz.func324,Tryz.ntmps324
 go_wp2_with fail
 go_loopg [8] 0 (fun g vi wr=>vi = .int .i64 1∧wr=w)
 case atStart=>exact⟨rfl,rfl⟩
 case round =>
  obtain⟨rfl,rfl⟩:=hrel
  go_wp2_with fail
  go_end0
  exact⟨rfl,rfl⟩
theorem zmk [PostL] (b o c n:Nat) (l:List PV) (w:World) (h:PRow b o l w) (hl:l.length=n) (hn:n≤19) :
 Calls Tryz.prog 295 #[.slice (some ⟨b,o,none⟩) n c,.int .i64 n,.func (.func 247) #[] #[]] w fun e w'=>e = .returned (.tuple #[])∧PRow b o (zek PV.nm l) w'∧Fr (MBk b) w w':=by
 have h1:¬ (20:Int)≤n:=by omega
 have h2:¬ (20:Int)<n:=by omega
 go_enter Tryz.func295,Tryz.ntmps295
 go_wp2_with fail
 go_loopg [7,8] 0 (fun g va vb wr=>va = .int .i64 0∧vb = .int .i64 20∧wr=w)
 case atStart=>exact⟨rfl,rfl,rfl⟩
 case round =>
  obtain⟨rfl,rfl,rfl⟩:=hrel
  go_wp2_with fail
  have hA:=zxh b o c n 0 n [] l [] wr (by simpa using h) rfl (by omega) (by simp) (by omega);refine hA.mono ?_;rintro e w1 ⟨rfl,hP,hF⟩
  go_wp2_with fail
  go_loopg [6,7,8] 0 (fun g va vb vc wr=>va = .int .i64 20∧wr=w1)
  case atStart=>exact⟨rfl,rfl⟩
  case round =>
   obtain⟨rfl,rfl⟩:=hrel
   go_wp2_with fail
   go_end0
   exact⟨rfl,by simpa using hP,hF⟩
theorem zfo:zn7 19:=by
 intro _ b o c l w h hl;go_enter Tryz.func246,Tryz.ntmps246
 go_wp2_with fail
 refine(zmk b o c l.length l w h rfl hl).mono ?_;rintro e w1 ⟨rfl,hP,hF⟩
 go_wp2_with fail
 go_end0
 exact⟨rfl,hP,hF⟩
theorem zoh (v:Value) (w:World) :
 Calls Tryz.prog 295 #[v,.int .i64 0,.func (.func 247) #[] #[]] w fun e w'=>e = .returned (.tuple #[])∧w'=w:=by
 go_enter Tryz.func295,Tryz.ntmps295
 go_wp2_with fail
 go_loopg [7,8] 0 (fun g va vb wr=>va = .int .i64 0∧vb = .int .i64 20∧wr=w)
 case atStart=>exact⟨rfl,rfl,rfl⟩
 case round =>
  obtain⟨rfl,rfl,rfl⟩:=hrel
  go_wp2_with fail
  refine(zo3 v wr).mono ?_;rintro e w1 ⟨rfl,rfl⟩
  go_wp2_with fail
  go_loopg [6,7,8] 0 (fun g va vb vc wr=>va = .int .i64 20∧wr=w1)
  case atStart=>exact⟨rfl,rfl⟩
  case round =>
   obtain⟨rfl,rfl⟩:=hrel
   go_wp2_with fail
   go_end0
   exact⟨rfl,rfl⟩
theorem zto (a:Option Addr)(c:Nat)(w:World) :
 Calls Tryz.prog 246 #[.slice a 0 c,.func (.func 247) #[] #[]] w fun e w'=>e = .returned (.tuple #[])∧w'=w:=by
 go_enter Tryz.func246,Tryz.ntmps246
 go_wp2_with fail
 refine(zoh _ w).mono ?_;rintro e w1 ⟨rfl,rfl⟩
 go_wp2_with fail
 go_end0
 exact⟨rfl,rfl⟩
end
end Go.Proofs.YtmgfncjfgkllcaaGreatDoor
