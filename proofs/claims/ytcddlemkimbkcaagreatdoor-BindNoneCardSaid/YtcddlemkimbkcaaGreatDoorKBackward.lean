/-
 A region that draws its order and calls nothing,inside a fence: by the walk outside of one.
-/
import Derived.OrdersIn
import Derived.Deep.RegionHeld
import Derived.Test.YtcddlemkimbkcaaGreatDoorKSeen
import Derived.Test.YtcddlemkimbkcaaGreatDoorKNum
import Derived.Test.YtcddlemkimbkcaaGreatDoorKSeq
open Go.Lib renaming hid→za
open Go.Value renaming int→zy
open Go.IntKind renaming u8→z6
namespace Go.Proofs.YtcddlemkimbkcaaGreatDoor
set_option linter.unusedVariables false
set_option linter.unusedSimpArgs false
set_option linter.unusedSectionVars false
set_option maxRecDepth 100000
set_option maxHeartbeats 2000000
section
open Go.RowKit
def zga:Op→Bool
 | .load .. | .store .. | .fieldAddr .. | .indexAddr .. | .move .. | .assign .. | .binOp .. | .unOp .. | .slice ..=>true
 | .call c=>match c.callee with
   | .builtin .len | .builtin .min | .builtin .append=>true
   | _=>false
 | _=>false
theorem zts {P:Program} {s:Sem Value} {w w':World} {x:Next} (h:(do pure (.value (← s)):Sem Next).run P w = .ok x w'):(∃ v,x = .value v)∨x = .skip:=by
 rw[Sem.run_bind]at h;cases hs:s.run P w with
 | ok v w1 =>
   rw[hs]at h;simp only[Result.andThen,Sem.run_pure]at h;cases h;exact .inl ⟨_,rfl⟩
 | halt v w1=>rw[hs]at h;cases h
theorem zv9 {P:Program} {s:Sem Unit} {w w':World} {x:Next} (h:(do s;pure .skip:Sem Next).run P w = .ok x w'):(∃ v,x = .value v)∨x = .skip:=by
 rw[Sem.run_bind]at h;cases hs:s.run P w with
 | ok v w1 =>
   rw[hs]at h;simp only[Result.andThen,Sem.run_pure]at h;cases h;exact .inr rfl
 | halt v w1=>rw[hs]at h;cases h
theorem zos {P:Program} {ρ:Operand→Value} {o:Oper} (h:zga o.op=true) {w w':World} {x:Next} (hr:(execOp ρ o).run P w = .ok x w'):(∃ v,x = .value v)∨x = .skip:=by
 unfold execOp at hr;cases ho:o.op<;>rw[ho]at h<;>first | (cases h;done) | skip
 all_goals
  rw[ho]at hr
  first
   | exact zts hr
   | exact zv9 hr
   | (simp only[Sem.run_pure]at hr;cases hr;exact .inl ⟨_,rfl⟩)
   | (rename_i c
      obtain⟨hA,cargs,cts⟩:=c;cases hA with
      | builtin b =>
        simp only[resolve,Sem.run_bind,Sem.run_pure,Result.andThen,invoke]at hr;cases b<;>first | (cases h;done) | exact zts hr
      | invoke r n=>cases h
      | value f=>cases h)
theorem zhr {P:Program} {ρ:Operand→Value} {o:Oper} (h:zga o.op=true) (w:World):o.about P w ρ=none:=by
 unfold Oper.about
 cases ho:o.op<;>rw[ho]at h<;>first
  | (cases h;done)
  | rfl
  | (rename_i c
     obtain⟨hA,cargs,cts⟩:=c;cases hA with
     | builtin b=>rfl
     | invoke r n=>cases h
     | value f=>cases h)
theorem zp2 {ro:Option Nat}{ρ:Operand→Value}{o:Oper}(h:zga o.op=true):Oper.semAt ro ρ o=execOp ρ o :=
 Oper.semAt_eq ro ρ o (fun c hc=>by rw[hc]at h;cases h)
def zic (Q:Exit→Act→World→Prop):Exit→Act→World→Prop
 | .normal,a,w=>Q .normal a w
 | _,_,_=>False
section
variable {F:Fence} {n:Nat} {P:Program} {ops:Array Oper} {Q:Exit→Act→World→Prop} {md:Region.Mode} {S:World→Prop}
theorem zn7 {o:Oper} (h:zga o.op=true) {a:Act} {w:World} {K K':Act→World→Prop} (hK:∀ a w,K a w→K' a w) (hw:o.wp P a w K (zic Q)):o.wpIn F n P a w K' Q:=by
 unfold Oper.wpIn;refine⟨fun f hf=>(by rw[zhr h]at hf;cases hf),?_⟩;rw[zp2 h];unfold Oper.wp at hw;cases hr:(execOp a.eval o).run P w with
 | ok x w' =>
   rw[hr]at hw;rcases zos h hr with⟨v,rfl⟩ | rfl
   ·exact hK _ _ hw
   exact hK _ _ hw
 | halt x w' =>
   rw[hr]at hw;cases x<;>simp only[Oper.upon,zic]at hw
theorem zbg (hp:∀ o∈ops,zga o.op=true):∀ (fuel:Nat) (listed:Array Bool) (a:Act) (w:World),wpAnyH P md ops (zic Q) S fuel listed a w→wpAnyIn F n P md ops Q fuel listed a w
 | 0,_,_,_,h=>h
 | fuel+1,listed,a,w,h=>by
   refine⟨h.1,fun i hi=>?_⟩;have h1:=h.2 i hi;unfold wpOp at h1;unfold wpOpIn;cases ho:ops[i]? with
   | none =>
     rw[ho]at h1;exact zbg hp fuel _ a w h1.2
   | some o =>
     rw[ho]at h1;have hpo:=hp o (Array.mem_of_getElem? ho);simp only at h1 ⊢;split
     ·rename_i hw
      rw[if_pos hw]at h1;rcases h1 with h1 | ⟨-,a',w',h1⟩
      ·exact zn7 hpo (fun a w h=>zbg hp fuel _ a w h.2) h1
      exact h1.elim
     rename_i hw
     rw[if_neg hw]at h1;exact⟨fun f hf=>(by rw[zhr hpo]at hf;cases hf),zbg hp fuel _ _ w h1.2⟩
theorem zd1 {id:Nat}{a:Act}{w:World}(hm:P.follows .mixedOrders=true)(hp:ops.all (fun o=>zga o.op)=true)(hS:S w.drew)
 (h:S w.drew→wpAnyH P .any ops (zic Q) S ops.size (Array.replicate ops.size false) a w.drew):(Code.region id ops true).wpIn F n P Q a w :=
 wpIn_region_any hm (zbg (fun o ho=>Array.all_eq_true_iff_forall_mem.1 hp o ho) _ _ _ _ (h hS))
end
end
section
open Go.RowKit Go.Shelf
variable [OldK]
attribute [local go_sem] Oper.semAt_some
def chgZ:Array Value:=#[.int .i64 0,.bool false,zy z6 0,zy z6 0,zy z6 0,zy z6 0,zy z6 0,zy z6 0,zy z6 0,zy z6 0,zy z6 0,zy z6 0,zy z6 0,zy z6 0,zy z6 0,zy z6 0,zy z6 0,zy z6 0,zy z6 0,zy z6 0,zy z6 0,zy z6 0,zy z6 0,zy z6 0,zy z6 0,zy z6 0,zy z6 0,zy z6 0,zy z6 0,zy z6 0,zy z6 0,zy z6 0,zy z6 0,zy z6 0]
def Chg.enc (c:Chg):List Value:=if c.cells.length=34 then c.cells else chgZ.toList
theorem Chg.enc_len (c:Chg):c.enc.length=34:=by
 unfold Chg.enc;split
 ·assumption
 rfl
theorem Chg.enc_ok {c:Chg}(h:c.ok):c.enc=c.cells:=if_pos (Chg.size h)
theorem Chg.enc_one (c:Chg):c.enc.toArray.all (·.oneCell')=true:=by
 unfold Chg.enc;split
 ·exact Chg.one c
 kernel_rfl
def znq (x:Nat × Chg):Array Value:=#[.int .i64 x.1,.agg x.2.enc.toArray]
def BkRow (n₀ gb len:Nat) (xs:List (Nat × Chg)) (W:World):Prop:=gb<n₀∧∀ (j:Nat) (x:Nat × Chg),xs[j]? = some x→x.1=len - 1 - j∧W.rangeAt gb (x.1 * 34) x.2.cells
theorem BkRow.below {n₀ gb len:Nat}{xs:List (Nat × Chg)}{A B:World}(h:BkRow n₀ gb len xs A)(hb:Below n₀ A B):BkRow n₀ gb len xs B :=
 ⟨h.1,fun j x hx=>⟨(h.2 j x hx).1,zas (h.2 j x hx).2 (hb.block gb h.1)⟩⟩
theorem zti (F:Fence) (n:Nat) (h7:F.fn 115) (hro:F.round=none) (hn:1≤n) (l Bs n₀ len cap:Nat) (sa:Option Addr) (xs:List (Nat × Chg)) (hlen:xs.length=len) (hll:len≤67108864) (hok:∀ x∈xs,x.2.ok) (J Jx:List (Nat × Chg)→World→Prop)
 (hY:∀ pre x W,J pre W→pre.length<len→YieldAt F (n - 1) Tryz.prog l (znq x) W fun e W' =>
   (e = .returned (.bool true)∧J (pre++[x]) W'∧Below n₀ W W')∨(e = .returned (.bool false)∧Jx (pre++[x]) W'))
 (W:World) (hBs:Bs<n₀) (hn₀:n₀≤W.heap.size) (hB0:W.cell? ⟨Bs,0,none⟩=some (.slice sa len cap)) (hr:len=0∨∃ gb,sa=some ⟨gb,0,none⟩∧BkRow n₀ gb len xs W) (h0:J [] W) :
 CallsIn F n Tryz.prog 115 #[.func (.yield l) #[] #[],.pointer (some ⟨Bs,0,none⟩)] W fun e W'=>(∃ v,e = .returned v) ∧
  ((∃ ys,ys=xs∧J ys W')∨(∃ pre,pre <+: xs∧Jx pre W')):=by
 obtain⟨d,hu,hd⟩:=zdp;have Hu:=za hu;have Hd:=za hd;have hM:wrap64 ((len:Int) - 1)=(len:Int) - 1:=by unfold wrap64;omega
 clear hu hd;refine callsIn_of_wp Tryz.func115 rfl h7 ?_ hro;simp only[Tryz.ntmps115,List.size_toArray,List.length_cons,List.length_nil,Nat.reduceAdd,Nat.reduceSub,Array.replicate_succ,Array.replicate_zero,List.push_toArray,List.append_toArray,List.nil_append,List.cons_append]
 gi_wp2
 gi_loopw [3] (fun i wr=>∃ k:Nat,k≤len∧i = .int .i64 ((len:Int) - 1 - k)∧J (xs.take k) wr∧Below n₀ W wr∧W.heap.size≤wr.heap.size)
  (fun i _=>(intOf i+1).toNat)
 case atStart=>exact⟨0,Nat.zero_le _,by simp[hM],h0,Below.refl _ _,Nat.le_refl _⟩
 case round =>
  obtain⟨k,hk,rfl,hD,hB,hsz⟩:=hrel;by_cases hlt:k<len
  ·obtain ⟨x,hx⟩:∃ x,xs[k]? = some x:=⟨_,List.getElem?_eq_getElem (by omega)⟩;obtain⟨gb,hP,hG⟩:=hr.resolve_left (by omega);subst hP;obtain⟨hK,hR⟩:=(hG.below hB).2 k x hx;have hA:=hok x (List.mem_of_getElem? hx);rw[← Chg.enc_ok hA]at hR;have hm:(len:Int) - 1 - k=(x.1:Int):=by omega
   rw[hm];obtain⟨fn,tmps,assign,body,hy,hN⟩:=hY _ x wr hD (by rw[List.length_take];omega);unfold znq at hy;obtain⟨C,hC⟩:∃ C,x.2.enc=C:=⟨_,rfl⟩;have hI:C.length=34:=by rw[← hC];exact Chg.enc_len x.2
   rw[hC]at hR hy;have hq0:=(hB.cell (p:=⟨Bs,0,none⟩) hBs).trans hB0;obtain⟨m,hH⟩:∃ m,x.1=m:=⟨_,rfl⟩;rw[hH]at hR hy hm ⊢;have hml:m<len:=by omega
   have hL:wrap64 ((m:Int) - 1)=(m:Int) - 1:=by unfold wrap64;omega
   have HR:=za hR;have hQ:Hid ((Tryz.prog.info? 117).map (·.size)=some C.length):=za (by rw[j9,hI]);have HX:=za hx;have Hnx:=za hB;have Hm:=za hm;clear hx hB hD hR hC hI hA hr hG hK hm hH
   gi_wp2_with (first
    | (with_reducible refine zaq rfl 117 _ rfl gb (m * 34) rfl C d HR.out Hu.out Hd.out hQ.out ?_))
   refine hN.mono ?_;rintro e W3 (⟨rfl,hO,hE⟩ | ⟨rfl,hF⟩)
   ·have hJ:Below n₀ W W3:=Hnx.out.trans hE;have hs3:=hE.size;have hS:=za hJ;clear hJ hE
    gi_wp2
    go_roundw
    case rel=>exact⟨k+1,by omega,by have:=Hm.out;simp[hL];omega,by rw[List.take_add_one,HX.out];exact hO,hS.out,by omega⟩
    case measure=>have:=Hm.out;simp[intOf]<;>omega
   gi_wp2
   refine bodyPost_ret (results_none rfl _ _ _) rfl ?_
   exact ⟨⟨_,rfl⟩,.inr ⟨_,⟨xs.drop (k+1),by
    have h2:=HX.out;obtain⟨h3,rfl⟩:=List.getElem?_eq_some_iff.1 h2
    rw[List.append_assoc,List.singleton_append,← List.drop_eq_getElem_cons h3,List.take_append_drop]⟩,hF⟩⟩
  obtain rfl:k=len:=by omega
  have e:xs.take k=xs:=List.take_of_length_le (by omega);rw[e]at hD;rw[show(k:Int) - 1 - k = -1 by omega]
  gi_wp2
  go_end0
  exact⟨⟨_,rfl⟩,.inl ⟨_,rfl,hD⟩⟩
theorem zo5 (a:Option Addr)(n c:Nat)(w:World) :
 Calls Tryz.prog 68 #[.slice a n c] w fun e w'=>e = .returned (.func (.func 115) #[] #[.pointer (some ⟨w.heap.size,0,none⟩)])∧w'=w.alloc (.cells #[.slice a n c] 110):=by
 go_enter Tryz.func68,Tryz.ntmps68
 go_wp2_with fail
 go_ret;exact⟨rfl,rfl⟩
theorem zo6 (F:Fence)(n:Nat)(h7:F.fn 115)(hro:F.round=none)(hn:1≤n)(Bs n₀ cap:Nat)(sa:Option Addr)(xs:List (Nat × Chg))(hll:xs.length≤67108864)(hok:∀ x∈xs,x.2.ok)(w:World)(hBs:Bs<n₀)(hn₀:n₀≤w.heap.size)
 (hB0:w.cell? ⟨Bs,0,none⟩=some (.slice sa xs.length cap)) (hr:xs.length=0∨∃ gb,sa=some ⟨gb,0,none⟩∧BkRow n₀ gb xs.length xs w) :
 SeqStopsK F n Tryz.prog 115 #[.pointer (some ⟨Bs,0,none⟩)] znq (Below n₀) (fun ys=>ys=xs) (fun pre=>pre <+: xs) xs.length w:=fun l J Jx W hW hJ _ hY h0=>by
 have hWn:=hW.mono hn₀;exact zti F n h7 hro hn l Bs n₀ xs.length cap sa xs rfl hll hok J Jx hY W hBs (Nat.le_trans hn₀ hW.size) ((hWn.cell (p:=⟨Bs,0,none⟩) hBs).trans hB0) (hr.imp id (fun⟨gb,e,h⟩=>⟨gb,e,h.below hWn⟩)) h0
end
end Go.Proofs.YtcddlemkimbkcaaGreatDoor
