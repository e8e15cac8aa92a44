/-
 The walk of sum.Short.
-/
import Derived.Test.YtffggpplnjibgaaGreatDoorKShaDig
import Derived.Great.BuildSlice
import Derived.Great.Walk
open Go.Lib renaming hid→zi
open Go.Proofs.Tryz renaming prog→zl
open Go renaming heap_alloc_new→zo
open Go.Value renaming int→jf
open Go.IntKind renaming u8→jg
namespace Go.Proofs.YtffggpplnjibgaaGreatDoor
set_option linter.unusedVariables false
set_option linter.unusedSimpArgs false
set_option linter.unusedSectionVars false
set_option maxRecDepth 100000
set_option maxHeartbeats 4000000
open Go.RowKit Go.Shelf Go.Sort
variable [OldK]
attribute [local go_sem] Oper.semAt_some
def zs3:Array Value:=(kTab.map (fun k=>Value.int .u64 ((k:Nat):Int))).toArray
theorem zgt:Tryz.prog.underlying 163=some (.slice 165):=by kernel_rfl
theorem zvr (w:World):Calls zl 116 #[] w fun e w'=>e = .returned (.slice (some ⟨w.heap.size,0,none⟩) 80 80)∧w'=w.alloc (.cells zs3 165):=by
 go_enter Tryz.func116,Tryz.ntmps116
 go_wp2_with((with_reducible refine Great.wpList_buildSliceTo ?_ 163 165 80 _ rfl w.heap.size rfl _ rfl zgt zs3 ?_ ?_);rfl;kernel_rfl)
 go_ret;exact⟨rfl,rfl⟩
def rtC:Array Value:=(rTab.map (fun k=>Value.int .u64 ((k:Nat):Int))).toArray
theorem zv6 (w:World):Calls zl 117 #[] w fun e w'=>e = .returned (.agg rtC)∧Fr NoB w w':=by
 have hr:(w.alloc (.cells rtC 167)).rangeAt w.heap.size 0 rtC.toList:=j8 (zo w _);have hB:=run_loadVar_mid (P:=zl) (w.alloc (.cells rtC 167)) w.heap.size 0 167 rtC.toList (.array 8 165) hr (by kernel_rfl) rfl (by kernel_rfl);rw[show rtC.toList.toArray=rtC from rfl]at hB;have Hld:=zi hB;clear hB hr;go_enter Tryz.func117,Tryz.ntmps117
 go_wp2_with fail
 refine bodyPost_ret (v := .agg rtC) (w:=w.alloc (.cells rtC 167)) ?_ rfl ⟨rfl,Fr.refl.alloc _⟩;rw[qu rfl];show((asAddr (.pointer (some ⟨w.heap.size,0,none⟩))).run _ (w.alloc (.cells rtC 167))).andThen _=_;simp[asAddr,Result.andThen,Hld.out]
def wkN:Wk:=⟨0,0,0,0,0,0,0,0⟩
def wkF (i:Nat):Wk:=⟨if 0<i then wk0.a else 0,if 1<i then wk0.b else 0,if 2<i then wk0.c else 0,if 3<i then wk0.d else 0,if 4<i then wk0.e else 0,if 5<i then wk0.f else 0,if 6<i then wk0.g else 0,if 7<i then wk0.h else 0⟩
theorem zqp (j:Nat) (h:j<64):zs3[j]? = some (.int .u64 ((kTab.getD j 0:Nat):Int))∧kTab.getD j 0<18446744073709551616∧kShort.take (j+1)=kShort.take j++[kTab.getD j 0 / 4294967296]:=by
 have h80:kTab.length=80:=by decide
 have hB:∀ x∈kTab,x<18446744073709551616:=by decide
 have hj:kTab[j]? = some (kTab.getD j 0):=by
  rw[List.getD_eq_getElem?_getD,List.getElem?_eq_getElem (by omega)];rfl
 refine⟨?_,hB _ (List.mem_of_getElem? hj),?_⟩
 ·unfold zs3;rw[List.getElem?_toArray,List.getElem?_map,hj];rfl
 have hk:kShort[j]? = some (kTab.getD j 0 / 4294967296):=by
  unfold kShort;rw[List.getElem?_map,List.getElem?_take,if_pos h,hj];rfl
 rw[List.take_add_one,hk];rfl
theorem zyo (l:Bs):zwh wk0 l=zak l:=by
 unfold zwh zak zrm;rfl
theorem zdy:kShort.length=64:=by decide
theorem zy0 {tb:Nat} {w:World} (h:w.rangeAt tb 0 (zc3 (kShort.take 64))) (i:Nat) (hi:i<64):w.cell? ⟨tb,i,none⟩=some (.int .u32 (kShort.getD i 0:Nat)):=by
 rw[List.take_of_length_le (Nat.le_of_eq zdy)]at h;have hk:=zdy;generalize kShort=ks at h hk ⊢
 have h0:=h i (.int .u32 (ks.getD i 0:Nat)) (by
  unfold zc3;rw[List.getElem?_map,List.getD_eq_getElem?_getD,List.getElem?_eq_getElem (by rw[hk];exact hi)]
  rfl)
 rw[Nat.zero_add]at h0;exact h0
theorem zux:wk0.lt:=by unfold Wk.lt;decide
theorem zyy:wkF 8=wk0:=rfl
theorem zqy (S:Nat→Prop) (vs:List (Value × Bs)) (g cap:Nat) (w:World) (hg:∀ i (hi:i<vs.length),w.cell? ⟨g,i,none⟩=some vs[i].1) (hsb:∀ x∈vs,SB S x.2 x.1 w) (hnil:∀ x∈vs,∀ n c,x.1 = .slice none n c→c=0) (hn:vs.length≤1000) (ht:tot vs≤500000) :
 Calls zl 54 #[.slice (some ⟨g,0,none⟩) vs.length cap] w fun e w'=>e = .returned (.agg (Lib.byteCells (zak (flat vs))).toArray)∧Fr NoB w w':=by
 have AD:Fr NoB w ((w.alloc (.cells #[jf jg 0,jf jg 0,jf jg 0,jf jg 0,jf jg 0,jf jg 0,jf jg 0,jf jg 0,jf jg 0,jf jg 0,jf jg 0,jf jg 0,jf jg 0,jf jg 0,jf jg 0,jf jg 0,jf jg 0,jf jg 0,jf jg 0,jf jg 0,jf jg 0,jf jg 0,jf jg 0,jf jg 0,jf jg 0,jf jg 0,jf jg 0,jf jg 0,jf jg 0,jf jg 0,jf jg 0,jf jg 0] 23)).alloc (.cells (zc4 (.slice none 0 0) wkN) 162)):=(Fr.refl.alloc _).alloc _;have AC:=((Fr.refl (M:=NoB)).alloc (.cells (zc4 (.slice none 0 0) wkN) 162)).block _ _ (zo w (.cells #[jf jg 0,jf jg 0,jf jg 0,jf jg 0,jf jg 0,jf jg 0,jf jg 0,jf jg 0,jf jg 0,jf jg 0,jf jg 0,jf jg 0,jf jg 0,jf jg 0,jf jg 0,jf jg 0,jf jg 0,jf jg 0,jf jg 0,jf jg 0,jf jg 0,jf jg 0,jf jg 0,jf jg 0,jf jg 0,jf jg 0,jf jg 0,jf jg 0,jf jg 0,jf jg 0,jf jg 0,jf jg 0] 23)) (fun h=>h);have hp:=zo (w.alloc (.cells #[jf jg 0,jf jg 0,jf jg 0,jf jg 0,jf jg 0,jf jg 0,jf jg 0,jf jg 0,jf jg 0,jf jg 0,jf jg 0,jf jg 0,jf jg 0,jf jg 0,jf jg 0,jf jg 0,jf jg 0,jf jg 0,jf jg 0,jf jg 0,jf jg 0,jf jg 0,jf jg 0,jf jg 0,jf jg 0,jf jg 0,jf jg 0,jf jg 0,jf jg 0,jf jg 0,jf jg 0,jf jg 0] 23)) (.cells (zc4 (.slice none 0 0) wkN) 162);have AA:((w.alloc (.cells #[jf jg 0,jf jg 0,jf jg 0,jf jg 0,jf jg 0,jf jg 0,jf jg 0,jf jg 0,jf jg 0,jf jg 0,jf jg 0,jf jg 0,jf jg 0,jf jg 0,jf jg 0,jf jg 0,jf jg 0,jf jg 0,jf jg 0,jf jg 0,jf jg 0,jf jg 0,jf jg 0,jf jg 0,jf jg 0,jf jg 0,jf jg 0,jf jg 0,jf jg 0,jf jg 0,jf jg 0,jf jg 0] 23)).alloc (.cells (zc4 (.slice none 0 0) wkN) 162)).heap.size=w.heap.size+2:=by simp
 rw[World.size_alloc]at hp;have AG:=zi AD;have hd:=zi AC;have hc:=zi hp;have hS:=zi AA;have Hg:=zi hg;have Hsb:=zi hsb;have Hnil:=zi hnil;obtain⟨i0,AM,hU,AI,AH⟩:=info_parts zhc;clear AD AC hp AA hg hsb hnil;go_enter Tryz.func54,Tryz.ntmps54
 go_upto_region 2 with(fail)
 change Code.wp _ _ _ _ ((w.alloc (.cells #[jf jg 0,jf jg 0,jf jg 0,jf jg 0,jf jg 0,jf jg 0,jf jg 0,jf jg 0,jf jg 0,jf jg 0,jf jg 0,jf jg 0,jf jg 0,jf jg 0,jf jg 0,jf jg 0,jf jg 0,jf jg 0,jf jg 0,jf jg 0,jf jg 0,jf jg 0,jf jg 0,jf jg 0,jf jg 0,jf jg 0,jf jg 0,jf jg 0,jf jg 0,jf jg 0,jf jg 0,jf jg 0] 23)).alloc (.cells (zc4 (.slice none 0 0) wkN) 162));obtain⟨W,hW⟩:∃ V,((w.alloc (.cells #[jf jg 0,jf jg 0,jf jg 0,jf jg 0,jf jg 0,jf jg 0,jf jg 0,jf jg 0,jf jg 0,jf jg 0,jf jg 0,jf jg 0,jf jg 0,jf jg 0,jf jg 0,jf jg 0,jf jg 0,jf jg 0,jf jg 0,jf jg 0,jf jg 0,jf jg 0,jf jg 0,jf jg 0,jf jg 0,jf jg 0,jf jg 0,jf jg 0,jf jg 0,jf jg 0,jf jg 0,jf jg 0] 23)).alloc (.cells (zc4 (.slice none 0 0) wkN) 162))=V:=⟨_,rfl⟩;rw[hW]at AG hd hc hS ⊢;obtain⟨q,hq⟩:∃ x,w.heap.size=x:=⟨_,rfl⟩;rw[hq]at hd hc hS ⊢;have Hq:=zi hq;clear hW hq
 go_wp2_with fail
 refine(zvr W).mono ?_;rintro e w1 ⟨rfl,hV⟩;rw[hS.out];have hZ:Fr NoB W w1:=by rw[hV];exact Fr.refl.alloc _
 have ho:=zo W (.cells zs3 165);rw[← hV,hS.out]at ho;have hs2:w1.heap.size=q+3:=by rw[hV,World.size_alloc,hS.out]
 have h5:=zi (hZ.block _ _ hd.out (fun h=>h));have h4:=zi (hZ.block _ _ hc.out (fun h=>h));have AO:=zi ho;have AS:=zi (AG.out.trans' hZ);clear hV hZ ho hd hc
 go_wp2_with fail
 go_loopg [18] 65 (fun gf vi wr=>∃ (j:Nat) (tv:Value),vi = .int .i64 j∧j≤64∧j+gf=65∧Hid (wr.heap[q+1]? = some (.cells (zc4 tv wkN) 162 (0,0)))∧Hid (wr.ownsRow (q+3) 159 1 tv j (zc3 (kShort.take j)))∧Hid (Fr (fun k _=>k=q+1∨q+3≤k) w1 wr))
 case atStart=>exact⟨0,.slice none 0 0,rfl,by omega,by omega,h4,zi (World.ownsRow_nil _ _ _ _),zi Fr.refl⟩
 case round =>
  obtain⟨j,tv,rfl,hj,AL,HB,HR,hT⟩:=hrel;obtain⟨ar,cr,rfl⟩:=zaw HR.out;have hsz:=hT.out.size;by_cases hX:j<64
  ·have hM:decide ((j:Int)<64)=true:=decide_eq_true (by omega);obtain⟨hx,h9,hf⟩:=zqp j hX;obtain⟨x,h8⟩:∃ x,kTab.getD j 0=x:=⟨_,rfl⟩;rw[h8]at hx h9 hf;have hK:=hT.out.block _ _ AO.out (fun h=>by omega);have xc:wr.cell? ⟨q+2,j,none⟩=some (.int .u64 (x:Int)):=by simp[World.cell?,hK,hx]
   have hB:=HB.out;have AN:wr.cell? ⟨q+1,1,none⟩=some (.slice ar j cr):=by simp[World.cell?,hB,zc4]
   have Htk:=zi hf;clear hx hf h8 hK hB
   go_wp2_with(at_builtin;refine zck ?_)
   have hy:(x:Int) / 4294967296=((x / 4294967296:Nat):Int):=by omega
   obtain⟨y,h7⟩:∃ y,x / 4294967296=y:=⟨_,rfl⟩;rw[h7]at hy Htk;have Hy:=zi hy;clear hy h7 h9 xc;rw[Hy.out];refine zi ?_;refine wpList_append_own _ rfl _ _ 158 rfl (q+3) 159 i0 (.int .u32 0) 1 4 Tryz.underlying158 AM hU AI AH rfl (by decide) (.slice ar j cr) j (zc3 (kShort.take j)) rfl (HR.out.alloc _) ⟨wr.heap.size,0,none⟩ 1 1 [.int .u32 y] rfl rfl (qm wr [.int .u32 y] 159) (by simp[Value.oneCell']) (by unfold maxLen;omega) (by omega) (by rw[World.size_alloc];omega) ?_;intro v4 w4 hC hN _;have hw:Fr (fun k _=>q+3≤k) wr w4:=(((Fr.refl (M:=NoB)).alloc _).mono (fun _ _ h=>h.elim)).trans (Fr.ofGrown hN) (fun k o hm => .inl (zcj HR.out k hm.symm).1);obtain⟨a4,c4,rfl⟩:=zaw hC;have ha:=hw.block _ _ HB.out (fun h=>by omega);have b1c4:w4.cell? ⟨q+1,1,none⟩=some (.slice ar j cr):=by simp[World.cell?,ha,zc4]
   have b1z4:w4.frozen? ⟨q+1,1,none⟩=false:=by simp[World.frozen?,ha]
   have AE:=jh (o:=1) (.slice a4 (j+1) c4) ha;have hI:Fr (fun k _=>k=q+1) w4 (w4.setCell ⟨q+1,1,none⟩ (.slice a4 (j+1) c4)):=Fr.refl.setCell _ _ (fun _ _=>rfl);have hr:=zc0 hC hI (fun k o _ h3 _ h=>by omega);have hu:zc3 (kShort.take j)++[.int .u32 (y:Int)]=zc3 (kShort.take (j+1)):=by rw[Htk.out];simp[zc3]
   rw[hu]at hr;have h6:=zi AE;have AQ:=zi hr;have hJ:=zi (hT.out.trans' ((hw.mono (fun _ _ h => .inr h)).trans' (hI.mono (fun _ _ h => .inl h))));clear AE hr hI hu ha hw hC hN AN
   go_wp2_with fail
   go_roundg (gk - 1)
   case measure=>omega
   case rel=>exact⟨j+1,_,by simp,by omega,by omega,h6,AQ,hJ⟩
  obtain rfl:j=64:=by omega
  have hM:decide (((64:Nat):Int)<64)=false:=by decide
  obtain ⟨tb,rfl,hK⟩:∃ tb,ar=some ⟨tb,0,none⟩∧wr.rangeAt tb 0 (zc3 (kShort.take 64)):=by
   rcases HR.out.2 with⟨-,h0⟩ | ⟨gg,cp,cur,e1,e2,e3,e4,e5,-⟩
   ·omega
   injection e1 with e1 e1' e1''
   subst e1 e1'';refine⟨gg,rfl,fun k x hk=>?_⟩;have h:=HR.out.cells (g:=gg) rfl k x hk;rw[Addr.add_lit]at h;exact h
  have Htb:=zi hK
  have Htq:Hid (tb≠q+1):=zi (by
   rcases HR.out.2 with⟨-,h0⟩ | ⟨gg,cp,cur,e1,e2,-⟩
   ·omega
   injection e1 with e1 e1' e1''
   injection e1 with e1
   injection e1 with e1
   omega)
  clear hK hX
  go_wp2_with fail
  refine(zv6 wr).mono ?_;rintro e w5 ⟨rfl,hI⟩;have h6:=zi (hI.block _ _ HB.out (fun h=>h));have hJ:=zi hI;clear hI;obtain⟨wo,AJ⟩:∃ x:World,x=wr:=⟨_,rfl⟩;subst AJ
  go_wp2_with fail
  go_loopg [36] 9 (fun gf vi wr=>∃ (j:Nat),vi = .int .i64 j∧j≤8∧j+gf=9∧Hid (wr.heap[q+1]? = some (.cells (zc4 (.slice (some ⟨tb,0,none⟩) 64 cr) (wkF j)) 162 (0,0)))∧Hid (Fr (fun k _=>k=q+1) w5 wr))
  case atStart=>exact⟨0,rfl,by omega,by omega,h6,zi Fr.refl⟩
  case round =>
   obtain⟨j,rfl,hj,AL,HB,hD⟩:=hrel;by_cases hX:j<8
   ·have hH:j=0∨j=1∨j=2∨j=3∨j=4∨j=5∨j=6∨j=7:=by omega
    rcases hH with rfl | rfl | rfl | rfl | rfl | rfl | rfl | rfl
    ·have hG:∀ w,(Instr.index 167 (.agg rtC) (.int .i64 0)).run zl w = .ok (.int .u64 7640891576956012808) w:=by
      intro w
      kernel_rfl
     have hB:=HB.out;have c0:wr.cell? ⟨q+1,2+0,none⟩=some (.int .u32 0):=by simp[World.cell?,hB,zc4,wkF]
     have z0:wr.frozen? ⟨q+1,2+0,none⟩=false:=by simp[World.frozen?,hB]
     clear hB
     go_wp2_with fail
     go_roundg (gk - 1)
     case measure=>omega
     case rel=>exact⟨0+1,rfl,by omega,by omega,zi (jh _ HB.out),zi (hD.out.trans' (Fr.refl.setCell _ _ (fun _ _=>rfl)))⟩
    ·have hG:∀ w,(Instr.index 167 (.agg rtC) (.int .i64 1)).run zl w = .ok (.int .u64 13503953896175478587) w:=by
      intro w
      kernel_rfl
     have hB:=HB.out;have c1:wr.cell? ⟨q+1,2+1,none⟩=some (.int .u32 0):=by simp[World.cell?,hB,zc4,wkF]
     have z1:wr.frozen? ⟨q+1,2+1,none⟩=false:=by simp[World.frozen?,hB]
     clear hB
     go_wp2_with fail
     go_roundg (gk - 1)
     case measure=>omega
     case rel=>exact⟨1+1,rfl,by omega,by omega,zi (jh _ HB.out),zi (hD.out.trans' (Fr.refl.setCell _ _ (fun _ _=>rfl)))⟩
    ·have hG:∀ w,(Instr.index 167 (.agg rtC) (.int .i64 2)).run zl w = .ok (.int .u64 4354685564936845355) w:=by
      intro w
      kernel_rfl
     have hB:=HB.out;have c2:wr.cell? ⟨q+1,2+2,none⟩=some (.int .u32 0):=by simp[World.cell?,hB,zc4,wkF]
     have z2:wr.frozen? ⟨q+1,2+2,none⟩=false:=by simp[World.frozen?,hB]
     clear hB
     go_wp2_with fail
     go_roundg (gk - 1)
     case measure=>omega
     case rel=>exact⟨2+1,rfl,by omega,by omega,zi (jh _ HB.out),zi (hD.out.trans' (Fr.refl.setCell _ _ (fun _ _=>rfl)))⟩
    ·have hG:∀ w,(Instr.index 167 (.agg rtC) (.int .i64 3)).run zl w = .ok (.int .u64 11912009170470909681) w:=by
      intro w
      kernel_rfl
     have hB:=HB.out;have c3:wr.cell? ⟨q+1,2+3,none⟩=some (.int .u32 0):=by simp[World.cell?,hB,zc4,wkF]
     have z3:wr.frozen? ⟨q+1,2+3,none⟩=false:=by simp[World.frozen?,hB]
     clear hB
     go_wp2_with fail
     go_roundg (gk - 1)
     case measure=>omega
     case rel=>exact⟨3+1,rfl,by omega,by omega,zi (jh _ HB.out),zi (hD.out.trans' (Fr.refl.setCell _ _ (fun _ _=>rfl)))⟩
    ·have hG:∀ w,(Instr.index 167 (.agg rtC) (.int .i64 4)).run zl w = .ok (.int .u64 5840696475078001361) w:=by
      intro w
      kernel_rfl
     have hB:=HB.out;have c4:wr.cell? ⟨q+1,2+4,none⟩=some (.int .u32 0):=by simp[World.cell?,hB,zc4,wkF]
     have z4:wr.frozen? ⟨q+1,2+4,none⟩=false:=by simp[World.frozen?,hB]
     clear hB
     go_wp2_with fail
     go_roundg (gk - 1)
     case measure=>omega
     case rel=>exact⟨4+1,rfl,by omega,by omega,zi (jh _ HB.out),zi (hD.out.trans' (Fr.refl.setCell _ _ (fun _ _=>rfl)))⟩
    ·have hG:∀ w,(Instr.index 167 (.agg rtC) (.int .i64 5)).run zl w = .ok (.int .u64 11170449401992604703) w:=by
      intro w
      kernel_rfl
     have hB:=HB.out;have c5:wr.cell? ⟨q+1,2+5,none⟩=some (.int .u32 0):=by simp[World.cell?,hB,zc4,wkF]
     have z5:wr.frozen? ⟨q+1,2+5,none⟩=false:=by simp[World.frozen?,hB]
     clear hB
     go_wp2_with fail
     go_roundg (gk - 1)
     case measure=>omega
     case rel=>exact⟨5+1,rfl,by omega,by omega,zi (jh _ HB.out),zi (hD.out.trans' (Fr.refl.setCell _ _ (fun _ _=>rfl)))⟩
    ·have hG:∀ w,(Instr.index 167 (.agg rtC) (.int .i64 6)).run zl w = .ok (.int .u64 2270897969802886507) w:=by
      intro w
      kernel_rfl
     have hB:=HB.out;have c6:wr.cell? ⟨q+1,2+6,none⟩=some (.int .u32 0):=by simp[World.cell?,hB,zc4,wkF]
     have z6:wr.frozen? ⟨q+1,2+6,none⟩=false:=by simp[World.frozen?,hB]
     clear hB
     go_wp2_with fail
     go_roundg (gk - 1)
     case measure=>omega
     case rel=>exact⟨6+1,rfl,by omega,by omega,zi (jh _ HB.out),zi (hD.out.trans' (Fr.refl.setCell _ _ (fun _ _=>rfl)))⟩
    have hG:∀ w,(Instr.index 167 (.agg rtC) (.int .i64 7)).run zl w = .ok (.int .u64 6620516959819538809) w:=by
     intro w
     kernel_rfl
    have hB:=HB.out;have c7:wr.cell? ⟨q+1,2+7,none⟩=some (.int .u32 0):=by simp[World.cell?,hB,zc4,wkF]
    have z7:wr.frozen? ⟨q+1,2+7,none⟩=false:=by simp[World.frozen?,hB]
    clear hB
    go_wp2_with fail
    go_roundg (gk - 1)
    case measure=>omega
    case rel=>exact⟨7+1,rfl,by omega,by omega,zi (jh _ HB.out),zi (hD.out.trans' (Fr.refl.setCell _ _ (fun _ _=>rfl)))⟩
   obtain rfl:j=8:=by omega
   have hM:decide (((8:Nat):Int)<8)=false:=by decide
   have hb:Below q w wr:=(((AS.out.below (by rw[Hq.out];exact Nat.le_refl _) (fun _ _ _ h=>h.elim)).trans (hT.out.below (by omega) (fun k o _ h=>by omega))).trans (hJ.out.below (by omega) (fun _ _ _ h=>h.elim))).trans (hD.out.below (by have:=hJ.out.size;omega) (fun k o _ h=>by omega))
   have hs:Fr NoB w wr:=by
    rw[← Hq.out]at hb;exact Fr.ofBelow hb
   have hL:∀ i,i<64→wr.cell? ⟨tb,i,none⟩=some (.int .u32 (kShort.getD i 0:Nat)):=fun i hi =>
    Fr.cell hD.out (Fr.cell hJ.out (zy0 Htb.out i hi)) (fun _ h=>Htq.out h)
   rw[zyy]at HB;have hO:=zyt S vs g cap (q+1) tb cr wk0 wr (fun i hi=>Fr.cell hs (Hg.out i hi)) (fun x hx=>(Hsb.out x hx).fr hs (fun _ _ _ _ h=>h)) Hnil.out hn ht zux hL HB.out;have Hdig:=zi hO;have hU:=hD.out.block _ _ (hJ.out.block _ _ (hT.out.block _ _ h5.out (fun h=>by omega)) (fun h=>h)) (fun h=>by omega);have AF:=zi hU;have Hbz:=zi hb;clear hb hs hL hO hU hX
   go_wp2_with fail
   refine Hdig.out.mono ?_;rintro e w6 ⟨v,rfl,hQ,hv⟩;rw[zyo]at hQ;obtain⟨a6,c6,rfl⟩:=hQ.form;have hF:(zak (flat vs)).length=32:=zdw _;rw[hF]
   obtain ⟨gg,rfl,hE⟩:∃ gg,a6=some ⟨gg,0,none⟩∧w6.rangeAt gg 0 (Lib.byteCells (zak (flat vs))):=by
    rcases hQ.2 with⟨-,h0⟩ | ⟨gg,cp,cur,e1,e2,e3,e4,e5,-⟩
    ·omega
    injection e1 with e1 e1' e1''
    subst e1 e1'';refine⟨gg,rfl,fun k x hk=>?_⟩;have h:=hQ.cells (g:=gg) rfl k x hk;rw[Addr.add_lit]at h;exact h
   have he:=hv.block _ _ AF.out (fun h=>h);obtain⟨XC,hP⟩:∃ X,Lib.byteCells (zak (flat vs))=X:=⟨_,rfl⟩;have hY:XC.length=32:=by rw[← hP,jm,hF]
   rw[hP]at hE;have Hrow:=zi hE;have HT:Hid (w6.there q 0 XC.toArray.size):=zi (by rw[List.size_toArray,hY];exact qa he (Nat.le_refl _));have hR:Hid ((Tryz.prog.info? 23).map (·.size)=some XC.length):=zi (by rw[hY];kernel_rfl);have hz:Hid ((Tryz.prog.info? 23).map (·.size)=some XC.toArray.size):=zi (by rw[List.size_toArray,hY];kernel_rfl);have AT:Hid (XC.toArray.all (·.oneCell')=true):=zi (by rw[← hP];exact all_oneCell_toArray (qv _));have hat:∀ W,(Instr.arrayAt 23 (.slice (some ⟨gg,0,none⟩) 32 c6)).run zl W = .ok (.pointer (some ⟨gg,0,none⟩)) W:=fun W=>run_arrayAt W 23 5 32 _ 32 c6 ji (Nat.le_refl _)
   have AP:=zi hP;have AR:=zi hv;have Hzz:=zi he;clear hE hP hY hv he hQ hF
   go_wp2_with (first
    | (with_reducible refine wpList_load_mid rfl 23 _ rfl gg 0 rfl XC (.array 32 5) Hrow.out ji rfl hR.out ?_)
    | (with_reducible refine wpList_store_mid rfl 23 _ _ rfl q 0 XC.toArray rfl rfl HT.out hz.out AT.out ?_))
   have AK:=World.rangeAt_setCells_same w6 q 0 XC.toArray.toList (by simpa using HT.out);have hh:=jr q XC.toArray.toList 0 w6;have hl:Below q w (w6.setCells q 0 XC.toArray.toList):=(Hbz.out.trans (AR.out.below (by have:=ju AF.out;omega) (fun _ _ _ h=>h.elim))).trans (hh.below (by have:=ju Hzz.out;omega) (fun k _ _ hk=>by have h2:k=q:=hk;omega));have AB:=run_loadVar_mid (P:=zl) (w6.setCells q 0 XC.toArray.toList) q 0 23 XC.toArray.toList (.array 32 5) AK ji rfl (by rw[List.toList_toArray];exact hR.out);rw[show XC.toArray.toList.toArray=XC.toArray by simp]at AB;rw[← Hq.out]at hl;have Hld:=zi AB;refine bodyPost_ret (v := .agg XC.toArray) (w:=w6.setCells q 0 XC.toArray.toList) ?_ rfl ⟨by rw[← AP.out],Fr.ofBelow (by rw[Hq.out]at hl ⊢;exact hl)⟩;rw[qu rfl];show((asAddr (.pointer (some ⟨q,0,none⟩))).run _ (w6.setCells q 0 XC.toArray.toList)).andThen _=_;exact Hld.out
end Go.Proofs.YtffggpplnjibgaaGreatDoor
