/-
 The walk of sum.Short.
-/
import Derived.Test.YtffggpplnjibgaaGreatDoorKShaDig
import Derived.Great.BuildSlice
import Derived.Great.Walk
open Go.Lib renaming hid→zi
open Go.Proofs.Tryz renaming prog→zl
open Go renaming heap_alloc_new→zo
open Go.Value renaming int→jf
open Go.IntKind renaming u8→jg
namespace Go.Proofs.YtffggpplnjibgaaGreatDoor
set_option linter.unusedVariables false
set_option linter.unusedSimpArgs false
set_option linter.unusedSectionVars false
set_option maxRecDepth 100000
set_option maxHeartbeats 4000000
open Go.RowKit Go.Shelf Go.Sort
variable [OldK]
attribute [local go_sem] Oper.semAt_some
def zqo:Array Value:=(kTab.map (fun k=>Value.int .u64 ((k:Nat):Int))).toArray
theorem zkd:Tryz.prog.underlying 163=some (.slice 165):=by kernel_rfl
theorem zpl (w:World):Calls zl 116 #[] w fun e w'=>e = .returned (.slice (some ⟨w.heap.size,0,none⟩) 80 80)∧w'=w.alloc (.cells zqo 165):=by
 go_enter Tryz.func116,Tryz.ntmps116
 go_wp2_with((with_reducible refine Great.wpList_buildSliceTo ?_ 163 165 80 _ rfl w.heap.size rfl _ rfl zkd zqo ?_ ?_);rfl;kernel_rfl)
 go_ret;exact⟨rfl,rfl⟩
def rtC:Array Value:=(rTab.map (fun k=>Value.int .u64 ((k:Nat):Int))).toArray
theorem zpp (w:World):Calls zl 117 #[] w fun e w'=>e = .returned (.agg rtC)∧Fr NoB w w':=by
 have hr:(w.alloc (.cells rtC 167)).rangeAt w.heap.size 0 rtC.toList:=jz (zo w _);have hA:=run_loadVar_mid (P:=zl) (w.alloc (.cells rtC 167)) w.heap.size 0 167 rtC.toList (.array 8 165) hr (by kernel_rfl) rfl (by kernel_rfl);rw[show rtC.toList.toArray=rtC from rfl]at hA;have Hld:=zi hA;clear hA hr;go_enter Tryz.func117,Tryz.ntmps117
 go_wp2_with fail
 refine bodyPost_ret (v := .agg rtC) (w:=w.alloc (.cells rtC 167)) ?_ rfl ⟨rfl,Fr.refl.alloc _⟩;rw[qb rfl];show((asAddr (.pointer (some ⟨w.heap.size,0,none⟩))).run _ (w.alloc (.cells rtC 167))).andThen _=_;simp[asAddr,Result.andThen,Hld.out]
def wkN:Wk:=⟨0,0,0,0,0,0,0,0⟩
def wkF (i:Nat):Wk:=⟨if 0<i then wk0.a else 0,if 1<i then wk0.b else 0,if 2<i then wk0.c else 0,if 3<i then wk0.d else 0,if 4<i then wk0.e else 0,if 5<i then wk0.f else 0,if 6<i then wk0.g else 0,if 7<i then wk0.h else 0⟩
theorem zpm (j:Nat) (h:j<64):zqo[j]? = some (.int .u64 ((kTab.getD j 0:Nat):Int))∧kTab.getD j 0<18446744073709551616∧kShort.take (j+1)=kShort.take j++[kTab.getD j 0 / 4294967296]:=by
 have h80:kTab.length=80:=by decide
 have hA:∀ x∈kTab,x<18446744073709551616:=by decide
 have hj:kTab[j]? = some (kTab.getD j 0):=by
  rw[List.getD_eq_getElem?_getD,List.getElem?_eq_getElem (by omega)];rfl
 refine⟨?_,hA _ (List.mem_of_getElem? hj),?_⟩
 ·unfold zqo;rw[List.getElem?_toArray,List.getElem?_map,hj];rfl
 have hk:kShort[j]? = some (kTab.getD j 0 / 4294967296):=by
  unfold kShort;rw[List.getElem?_map,List.getElem?_take,if_pos h,hj];rfl
 rw[List.take_add_one,hk];rfl
theorem zro (l:Bs):zpz wk0 l=zau l:=by
 unfold zpz zau zo5;rfl
theorem zgh:kShort.length=64:=by decide
theorem zr0 {tb:Nat} {w:World} (h:w.rangeAt tb 0 (ze0 (kShort.take 64))) (i:Nat) (hi:i<64):w.cell? ⟨tb,i,none⟩=some (.int .u32 (kShort.getD i 0:Nat)):=by
 rw[List.take_of_length_le (Nat.le_of_eq zgh)]at h;have hk:=zgh;generalize kShort=ks at h hk ⊢
 have h0:=h i (.int .u32 (ks.getD i 0:Nat)) (by
  unfold ze0;rw[List.getElem?_map,List.getD_eq_getElem?_getD,List.getElem?_eq_getElem (by rw[hk];exact hi)]
  rfl)
 rw[Nat.zero_add]at h0;exact h0
theorem zqm:wk0.lt:=by unfold Wk.lt;decide
theorem zry:wkF 8=wk0:=rfl
theorem zln (S:Nat→Prop) (vs:List (Value × Bs)) (g cap:Nat) (w:World) (hg:∀ i (hi:i<vs.length),w.cell? ⟨g,i,none⟩=some vs[i].1) (hsb:∀ x∈vs,SB S x.2 x.1 w) (hnil:∀ x∈vs,∀ n c,x.1 = .slice none n c→c=0) (hn:vs.length≤1000) (ht:tot vs≤500000) :
 Calls zl 54 #[.slice (some ⟨g,0,none⟩) vs.length cap] w fun e w'=>e = .returned (.agg (Lib.byteCells (zau (flat vs))).toArray)∧Fr NoB w w':=by
 have AB:Fr NoB w ((w.alloc (.cells #[jf jg 0,jf jg 0,jf jg 0,jf jg 0,jf jg 0,jf jg 0,jf jg 0,jf jg 0,jf jg 0,jf jg 0,jf jg 0,jf jg 0,jf jg 0,jf jg 0,jf jg 0,jf jg 0,jf jg 0,jf jg 0,jf jg 0,jf jg 0,jf jg 0,jf jg 0,jf jg 0,jf jg 0,jf jg 0,jf jg 0,jf jg 0,jf jg 0,jf jg 0,jf jg 0,jf jg 0,jf jg 0] 23)).alloc (.cells (zba (.slice none 0 0) wkN) 162)):=(Fr.refl.alloc _).alloc _;have AA:=((Fr.refl (M:=NoB)).alloc (.cells (zba (.slice none 0 0) wkN) 162)).block _ _ (zo w (.cells #[jf jg 0,jf jg 0,jf jg 0,jf jg 0,jf jg 0,jf jg 0,jf jg 0,jf jg 0,jf jg 0,jf jg 0,jf jg 0,jf jg 0,jf jg 0,jf jg 0,jf jg 0,jf jg 0,jf jg 0,jf jg 0,jf jg 0,jf jg 0,jf jg 0,jf jg 0,jf jg 0,jf jg 0,jf jg 0,jf jg 0,jf jg 0,jf jg 0,jf jg 0,jf jg 0,jf jg 0,jf jg 0] 23)) (fun h=>h);have ho:=zo (w.alloc (.cells #[jf jg 0,jf jg 0,jf jg 0,jf jg 0,jf jg 0,jf jg 0,jf jg 0,jf jg 0,jf jg 0,jf jg 0,jf jg 0,jf jg 0,jf jg 0,jf jg 0,jf jg 0,jf jg 0,jf jg 0,jf jg 0,jf jg 0,jf jg 0,jf jg 0,jf jg 0,jf jg 0,jf jg 0,jf jg 0,jf jg 0,jf jg 0,jf jg 0,jf jg 0,jf jg 0,jf jg 0,jf jg 0] 23)) (.cells (zba (.slice none 0 0) wkN) 162);have h8:((w.alloc (.cells #[jf jg 0,jf jg 0,jf jg 0,jf jg 0,jf jg 0,jf jg 0,jf jg 0,jf jg 0,jf jg 0,jf jg 0,jf jg 0,jf jg 0,jf jg 0,jf jg 0,jf jg 0,jf jg 0,jf jg 0,jf jg 0,jf jg 0,jf jg 0,jf jg 0,jf jg 0,jf jg 0,jf jg 0,jf jg 0,jf jg 0,jf jg 0,jf jg 0,jf jg 0,jf jg 0,jf jg 0,jf jg 0] 23)).alloc (.cells (zba (.slice none 0 0) wkN) 162)).heap.size=w.heap.size+2:=by simp
 rw[World.size_alloc]at ho;have AE:=zi AB;have hc:=zi AA;have ha:=zi ho;have hR:=zi h8;have Hg:=zi hg;have Hsb:=zi hsb;have Hnil:=zi hnil;obtain⟨i0,AK,hT,AG,AF⟩:=info_parts zel;clear AB AA ho h8 hg hsb hnil;go_enter Tryz.func54,Tryz.ntmps54
 go_upto_region 2 with(fail)
 change Code.wp _ _ _ _ ((w.alloc (.cells #[jf jg 0,jf jg 0,jf jg 0,jf jg 0,jf jg 0,jf jg 0,jf jg 0,jf jg 0,jf jg 0,jf jg 0,jf jg 0,jf jg 0,jf jg 0,jf jg 0,jf jg 0,jf jg 0,jf jg 0,jf jg 0,jf jg 0,jf jg 0,jf jg 0,jf jg 0,jf jg 0,jf jg 0,jf jg 0,jf jg 0,jf jg 0,jf jg 0,jf jg 0,jf jg 0,jf jg 0,jf jg 0] 23)).alloc (.cells (zba (.slice none 0 0) wkN) 162));obtain⟨W,hW⟩:∃ V,((w.alloc (.cells #[jf jg 0,jf jg 0,jf jg 0,jf jg 0,jf jg 0,jf jg 0,jf jg 0,jf jg 0,jf jg 0,jf jg 0,jf jg 0,jf jg 0,jf jg 0,jf jg 0,jf jg 0,jf jg 0,jf jg 0,jf jg 0,jf jg 0,jf jg 0,jf jg 0,jf jg 0,jf jg 0,jf jg 0,jf jg 0,jf jg 0,jf jg 0,jf jg 0,jf jg 0,jf jg 0,jf jg 0,jf jg 0] 23)).alloc (.cells (zba (.slice none 0 0) wkN) 162))=V:=⟨_,rfl⟩;rw[hW]at AE hc ha hR ⊢;obtain⟨q,hq⟩:∃ x,w.heap.size=x:=⟨_,rfl⟩;rw[hq]at hc ha hR ⊢;have Hq:=zi hq;clear hW hq
 go_wp2_with fail
 refine(zpl W).mono ?_;rintro e w1 ⟨rfl,hU⟩;rw[hR.out];have hY:Fr NoB W w1:=by rw[hU];exact Fr.refl.alloc _
 have hl:=zo W (.cells zqo 165);rw[← hU,hR.out]at hl;have hs2:w1.heap.size=q+3:=by rw[hU,World.size_alloc,hR.out]
 have h1:=zi (hY.block _ _ hc.out (fun h=>h));have hz:=zi (hY.block _ _ ha.out (fun h=>h));have AM:=zi hl;have AQ:=zi (AE.out.trans' hY);clear hU hY hl hc ha
 go_wp2_with fail
 go_loopg [18] 65 (fun gf vi wr=>∃ (j:Nat) (tv:Value),vi = .int .i64 j∧j≤64∧j+gf=65∧Hid (wr.heap[q+1]? = some (.cells (zba tv wkN) 162 (0,0)))∧Hid (wr.ownsRow (q+3) 159 1 tv j (ze0 (kShort.take j)))∧Hid (Fr (fun k _=>k=q+1∨q+3≤k) w1 wr))
 case atStart=>exact⟨0,.slice none 0 0,rfl,by omega,by omega,hz,zi (World.ownsRow_nil _ _ _ _),zi Fr.refl⟩
 case round =>
  obtain⟨j,tv,rfl,hj,AJ,HB,HR,hS⟩:=hrel;obtain⟨ar,cr,rfl⟩:=zal HR.out;have hsz:=hS.out.size;by_cases hV:j<64
  ·have hL:decide ((j:Int)<64)=true:=decide_eq_true (by omega);obtain⟨hx,h7,he⟩:=zpm j hV;obtain⟨x,h6⟩:∃ x,kTab.getD j 0=x:=⟨_,rfl⟩;rw[h6]at hx h7 he;have hJ:=hS.out.block _ _ AM.out (fun h=>by omega);have xc:wr.cell? ⟨q+2,j,none⟩=some (.int .u64 (x:Int)):=by simp[World.cell?,hJ,hx]
   have hA:=HB.out;have AL:wr.cell? ⟨q+1,1,none⟩=some (.slice ar j cr):=by simp[World.cell?,hA,zba]
   have Htk:=zi he;clear hx he h6 hJ hA
   go_wp2_with(at_builtin;refine zcg ?_)
   have hy:(x:Int) / 4294967296=((x / 4294967296:Nat):Int):=by omega
   obtain⟨y,h5⟩:∃ y,x / 4294967296=y:=⟨_,rfl⟩;rw[h5]at hy Htk;have Hy:=zi hy;clear hy h5 h7 xc;rw[Hy.out];refine zi ?_;refine wpList_append_own _ rfl _ _ 158 rfl (q+3) 159 i0 (.int .u32 0) 1 4 Tryz.underlying158 AK hT AG AF rfl (by decide) (.slice ar j cr) j (ze0 (kShort.take j)) rfl (HR.out.alloc _) ⟨wr.heap.size,0,none⟩ 1 1 [.int .u32 y] rfl rfl (j8 wr [.int .u32 y] 159) (by simp[Value.oneCell']) (by unfold maxLen;omega) (by omega) (by rw[World.size_alloc];omega) ?_;intro v4 w4 hB hM _;have hv:Fr (fun k _=>q+3≤k) wr w4:=(((Fr.refl (M:=NoB)).alloc _).mono (fun _ _ h=>h.elim)).trans (Fr.ofGrown hM) (fun k o hm => .inl (zcn HR.out k hm.symm).1);obtain⟨a4,c4,rfl⟩:=zal hB;have hZ:=hv.block _ _ HB.out (fun h=>by omega);have b1c4:w4.cell? ⟨q+1,1,none⟩=some (.slice ar j cr):=by simp[World.cell?,hZ,zba]
   have b1z4:w4.frozen? ⟨q+1,1,none⟩=false:=by simp[World.frozen?,hZ]
   have AC:=jh (o:=1) (.slice a4 (j+1) c4) hZ;have hH:Fr (fun k _=>k=q+1) w4 (w4.setCell ⟨q+1,1,none⟩ (.slice a4 (j+1) c4)):=Fr.refl.setCell _ _ (fun _ _=>rfl);have hp:=zfk hB hH (fun k o _ h3 _ h=>by omega);have hu:ze0 (kShort.take j)++[.int .u32 (y:Int)]=ze0 (kShort.take (j+1)):=by rw[Htk.out];simp[ze0]
   rw[hu]at hp;have h4:=zi AC;have AO:=zi hp;have hI:=zi (hS.out.trans' ((hv.mono (fun _ _ h => .inr h)).trans' (hH.mono (fun _ _ h => .inl h))));clear AC hp hH hu hZ hv hB hM AL
   go_wp2_with fail
   go_roundg (gk - 1)
   case measure=>omega
   case rel=>exact⟨j+1,_,by simp,by omega,by omega,h4,AO,hI⟩
  obtain rfl:j=64:=by omega
  have hL:decide (((64:Nat):Int)<64)=false:=by decide
  obtain ⟨tb,rfl,hJ⟩:∃ tb,ar=some ⟨tb,0,none⟩∧wr.rangeAt tb 0 (ze0 (kShort.take 64)):=by
   rcases HR.out.2 with⟨-,h0⟩ | ⟨gg,cp,cur,e1,e2,e3,e4,e5,-⟩
   ·omega
   injection e1 with e1 e1' e1''
   subst e1 e1'';refine⟨gg,rfl,fun k x hk=>?_⟩;have h:=HR.out.cells (g:=gg) rfl k x hk;rw[Addr.add_lit]at h;exact h
  have Htb:=zi hJ
  have Htq:Hid (tb≠q+1):=zi (by
   rcases HR.out.2 with⟨-,h0⟩ | ⟨gg,cp,cur,e1,e2,-⟩
   ·omega
   injection e1 with e1 e1' e1''
   injection e1 with e1
   injection e1 with e1
   omega)
  clear hJ hV
  go_wp2_with fail
  refine(zpp wr).mono ?_;rintro e w5 ⟨rfl,hH⟩;have h4:=zi (hH.block _ _ HB.out (fun h=>h));have hI:=zi hH;clear hH;obtain⟨wo,AH⟩:∃ x:World,x=wr:=⟨_,rfl⟩;subst AH
  go_wp2_with fail
  go_loopg [36] 9 (fun gf vi wr=>∃ (j:Nat),vi = .int .i64 j∧j≤8∧j+gf=9∧Hid (wr.heap[q+1]? = some (.cells (zba (.slice (some ⟨tb,0,none⟩) 64 cr) (wkF j)) 162 (0,0)))∧Hid (Fr (fun k _=>k=q+1) w5 wr))
  case atStart=>exact⟨0,rfl,by omega,by omega,h4,zi Fr.refl⟩
  case round =>
   obtain⟨j,rfl,hj,AJ,HB,hC⟩:=hrel;by_cases hV:j<8
   ·have hG:j=0∨j=1∨j=2∨j=3∨j=4∨j=5∨j=6∨j=7:=by omega
    rcases hG with rfl | rfl | rfl | rfl | rfl | rfl | rfl | rfl
    ·have hF:∀ w,(Instr.index 167 (.agg rtC) (.int .i64 0)).run zl w = .ok (.int .u64 7640891576956012808) w:=by
      intro w
      kernel_rfl
     have hA:=HB.out;have c0:wr.cell? ⟨q+1,2+0,none⟩=some (.int .u32 0):=by simp[World.cell?,hA,zba,wkF]
     have z0:wr.frozen? ⟨q+1,2+0,none⟩=false:=by simp[World.frozen?,hA]
     clear hA
     go_wp2_with fail
     go_roundg (gk - 1)
     case measure=>omega
     case rel=>exact⟨0+1,rfl,by omega,by omega,zi (jh _ HB.out),zi (hC.out.trans' (Fr.refl.setCell _ _ (fun _ _=>rfl)))⟩
    ·have hF:∀ w,(Instr.index 167 (.agg rtC) (.int .i64 1)).run zl w = .ok (.int .u64 13503953896175478587) w:=by
      intro w
      kernel_rfl
     have hA:=HB.out;have c1:wr.cell? ⟨q+1,2+1,none⟩=some (.int .u32 0):=by simp[World.cell?,hA,zba,wkF]
     have z1:wr.frozen? ⟨q+1,2+1,none⟩=false:=by simp[World.frozen?,hA]
     clear hA
     go_wp2_with fail
     go_roundg (gk - 1)
     case measure=>omega
     case rel=>exact⟨1+1,rfl,by omega,by omega,zi (jh _ HB.out),zi (hC.out.trans' (Fr.refl.setCell _ _ (fun _ _=>rfl)))⟩
    ·have hF:∀ w,(Instr.index 167 (.agg rtC) (.int .i64 2)).run zl w = .ok (.int .u64 4354685564936845355) w:=by
      intro w
      kernel_rfl
     have hA:=HB.out;have c2:wr.cell? ⟨q+1,2+2,none⟩=some (.int .u32 0):=by simp[World.cell?,hA,zba,wkF]
     have z2:wr.frozen? ⟨q+1,2+2,none⟩=false:=by simp[World.frozen?,hA]
     clear hA
     go_wp2_with fail
     go_roundg (gk - 1)
     case measure=>omega
     case rel=>exact⟨2+1,rfl,by omega,by omega,zi (jh _ HB.out),zi (hC.out.trans' (Fr.refl.setCell _ _ (fun _ _=>rfl)))⟩
    ·have hF:∀ w,(Instr.index 167 (.agg rtC) (.int .i64 3)).run zl w = .ok (.int .u64 11912009170470909681) w:=by
      intro w
      kernel_rfl
     have hA:=HB.out;have c3:wr.cell? ⟨q+1,2+3,none⟩=some (.int .u32 0):=by simp[World.cell?,hA,zba,wkF]
     have z3:wr.frozen? ⟨q+1,2+3,none⟩=false:=by simp[World.frozen?,hA]
     clear hA
     go_wp2_with fail
     go_roundg (gk - 1)
     case measure=>omega
     case rel=>exact⟨3+1,rfl,by omega,by omega,zi (jh _ HB.out),zi (hC.out.trans' (Fr.refl.setCell _ _ (fun _ _=>rfl)))⟩
    ·have hF:∀ w,(Instr.index 167 (.agg rtC) (.int .i64 4)).run zl w = .ok (.int .u64 5840696475078001361) w:=by
      intro w
      kernel_rfl
     have hA:=HB.out;have c4:wr.cell? ⟨q+1,2+4,none⟩=some (.int .u32 0):=by simp[World.cell?,hA,zba,wkF]
     have z4:wr.frozen? ⟨q+1,2+4,none⟩=false:=by simp[World.frozen?,hA]
     clear hA
     go_wp2_with fail
     go_roundg (gk - 1)
     case measure=>omega
     case rel=>exact⟨4+1,rfl,by omega,by omega,zi (jh _ HB.out),zi (hC.out.trans' (Fr.refl.setCell _ _ (fun _ _=>rfl)))⟩
    ·have hF:∀ w,(Instr.index 167 (.agg rtC) (.int .i64 5)).run zl w = .ok (.int .u64 11170449401992604703) w:=by
      intro w
      kernel_rfl
     have hA:=HB.out;have c5:wr.cell? ⟨q+1,2+5,none⟩=some (.int .u32 0):=by simp[World.cell?,hA,zba,wkF]
     have z5:wr.frozen? ⟨q+1,2+5,none⟩=false:=by simp[World.frozen?,hA]
     clear hA
     go_wp2_with fail
     go_roundg (gk - 1)
     case measure=>omega
     case rel=>exact⟨5+1,rfl,by omega,by omega,zi (jh _ HB.out),zi (hC.out.trans' (Fr.refl.setCell _ _ (fun _ _=>rfl)))⟩
    ·have hF:∀ w,(Instr.index 167 (.agg rtC) (.int .i64 6)).run zl w = .ok (.int .u64 2270897969802886507) w:=by
      intro w
      kernel_rfl
     have hA:=HB.out;have c6:wr.cell? ⟨q+1,2+6,none⟩=some (.int .u32 0):=by simp[World.cell?,hA,zba,wkF]
     have z6:wr.frozen? ⟨q+1,2+6,none⟩=false:=by simp[World.frozen?,hA]
     clear hA
     go_wp2_with fail
     go_roundg (gk - 1)
     case measure=>omega
     case rel=>exact⟨6+1,rfl,by omega,by omega,zi (jh _ HB.out),zi (hC.out.trans' (Fr.refl.setCell _ _ (fun _ _=>rfl)))⟩
    have hF:∀ w,(Instr.index 167 (.agg rtC) (.int .i64 7)).run zl w = .ok (.int .u64 6620516959819538809) w:=by
     intro w
     kernel_rfl
    have hA:=HB.out;have c7:wr.cell? ⟨q+1,2+7,none⟩=some (.int .u32 0):=by simp[World.cell?,hA,zba,wkF]
    have z7:wr.frozen? ⟨q+1,2+7,none⟩=false:=by simp[World.frozen?,hA]
    clear hA
    go_wp2_with fail
    go_roundg (gk - 1)
    case measure=>omega
    case rel=>exact⟨7+1,rfl,by omega,by omega,zi (jh _ HB.out),zi (hC.out.trans' (Fr.refl.setCell _ _ (fun _ _=>rfl)))⟩
   obtain rfl:j=8:=by omega
   have hL:decide (((8:Nat):Int)<8)=false:=by decide
   have hb:Below q w wr:=(((AQ.out.below (by rw[Hq.out];exact Nat.le_refl _) (fun _ _ _ h=>h.elim)).trans (hS.out.below (by omega) (fun k o _ h=>by omega))).trans (hI.out.below (by omega) (fun _ _ _ h=>h.elim))).trans (hC.out.below (by have:=hI.out.size;omega) (fun k o _ h=>by omega))
   have hr:Fr NoB w wr:=by
    rw[← Hq.out]at hb;exact Fr.ofBelow hb
   have hK:∀ i,i<64→wr.cell? ⟨tb,i,none⟩=some (.int .u32 (kShort.getD i 0:Nat)):=fun i hi =>
    Fr.cell hC.out (Fr.cell hI.out (zr0 Htb.out i hi)) (fun _ h=>Htq.out h)
   rw[zry]at HB;have hN:=zru S vs g cap (q+1) tb cr wk0 wr (fun i hi=>Fr.cell hr (Hg.out i hi)) (fun x hx=>(Hsb.out x hx).fr hr (fun _ _ _ _ h=>h)) Hnil.out hn ht zqm hK HB.out;have Hdig:=zi hN;have hT:=hC.out.block _ _ (hI.out.block _ _ (hS.out.block _ _ h1.out (fun h=>by omega)) (fun h=>h)) (fun h=>by omega);have AD:=zi hT;have Hbz:=zi hb;clear hb hr hK hN hT hV
   go_wp2_with fail
   refine Hdig.out.mono ?_;rintro e w6 ⟨v,rfl,hP,hs⟩;rw[zro]at hP;obtain⟨a6,c6,rfl⟩:=hP.form;have hE:(zau (flat vs)).length=32:=zbs _;rw[hE]
   obtain ⟨gg,rfl,hD⟩:∃ gg,a6=some ⟨gg,0,none⟩∧w6.rangeAt gg 0 (Lib.byteCells (zau (flat vs))):=by
    rcases hP.2 with⟨-,h0⟩ | ⟨gg,cp,cur,e1,e2,e3,e4,e5,-⟩
    ·omega
    injection e1 with e1 e1' e1''
    subst e1 e1'';refine⟨gg,rfl,fun k x hk=>?_⟩;have h:=hP.cells (g:=gg) rfl k x hk;rw[Addr.add_lit]at h;exact h
   have hd:=hs.block _ _ AD.out (fun h=>h);obtain⟨XC,hO⟩:∃ X,Lib.byteCells (zau (flat vs))=X:=⟨_,rfl⟩;have hX:XC.length=32:=by rw[← hO,jj,hE]
   rw[hO]at hD;have Hrow:=zi hD;have HT:Hid (w6.there q 0 XC.toArray.size):=zi (by rw[List.size_toArray,hX];exact jw hd (Nat.le_refl _));have hQ:Hid ((Tryz.prog.info? 23).map (·.size)=some XC.length):=zi (by rw[hX];kernel_rfl);have hw:Hid ((Tryz.prog.info? 23).map (·.size)=some XC.toArray.size):=zi (by rw[List.size_toArray,hX];kernel_rfl);have AR:Hid (XC.toArray.all (·.oneCell')=true):=zi (by rw[← hO];exact all_oneCell_toArray (zaa _));have hat:∀ W,(Instr.arrayAt 23 (.slice (some ⟨gg,0,none⟩) 32 c6)).run zl W = .ok (.pointer (some ⟨gg,0,none⟩)) W:=fun W=>run_arrayAt W 23 5 32 _ 32 c6 jv (Nat.le_refl _)
   have AN:=zi hO;have AP:=zi hs;have Hzz:=zi hd;clear hD hO hX hs hd hP hE
   go_wp2_with (first
    | (with_reducible refine wpList_load_mid rfl 23 _ rfl gg 0 rfl XC (.array 32 5) Hrow.out jv rfl hQ.out ?_)
    | (with_reducible refine wpList_store_mid rfl 23 _ _ rfl q 0 XC.toArray rfl rfl HT.out hw.out AR.out ?_))
   have AI:=World.rangeAt_setCells_same w6 q 0 XC.toArray.toList (by simpa using HT.out);have hf:=ji q XC.toArray.toList 0 w6;have hh:Below q w (w6.setCells q 0 XC.toArray.toList):=(Hbz.out.trans (AP.out.below (by have:=jq AD.out;omega) (fun _ _ _ h=>h.elim))).trans (hf.below (by have:=jq Hzz.out;omega) (fun k _ _ hk=>by have h2:k=q:=hk;omega));have h9:=run_loadVar_mid (P:=zl) (w6.setCells q 0 XC.toArray.toList) q 0 23 XC.toArray.toList (.array 32 5) AI jv rfl (by rw[List.toList_toArray];exact hQ.out);rw[show XC.toArray.toList.toArray=XC.toArray by simp]at h9;rw[← Hq.out]at hh;have Hld:=zi h9;refine bodyPost_ret (v := .agg XC.toArray) (w:=w6.setCells q 0 XC.toArray.toList) ?_ rfl ⟨by rw[← AN.out],Fr.ofBelow (by rw[Hq.out]at hh ⊢;exact hh)⟩;rw[qb rfl];show((asAddr (.pointer (some ⟨q,0,none⟩))).run _ (w6.setCells q 0 XC.toArray.toList)).andThen _=_;exact Hld.out
end Go.Proofs.YtffggpplnjibgaaGreatDoor
