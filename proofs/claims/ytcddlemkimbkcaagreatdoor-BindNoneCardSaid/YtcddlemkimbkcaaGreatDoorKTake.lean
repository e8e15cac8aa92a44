/-
 The walk of bind's Take.
-/
import Derived.Test.YtcddlemkimbkcaaGreatDoorKBindCheck
import Derived.Test.YtcddlemkimbkcaaGreatDoorKTable2
open Go.Lib renaming hid→za,byteCells→zb
open Go.Proofs.Tryz renaming prog→ze
open Go renaming heap_alloc_new→zh,yieldsIf_load_mid→zj
open Go.AllReadyH renaming cons→zl
open Go.Value renaming int→zm,int→zy
open List renaming size_toArray→zn
open Nat renaming lt_of_lt_of_le→zu
open Or renaming inl→zv,inr→zw
open Option.some renaming inj→zx
open Go.IntKind renaming u8→z6
namespace Go.Proofs.YtcddlemkimbkcaaGreatDoor
set_option linter.unusedVariables false
set_option linter.unusedSimpArgs false
set_option linter.unusedSectionVars false
set_option maxRecDepth 100000
set_option maxHeartbeats 8000000
open Go.RowKit Go.Shelf
variable [OldK]
def TM (base bc bl:Nat):Nat→Obj→Prop:=fun k o=>k=bc∨k=bl∨(base≤k∧OfTy 117 o)
theorem Fr.mono2 {M M':Nat→Obj→Prop}{w w':World}(h:Fr M w w')(hM:∀ k o,w.heap[k]? = some o→M k o→M' k o):Fr M' w w' :=
 ⟨h.os,h.tape,h.output,h.size,fun k o hk hn=>h.block k o hk (fun hm=>hn (hM k o hk hm))⟩
section
variable {base tb n bc bl:Nat} {t:Tb} {hist:Bs→List Chg} {g lv:Bs→Option Value} {w w':World}
theorem TBC.mono (h:TBC base tb n bc bl hist g w){m:Nat}(hm:n≤m):TBC base tb m bc bl hist g w :=
 ⟨h.old,h.cells,h.low,h.ch.mono hm,h.rows,h.apart,fun x=>Nat.le_trans (h.few x) hm,h.keys⟩
theorem TBL.mono (h:TBL base tb n bc bl t g lv w){m:Nat}(hm:n≤m):TBL base tb m bc bl t g lv w :=
 ⟨h.old,h.cells,h.low,h.ch.mono hm,h.li.mono (by omega),h.life,h.rows,h.apart,fun x=>Nat.le_trans (h.few x) hm,h.keys⟩
theorem TBC.own (h:TBC base tb n bc bl hist g w) {x:Bs} (hx:x.length≤maxLen) {k:Nat} (hk:some k=(zf4 g x).ownBlock):base≤k∧k≠tb∧k≠bc∧∃ o,w.heap[k]? = some o∧OfTy 117 o:=by
 obtain⟨D,⟨es,clock,h0,-⟩,-⟩:=id h.ch;rcases(h.rows x hx).2 with⟨e6,-⟩ | ⟨g6,cap6,cur6,e6,h6,e7,-⟩
 ·rw[e6]at hk;cases hk
 rw[e6]at hk;obtain rfl:k=g6:=by simpa[Value.ownBlock] using hk
 refine⟨h6,?_,?_,_,e7,_,_,rfl⟩
 ·rintro rfl;have:=h.cells;rw[e7]at this
  injection this with this
  injection this with _ this _
  revert this;decide
 rintro rfl;rw[h0]at e7;cases e7
theorem zeb {m:Nat}{K:KeyB ze 24}(hl:MapB K w bl m lv){k:Nat}{o:Obj}(hk:w.heap[k]? = some o)(ho:OfTy 117 o):k≠bl:=by
 obtain⟨D,⟨es,clock,h0,-⟩,-⟩:=id hl;rintro rfl;obtain⟨c,f,rfl⟩:=ho;rw[h0]at hk;cases hk
end
theorem zu3 {e:En}(h:e.ok)(p:Int):(zjn e p).ok:=by
 unfold zjn;split
 ·rfl
 exact h.2.1
theorem ztk (S S':Nat→Prop) {base tb n bc bl:Nat} {t:Tb} {g lv:Bs→Option Value} (e:En) (pv sv:Value) (pos:Int) (w:World) (h:TBL base tb n bc bl t g lv w) (hf:Fine S S' e pv sv w) (hn:n≤1000000) :
 Calls ze 28 #[.pointer (some ⟨tb,0,none⟩),.agg (e.cells pv sv).toArray,.int .i64 pos] w fun r w' =>
  r = .returned (zgf (zb6 zhq t e))∧(∃ g' lv',TBL base tb (n+1) bc bl (t.take zhq e pos) g' lv' w')∧Fr (TM base bc bl) w w':=by
 have hR:(w.alloc (.cells (e.cells pv sv).toArray 39)).rangeAt w.heap.size 0 (e.cells pv sv):=by simpa using jg (zh w (.cells (e.cells pv sv).toArray 39))
 have hF:Fr NoB w (w.alloc (.cells (e.cells pv sv).toArray 39)):=Fr.refl.alloc _;obtain⟨c0,-,-,-,BJ,BI,hK,-⟩:=En.parts hf.ok hR;clear c0;have Bt:=fun V (hV:Fr NoB w V)=>zm6 S S' e pv sv V (h.keep hV) (hf.fr hV)
 have As:e.ident.length≤maxLen:=by have:=hf.idn;unfold maxLen;omega
 have BM:=fun V (hV:Fr NoB w V)=>ztu e.ident V (h.keep hV) As
 have Ap:=h.lastok e.ident;have BC:=hf.ok;have CV:=En.size hf.ok pv sv;obtain⟨d,hu,hd⟩:=qv;obtain⟨d2,A9,BD⟩:=zdp;have hz:(Tryz.prog.info? 39).map (·.size)=some (e.cells pv sv).length:=by rw[ju,CV]
 have CY:(Tryz.prog.info? 24).map (·.size)=some (zb e.key).length:=by rw[jb,ja,hf.ok.2.1]
 clear CV hf;have Hu:=za hu;have Hd:=za hd;have Hz:=za hz;have Hkz:=za CY;have Hchk:=za Bt;have Hlast:=za BM;clear hu hd hz CY Bt BM;by_cases BL:zb6 zhq t e=0
 ·rw [BL]at Hchk ⊢;obtain⟨Cn,Ck,Cl⟩:=zgb BL;have Bl:t.take zhq e pos=t.came e pos:=by unfold Tb.take;rw[if_pos BL]
  rw[Bl];clear Cn Ck Cl Bl BL;have Co:=fun V=>zk4 (t.last e.ident) Ap V
  obtain⟨x0,CI⟩:∃ b,(t.last e.ident).has=b:=⟨_,rfl⟩;obtain⟨LP,Cd⟩:∃ x,(t.last e.ident).pos=x:=⟨_,rfl⟩;obtain⟨LK,CG⟩:∃ x,(t.last e.ident).key=x:=⟨_,rfl⟩;have Bz:LK.length=32:=by rw[← CG];exact Ap
  have CM:(t.last e.ident).cells=[.int .i64 LP]++([.bool x0]++zb LK):=by unfold Chg.cells;rw[CI,Cd,CG];rfl
  have CD:(t.last e.ident).cells.length=34:=Chg.size Ap;have BU:=Chg.one (t.last e.ident);obtain⟨LC,CN⟩:∃ C,(t.last e.ident).cells=C:=⟨_,rfl⟩;rw[CN]at CM CD BU;simp only[CN]at Hlast;have Hcame:Hid (t.came e pos=⟨upd t.hist e.ident (t.hist e.ident++[zjn e pos]),if e.op=3 then (if x0=true then upd t.life LK 2 else t.life) else upd (if x0=true then upd t.life LK 2 else t.life) e.key 1⟩):=za (by unfold Tb.came;rw[CI,CG]);have B6:Hid ((Tryz.prog.info? 117).map (·.size)=some LC.toArray.size):=za (by rw[j9,zn,CD]);have B5:Hid (#[zm .i64 0,.bool false,zy z6 0,zy z6 0,zy z6 0,zy z6 0,zy z6 0,zy z6 0,zy z6 0,zy z6 0,zy z6 0,zy z6 0,zy z6 0,zy z6 0,zy z6 0,zy z6 0,zy z6 0,zy z6 0,zy z6 0,zy z6 0,zy z6 0,zy z6 0,zy z6 0,zy z6 0,zy z6 0,zy z6 0,zy z6 0,zy z6 0,zy z6 0,zy z6 0,zy z6 0,zy z6 0,zy z6 0,zy z6 0].size=LC.toArray.size):=za (by rw[show LC.toArray.size=34 by rw[zn,CD]];rfl);have Ch:=za BU;have Ci:=za CM;have B9:=za Bz;have H:=za h;clear Co CI Cd CG Bz CM CD BU CN Ap h;obtain⟨op,CC⟩:∃ k,e.op=k:=⟨_,rfl⟩;obtain⟨idn,BB⟩:∃ s,e.ident=s:=⟨_,rfl⟩;obtain⟨ky,Bq⟩:∃ s,e.key=s:=⟨_,rfl⟩;have hw:ky.length=32:=by rw[← Bq];exact BC.2.1
  obtain⟨NC,CF⟩:∃ c,zjn e pos=c:=⟨_,rfl⟩;have By:NC=if op=3 then ⟨pos,false,jo⟩ else ⟨pos,true,ky⟩:=by rw[← CF,← CC,← Bq];rfl
  have BN:NC.ok:=by rw[← CF];exact zu3 BC pos
  rw[CC,BB,Bq,CF]at Hcame;rw[CC]at BJ;rw[BB]at BI As;simp only[BB]at Hlast;rw[Bq]at hK Hkz;obtain⟨T2,Cb⟩:∃ T,t.came e pos=T:=⟨_,rfl⟩;rw[Cb]at Hcame ⊢;obtain⟨C,hC⟩:∃ C,e.cells pv sv=C:=⟨_,rfl⟩;rw[hC]at hR hF BJ BI hK Hz Hchk ⊢;clear CC BB Bq CF Cb hC BC;have CH:=za By;have hc:=za BN;have Hidl:=za As;have Hkyl:=za hw;clear By BN As hw;simp only[show zgf 0 = .nilIface from rfl]at Hchk ⊢;go_enter Tryz.func28,Tryz.ntmps28
  go_upto_region 1 with(fail)
  change Code.wp _ _ _ _ (w.alloc (.cells C.toArray 39));obtain⟨W,hW⟩:∃ W,w.alloc (.cells C.toArray 39)=W:=⟨_,rfl⟩;rw[hW]at hR hF BJ BI hK ⊢;obtain⟨p,Bg⟩:∃ p,w.heap.size=p:=⟨_,rfl⟩;have Hpp:=za Bg;rw[Bg]at hR BJ BI hK ⊢;have CK:p<W.heap.size:=World.block_lt_of_cell? _ _ BJ;clear hW Bg;have HR:=za hR;have HF:=za hF;have HK:=za hK;clear hR hF hK
  go_wp2_with((with_reducible refine wpList_load_mid rfl 39 _ rfl p 0 rfl C d HR.out Hu.out Hd.out Hz.out ?_))
  refine(Hchk.out _ HF.out).mono ?_;rintro r w2 ⟨rfl,Bi⟩;have A8:=Fr.cell Bi BI;have HG:=za Bi;clear Bi
  go_wp2_with fail
  refine(Hlast.out _ (HF.out.trans' HG.out)).mono ?_;rintro r w3 ⟨rfl,Cf⟩;have CT:=za (HG.out.trans' Cf);clear Cf HG A8
  go_upto_region 7 with((with_reducible refine jh (w:=w3) rfl 117 _ _ rfl _ LC.toArray w3.heap.size rfl ?_ ?_ B6.out B5.out Ch.out ?_);rfl;rfl)
  change Code.wp _ _ _ _ (w3.alloc (.cells LC.toArray 117));have hq:=jg (zh w3 (.cells LC.toArray 117));have BX:=CT.out.alloc (.cells LC.toArray 117);obtain⟨W4,CL⟩:∃ W,w3.alloc (.cells LC.toArray 117)=W:=⟨_,rfl⟩;have CJ:w3.heap.size<W4.heap.size:=by rw[← CL,World.size_alloc];omega
  have Bu:=CT.out.size;rw[CL]at hq BX ⊢;obtain⟨q,CW⟩:∃ q,w3.heap.size=q:=⟨_,rfl⟩;rw[CW]at hq CJ Bu ⊢;rw[List.toList_toArray,Ci.out,range_append,range_append,zaf,zaf]at hq;obtain⟨-,q1,q2⟩:=hq;simp only[List.length_cons,List.length_nil,Nat.zero_add]at q1 q2;have CE:tb<p∧bc<p∧bl<p:=by rw[← Hpp.out];exact⟨jq H.out.cells,H.out.ch.lt,H.out.li.lt⟩
  have T4:=H.out.keep (HF.out.trans' BX);obtain⟨Bk,Bj⟩:=T4.toC.apartB T4.li;have Ak:=Fr.cell BX BJ;have A8:=Fr.cell BX BI;have Ce:=je HK.out BX CK (fun _ h=>h);obtain⟨t0,t1⟩:=T4.at;have HN:Hid (tb≠bl∧tb≠bc∧bc≠bl∧tb<p∧bc<p∧bl<p∧p<W.heap.size∧p<q∧q<W4.heap.size∧w.heap.size=p∧base≤tb):=za ⟨Bk,Bj,T4.low.2.2.2,CE.1,CE.2.1,CE.2.2,CK,by omega,CJ,Hpp.out,T4.low.1⟩;obtain⟨Cg,BF⟩:∃ C,zb LK=C:=⟨_,rfl⟩;rw[BF]at q2;have Hlkz:Hid ((Tryz.prog.info? 24).map (·.size)=some Cg.length):=za (by rw[← BF,jb,ja,B9.out]);have CR:=za BF;have HQ:=za q2;have AV:=za (HF.out.trans' BX);have Cj:=za Ce;have Al:=za T4;obtain⟨h6,Ab⟩:∃ l,(if x0=true then upd t.life LK 2 else t.life)=l:=⟨_,rfl⟩;rw[Ab]at Hcame;have Ax:=za Ab;have CX:2 * n+1<maxLen:=by unfold maxLen;omega
  have CP:=za CX;have h8:=za hn;have Hwc:=za H.out.toC;clear CL CW CE T4 Bk Bj BJ BI Ce BF q2 BX Ab CX hn CJ Bu CT HF HR HK CK Hpp Hlast Hchk B6 B5 Ch Ci H;cases x0
  ·go_upto_region 9 with(fail)
   have Bo:=Al.out.li.mono (n':=2 * n+1) (by omega);have Bh:=Al.out.life;have Bp:t.life=h6:=by have:=Ax.out;simpa using this
   rw[Bp]at Bh;have BH:Fr (fun k _=>k=bl) W4 W4:=Fr.refl;clear Bp;change Code.wp _ _ _ _ W4;have BA:=jg (zh W4 (.cells #[zm .i64 pos,.bool false,zy z6 0,zy z6 0,zy z6 0,zy z6 0,zy z6 0,zy z6 0,zy z6 0,zy z6 0,zy z6 0,zy z6 0,zy z6 0,zy z6 0,zy z6 0,zy z6 0,zy z6 0,zy z6 0,zy z6 0,zy z6 0,zy z6 0,zy z6 0,zy z6 0,zy z6 0,zy z6 0,zy z6 0,zy z6 0,zy z6 0,zy z6 0,zy z6 0,zy z6 0,zy z6 0,zy z6 0,zy z6 0] 117));have BG:Fr (fun k _=>k=bl) W4 (W4.alloc (.cells #[zm .i64 pos,.bool false,zy z6 0,zy z6 0,zy z6 0,zy z6 0,zy z6 0,zy z6 0,zy z6 0,zy z6 0,zy z6 0,zy z6 0,zy z6 0,zy z6 0,zy z6 0,zy z6 0,zy z6 0,zy z6 0,zy z6 0,zy z6 0,zy z6 0,zy z6 0,zy z6 0,zy z6 0,zy z6 0,zy z6 0,zy z6 0,zy z6 0,zy z6 0,zy z6 0,zy z6 0,zy z6 0,zy z6 0,zy z6 0] 117)):=BH.alloc _;have BR:=Bo.fr ((Fr.refl (M:=NoB)).alloc (.cells #[zm .i64 pos,.bool false,zy z6 0,zy z6 0,zy z6 0,zy z6 0,zy z6 0,zy z6 0,zy z6 0,zy z6 0,zy z6 0,zy z6 0,zy z6 0,zy z6 0,zy z6 0,zy z6 0,zy z6 0,zy z6 0,zy z6 0,zy z6 0,zy z6 0,zy z6 0,zy z6 0,zy z6 0,zy z6 0,zy z6 0,zy z6 0,zy z6 0,zy z6 0,zy z6 0,zy z6 0,zy z6 0,zy z6 0,zy z6 0] 117)) (fun _ h=>h);have Ao:q<W4.heap.size∧W4.heap.size<(W4.alloc (.cells #[zm .i64 pos,.bool false,zy z6 0,zy z6 0,zy z6 0,zy z6 0,zy z6 0,zy z6 0,zy z6 0,zy z6 0,zy z6 0,zy z6 0,zy z6 0,zy z6 0,zy z6 0,zy z6 0,zy z6 0,zy z6 0,zy z6 0,zy z6 0,zy z6 0,zy z6 0,zy z6 0,zy z6 0,zy z6 0,zy z6 0,zy z6 0,zy z6 0,zy z6 0,zy z6 0,zy z6 0,zy z6 0,zy z6 0,zy z6 0] 117)).heap.size:=⟨by have:=BH.size;have:=HN.out;omega,by rw[World.size_alloc];omega⟩;have BO:=BH.size;have BE:(W4.alloc (.cells #[zm .i64 pos,.bool false,zy z6 0,zy z6 0,zy z6 0,zy z6 0,zy z6 0,zy z6 0,zy z6 0,zy z6 0,zy z6 0,zy z6 0,zy z6 0,zy z6 0,zy z6 0,zy z6 0,zy z6 0,zy z6 0,zy z6 0,zy z6 0,zy z6 0,zy z6 0,zy z6 0,zy z6 0,zy z6 0,zy z6 0,zy z6 0,zy z6 0,zy z6 0,zy z6 0,zy z6 0,zy z6 0,zy z6 0,zy z6 0] 117)).there W4.heap.size 0 34:=jr (zh W4 _) (Nat.le_refl _);have B2:Hid ((Tryz.prog.info? 117).map (·.size)=some (#[zm .i64 pos,.bool false,zy z6 0,zy z6 0,zy z6 0,zy z6 0,zy z6 0,zy z6 0,zy z6 0,zy z6 0,zy z6 0,zy z6 0,zy z6 0,zy z6 0,zy z6 0,zy z6 0,zy z6 0,zy z6 0,zy z6 0,zy z6 0,zy z6 0,zy z6 0,zy z6 0,zy z6 0,zy z6 0,zy z6 0,zy z6 0,zy z6 0,zy z6 0,zy z6 0,zy z6 0,zy z6 0,zy z6 0,zy z6 0]:Array Value).size):=za j9;have B4:Hid ((#[zm .i64 pos,.bool false,zy z6 0,zy z6 0,zy z6 0,zy z6 0,zy z6 0,zy z6 0,zy z6 0,zy z6 0,zy z6 0,zy z6 0,zy z6 0,zy z6 0,zy z6 0,zy z6 0,zy z6 0,zy z6 0,zy z6 0,zy z6 0,zy z6 0,zy z6 0,zy z6 0,zy z6 0,zy z6 0,zy z6 0,zy z6 0,zy z6 0,zy z6 0,zy z6 0,zy z6 0,zy z6 0,zy z6 0,zy z6 0]:Array Value).all (·.oneCell')=true):=za (by kernel_rfl);clear Bo BH
   go_upto_region 10 with(first
    | ((with_reducible refine wpList_buildTo ?_ 117 _ rfl _ rfl #[zm .i64 pos,.bool false,zy z6 0,zy z6 0,zy z6 0,zy z6 0,zy z6 0,zy z6 0,zy z6 0,zy z6 0,zy z6 0,zy z6 0,zy z6 0,zy z6 0,zy z6 0,zy z6 0,zy z6 0,zy z6 0,zy z6 0,zy z6 0,zy z6 0,zy z6 0,zy z6 0,zy z6 0,zy z6 0,zy z6 0,zy z6 0,zy z6 0,zy z6 0,zy z6 0,zy z6 0,zy z6 0,zy z6 0,zy z6 0] ?_ ?_);rfl;kernel_rfl)
    | ((with_reducible refine jh (w:=W4) rfl 117 _ _ rfl _ #[zm .i64 pos,.bool false,zy z6 0,zy z6 0,zy z6 0,zy z6 0,zy z6 0,zy z6 0,zy z6 0,zy z6 0,zy z6 0,zy z6 0,zy z6 0,zy z6 0,zy z6 0,zy z6 0,zy z6 0,zy z6 0,zy z6 0,zy z6 0,zy z6 0,zy z6 0,zy z6 0,zy z6 0,zy z6 0,zy z6 0,zy z6 0,zy z6 0,zy z6 0,zy z6 0,zy z6 0,zy z6 0,zy z6 0,zy z6 0] W4.heap.size rfl ?_ ?_ B2.out rfl B4.out ?_);rfl;rfl))
   change Code.wp _ _ _ _ (W4.alloc (.cells #[zm .i64 pos,.bool false,zy z6 0,zy z6 0,zy z6 0,zy z6 0,zy z6 0,zy z6 0,zy z6 0,zy z6 0,zy z6 0,zy z6 0,zy z6 0,zy z6 0,zy z6 0,zy z6 0,zy z6 0,zy z6 0,zy z6 0,zy z6 0,zy z6 0,zy z6 0,zy z6 0,zy z6 0,zy z6 0,zy z6 0,zy z6 0,zy z6 0,zy z6 0,zy z6 0,zy z6 0,zy z6 0,zy z6 0,zy z6 0] 117));obtain⟨W6,Bw⟩:∃ V,W4.alloc (.cells #[zm .i64 pos,.bool false,zy z6 0,zy z6 0,zy z6 0,zy z6 0,zy z6 0,zy z6 0,zy z6 0,zy z6 0,zy z6 0,zy z6 0,zy z6 0,zy z6 0,zy z6 0,zy z6 0,zy z6 0,zy z6 0,zy z6 0,zy z6 0,zy z6 0,zy z6 0,zy z6 0,zy z6 0,zy z6 0,zy z6 0,zy z6 0,zy z6 0,zy z6 0,zy z6 0,zy z6 0,zy z6 0,zy z6 0,zy z6 0] 117)=V:=⟨_,rfl⟩;rw[Bw]at BA BG BR Ao BE ⊢;obtain⟨r,Bm⟩:∃ r,W4.heap.size=r:=⟨_,rfl⟩;have Au:W4.heap.size≤r:=by omega
   rw[Bm]at BA Ao BE ⊢;clear Bw Bm B2 B4 BO;have AM:Hid (q<r∧r<W6.heap.size∧W4.heap.size≤r):=za ⟨Ao.1,Ao.2,Au⟩;have Bf:=za BA;have B7:=za BE;have BK:=za BG;have B8:=za BR;have CA:=za Bh;have Am:=Fr.cell BG Ak (fun _ h=>by have h2:p=bl:=h;have:=HN.out;omega);clear Ao BA BE BG BR Bh Ak Au;by_cases h3:op=3
   ·subst h3;have e3:((3:Int) != 3)=false:=rfl;obtain⟨hL,hI⟩:∃ l,h6=l:=⟨_,rfl⟩;have hS:T2=⟨upd t.hist idn (t.hist idn++[NC]),hL⟩:=by rw[Hcame.out,if_pos rfl,hI]
    have AD:NC=⟨pos,false,jo⟩:=by rw[CH.out,if_pos rfl]
    have AO:W6.rangeAt r 0 NC.cells:=by rw[AD];exact Bf.out
    have hU:=za hS;have AU:=CA.out;rw[hI]at AU;have AB:=B8.out.mono (n':=2 * n+2) (by omega);have hy:=BK.out;have hl:=AM.out;have Ak:=Am;clear hS AD hI
    go_upto_region 13 with(fail)
    change Code.wp _ _ _ _ W6;obtain⟨W8,At⟩:∃ V,W6=V:=⟨_,rfl⟩;rw[At]at hy AB AO hl ⊢;clear At;obtain⟨AR,AE⟩:∃ V,lv=V:=⟨_,rfl⟩;rw[AE]at AU AB;clear AE
    have ha:=Al.out.toC.fr hy (fun k o hk ho hb=>by
     rcases hk with rfl | rfl | ⟨-,hk⟩
     ·exact HN.out.1 hb
     ·exact HN.out.2.2.1 hb
     exact zeb Al.out.li ho hk hb)
    obtain⟨VV,hp⟩:∃ V,zf4 g idn=V:=⟨_,rfl⟩;obtain⟨NH,AP⟩:∃ V,(t.hist idn).length=V:=⟨_,rfl⟩;obtain⟨HX,Ad⟩:∃ V,(t.hist idn).flatMap Chg.cells=V:=⟨_,rfl⟩;obtain⟨hB,hT⟩:∃ V,NC.cells=V:=⟨_,rfl⟩
    have Av:∀ k,some k=VV.ownBlock→base≤k∧k≠tb∧k≠bc∧k≠bl∧∃ o,W8.heap[k]? = some o∧OfTy 117 o:=fun k hk=>by
     rw[← hp]at hk;obtain⟨h1,h2,h3,o,h4,h5⟩:=ha.own Hidl.out hk;exact⟨h1,h2,h3,zeb AB h4 h5,o,h4,h5⟩
    have AF:∀ k,some k=VV.ownBlock→k<p:=fun k hk=>by
     rw[← hp]at hk;obtain⟨-,-,-,o,h4,-⟩:=Hwc.out.own Hidl.out hk;have:=jq h4;have:=HN.out;omega
    have hM:=ha.rows idn Hidl.out;rw[hp,AP,Ad]at hM;have Aa:=fun V (hV:Fr NoB W8 V)=>((ha.ch.fr hV (fun _ h=>h)).look (K:=zf3) Tryz.underlying112 (zbj V) Hidl.out)
    have BS:(Instr.lookup 112 (.map (some bc)) (.string ⟨idn.toArray⟩) false).run ze W8.drew = .ok VV W8.drew:=by
     rw[← hp];exact Aa _ Fr.refl.drew
    have AZ:(Instr.lookup 112 (.map (some bc)) (.string ⟨idn.toArray⟩) false).run ze (W8.drew.alloc (.cells hB.toArray 117)) = .ok VV (W8.drew.alloc (.cells hB.toArray 117)):=by
     rw[← hp];exact Aa _ (Fr.refl.drew.alloc _)
    have Aq:(Instr.lookup 112 (.map (some bc)) (.string ⟨idn.toArray⟩) false).run ze (W8.alloc (.cells hB.toArray 117)).drew = .ok VV (W8.alloc (.cells hB.toArray 117)).drew:=AZ;clear Aa;rw[hT]at AO;have hZ:hB.length=34:=by rw[← hT];exact Chg.size hc.out
    have AG:Fr NoB W8 (W8.drew.alloc (.cells hB.toArray 117)):=Fr.refl.drew.alloc _;have hh:=za (zaj hM AG (fun _ _ _ _ h=>h));have AI:Hid (MapB zf3 (W8.drew.alloc (.cells hB.toArray 117)) bc n g):=za (ha.ch.fr AG (fun _ h=>h));have AT:=za AG;have hi:=za (za1 W8.drew hB 117)
    have AL:Hid (∀ u∈hB,u.oneCell'=true):=za (fun u hu=>by
     have h:=Chg.one NC;rw[hT]at h;rw[List.all_toArray,List.all_eq_true]at h
     exact h u hu)
    have Hfew:Hid (NH≤n):=za (by rw[← AP];exact ha.few idn)
    have Az:Hid (base≤(W8.drew.alloc (.cells hB.toArray 117)).heap.size):=za (by
     have h1:=jq ha.cells;have h2:=ha.low.1;have h3:=AG.size
     omega)
    obtain⟨i0,Ac,AX,AW,An⟩:=info_parts zb7
    have AC:Tryz.prog.builtSlice 117 1 [(0,.agg hB.toArray)]=some hB.toArray:=by
     have h:=zav (P:=ze) Ac AX AW (by rfl) (by decide) (by decide:0<1) (by decide) [.agg hB.toArray] (fun v hv=>by
      obtain rfl:v = .agg hB.toArray:=by simpa using hv
      show hB.toArray.size=34
      rw[zn,hZ]) rfl
     have e:([Value.agg hB.toArray].flatMap fun v=>v.cells.toList).toArray=hB.toArray:=by simp[Value.cells]
     rw[e]at h;exact h
    have AJ:=za AC;have Hncl:=za hZ;have Hnz:Hid ((Tryz.prog.info? 117).map (·.size)=some hB.length):=za (by rw[j9,hZ]);have BZ:=za A9;have Bd:=za BD;have Be:=za AO;have A0:=za ha;have HO:=za Av;have A2:=za AF;have AS:=za hp;have A3:=za AP;have A6:=za Ad;have AK:=za hT;have A4:=za AB;have A5:=za AU;have BY:=Fr.cell hy t0 (fun _ h=>HN.out.1 h);have Af:=Fr.cell hy A8 (fun _ h=>by have h2:p=bl:=h;have:=HN.out;omega);have A7:=za hy;have hr:=za hl;clear AC hZ A9 BD AO hl ha Av AF hp AP Ad hT AB AU hy hM AG t0 t1 Ak A8;refine wp_region_held_drew (S:=fun V=>Hid (Fr (fun k _=>k=bc∨some k=VV.ownBlock) W8 V)) (by kernel_rfl) (za Fr.refl.drew) (fun hA=>?_);simp only[qV]
    iterate 12
     refine qt (v:=?_) rfl (zv ⟨by rfl,?_⟩) hA ?_;rotate_left
     ·intro W h7;have h0:=Fr.cell h7.out BY (fun _ h=>h.elim (fun h=>HN.out.2.1 h) (fun h=>(HO.out _ h).2.1 rfl));have CO:=Fr.cell h7.out Af (fun _ h=>h.elim (fun h=>by have:=HN.out;omega) (fun h=>Nat.lt_irrefl _ (A2.out _ h)))
      try simp only[qQ]
      go_simp
      try rw[if_neg (by omega)]
      try with_reducible rfl
     try simp only[Act.put,qP]
    refine qi (i:=13) rfl (zj (by rfl) 117 _ rfl r 0 rfl hB d2 (fun V h=>je Be.out h.out hr.out.2.1 (fun _ h=>h.elim (fun h=>by have h2:r=bc:=h;have:=HN.out;have:=hr.out;omega) (fun h=>by have h2:=A2.out _ (show some r=VV.ownBlock from h);have:=HN.out;have:=hr.out;omega))) BZ.out Bd.out Hnz.out) hA ?_
    try simp only[Act.put,qP]
    refine wpAnyH_ready (rs:=[12,14]) (by kernel_rfl) (by simp) (zl rfl (fun K hK=>?_) (zl rfl (fun K hK=>?_) AllReadyH.nil))
    ·try simp only[qQ]
     go_simp;refine hK.out _ _ (za hA.out) (fun hA=>?_);clear hK K
     try simp only[Act.put,qP]
     refine qr (i:=14) (by kernel_rfl) rfl (fun K hK=>?_)
     try simp only[qQ]
     rw[if_pos (by rfl)];refine qh 110 117 1 _ rfl Tryz.underlying110 hB.toArray (Eq.trans (congrArg (Tryz.prog.builtSlice 117 1) (by kernel_rfl)) AJ.out) ?_;refine hK.out _ _ (za (hA.out.alloc _)) (fun hA=>?_);clear hK K
     try simp only[Act.put,qP]
     refine qr (i:=15) (by kernel_rfl) rfl (fun K hK=>?_)
     try simp only[qQ]
     rw[if_pos (by rfl)];refine zag _ _ 110 (by rfl) base 117 i0 (.agg Chg.zero.cells.toArray) 34 48 Tryz.underlying110 Ac AX AW An rfl (by decide) VV NH HX (by rfl) hh.out ⟨W8.heap.size,0,none⟩ 1 1 hB (by rfl) (by rw[Hncl.out]) hi.out AL.out (by have:=Hfew.out;have:=h8.out;unfold maxLen;omega) (by have:=Hfew.out;have:=h8.out;omega) Az.out ?_;intro v' AA hO hD hQ;refine hK.out _ _ (za (hA.out.trans' ((Fr.ofGrown hD).mono (fun _ _ h=>zw h)))) (fun hA=>?_);clear hK K
     try simp only[Act.put,qP]
     have hG:MapB zf3 AA bc n g:=(AI.out).fr (Fr.ofGrown hD) (fun o h=>(HO.out _ h).2.2.1 rfl);obtain⟨h9,hH,hP,hJ⟩:=hG.store (K:=zf3) Tryz.underlying112 (by have:=h8.out;unfold maxLen;omega) Hidl.out v';replace hH:(Instr.mapUpdate 112 (.map (some bc)) (.string ⟨idn.toArray⟩) v').run ze AA = .ok () h9:=hH;refine qr (i:=16) (by kernel_rfl) rfl (fun K hK=>?_)
     try simp only[qQ]
     go_simp
     skip
     refine hK.out _ _ (za (hA.out.trans' ((Fr.ofGrown hJ).mono (fun _ _ h=>zv (zx h))))) (fun hA=>?_);clear hK K
     try simp only[Act.put,qP]
     refine wpAnyH_done (by kernel_rfl) ?_ _;have HE:=za hA.out;have hY:=za hD;have hX:=za hJ;have hs:=za hP;have Ai:=za hO;have ht:=za hQ;clear hA hH hG hD hJ hP hO hQ
     go_wp2_with fail
     go_ret;have hN:=A0.out.push (x:=idn) Hidl.out (c:=NC) hc.out AT.out (by rw[A3.out,A6.out,AK.out];exact Ai.out) (by rw[AS.out];exact hY.out) (by rw[AS.out];exact ht.out) hs.out hX.out;refine⟨rfl,⟨upd g idn (some v'),AR,?_⟩,?_⟩
     ·rw[hU.out];refine hN.toL (lv:=AR) (life:=hL) ?_ A5.out;have AN:bl≠bc:=fun e=>HN.out.2.2.1 e.symm
      have h1:=(A4.out.fr AT.out (fun _ h=>h)).fr (Fr.ofGrown hY.out) (fun o h=>(HO.out _ h).2.2.2.1 rfl);exact(h1.fr (Fr.ofGrown hX.out) (fun o h=>AN (zx h))).mono (by omega)
     have Ae:Fr (TM base bc bl) W8 h9:=HE.out.mono2 (fun k o hk hm=>by
      rcases hm with hm | hm
      ·exact .inl hm
      obtain⟨h1,-,-,-,o2,h2,h3⟩:=HO.out k hm;rw[h2]at hk;obtain rfl:=zx hk
      exact .inr (.inr ⟨h1,h3⟩))
     exact((AV.out.mono (fun _ _ h=>h.elim)).trans' (A7.out.mono (fun k o h => .inr (.inl h)))).trans' Ae
    try simp only[qQ]
    rw[if_pos (by rfl)];refine qh 110 117 1 _ rfl Tryz.underlying110 hB.toArray (Eq.trans (congrArg (Tryz.prog.builtSlice 117 1) (by kernel_rfl)) AJ.out) ?_;refine hK.out _ _ (za (hA.out.alloc _)) (fun hA=>?_);clear hK K
    try simp only[Act.put,qP]
    refine qr (i:=12) (by kernel_rfl) rfl (fun K hK=>?_)
    try simp only[qQ]
    go_simp
    skip
    refine hK.out _ _ (za hA.out) (fun hA=>?_);clear hK K
    try simp only[Act.put,qP]
    refine qr (i:=15) (by kernel_rfl) rfl (fun K hK=>?_)
    try simp only[qQ]
    rw[if_pos (by rfl)];refine zag _ _ 110 (by rfl) base 117 i0 (.agg Chg.zero.cells.toArray) 34 48 Tryz.underlying110 Ac AX AW An rfl (by decide) VV NH HX (by rfl) hh.out ⟨W8.heap.size,0,none⟩ 1 1 hB (by rfl) (by rw[Hncl.out]) hi.out AL.out (by have:=Hfew.out;have:=h8.out;unfold maxLen;omega) (by have:=Hfew.out;have:=h8.out;omega) Az.out ?_;intro v' AA hO hD hQ;refine hK.out _ _ (za (hA.out.trans' ((Fr.ofGrown hD).mono (fun _ _ h=>zw h)))) (fun hA=>?_);clear hK K
    try simp only[Act.put,qP]
    have hG:MapB zf3 AA bc n g:=(AI.out).fr (Fr.ofGrown hD) (fun o h=>(HO.out _ h).2.2.1 rfl);obtain⟨h9,hH,hP,hJ⟩:=hG.store (K:=zf3) Tryz.underlying112 (by have:=h8.out;unfold maxLen;omega) Hidl.out v';replace hH:(Instr.mapUpdate 112 (.map (some bc)) (.string ⟨idn.toArray⟩) v').run ze AA = .ok () h9:=hH;refine qr (i:=16) (by kernel_rfl) rfl (fun K hK=>?_)
    try simp only[qQ]
    go_simp
    skip
    refine hK.out _ _ (za (hA.out.trans' ((Fr.ofGrown hJ).mono (fun _ _ h=>zv (zx h))))) (fun hA=>?_);clear hK K
    try simp only[Act.put,qP]
    refine wpAnyH_done (by kernel_rfl) ?_ _;have HE:=za hA.out;have hY:=za hD;have hX:=za hJ;have hs:=za hP;have Ai:=za hO;have ht:=za hQ;clear hA hH hG hD hJ hP hO hQ
    go_wp2_with fail
    go_ret;have hN:=A0.out.push (x:=idn) Hidl.out (c:=NC) hc.out AT.out (by rw[A3.out,A6.out,AK.out];exact Ai.out) (by rw[AS.out];exact hY.out) (by rw[AS.out];exact ht.out) hs.out hX.out;refine⟨rfl,⟨upd g idn (some v'),AR,?_⟩,?_⟩
    ·rw[hU.out];refine hN.toL (lv:=AR) (life:=hL) ?_ A5.out;have AN:bl≠bc:=fun e=>HN.out.2.2.1 e.symm
     have h1:=(A4.out.fr AT.out (fun _ h=>h)).fr (Fr.ofGrown hY.out) (fun o h=>(HO.out _ h).2.2.2.1 rfl);exact(h1.fr (Fr.ofGrown hX.out) (fun o h=>AN (zx h))).mono (by omega)
    have Ae:Fr (TM base bc bl) W8 h9:=HE.out.mono2 (fun k o hk hm=>by
     rcases hm with hm | hm
     ·exact .inl hm
     obtain⟨h1,-,-,-,o2,h2,h3⟩:=HO.out k hm;rw[h2]at hk;obtain rfl:=zx hk
     exact .inr (.inr ⟨h1,h3⟩))
    exact((AV.out.mono (fun _ _ h=>h.elim)).trans' (A7.out.mono (fun k o h => .inr (.inl h)))).trans' Ae
   have e3:(op != 3)=true:=by simpa using h3
   go_upto_region 11 with(fail)
   have AD:NC=⟨pos,true,ky⟩:=by rw[CH.out,if_neg h3]
   obtain⟨hL,hI⟩:∃ l,upd h6 ky 1=l:=⟨_,rfl⟩;have hS:T2=⟨upd t.hist idn (t.hist idn++[NC]),hL⟩:=by rw[Hcame.out,if_neg h3,hI]
   have hU:=za hS;have Ah:=za hI;have BW:=je Cj.out BK.out (by have:=HN.out;omega) (fun _ h=>by have h2:p=bl:=h;have:=HN.out;omega);obtain⟨hg,hx⟩:∃ C,zb ky=C:=⟨_,rfl⟩;have hw:hg.length=32:=by rw[← hx,ja,Hkyl.out]
   have Ar:∀ v∈hg,v.oneCell'=true:=by rw[← hx];exact j0 ky
   rw[hx]at BW;have BU:W6.cell? ⟨r,1,none⟩=some (.bool false):=Bf.out 1 _ rfl;have BT:W6.frozen? ⟨r,1,none⟩=false:=(B7.out 1 (by omega)).2;have Bn:p<W6.heap.size:=zu (by have:=HN.out;omega) BK.out.size;have CB:=za BW;have Ba:=za Bn;have Bc:Hid ((Tryz.prog.info? 24).map (·.size)=some hg.toArray.size):=za (by rw[zn,hw,jb]);have Ay:Hid ((Tryz.prog.info? 24).map (·.size)=some hg.length):=za (by rw[hw,jb]);have Bb:=za (all_oneCell_toArray Ar)
   have A1:Hid (((W6.setCell ⟨r,1,none⟩ (.bool true)).drew).there r 2 hg.toArray.size):=za (by
    rw[zn,hw];intro j hj;have h1:=qf B7.out r 1 (.bool true);have h2:=h1 (2+j) (by omega);rw[Nat.zero_add]at h2
    exact h2)
   have B3:Hid ((((W6.setCell ⟨r,1,none⟩ (.bool true)).drew).setCells r 2 hg).rangeAt r 0 NC.cells):=za (by
    have h1:W6.rangeAt r 0 ([.int .i64 pos]++([.bool false]++zb jo)):=Bf.out;have h2:=zap [.int .i64 pos] [.bool false] (zb jo) [.bool true] h1 rfl
    have h3:((W6.setCell ⟨r,1,none⟩ (.bool true)).drew).rangeAt r 0 ([.int .i64 pos,.bool true]++(zb jo++[])):=by
     rw[List.append_nil];exact h2
    have h4:=zap [.int .i64 pos,.bool true] (zb jo) [] hg h3 (by rw[hw];rfl);rw[List.append_nil]at h4;rw[AD];unfold Chg.cells;rw[hx]
    exact h4)
   clear AD hI hS BW Bn hw Ar h3;refine wp_region_held_drew (S:=fun V=>Hid (Fr (fun k _=>k=r) W6 V)) (by kernel_rfl) (za Fr.refl.drew) (fun hA=>?_);simp only[qV];refine qt (v:=?_) rfl (zv ⟨by rfl,?_⟩) hA ?_;rotate_left
   ·intro W h7
    try simp only[qQ]
    go_simp
    try rw[if_neg (by omega)]
    try with_reducible rfl
   try simp only[Act.put,qP]
   refine qi (i:=1) rfl (zj (by rfl) 24 _ rfl p 37 rfl hg (.array 32 5) (fun V h=>je CB.out h.out Ba.out (fun _ h=>by have h2:p=r:=h;have:=HN.out;have:=AM.out;omega)) z7 rfl Ay.out) hA ?_
   try simp only[Act.put,qP]
   refine qt (v:=?_) rfl (zv ⟨by rfl,?_⟩) hA ?_;rotate_left
   ·intro W h7
    try simp only[qQ]
    go_simp
    try rw[if_neg (by omega)]
    try with_reducible rfl
   try simp only[Act.put,qP]
   refine qr (i:=3) (by kernel_rfl) rfl (fun K hK=>?_)
   try simp only[qQ]
   go_simp
   skip
   refine hK.out _ _ (za (hA.out.setCell _ _ (fun _ _=>rfl))) (fun hA=>?_);clear hK K
   try simp only[Act.put,qP]
   refine qt (v:=?_) rfl (zv ⟨by rfl,?_⟩) hA ?_;rotate_left
   ·intro W h7
    try simp only[qQ]
    go_simp
    try rw[if_neg (by omega)]
    try with_reducible rfl
   try simp only[Act.put,qP]
   refine qr (i:=5) (by kernel_rfl) rfl (fun K hK=>?_)
   try simp only[qQ]
   rw[if_pos (by rfl)];refine wp_store_mid 24 (.tmp 39) (.tmp 37) (by rfl) r 2 hg.toArray (by rfl) (by rfl) A1.out Bc.out Bb.out ?_;refine hK.out _ _ (za (hA.out.trans' ((jd r _ _ _).mono (fun _ _ h=>h)))) (fun hA=>?_);clear hK K
   try simp only[Act.put,qP]
   refine wpAnyH_done (by kernel_rfl) ?_ _;have AH:=hA.out;have Aw:Fr (fun k _=>k=bl) W4 (((W6.setCell ⟨r,1,none⟩ (.bool true)).drew).setCells r 2 hg):=BK.out.trans AH (fun k _ h=>by have h2:k=r:=h;have:=AM.out;omega);have BQ:MapB zsx (((W6.setCell ⟨r,1,none⟩ (.bool true)).drew).setCells r 2 hg) bl (2 * n+1) lv:=B8.out.fr AH (fun _ h=>by have h2:bl=r:=h;have:=AM.out;have:=HN.out;omega);have BP:=B3.out;have BV:(((W6.setCell ⟨r,1,none⟩ (.bool true)).drew).setCells r 2 hg).rangeAt p 37 hg:=je CB.out AH Ba.out (fun _ h=>by have h2:p=r:=h;have:=HN.out;have:=AM.out;omega);have AY:W6.heap.size≤(((W6.setCell ⟨r,1,none⟩ (.bool true)).drew).setCells r 2 hg).heap.size:=AH.size;clear hA AH BU BT B3 A1
   go_upto_region 12 with(fail)
   change Code.wp _ _ _ _ (((W6.setCell ⟨r,1,none⟩ (.bool true)).drew).setCells r 2 hg);obtain⟨W7,Bv⟩:∃ V,((W6.setCell ⟨r,1,none⟩ (.bool true)).drew).setCells r 2 hg=V:=⟨_,rfl⟩;rw[Bv]at Aw BQ BP BV AY ⊢;clear Bv;have CU:=za Aw;have CS:=za BV;have CQ:=za BP;have Ag:=za AY;have B1:=Fr.cell Aw t0 (fun _ h=>HN.out.1 h);have B0:=Fr.cell Aw t1 (fun _ h=>HN.out.1 h);obtain⟨W8,Aj,AB,Br⟩:=(BQ.fr (Fr.refl (M:=NoB)).drew (fun _ h=>h)).store (K:=zsx) (w:=W7.drew) Tryz.underlying113 CP.out Hkyl.out (.int .i64 1);replace Aj:(Instr.mapUpdate 113 (.map (some bl)) (.agg (zb ky).toArray) (.int .i64 1)).run ze W7.drew = .ok () W8:=Aj;rw[hx]at Aj;clear Aw BQ BP BV AY hx;refine wp_region_held_drew (S:=fun V=>Hid (Fr (fun k _=>k=bl) W7 V)) (by kernel_rfl) (za Fr.refl.drew) (fun hA=>?_);simp only[qV]
   iterate 5
    refine qt (v:=?_) rfl (zv ⟨by rfl,?_⟩) hA ?_;rotate_left
    ·intro W h7;have h0:=Fr.cell h7.out B1 (fun _ h=>HN.out.1 h);have h1:=Fr.cell h7.out B0 (fun _ h=>HN.out.1 h)
     try simp only[qQ]
     go_simp
     try rw[if_neg (by omega)]
     try with_reducible rfl
    try simp only[Act.put,qP]
   refine qi (i:=5) rfl (zj (by rfl) 24 _ rfl p 37 rfl hg (.array 32 5) (fun V h=>je CS.out h.out (zu Ba.out Ag.out) (fun _ h=>by have h2:p=bl:=h;have:=HN.out;omega)) z7 rfl Ay.out) hA ?_
   try simp only[Act.put,qP]
   refine qr (i:=6) (by kernel_rfl) rfl (fun K hK=>?_)
   try simp only[qQ]
   go_simp
   skip
   refine hK.out _ _ (za (hA.out.trans' ((Fr.ofGrown Br).mono (fun _ _ h=>zx h)))) (fun hA=>?_);clear hK K
   try simp only[Act.put,qP]
   refine wpAnyH_done (by kernel_rfl) ?_ _;have AQ:=hA.out;have hy:=CU.out.trans' AQ;have hl:q<r∧r<W8.heap.size∧W4.heap.size≤r:=⟨AM.out.1,by have:=AM.out;have:=Ag.out;have:=AQ.size;omega,AM.out.2.2⟩;have AO:=je CQ.out AQ (by have:=AM.out;have:=Ag.out;omega) (fun _ h=>by have h2:r=bl:=h;have:=HN.out;have:=AM.out;omega)
   have AU:∀ k:Bs,k.length=32→(upd lv ky (some (.int .i64 1)) k).getD (.int .i64 0) = .int .i64 (hL k):=fun k hk=>by
    rw[← Ah.out];have h5:=CA.out k hk;show(if k=ky then some (zm .i64 1) else (lv) k).getD _ = .int .i64 (if k=ky then 1 else h6 k);by_cases he:k=ky
    ·rw[if_pos he,if_pos he];rfl
    rw[if_neg he,if_neg he];exact h5
   have Ak:=Am;clear hA Aj Br AQ B1 B0
   go_upto_region 13 with(fail)
   change Code.wp _ _ _ _ W8;obtain⟨W8,At⟩:∃ V,W8=V:=⟨_,rfl⟩;rw[At]at hy AB AO hl ⊢;clear At;obtain⟨AR,AE⟩:∃ V,(upd lv ky (some (.int .i64 1)))=V:=⟨_,rfl⟩;rw[AE]at AU AB;clear AE
   have ha:=Al.out.toC.fr hy (fun k o hk ho hb=>by
    rcases hk with rfl | rfl | ⟨-,hk⟩
    ·exact HN.out.1 hb
    ·exact HN.out.2.2.1 hb
    exact zeb Al.out.li ho hk hb)
   obtain⟨VV,hp⟩:∃ V,zf4 g idn=V:=⟨_,rfl⟩;obtain⟨NH,AP⟩:∃ V,(t.hist idn).length=V:=⟨_,rfl⟩;obtain⟨HX,Ad⟩:∃ V,(t.hist idn).flatMap Chg.cells=V:=⟨_,rfl⟩;obtain⟨hB,hT⟩:∃ V,NC.cells=V:=⟨_,rfl⟩
   have Av:∀ k,some k=VV.ownBlock→base≤k∧k≠tb∧k≠bc∧k≠bl∧∃ o,W8.heap[k]? = some o∧OfTy 117 o:=fun k hk=>by
    rw[← hp]at hk;obtain⟨h1,h2,h3,o,h4,h5⟩:=ha.own Hidl.out hk;exact⟨h1,h2,h3,zeb AB h4 h5,o,h4,h5⟩
   have AF:∀ k,some k=VV.ownBlock→k<p:=fun k hk=>by
    rw[← hp]at hk;obtain⟨-,-,-,o,h4,-⟩:=Hwc.out.own Hidl.out hk;have:=jq h4;have:=HN.out;omega
   have hM:=ha.rows idn Hidl.out;rw[hp,AP,Ad]at hM;have Aa:=fun V (hV:Fr NoB W8 V)=>((ha.ch.fr hV (fun _ h=>h)).look (K:=zf3) Tryz.underlying112 (zbj V) Hidl.out)
   have BS:(Instr.lookup 112 (.map (some bc)) (.string ⟨idn.toArray⟩) false).run ze W8.drew = .ok VV W8.drew:=by
    rw[← hp];exact Aa _ Fr.refl.drew
   have AZ:(Instr.lookup 112 (.map (some bc)) (.string ⟨idn.toArray⟩) false).run ze (W8.drew.alloc (.cells hB.toArray 117)) = .ok VV (W8.drew.alloc (.cells hB.toArray 117)):=by
    rw[← hp];exact Aa _ (Fr.refl.drew.alloc _)
   have Aq:(Instr.lookup 112 (.map (some bc)) (.string ⟨idn.toArray⟩) false).run ze (W8.alloc (.cells hB.toArray 117)).drew = .ok VV (W8.alloc (.cells hB.toArray 117)).drew:=AZ;clear Aa;rw[hT]at AO;have hZ:hB.length=34:=by rw[← hT];exact Chg.size hc.out
   have AG:Fr NoB W8 (W8.drew.alloc (.cells hB.toArray 117)):=Fr.refl.drew.alloc _;have hh:=za (zaj hM AG (fun _ _ _ _ h=>h));have AI:Hid (MapB zf3 (W8.drew.alloc (.cells hB.toArray 117)) bc n g):=za (ha.ch.fr AG (fun _ h=>h));have AT:=za AG;have hi:=za (za1 W8.drew hB 117)
   have AL:Hid (∀ u∈hB,u.oneCell'=true):=za (fun u hu=>by
    have h:=Chg.one NC;rw[hT]at h;rw[List.all_toArray,List.all_eq_true]at h
    exact h u hu)
   have Hfew:Hid (NH≤n):=za (by rw[← AP];exact ha.few idn)
   have Az:Hid (base≤(W8.drew.alloc (.cells hB.toArray 117)).heap.size):=za (by
    have h1:=jq ha.cells;have h2:=ha.low.1;have h3:=AG.size
    omega)
   obtain⟨i0,Ac,AX,AW,An⟩:=info_parts zb7
   have AC:Tryz.prog.builtSlice 117 1 [(0,.agg hB.toArray)]=some hB.toArray:=by
    have h:=zav (P:=ze) Ac AX AW (by rfl) (by decide) (by decide:0<1) (by decide) [.agg hB.toArray] (fun v hv=>by
     obtain rfl:v = .agg hB.toArray:=by simpa using hv
     show hB.toArray.size=34
     rw[zn,hZ]) rfl
    have e:([Value.agg hB.toArray].flatMap fun v=>v.cells.toList).toArray=hB.toArray:=by simp[Value.cells]
    rw[e]at h;exact h
   have AJ:=za AC;have Hncl:=za hZ;have Hnz:Hid ((Tryz.prog.info? 117).map (·.size)=some hB.length):=za (by rw[j9,hZ]);have BZ:=za A9;have Bd:=za BD;have Be:=za AO;have A0:=za ha;have HO:=za Av;have A2:=za AF;have AS:=za hp;have A3:=za AP;have A6:=za Ad;have AK:=za hT;have A4:=za AB;have A5:=za AU;have BY:=Fr.cell hy t0 (fun _ h=>HN.out.1 h);have Af:=Fr.cell hy A8 (fun _ h=>by have h2:p=bl:=h;have:=HN.out;omega);have A7:=za hy;have hr:=za hl;clear AC hZ A9 BD AO hl ha Av AF hp AP Ad hT AB AU hy hM AG t0 t1 Ak A8;refine wp_region_held_drew (S:=fun V=>Hid (Fr (fun k _=>k=bc∨some k=VV.ownBlock) W8 V)) (by kernel_rfl) (za Fr.refl.drew) (fun hA=>?_);simp only[qV]
   iterate 12
    refine qt (v:=?_) rfl (zv ⟨by rfl,?_⟩) hA ?_;rotate_left
    ·intro W h7;have h0:=Fr.cell h7.out BY (fun _ h=>h.elim (fun h=>HN.out.2.1 h) (fun h=>(HO.out _ h).2.1 rfl));have CO:=Fr.cell h7.out Af (fun _ h=>h.elim (fun h=>by have:=HN.out;omega) (fun h=>Nat.lt_irrefl _ (A2.out _ h)))
     try simp only[qQ]
     go_simp
     try rw[if_neg (by omega)]
     try with_reducible rfl
    try simp only[Act.put,qP]
   refine qi (i:=13) rfl (zj (by rfl) 117 _ rfl r 0 rfl hB d2 (fun V h=>je Be.out h.out hr.out.2.1 (fun _ h=>h.elim (fun h=>by have h2:r=bc:=h;have:=HN.out;have:=hr.out;omega) (fun h=>by have h2:=A2.out _ (show some r=VV.ownBlock from h);have:=HN.out;have:=hr.out;omega))) BZ.out Bd.out Hnz.out) hA ?_
   try simp only[Act.put,qP]
   refine wpAnyH_ready (rs:=[12,14]) (by kernel_rfl) (by simp) (zl rfl (fun K hK=>?_) (zl rfl (fun K hK=>?_) AllReadyH.nil))
   ·try simp only[qQ]
    go_simp;refine hK.out _ _ (za hA.out) (fun hA=>?_);clear hK K
    try simp only[Act.put,qP]
    refine qr (i:=14) (by kernel_rfl) rfl (fun K hK=>?_)
    try simp only[qQ]
    rw[if_pos (by rfl)];refine qh 110 117 1 _ rfl Tryz.underlying110 hB.toArray (Eq.trans (congrArg (Tryz.prog.builtSlice 117 1) (by kernel_rfl)) AJ.out) ?_;refine hK.out _ _ (za (hA.out.alloc _)) (fun hA=>?_);clear hK K
    try simp only[Act.put,qP]
    refine qr (i:=15) (by kernel_rfl) rfl (fun K hK=>?_)
    try simp only[qQ]
    rw[if_pos (by rfl)];refine zag _ _ 110 (by rfl) base 117 i0 (.agg Chg.zero.cells.toArray) 34 48 Tryz.underlying110 Ac AX AW An rfl (by decide) VV NH HX (by rfl) hh.out ⟨W8.heap.size,0,none⟩ 1 1 hB (by rfl) (by rw[Hncl.out]) hi.out AL.out (by have:=Hfew.out;have:=h8.out;unfold maxLen;omega) (by have:=Hfew.out;have:=h8.out;omega) Az.out ?_;intro v' AA hO hD hQ;refine hK.out _ _ (za (hA.out.trans' ((Fr.ofGrown hD).mono (fun _ _ h=>zw h)))) (fun hA=>?_);clear hK K
    try simp only[Act.put,qP]
    have hG:MapB zf3 AA bc n g:=(AI.out).fr (Fr.ofGrown hD) (fun o h=>(HO.out _ h).2.2.1 rfl);obtain⟨h9,hH,hP,hJ⟩:=hG.store (K:=zf3) Tryz.underlying112 (by have:=h8.out;unfold maxLen;omega) Hidl.out v';replace hH:(Instr.mapUpdate 112 (.map (some bc)) (.string ⟨idn.toArray⟩) v').run ze AA = .ok () h9:=hH;refine qr (i:=16) (by kernel_rfl) rfl (fun K hK=>?_)
    try simp only[qQ]
    go_simp
    skip
    refine hK.out _ _ (za (hA.out.trans' ((Fr.ofGrown hJ).mono (fun _ _ h=>zv (zx h))))) (fun hA=>?_);clear hK K
    try simp only[Act.put,qP]
    refine wpAnyH_done (by kernel_rfl) ?_ _;have HE:=za hA.out;have hY:=za hD;have hX:=za hJ;have hs:=za hP;have Ai:=za hO;have ht:=za hQ;clear hA hH hG hD hJ hP hO hQ
    go_wp2_with fail
    go_ret;have hN:=A0.out.push (x:=idn) Hidl.out (c:=NC) hc.out AT.out (by rw[A3.out,A6.out,AK.out];exact Ai.out) (by rw[AS.out];exact hY.out) (by rw[AS.out];exact ht.out) hs.out hX.out;refine⟨rfl,⟨upd g idn (some v'),AR,?_⟩,?_⟩
    ·rw[hU.out];refine hN.toL (lv:=AR) (life:=hL) ?_ A5.out;have AN:bl≠bc:=fun e=>HN.out.2.2.1 e.symm
     have h1:=(A4.out.fr AT.out (fun _ h=>h)).fr (Fr.ofGrown hY.out) (fun o h=>(HO.out _ h).2.2.2.1 rfl);exact(h1.fr (Fr.ofGrown hX.out) (fun o h=>AN (zx h))).mono (by omega)
    have Ae:Fr (TM base bc bl) W8 h9:=HE.out.mono2 (fun k o hk hm=>by
     rcases hm with hm | hm
     ·exact .inl hm
     obtain⟨h1,-,-,-,o2,h2,h3⟩:=HO.out k hm;rw[h2]at hk;obtain rfl:=zx hk
     exact .inr (.inr ⟨h1,h3⟩))
    exact((AV.out.mono (fun _ _ h=>h.elim)).trans' (A7.out.mono (fun k o h => .inr (.inl h)))).trans' Ae
   try simp only[qQ]
   rw[if_pos (by rfl)];refine qh 110 117 1 _ rfl Tryz.underlying110 hB.toArray (Eq.trans (congrArg (Tryz.prog.builtSlice 117 1) (by kernel_rfl)) AJ.out) ?_;refine hK.out _ _ (za (hA.out.alloc _)) (fun hA=>?_);clear hK K
   try simp only[Act.put,qP]
   refine qr (i:=12) (by kernel_rfl) rfl (fun K hK=>?_)
   try simp only[qQ]
   go_simp
   skip
   refine hK.out _ _ (za hA.out) (fun hA=>?_);clear hK K
   try simp only[Act.put,qP]
   refine qr (i:=15) (by kernel_rfl) rfl (fun K hK=>?_)
   try simp only[qQ]
   rw[if_pos (by rfl)];refine zag _ _ 110 (by rfl) base 117 i0 (.agg Chg.zero.cells.toArray) 34 48 Tryz.underlying110 Ac AX AW An rfl (by decide) VV NH HX (by rfl) hh.out ⟨W8.heap.size,0,none⟩ 1 1 hB (by rfl) (by rw[Hncl.out]) hi.out AL.out (by have:=Hfew.out;have:=h8.out;unfold maxLen;omega) (by have:=Hfew.out;have:=h8.out;omega) Az.out ?_;intro v' AA hO hD hQ;refine hK.out _ _ (za (hA.out.trans' ((Fr.ofGrown hD).mono (fun _ _ h=>zw h)))) (fun hA=>?_);clear hK K
   try simp only[Act.put,qP]
   have hG:MapB zf3 AA bc n g:=(AI.out).fr (Fr.ofGrown hD) (fun o h=>(HO.out _ h).2.2.1 rfl);obtain⟨h9,hH,hP,hJ⟩:=hG.store (K:=zf3) Tryz.underlying112 (by have:=h8.out;unfold maxLen;omega) Hidl.out v';replace hH:(Instr.mapUpdate 112 (.map (some bc)) (.string ⟨idn.toArray⟩) v').run ze AA = .ok () h9:=hH;refine qr (i:=16) (by kernel_rfl) rfl (fun K hK=>?_)
   try simp only[qQ]
   go_simp
   skip
   refine hK.out _ _ (za (hA.out.trans' ((Fr.ofGrown hJ).mono (fun _ _ h=>zv (zx h))))) (fun hA=>?_);clear hK K
   try simp only[Act.put,qP]
   refine wpAnyH_done (by kernel_rfl) ?_ _;have HE:=za hA.out;have hY:=za hD;have hX:=za hJ;have hs:=za hP;have Ai:=za hO;have ht:=za hQ;clear hA hH hG hD hJ hP hO hQ
   go_wp2_with fail
   go_ret;have hN:=A0.out.push (x:=idn) Hidl.out (c:=NC) hc.out AT.out (by rw[A3.out,A6.out,AK.out];exact Ai.out) (by rw[AS.out];exact hY.out) (by rw[AS.out];exact ht.out) hs.out hX.out;refine⟨rfl,⟨upd g idn (some v'),AR,?_⟩,?_⟩
   ·rw[hU.out];refine hN.toL (lv:=AR) (life:=hL) ?_ A5.out;have AN:bl≠bc:=fun e=>HN.out.2.2.1 e.symm
    have h1:=(A4.out.fr AT.out (fun _ h=>h)).fr (Fr.ofGrown hY.out) (fun o h=>(HO.out _ h).2.2.2.1 rfl);exact(h1.fr (Fr.ofGrown hX.out) (fun o h=>AN (zx h))).mono (by omega)
   have Ae:Fr (TM base bc bl) W8 h9:=HE.out.mono2 (fun k o hk hm=>by
    rcases hm with hm | hm
    ·exact .inl hm
    obtain⟨h1,-,-,-,o2,h2,h3⟩:=HO.out k hm;rw[h2]at hk;obtain rfl:=zx hk
    exact .inr (.inr ⟨h1,h3⟩))
   exact((AV.out.mono (fun _ _ h=>h.elim)).trans' (A7.out.mono (fun k o h => .inr (.inl h)))).trans' Ae
  go_upto_region 8 with(fail)
  obtain⟨W5,Aj,Bo,CZ⟩:=(Al.out.keep Fr.refl.drew).li.store (K:=zsx) (w:=W4.drew) Tryz.underlying113 (by have:=CP.out;omega) B9.out (.int .i64 2);replace Aj:(Instr.mapUpdate 113 (.map (some bl)) (.agg (zb LK).toArray) (.int .i64 2)).run ze W4.drew = .ok () W5:=Aj;rw[CR.out]at Aj;refine wp_region_held_drew (S:=fun V=>Hid (Fr (fun k _=>k=bl) W4 V)) (by kernel_rfl) (za Fr.refl.drew) (fun hA=>?_);simp only[qV]
  iterate 5
   refine qt (v:=?_) rfl (zv ⟨by rfl,?_⟩) hA ?_;rotate_left
   ·intro W h7;have h0:=Fr.cell h7.out t0 (fun _ h=>HN.out.1 h);have h1:=Fr.cell h7.out t1 (fun _ h=>HN.out.1 h)
    try simp only[qQ]
    go_simp
    try rw[if_neg (by omega)]
    try with_reducible rfl
   try simp only[Act.put,qP]
  refine qi (i:=5) rfl (zj (by rfl) 24 _ rfl q 2 rfl Cg (.array 32 5) (fun V h=>je HQ.out h.out HN.out.2.2.2.2.2.2.2.2.1 (fun _ h=>by have h2:q=bl:=h;have:=HN.out;omega)) z7 rfl Hlkz.out) hA ?_
  try simp only[Act.put,qP]
  refine qr (i:=6) (by kernel_rfl) rfl (fun K hK=>?_)
  try simp only[qQ]
  go_simp
  skip
  refine hK.out _ _ (za (hA.out.trans' ((Fr.ofGrown CZ).mono (fun _ _ h=>zx h)))) (fun hA=>?_);clear hK K
  try simp only[Act.put,qP]
  refine wpAnyH_done (by kernel_rfl) ?_ _;have BH:=hA.out;clear hA Aj CZ
  have Bh:∀ k:Bs,k.length=32→(upd lv LK (some (.int .i64 2)) k).getD (.int .i64 0) = .int .i64 (h6 k):=fun k hk=>by
   rw[← Ax.out,if_pos rfl];unfold upd;by_cases he:k=LK
   ·rw[if_pos he,if_pos he];rfl
   rw[if_neg he,if_neg he];exact Al.out.life k hk
  go_upto_region 9 with(fail)
  change Code.wp _ _ _ _ W5;have BA:=jg (zh W5 (.cells #[zm .i64 pos,.bool false,zy z6 0,zy z6 0,zy z6 0,zy z6 0,zy z6 0,zy z6 0,zy z6 0,zy z6 0,zy z6 0,zy z6 0,zy z6 0,zy z6 0,zy z6 0,zy z6 0,zy z6 0,zy z6 0,zy z6 0,zy z6 0,zy z6 0,zy z6 0,zy z6 0,zy z6 0,zy z6 0,zy z6 0,zy z6 0,zy z6 0,zy z6 0,zy z6 0,zy z6 0,zy z6 0,zy z6 0,zy z6 0] 117));have BG:Fr (fun k _=>k=bl) W4 (W5.alloc (.cells #[zm .i64 pos,.bool false,zy z6 0,zy z6 0,zy z6 0,zy z6 0,zy z6 0,zy z6 0,zy z6 0,zy z6 0,zy z6 0,zy z6 0,zy z6 0,zy z6 0,zy z6 0,zy z6 0,zy z6 0,zy z6 0,zy z6 0,zy z6 0,zy z6 0,zy z6 0,zy z6 0,zy z6 0,zy z6 0,zy z6 0,zy z6 0,zy z6 0,zy z6 0,zy z6 0,zy z6 0,zy z6 0,zy z6 0,zy z6 0] 117)):=BH.alloc _;have BR:=Bo.fr ((Fr.refl (M:=NoB)).alloc (.cells #[zm .i64 pos,.bool false,zy z6 0,zy z6 0,zy z6 0,zy z6 0,zy z6 0,zy z6 0,zy z6 0,zy z6 0,zy z6 0,zy z6 0,zy z6 0,zy z6 0,zy z6 0,zy z6 0,zy z6 0,zy z6 0,zy z6 0,zy z6 0,zy z6 0,zy z6 0,zy z6 0,zy z6 0,zy z6 0,zy z6 0,zy z6 0,zy z6 0,zy z6 0,zy z6 0,zy z6 0,zy z6 0,zy z6 0,zy z6 0] 117)) (fun _ h=>h);have Ao:q<W5.heap.size∧W5.heap.size<(W5.alloc (.cells #[zm .i64 pos,.bool false,zy z6 0,zy z6 0,zy z6 0,zy z6 0,zy z6 0,zy z6 0,zy z6 0,zy z6 0,zy z6 0,zy z6 0,zy z6 0,zy z6 0,zy z6 0,zy z6 0,zy z6 0,zy z6 0,zy z6 0,zy z6 0,zy z6 0,zy z6 0,zy z6 0,zy z6 0,zy z6 0,zy z6 0,zy z6 0,zy z6 0,zy z6 0,zy z6 0,zy z6 0,zy z6 0,zy z6 0,zy z6 0] 117)).heap.size:=⟨by have:=BH.size;have:=HN.out;omega,by rw[World.size_alloc];omega⟩;have BO:=BH.size;have BE:(W5.alloc (.cells #[zm .i64 pos,.bool false,zy z6 0,zy z6 0,zy z6 0,zy z6 0,zy z6 0,zy z6 0,zy z6 0,zy z6 0,zy z6 0,zy z6 0,zy z6 0,zy z6 0,zy z6 0,zy z6 0,zy z6 0,zy z6 0,zy z6 0,zy z6 0,zy z6 0,zy z6 0,zy z6 0,zy z6 0,zy z6 0,zy z6 0,zy z6 0,zy z6 0,zy z6 0,zy z6 0,zy z6 0,zy z6 0,zy z6 0,zy z6 0] 117)).there W5.heap.size 0 34:=jr (zh W5 _) (Nat.le_refl _);have B2:Hid ((Tryz.prog.info? 117).map (·.size)=some (#[zm .i64 pos,.bool false,zy z6 0,zy z6 0,zy z6 0,zy z6 0,zy z6 0,zy z6 0,zy z6 0,zy z6 0,zy z6 0,zy z6 0,zy z6 0,zy z6 0,zy z6 0,zy z6 0,zy z6 0,zy z6 0,zy z6 0,zy z6 0,zy z6 0,zy z6 0,zy z6 0,zy z6 0,zy z6 0,zy z6 0,zy z6 0,zy z6 0,zy z6 0,zy z6 0,zy z6 0,zy z6 0,zy z6 0,zy z6 0]:Array Value).size):=za j9;have B4:Hid ((#[zm .i64 pos,.bool false,zy z6 0,zy z6 0,zy z6 0,zy z6 0,zy z6 0,zy z6 0,zy z6 0,zy z6 0,zy z6 0,zy z6 0,zy z6 0,zy z6 0,zy z6 0,zy z6 0,zy z6 0,zy z6 0,zy z6 0,zy z6 0,zy z6 0,zy z6 0,zy z6 0,zy z6 0,zy z6 0,zy z6 0,zy z6 0,zy z6 0,zy z6 0,zy z6 0,zy z6 0,zy z6 0,zy z6 0,zy z6 0]:Array Value).all (·.oneCell')=true):=za (by kernel_rfl);clear Bo BH
  go_upto_region 10 with(first
   | ((with_reducible refine wpList_buildTo ?_ 117 _ rfl _ rfl #[zm .i64 pos,.bool false,zy z6 0,zy z6 0,zy z6 0,zy z6 0,zy z6 0,zy z6 0,zy z6 0,zy z6 0,zy z6 0,zy z6 0,zy z6 0,zy z6 0,zy z6 0,zy z6 0,zy z6 0,zy z6 0,zy z6 0,zy z6 0,zy z6 0,zy z6 0,zy z6 0,zy z6 0,zy z6 0,zy z6 0,zy z6 0,zy z6 0,zy z6 0,zy z6 0,zy z6 0,zy z6 0,zy z6 0,zy z6 0] ?_ ?_);rfl;kernel_rfl)
   | ((with_reducible refine jh (w:=W5) rfl 117 _ _ rfl _ #[zm .i64 pos,.bool false,zy z6 0,zy z6 0,zy z6 0,zy z6 0,zy z6 0,zy z6 0,zy z6 0,zy z6 0,zy z6 0,zy z6 0,zy z6 0,zy z6 0,zy z6 0,zy z6 0,zy z6 0,zy z6 0,zy z6 0,zy z6 0,zy z6 0,zy z6 0,zy z6 0,zy z6 0,zy z6 0,zy z6 0,zy z6 0,zy z6 0,zy z6 0,zy z6 0,zy z6 0,zy z6 0,zy z6 0,zy z6 0] W5.heap.size rfl ?_ ?_ B2.out rfl B4.out ?_);rfl;rfl))
  change Code.wp _ _ _ _ (W5.alloc (.cells #[zm .i64 pos,.bool false,zy z6 0,zy z6 0,zy z6 0,zy z6 0,zy z6 0,zy z6 0,zy z6 0,zy z6 0,zy z6 0,zy z6 0,zy z6 0,zy z6 0,zy z6 0,zy z6 0,zy z6 0,zy z6 0,zy z6 0,zy z6 0,zy z6 0,zy z6 0,zy z6 0,zy z6 0,zy z6 0,zy z6 0,zy z6 0,zy z6 0,zy z6 0,zy z6 0,zy z6 0,zy z6 0,zy z6 0,zy z6 0] 117));obtain⟨W6,Bw⟩:∃ V,W5.alloc (.cells #[zm .i64 pos,.bool false,zy z6 0,zy z6 0,zy z6 0,zy z6 0,zy z6 0,zy z6 0,zy z6 0,zy z6 0,zy z6 0,zy z6 0,zy z6 0,zy z6 0,zy z6 0,zy z6 0,zy z6 0,zy z6 0,zy z6 0,zy z6 0,zy z6 0,zy z6 0,zy z6 0,zy z6 0,zy z6 0,zy z6 0,zy z6 0,zy z6 0,zy z6 0,zy z6 0,zy z6 0,zy z6 0,zy z6 0,zy z6 0] 117)=V:=⟨_,rfl⟩;rw[Bw]at BA BG BR Ao BE ⊢;obtain⟨r,Bm⟩:∃ r,W5.heap.size=r:=⟨_,rfl⟩;have Au:W4.heap.size≤r:=by omega
  rw[Bm]at BA Ao BE ⊢;clear Bw Bm B2 B4 BO;have AM:Hid (q<r∧r<W6.heap.size∧W4.heap.size≤r):=za ⟨Ao.1,Ao.2,Au⟩;have Bf:=za BA;have B7:=za BE;have BK:=za BG;have B8:=za BR;have CA:=za Bh;have Am:=Fr.cell BG Ak (fun _ h=>by have h2:p=bl:=h;have:=HN.out;omega);clear Ao BA BE BG BR Bh Ak Au;by_cases h3:op=3
  ·subst h3;have e3:((3:Int) != 3)=false:=rfl;obtain⟨hL,hI⟩:∃ l,h6=l:=⟨_,rfl⟩;have hS:T2=⟨upd t.hist idn (t.hist idn++[NC]),hL⟩:=by rw[Hcame.out,if_pos rfl,hI]
   have AD:NC=⟨pos,false,jo⟩:=by rw[CH.out,if_pos rfl]
   have AO:W6.rangeAt r 0 NC.cells:=by rw[AD];exact Bf.out
   have hU:=za hS;have AU:=CA.out;rw[hI]at AU;have AB:=B8.out.mono (n':=2 * n+2) (by omega);have hy:=BK.out;have hl:=AM.out;have Ak:=Am;clear hS AD hI
   go_upto_region 13 with(fail)
   change Code.wp _ _ _ _ W6;obtain⟨W8,At⟩:∃ V,W6=V:=⟨_,rfl⟩;rw[At]at hy AB AO hl ⊢;clear At;obtain⟨AR,AE⟩:∃ V,(upd lv LK (some (.int .i64 2)))=V:=⟨_,rfl⟩;rw[AE]at AU AB;clear AE
   have ha:=Al.out.toC.fr hy (fun k o hk ho hb=>by
    rcases hk with rfl | rfl | ⟨-,hk⟩
    ·exact HN.out.1 hb
    ·exact HN.out.2.2.1 hb
    exact zeb Al.out.li ho hk hb)
   obtain⟨VV,hp⟩:∃ V,zf4 g idn=V:=⟨_,rfl⟩;obtain⟨NH,AP⟩:∃ V,(t.hist idn).length=V:=⟨_,rfl⟩;obtain⟨HX,Ad⟩:∃ V,(t.hist idn).flatMap Chg.cells=V:=⟨_,rfl⟩;obtain⟨hB,hT⟩:∃ V,NC.cells=V:=⟨_,rfl⟩
   have Av:∀ k,some k=VV.ownBlock→base≤k∧k≠tb∧k≠bc∧k≠bl∧∃ o,W8.heap[k]? = some o∧OfTy 117 o:=fun k hk=>by
    rw[← hp]at hk;obtain⟨h1,h2,h3,o,h4,h5⟩:=ha.own Hidl.out hk;exact⟨h1,h2,h3,zeb AB h4 h5,o,h4,h5⟩
   have AF:∀ k,some k=VV.ownBlock→k<p:=fun k hk=>by
    rw[← hp]at hk;obtain⟨-,-,-,o,h4,-⟩:=Hwc.out.own Hidl.out hk;have:=jq h4;have:=HN.out;omega
   have hM:=ha.rows idn Hidl.out;rw[hp,AP,Ad]at hM;have Aa:=fun V (hV:Fr NoB W8 V)=>((ha.ch.fr hV (fun _ h=>h)).look (K:=zf3) Tryz.underlying112 (zbj V) Hidl.out)
   have BS:(Instr.lookup 112 (.map (some bc)) (.string ⟨idn.toArray⟩) false).run ze W8.drew = .ok VV W8.drew:=by
    rw[← hp];exact Aa _ Fr.refl.drew
   have AZ:(Instr.lookup 112 (.map (some bc)) (.string ⟨idn.toArray⟩) false).run ze (W8.drew.alloc (.cells hB.toArray 117)) = .ok VV (W8.drew.alloc (.cells hB.toArray 117)):=by
    rw[← hp];exact Aa _ (Fr.refl.drew.alloc _)
   have Aq:(Instr.lookup 112 (.map (some bc)) (.string ⟨idn.toArray⟩) false).run ze (W8.alloc (.cells hB.toArray 117)).drew = .ok VV (W8.alloc (.cells hB.toArray 117)).drew:=AZ;clear Aa;rw[hT]at AO;have hZ:hB.length=34:=by rw[← hT];exact Chg.size hc.out
   have AG:Fr NoB W8 (W8.drew.alloc (.cells hB.toArray 117)):=Fr.refl.drew.alloc _;have hh:=za (zaj hM AG (fun _ _ _ _ h=>h));have AI:Hid (MapB zf3 (W8.drew.alloc (.cells hB.toArray 117)) bc n g):=za (ha.ch.fr AG (fun _ h=>h));have AT:=za AG;have hi:=za (za1 W8.drew hB 117)
   have AL:Hid (∀ u∈hB,u.oneCell'=true):=za (fun u hu=>by
    have h:=Chg.one NC;rw[hT]at h;rw[List.all_toArray,List.all_eq_true]at h
    exact h u hu)
   have Hfew:Hid (NH≤n):=za (by rw[← AP];exact ha.few idn)
   have Az:Hid (base≤(W8.drew.alloc (.cells hB.toArray 117)).heap.size):=za (by
    have h1:=jq ha.cells;have h2:=ha.low.1;have h3:=AG.size
    omega)
   obtain⟨i0,Ac,AX,AW,An⟩:=info_parts zb7
   have AC:Tryz.prog.builtSlice 117 1 [(0,.agg hB.toArray)]=some hB.toArray:=by
    have h:=zav (P:=ze) Ac AX AW (by rfl) (by decide) (by decide:0<1) (by decide) [.agg hB.toArray] (fun v hv=>by
     obtain rfl:v = .agg hB.toArray:=by simpa using hv
     show hB.toArray.size=34
     rw[zn,hZ]) rfl
    have e:([Value.agg hB.toArray].flatMap fun v=>v.cells.toList).toArray=hB.toArray:=by simp[Value.cells]
    rw[e]at h;exact h
   have AJ:=za AC;have Hncl:=za hZ;have Hnz:Hid ((Tryz.prog.info? 117).map (·.size)=some hB.length):=za (by rw[j9,hZ]);have BZ:=za A9;have Bd:=za BD;have Be:=za AO;have A0:=za ha;have HO:=za Av;have A2:=za AF;have AS:=za hp;have A3:=za AP;have A6:=za Ad;have AK:=za hT;have A4:=za AB;have A5:=za AU;have BY:=Fr.cell hy t0 (fun _ h=>HN.out.1 h);have Af:=Fr.cell hy A8 (fun _ h=>by have h2:p=bl:=h;have:=HN.out;omega);have A7:=za hy;have hr:=za hl;clear AC hZ A9 BD AO hl ha Av AF hp AP Ad hT AB AU hy hM AG t0 t1 Ak A8;refine wp_region_held_drew (S:=fun V=>Hid (Fr (fun k _=>k=bc∨some k=VV.ownBlock) W8 V)) (by kernel_rfl) (za Fr.refl.drew) (fun hA=>?_);simp only[qV]
   iterate 12
    refine qt (v:=?_) rfl (zv ⟨by rfl,?_⟩) hA ?_;rotate_left
    ·intro W h7;have h0:=Fr.cell h7.out BY (fun _ h=>h.elim (fun h=>HN.out.2.1 h) (fun h=>(HO.out _ h).2.1 rfl));have CO:=Fr.cell h7.out Af (fun _ h=>h.elim (fun h=>by have:=HN.out;omega) (fun h=>Nat.lt_irrefl _ (A2.out _ h)))
     try simp only[qQ]
     go_simp
     try rw[if_neg (by omega)]
     try with_reducible rfl
    try simp only[Act.put,qP]
   refine qi (i:=13) rfl (zj (by rfl) 117 _ rfl r 0 rfl hB d2 (fun V h=>je Be.out h.out hr.out.2.1 (fun _ h=>h.elim (fun h=>by have h2:r=bc:=h;have:=HN.out;have:=hr.out;omega) (fun h=>by have h2:=A2.out _ (show some r=VV.ownBlock from h);have:=HN.out;have:=hr.out;omega))) BZ.out Bd.out Hnz.out) hA ?_
   try simp only[Act.put,qP]
   refine wpAnyH_ready (rs:=[12,14]) (by kernel_rfl) (by simp) (zl rfl (fun K hK=>?_) (zl rfl (fun K hK=>?_) AllReadyH.nil))
   ·try simp only[qQ]
    go_simp;refine hK.out _ _ (za hA.out) (fun hA=>?_);clear hK K
    try simp only[Act.put,qP]
    refine qr (i:=14) (by kernel_rfl) rfl (fun K hK=>?_)
    try simp only[qQ]
    rw[if_pos (by rfl)];refine qh 110 117 1 _ rfl Tryz.underlying110 hB.toArray (Eq.trans (congrArg (Tryz.prog.builtSlice 117 1) (by kernel_rfl)) AJ.out) ?_;refine hK.out _ _ (za (hA.out.alloc _)) (fun hA=>?_);clear hK K
    try simp only[Act.put,qP]
    refine qr (i:=15) (by kernel_rfl) rfl (fun K hK=>?_)
    try simp only[qQ]
    rw[if_pos (by rfl)];refine zag _ _ 110 (by rfl) base 117 i0 (.agg Chg.zero.cells.toArray) 34 48 Tryz.underlying110 Ac AX AW An rfl (by decide) VV NH HX (by rfl) hh.out ⟨W8.heap.size,0,none⟩ 1 1 hB (by rfl) (by rw[Hncl.out]) hi.out AL.out (by have:=Hfew.out;have:=h8.out;unfold maxLen;omega) (by have:=Hfew.out;have:=h8.out;omega) Az.out ?_;intro v' AA hO hD hQ;refine hK.out _ _ (za (hA.out.trans' ((Fr.ofGrown hD).mono (fun _ _ h=>zw h)))) (fun hA=>?_);clear hK K
    try simp only[Act.put,qP]
    have hG:MapB zf3 AA bc n g:=(AI.out).fr (Fr.ofGrown hD) (fun o h=>(HO.out _ h).2.2.1 rfl);obtain⟨h9,hH,hP,hJ⟩:=hG.store (K:=zf3) Tryz.underlying112 (by have:=h8.out;unfold maxLen;omega) Hidl.out v';replace hH:(Instr.mapUpdate 112 (.map (some bc)) (.string ⟨idn.toArray⟩) v').run ze AA = .ok () h9:=hH;refine qr (i:=16) (by kernel_rfl) rfl (fun K hK=>?_)
    try simp only[qQ]
    go_simp
    skip
    refine hK.out _ _ (za (hA.out.trans' ((Fr.ofGrown hJ).mono (fun _ _ h=>zv (zx h))))) (fun hA=>?_);clear hK K
    try simp only[Act.put,qP]
    refine wpAnyH_done (by kernel_rfl) ?_ _;have HE:=za hA.out;have hY:=za hD;have hX:=za hJ;have hs:=za hP;have Ai:=za hO;have ht:=za hQ;clear hA hH hG hD hJ hP hO hQ
    go_wp2_with fail
    go_ret;have hN:=A0.out.push (x:=idn) Hidl.out (c:=NC) hc.out AT.out (by rw[A3.out,A6.out,AK.out];exact Ai.out) (by rw[AS.out];exact hY.out) (by rw[AS.out];exact ht.out) hs.out hX.out;refine⟨rfl,⟨upd g idn (some v'),AR,?_⟩,?_⟩
    ·rw[hU.out];refine hN.toL (lv:=AR) (life:=hL) ?_ A5.out;have AN:bl≠bc:=fun e=>HN.out.2.2.1 e.symm
     have h1:=(A4.out.fr AT.out (fun _ h=>h)).fr (Fr.ofGrown hY.out) (fun o h=>(HO.out _ h).2.2.2.1 rfl);exact(h1.fr (Fr.ofGrown hX.out) (fun o h=>AN (zx h))).mono (by omega)
    have Ae:Fr (TM base bc bl) W8 h9:=HE.out.mono2 (fun k o hk hm=>by
     rcases hm with hm | hm
     ·exact .inl hm
     obtain⟨h1,-,-,-,o2,h2,h3⟩:=HO.out k hm;rw[h2]at hk;obtain rfl:=zx hk
     exact .inr (.inr ⟨h1,h3⟩))
    exact((AV.out.mono (fun _ _ h=>h.elim)).trans' (A7.out.mono (fun k o h => .inr (.inl h)))).trans' Ae
   try simp only[qQ]
   rw[if_pos (by rfl)];refine qh 110 117 1 _ rfl Tryz.underlying110 hB.toArray (Eq.trans (congrArg (Tryz.prog.builtSlice 117 1) (by kernel_rfl)) AJ.out) ?_;refine hK.out _ _ (za (hA.out.alloc _)) (fun hA=>?_);clear hK K
   try simp only[Act.put,qP]
   refine qr (i:=12) (by kernel_rfl) rfl (fun K hK=>?_)
   try simp only[qQ]
   go_simp
   skip
   refine hK.out _ _ (za hA.out) (fun hA=>?_);clear hK K
   try simp only[Act.put,qP]
   refine qr (i:=15) (by kernel_rfl) rfl (fun K hK=>?_)
   try simp only[qQ]
   rw[if_pos (by rfl)];refine zag _ _ 110 (by rfl) base 117 i0 (.agg Chg.zero.cells.toArray) 34 48 Tryz.underlying110 Ac AX AW An rfl (by decide) VV NH HX (by rfl) hh.out ⟨W8.heap.size,0,none⟩ 1 1 hB (by rfl) (by rw[Hncl.out]) hi.out AL.out (by have:=Hfew.out;have:=h8.out;unfold maxLen;omega) (by have:=Hfew.out;have:=h8.out;omega) Az.out ?_;intro v' AA hO hD hQ;refine hK.out _ _ (za (hA.out.trans' ((Fr.ofGrown hD).mono (fun _ _ h=>zw h)))) (fun hA=>?_);clear hK K
   try simp only[Act.put,qP]
   have hG:MapB zf3 AA bc n g:=(AI.out).fr (Fr.ofGrown hD) (fun o h=>(HO.out _ h).2.2.1 rfl);obtain⟨h9,hH,hP,hJ⟩:=hG.store (K:=zf3) Tryz.underlying112 (by have:=h8.out;unfold maxLen;omega) Hidl.out v';replace hH:(Instr.mapUpdate 112 (.map (some bc)) (.string ⟨idn.toArray⟩) v').run ze AA = .ok () h9:=hH;refine qr (i:=16) (by kernel_rfl) rfl (fun K hK=>?_)
   try simp only[qQ]
   go_simp
   skip
   refine hK.out _ _ (za (hA.out.trans' ((Fr.ofGrown hJ).mono (fun _ _ h=>zv (zx h))))) (fun hA=>?_);clear hK K
   try simp only[Act.put,qP]
   refine wpAnyH_done (by kernel_rfl) ?_ _;have HE:=za hA.out;have hY:=za hD;have hX:=za hJ;have hs:=za hP;have Ai:=za hO;have ht:=za hQ;clear hA hH hG hD hJ hP hO hQ
   go_wp2_with fail
   go_ret;have hN:=A0.out.push (x:=idn) Hidl.out (c:=NC) hc.out AT.out (by rw[A3.out,A6.out,AK.out];exact Ai.out) (by rw[AS.out];exact hY.out) (by rw[AS.out];exact ht.out) hs.out hX.out;refine⟨rfl,⟨upd g idn (some v'),AR,?_⟩,?_⟩
   ·rw[hU.out];refine hN.toL (lv:=AR) (life:=hL) ?_ A5.out;have AN:bl≠bc:=fun e=>HN.out.2.2.1 e.symm
    have h1:=(A4.out.fr AT.out (fun _ h=>h)).fr (Fr.ofGrown hY.out) (fun o h=>(HO.out _ h).2.2.2.1 rfl);exact(h1.fr (Fr.ofGrown hX.out) (fun o h=>AN (zx h))).mono (by omega)
   have Ae:Fr (TM base bc bl) W8 h9:=HE.out.mono2 (fun k o hk hm=>by
    rcases hm with hm | hm
    ·exact .inl hm
    obtain⟨h1,-,-,-,o2,h2,h3⟩:=HO.out k hm;rw[h2]at hk;obtain rfl:=zx hk
    exact .inr (.inr ⟨h1,h3⟩))
   exact((AV.out.mono (fun _ _ h=>h.elim)).trans' (A7.out.mono (fun k o h => .inr (.inl h)))).trans' Ae
  have e3:(op != 3)=true:=by simpa using h3
  go_upto_region 11 with(fail)
  have AD:NC=⟨pos,true,ky⟩:=by rw[CH.out,if_neg h3]
  obtain⟨hL,hI⟩:∃ l,upd h6 ky 1=l:=⟨_,rfl⟩;have hS:T2=⟨upd t.hist idn (t.hist idn++[NC]),hL⟩:=by rw[Hcame.out,if_neg h3,hI]
  have hU:=za hS;have Ah:=za hI;have BW:=je Cj.out BK.out (by have:=HN.out;omega) (fun _ h=>by have h2:p=bl:=h;have:=HN.out;omega);obtain⟨hg,hx⟩:∃ C,zb ky=C:=⟨_,rfl⟩;have hw:hg.length=32:=by rw[← hx,ja,Hkyl.out]
  have Ar:∀ v∈hg,v.oneCell'=true:=by rw[← hx];exact j0 ky
  rw[hx]at BW;have BU:W6.cell? ⟨r,1,none⟩=some (.bool false):=Bf.out 1 _ rfl;have BT:W6.frozen? ⟨r,1,none⟩=false:=(B7.out 1 (by omega)).2;have Bn:p<W6.heap.size:=zu (by have:=HN.out;omega) BK.out.size;have CB:=za BW;have Ba:=za Bn;have Bc:Hid ((Tryz.prog.info? 24).map (·.size)=some hg.toArray.size):=za (by rw[zn,hw,jb]);have Ay:Hid ((Tryz.prog.info? 24).map (·.size)=some hg.length):=za (by rw[hw,jb]);have Bb:=za (all_oneCell_toArray Ar)
  have A1:Hid (((W6.setCell ⟨r,1,none⟩ (.bool true)).drew).there r 2 hg.toArray.size):=za (by
   rw[zn,hw];intro j hj;have h1:=qf B7.out r 1 (.bool true);have h2:=h1 (2+j) (by omega);rw[Nat.zero_add]at h2
   exact h2)
  have B3:Hid ((((W6.setCell ⟨r,1,none⟩ (.bool true)).drew).setCells r 2 hg).rangeAt r 0 NC.cells):=za (by
   have h1:W6.rangeAt r 0 ([.int .i64 pos]++([.bool false]++zb jo)):=Bf.out;have h2:=zap [.int .i64 pos] [.bool false] (zb jo) [.bool true] h1 rfl
   have h3:((W6.setCell ⟨r,1,none⟩ (.bool true)).drew).rangeAt r 0 ([.int .i64 pos,.bool true]++(zb jo++[])):=by
    rw[List.append_nil];exact h2
   have h4:=zap [.int .i64 pos,.bool true] (zb jo) [] hg h3 (by rw[hw];rfl);rw[List.append_nil]at h4;rw[AD];unfold Chg.cells;rw[hx]
   exact h4)
  clear AD hI hS BW Bn hw Ar h3;refine wp_region_held_drew (S:=fun V=>Hid (Fr (fun k _=>k=r) W6 V)) (by kernel_rfl) (za Fr.refl.drew) (fun hA=>?_);simp only[qV];refine qt (v:=?_) rfl (zv ⟨by rfl,?_⟩) hA ?_;rotate_left
  ·intro W h7
   try simp only[qQ]
   go_simp
   try rw[if_neg (by omega)]
   try with_reducible rfl
  try simp only[Act.put,qP]
  refine qi (i:=1) rfl (zj (by rfl) 24 _ rfl p 37 rfl hg (.array 32 5) (fun V h=>je CB.out h.out Ba.out (fun _ h=>by have h2:p=r:=h;have:=HN.out;have:=AM.out;omega)) z7 rfl Ay.out) hA ?_
  try simp only[Act.put,qP]
  refine qt (v:=?_) rfl (zv ⟨by rfl,?_⟩) hA ?_;rotate_left
  ·intro W h7
   try simp only[qQ]
   go_simp
   try rw[if_neg (by omega)]
   try with_reducible rfl
  try simp only[Act.put,qP]
  refine qr (i:=3) (by kernel_rfl) rfl (fun K hK=>?_)
  try simp only[qQ]
  go_simp
  skip
  refine hK.out _ _ (za (hA.out.setCell _ _ (fun _ _=>rfl))) (fun hA=>?_);clear hK K
  try simp only[Act.put,qP]
  refine qt (v:=?_) rfl (zv ⟨by rfl,?_⟩) hA ?_;rotate_left
  ·intro W h7
   try simp only[qQ]
   go_simp
   try rw[if_neg (by omega)]
   try with_reducible rfl
  try simp only[Act.put,qP]
  refine qr (i:=5) (by kernel_rfl) rfl (fun K hK=>?_)
  try simp only[qQ]
  rw[if_pos (by rfl)];refine wp_store_mid 24 (.tmp 39) (.tmp 37) (by rfl) r 2 hg.toArray (by rfl) (by rfl) A1.out Bc.out Bb.out ?_;refine hK.out _ _ (za (hA.out.trans' ((jd r _ _ _).mono (fun _ _ h=>h)))) (fun hA=>?_);clear hK K
  try simp only[Act.put,qP]
  refine wpAnyH_done (by kernel_rfl) ?_ _;have AH:=hA.out;have Aw:Fr (fun k _=>k=bl) W4 (((W6.setCell ⟨r,1,none⟩ (.bool true)).drew).setCells r 2 hg):=BK.out.trans AH (fun k _ h=>by have h2:k=r:=h;have:=AM.out;omega);have BQ:MapB zsx (((W6.setCell ⟨r,1,none⟩ (.bool true)).drew).setCells r 2 hg) bl (2 * n+1) (upd lv LK (some (.int .i64 2))):=B8.out.fr AH (fun _ h=>by have h2:bl=r:=h;have:=AM.out;have:=HN.out;omega);have BP:=B3.out;have BV:(((W6.setCell ⟨r,1,none⟩ (.bool true)).drew).setCells r 2 hg).rangeAt p 37 hg:=je CB.out AH Ba.out (fun _ h=>by have h2:p=r:=h;have:=HN.out;have:=AM.out;omega);have AY:W6.heap.size≤(((W6.setCell ⟨r,1,none⟩ (.bool true)).drew).setCells r 2 hg).heap.size:=AH.size;clear hA AH BU BT B3 A1
  go_upto_region 12 with(fail)
  change Code.wp _ _ _ _ (((W6.setCell ⟨r,1,none⟩ (.bool true)).drew).setCells r 2 hg);obtain⟨W7,Bv⟩:∃ V,((W6.setCell ⟨r,1,none⟩ (.bool true)).drew).setCells r 2 hg=V:=⟨_,rfl⟩;rw[Bv]at Aw BQ BP BV AY ⊢;clear Bv;have CU:=za Aw;have CS:=za BV;have CQ:=za BP;have Ag:=za AY;have B1:=Fr.cell Aw t0 (fun _ h=>HN.out.1 h);have B0:=Fr.cell Aw t1 (fun _ h=>HN.out.1 h);obtain⟨W8,Aj,AB,Br⟩:=(BQ.fr (Fr.refl (M:=NoB)).drew (fun _ h=>h)).store (K:=zsx) (w:=W7.drew) Tryz.underlying113 CP.out Hkyl.out (.int .i64 1);replace Aj:(Instr.mapUpdate 113 (.map (some bl)) (.agg (zb ky).toArray) (.int .i64 1)).run ze W7.drew = .ok () W8:=Aj;rw[hx]at Aj;clear Aw BQ BP BV AY hx;refine wp_region_held_drew (S:=fun V=>Hid (Fr (fun k _=>k=bl) W7 V)) (by kernel_rfl) (za Fr.refl.drew) (fun hA=>?_);simp only[qV]
  iterate 5
   refine qt (v:=?_) rfl (zv ⟨by rfl,?_⟩) hA ?_;rotate_left
   ·intro W h7;have h0:=Fr.cell h7.out B1 (fun _ h=>HN.out.1 h);have h1:=Fr.cell h7.out B0 (fun _ h=>HN.out.1 h)
    try simp only[qQ]
    go_simp
    try rw[if_neg (by omega)]
    try with_reducible rfl
   try simp only[Act.put,qP]
  refine qi (i:=5) rfl (zj (by rfl) 24 _ rfl p 37 rfl hg (.array 32 5) (fun V h=>je CS.out h.out (zu Ba.out Ag.out) (fun _ h=>by have h2:p=bl:=h;have:=HN.out;omega)) z7 rfl Ay.out) hA ?_
  try simp only[Act.put,qP]
  refine qr (i:=6) (by kernel_rfl) rfl (fun K hK=>?_)
  try simp only[qQ]
  go_simp
  skip
  refine hK.out _ _ (za (hA.out.trans' ((Fr.ofGrown Br).mono (fun _ _ h=>zx h)))) (fun hA=>?_);clear hK K
  try simp only[Act.put,qP]
  refine wpAnyH_done (by kernel_rfl) ?_ _;have AQ:=hA.out;have hy:=CU.out.trans' AQ;have hl:q<r∧r<W8.heap.size∧W4.heap.size≤r:=⟨AM.out.1,by have:=AM.out;have:=Ag.out;have:=AQ.size;omega,AM.out.2.2⟩;have AO:=je CQ.out AQ (by have:=AM.out;have:=Ag.out;omega) (fun _ h=>by have h2:r=bl:=h;have:=HN.out;have:=AM.out;omega)
  have AU:∀ k:Bs,k.length=32→(upd (upd lv LK (some (.int .i64 2))) ky (some (.int .i64 1)) k).getD (.int .i64 0) = .int .i64 (hL k):=fun k hk=>by
   rw[← Ah.out];have h5:=CA.out k hk;show(if k=ky then some (zm .i64 1) else ((upd lv LK (some (.int .i64 2)))) k).getD _ = .int .i64 (if k=ky then 1 else h6 k);by_cases he:k=ky
   ·rw[if_pos he,if_pos he];rfl
   rw[if_neg he,if_neg he];exact h5
  have Ak:=Am;clear hA Aj Br AQ B1 B0
  go_upto_region 13 with(fail)
  change Code.wp _ _ _ _ W8;obtain⟨W8,At⟩:∃ V,W8=V:=⟨_,rfl⟩;rw[At]at hy AB AO hl ⊢;clear At;obtain⟨AR,AE⟩:∃ V,(upd (upd lv LK (some (.int .i64 2))) ky (some (.int .i64 1)))=V:=⟨_,rfl⟩;rw[AE]at AU AB;clear AE
  have ha:=Al.out.toC.fr hy (fun k o hk ho hb=>by
   rcases hk with rfl | rfl | ⟨-,hk⟩
   ·exact HN.out.1 hb
   ·exact HN.out.2.2.1 hb
   exact zeb Al.out.li ho hk hb)
  obtain⟨VV,hp⟩:∃ V,zf4 g idn=V:=⟨_,rfl⟩;obtain⟨NH,AP⟩:∃ V,(t.hist idn).length=V:=⟨_,rfl⟩;obtain⟨HX,Ad⟩:∃ V,(t.hist idn).flatMap Chg.cells=V:=⟨_,rfl⟩;obtain⟨hB,hT⟩:∃ V,NC.cells=V:=⟨_,rfl⟩
  have Av:∀ k,some k=VV.ownBlock→base≤k∧k≠tb∧k≠bc∧k≠bl∧∃ o,W8.heap[k]? = some o∧OfTy 117 o:=fun k hk=>by
   rw[← hp]at hk;obtain⟨h1,h2,h3,o,h4,h5⟩:=ha.own Hidl.out hk;exact⟨h1,h2,h3,zeb AB h4 h5,o,h4,h5⟩
  have AF:∀ k,some k=VV.ownBlock→k<p:=fun k hk=>by
   rw[← hp]at hk;obtain⟨-,-,-,o,h4,-⟩:=Hwc.out.own Hidl.out hk;have:=jq h4;have:=HN.out;omega
  have hM:=ha.rows idn Hidl.out;rw[hp,AP,Ad]at hM;have Aa:=fun V (hV:Fr NoB W8 V)=>((ha.ch.fr hV (fun _ h=>h)).look (K:=zf3) Tryz.underlying112 (zbj V) Hidl.out)
  have BS:(Instr.lookup 112 (.map (some bc)) (.string ⟨idn.toArray⟩) false).run ze W8.drew = .ok VV W8.drew:=by
   rw[← hp];exact Aa _ Fr.refl.drew
  have AZ:(Instr.lookup 112 (.map (some bc)) (.string ⟨idn.toArray⟩) false).run ze (W8.drew.alloc (.cells hB.toArray 117)) = .ok VV (W8.drew.alloc (.cells hB.toArray 117)):=by
   rw[← hp];exact Aa _ (Fr.refl.drew.alloc _)
  have Aq:(Instr.lookup 112 (.map (some bc)) (.string ⟨idn.toArray⟩) false).run ze (W8.alloc (.cells hB.toArray 117)).drew = .ok VV (W8.alloc (.cells hB.toArray 117)).drew:=AZ;clear Aa;rw[hT]at AO;have hZ:hB.length=34:=by rw[← hT];exact Chg.size hc.out
  have AG:Fr NoB W8 (W8.drew.alloc (.cells hB.toArray 117)):=Fr.refl.drew.alloc _;have hh:=za (zaj hM AG (fun _ _ _ _ h=>h));have AI:Hid (MapB zf3 (W8.drew.alloc (.cells hB.toArray 117)) bc n g):=za (ha.ch.fr AG (fun _ h=>h));have AT:=za AG;have hi:=za (za1 W8.drew hB 117)
  have AL:Hid (∀ u∈hB,u.oneCell'=true):=za (fun u hu=>by
   have h:=Chg.one NC;rw[hT]at h;rw[List.all_toArray,List.all_eq_true]at h
   exact h u hu)
  have Hfew:Hid (NH≤n):=za (by rw[← AP];exact ha.few idn)
  have Az:Hid (base≤(W8.drew.alloc (.cells hB.toArray 117)).heap.size):=za (by
   have h1:=jq ha.cells;have h2:=ha.low.1;have h3:=AG.size
   omega)
  obtain⟨i0,Ac,AX,AW,An⟩:=info_parts zb7
  have AC:Tryz.prog.builtSlice 117 1 [(0,.agg hB.toArray)]=some hB.toArray:=by
   have h:=zav (P:=ze) Ac AX AW (by rfl) (by decide) (by decide:0<1) (by decide) [.agg hB.toArray] (fun v hv=>by
    obtain rfl:v = .agg hB.toArray:=by simpa using hv
    show hB.toArray.size=34
    rw[zn,hZ]) rfl
   have e:([Value.agg hB.toArray].flatMap fun v=>v.cells.toList).toArray=hB.toArray:=by simp[Value.cells]
   rw[e]at h;exact h
  have AJ:=za AC;have Hncl:=za hZ;have Hnz:Hid ((Tryz.prog.info? 117).map (·.size)=some hB.length):=za (by rw[j9,hZ]);have BZ:=za A9;have Bd:=za BD;have Be:=za AO;have A0:=za ha;have HO:=za Av;have A2:=za AF;have AS:=za hp;have A3:=za AP;have A6:=za Ad;have AK:=za hT;have A4:=za AB;have A5:=za AU;have BY:=Fr.cell hy t0 (fun _ h=>HN.out.1 h);have Af:=Fr.cell hy A8 (fun _ h=>by have h2:p=bl:=h;have:=HN.out;omega);have A7:=za hy;have hr:=za hl;clear AC hZ A9 BD AO hl ha Av AF hp AP Ad hT AB AU hy hM AG t0 t1 Ak A8;refine wp_region_held_drew (S:=fun V=>Hid (Fr (fun k _=>k=bc∨some k=VV.ownBlock) W8 V)) (by kernel_rfl) (za Fr.refl.drew) (fun hA=>?_);simp only[qV]
  iterate 12
   refine qt (v:=?_) rfl (zv ⟨by rfl,?_⟩) hA ?_;rotate_left
   ·intro W h7;have h0:=Fr.cell h7.out BY (fun _ h=>h.elim (fun h=>HN.out.2.1 h) (fun h=>(HO.out _ h).2.1 rfl));have CO:=Fr.cell h7.out Af (fun _ h=>h.elim (fun h=>by have:=HN.out;omega) (fun h=>Nat.lt_irrefl _ (A2.out _ h)))
    try simp only[qQ]
    go_simp
    try rw[if_neg (by omega)]
    try with_reducible rfl
   try simp only[Act.put,qP]
  refine qi (i:=13) rfl (zj (by rfl) 117 _ rfl r 0 rfl hB d2 (fun V h=>je Be.out h.out hr.out.2.1 (fun _ h=>h.elim (fun h=>by have h2:r=bc:=h;have:=HN.out;have:=hr.out;omega) (fun h=>by have h2:=A2.out _ (show some r=VV.ownBlock from h);have:=HN.out;have:=hr.out;omega))) BZ.out Bd.out Hnz.out) hA ?_
  try simp only[Act.put,qP]
  refine wpAnyH_ready (rs:=[12,14]) (by kernel_rfl) (by simp) (zl rfl (fun K hK=>?_) (zl rfl (fun K hK=>?_) AllReadyH.nil))
  ·try simp only[qQ]
   go_simp;refine hK.out _ _ (za hA.out) (fun hA=>?_);clear hK K
   try simp only[Act.put,qP]
   refine qr (i:=14) (by kernel_rfl) rfl (fun K hK=>?_)
   try simp only[qQ]
   rw[if_pos (by rfl)];refine qh 110 117 1 _ rfl Tryz.underlying110 hB.toArray (Eq.trans (congrArg (Tryz.prog.builtSlice 117 1) (by kernel_rfl)) AJ.out) ?_;refine hK.out _ _ (za (hA.out.alloc _)) (fun hA=>?_);clear hK K
   try simp only[Act.put,qP]
   refine qr (i:=15) (by kernel_rfl) rfl (fun K hK=>?_)
   try simp only[qQ]
   rw[if_pos (by rfl)];refine zag _ _ 110 (by rfl) base 117 i0 (.agg Chg.zero.cells.toArray) 34 48 Tryz.underlying110 Ac AX AW An rfl (by decide) VV NH HX (by rfl) hh.out ⟨W8.heap.size,0,none⟩ 1 1 hB (by rfl) (by rw[Hncl.out]) hi.out AL.out (by have:=Hfew.out;have:=h8.out;unfold maxLen;omega) (by have:=Hfew.out;have:=h8.out;omega) Az.out ?_;intro v' AA hO hD hQ;refine hK.out _ _ (za (hA.out.trans' ((Fr.ofGrown hD).mono (fun _ _ h=>zw h)))) (fun hA=>?_);clear hK K
   try simp only[Act.put,qP]
   have hG:MapB zf3 AA bc n g:=(AI.out).fr (Fr.ofGrown hD) (fun o h=>(HO.out _ h).2.2.1 rfl);obtain⟨h9,hH,hP,hJ⟩:=hG.store (K:=zf3) Tryz.underlying112 (by have:=h8.out;unfold maxLen;omega) Hidl.out v';replace hH:(Instr.mapUpdate 112 (.map (some bc)) (.string ⟨idn.toArray⟩) v').run ze AA = .ok () h9:=hH;refine qr (i:=16) (by kernel_rfl) rfl (fun K hK=>?_)
   try simp only[qQ]
   go_simp
   skip
   refine hK.out _ _ (za (hA.out.trans' ((Fr.ofGrown hJ).mono (fun _ _ h=>zv (zx h))))) (fun hA=>?_);clear hK K
   try simp only[Act.put,qP]
   refine wpAnyH_done (by kernel_rfl) ?_ _;have HE:=za hA.out;have hY:=za hD;have hX:=za hJ;have hs:=za hP;have Ai:=za hO;have ht:=za hQ;clear hA hH hG hD hJ hP hO hQ
   go_wp2_with fail
   go_ret;have hN:=A0.out.push (x:=idn) Hidl.out (c:=NC) hc.out AT.out (by rw[A3.out,A6.out,AK.out];exact Ai.out) (by rw[AS.out];exact hY.out) (by rw[AS.out];exact ht.out) hs.out hX.out;refine⟨rfl,⟨upd g idn (some v'),AR,?_⟩,?_⟩
   ·rw[hU.out];refine hN.toL (lv:=AR) (life:=hL) ?_ A5.out;have AN:bl≠bc:=fun e=>HN.out.2.2.1 e.symm
    have h1:=(A4.out.fr AT.out (fun _ h=>h)).fr (Fr.ofGrown hY.out) (fun o h=>(HO.out _ h).2.2.2.1 rfl);exact(h1.fr (Fr.ofGrown hX.out) (fun o h=>AN (zx h))).mono (by omega)
   have Ae:Fr (TM base bc bl) W8 h9:=HE.out.mono2 (fun k o hk hm=>by
    rcases hm with hm | hm
    ·exact .inl hm
    obtain⟨h1,-,-,-,o2,h2,h3⟩:=HO.out k hm;rw[h2]at hk;obtain rfl:=zx hk
    exact .inr (.inr ⟨h1,h3⟩))
   exact((AV.out.mono (fun _ _ h=>h.elim)).trans' (A7.out.mono (fun k o h => .inr (.inl h)))).trans' Ae
  try simp only[qQ]
  rw[if_pos (by rfl)];refine qh 110 117 1 _ rfl Tryz.underlying110 hB.toArray (Eq.trans (congrArg (Tryz.prog.builtSlice 117 1) (by kernel_rfl)) AJ.out) ?_;refine hK.out _ _ (za (hA.out.alloc _)) (fun hA=>?_);clear hK K
  try simp only[Act.put,qP]
  refine qr (i:=12) (by kernel_rfl) rfl (fun K hK=>?_)
  try simp only[qQ]
  go_simp
  skip
  refine hK.out _ _ (za hA.out) (fun hA=>?_);clear hK K
  try simp only[Act.put,qP]
  refine qr (i:=15) (by kernel_rfl) rfl (fun K hK=>?_)
  try simp only[qQ]
  rw[if_pos (by rfl)];refine zag _ _ 110 (by rfl) base 117 i0 (.agg Chg.zero.cells.toArray) 34 48 Tryz.underlying110 Ac AX AW An rfl (by decide) VV NH HX (by rfl) hh.out ⟨W8.heap.size,0,none⟩ 1 1 hB (by rfl) (by rw[Hncl.out]) hi.out AL.out (by have:=Hfew.out;have:=h8.out;unfold maxLen;omega) (by have:=Hfew.out;have:=h8.out;omega) Az.out ?_;intro v' AA hO hD hQ;refine hK.out _ _ (za (hA.out.trans' ((Fr.ofGrown hD).mono (fun _ _ h=>zw h)))) (fun hA=>?_);clear hK K
  try simp only[Act.put,qP]
  have hG:MapB zf3 AA bc n g:=(AI.out).fr (Fr.ofGrown hD) (fun o h=>(HO.out _ h).2.2.1 rfl);obtain⟨h9,hH,hP,hJ⟩:=hG.store (K:=zf3) Tryz.underlying112 (by have:=h8.out;unfold maxLen;omega) Hidl.out v';replace hH:(Instr.mapUpdate 112 (.map (some bc)) (.string ⟨idn.toArray⟩) v').run ze AA = .ok () h9:=hH;refine qr (i:=16) (by kernel_rfl) rfl (fun K hK=>?_)
  try simp only[qQ]
  go_simp
  skip
  refine hK.out _ _ (za (hA.out.trans' ((Fr.ofGrown hJ).mono (fun _ _ h=>zv (zx h))))) (fun hA=>?_);clear hK K
  try simp only[Act.put,qP]
  refine wpAnyH_done (by kernel_rfl) ?_ _;have HE:=za hA.out;have hY:=za hD;have hX:=za hJ;have hs:=za hP;have Ai:=za hO;have ht:=za hQ;clear hA hH hG hD hJ hP hO hQ
  go_wp2_with fail
  go_ret;have hN:=A0.out.push (x:=idn) Hidl.out (c:=NC) hc.out AT.out (by rw[A3.out,A6.out,AK.out];exact Ai.out) (by rw[AS.out];exact hY.out) (by rw[AS.out];exact ht.out) hs.out hX.out;refine⟨rfl,⟨upd g idn (some v'),AR,?_⟩,?_⟩
  ·rw[hU.out];refine hN.toL (lv:=AR) (life:=hL) ?_ A5.out;have AN:bl≠bc:=fun e=>HN.out.2.2.1 e.symm
   have h1:=(A4.out.fr AT.out (fun _ h=>h)).fr (Fr.ofGrown hY.out) (fun o h=>(HO.out _ h).2.2.2.1 rfl);exact(h1.fr (Fr.ofGrown hX.out) (fun o h=>AN (zx h))).mono (by omega)
  have Ae:Fr (TM base bc bl) W8 h9:=HE.out.mono2 (fun k o hk hm=>by
   rcases hm with hm | hm
   ·exact .inl hm
   obtain⟨h1,-,-,-,o2,h2,h3⟩:=HO.out k hm;rw[h2]at hk;obtain rfl:=zx hk
   exact .inr (.inr ⟨h1,h3⟩))
  exact((AV.out.mono (fun _ _ h=>h.elim)).trans' (A7.out.mono (fun k o h => .inr (.inl h)))).trans' Ae
 have Bl:t.take zhq e pos=t:=by unfold Tb.take;rw[if_neg BL]
 rw[Bl];obtain⟨R,Cc⟩:∃ R,zb6 zhq t e=R:=⟨_,rfl⟩;rw[Cc]at Hchk BL ⊢;have AN:=fun W=>And.intro (zny R W) (ziz R 13 W)
 have Ca:decide (R≠0)=true:=by simpa using BL
 rw[Ca]at AN;obtain⟨E,hE⟩:∃ E,zgf R=E:=⟨_,rfl⟩;rw[hE]at Hchk AN ⊢;have Hne:=za AN;have H:=za h;obtain⟨C,hC⟩:∃ C,e.cells pv sv=C:=⟨_,rfl⟩;rw[hC]at hR hF BJ BI hK Hz Hchk ⊢;clear Cc BL Ca hE AN Bl hC Ap As BC A9 BD h Hlast BJ BI hK;go_enter Tryz.func28,Tryz.ntmps28
 go_upto_region 1 with(fail)
 change Code.wp _ _ _ _ (w.alloc (.cells C.toArray 39));obtain⟨W,hW⟩:∃ W,w.alloc (.cells C.toArray 39)=W:=⟨_,rfl⟩;rw[hW]at hR hF ⊢;obtain⟨p,Bg⟩:∃ p,w.heap.size=p:=⟨_,rfl⟩;rw[Bg]at hR ⊢;clear hW Bg;have HR:=za hR;have HF:=za hF;clear hR hF
 go_wp2_with((with_reducible refine wpList_load_mid rfl 39 _ rfl p 0 rfl C d HR.out Hu.out Hd.out Hz.out ?_))
 refine(Hchk.out _ HF.out).mono ?_;rintro r w2 ⟨rfl,Bi⟩;have HG:=za (HF.out.trans' Bi);obtain⟨hne1,hne2⟩:=Hne.out w2;clear Bi
 go_wp2_with fail
 go_ret;exact⟨rfl,⟨g,lv,(H.out.keep HG.out).mono (Nat.le_succ _)⟩,HG.out.mono (fun _ _ h=>h.elim)⟩
end Go.Proofs.YtcddlemkimbkcaaGreatDoor
