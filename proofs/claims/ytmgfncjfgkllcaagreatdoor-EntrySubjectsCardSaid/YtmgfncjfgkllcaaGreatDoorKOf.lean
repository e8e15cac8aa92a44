/-
 The walk of entry.Of: the entry of a value.
-/
import Derived.Test.YtmgfncjfgkllcaaGreatDoorKSubjEq
import Derived.Test.YtmgfncjfgkllcaaGreatDoorKReadB
import Derived.Deep.CutRange
open Go.Lib renaming hid→za,byteCells→zb
open Go.Proofs.Tryz renaming prog→ze
open Go.World renaming size_alloc→zf,rangeAt_setCells_same→zg
open Go renaming heap_alloc_new→zh
open List renaming size_toArray→zn
open Nat renaming le_refl→zt,lt_of_lt_of_le→zu
open Or renaming inl→zv
open Option.some renaming inj→zx
namespace Go.Proofs.YtmgfncjfgkllcaaGreatDoor
set_option linter.unusedVariables false
set_option linter.unusedSimpArgs false
set_option linter.unusedSectionVars false
set_option maxRecDepth 100000
set_option maxHeartbeats 4000000
open Go.RowKit Go.Shelf
variable [OldK]
attribute [local go_sem] Oper.semAt_some
theorem FB.keep {S:Nat→Prop}{b:Nat}{f:Fd}{w w':World}{M:Nat→Obj→Prop}(h:FB S b f w)(hF:Fr M w w')(hM:∀ k o,w.heap[k]? = some o→M k o→k≠b∧¬ Vt k o):FB S b f w':=by
 obtain⟨hb,a1,n1,a2,n2,h1,h2⟩:=h;exact⟨hb,a1,n1,a2,n2,hF.block _ _ h1 (fun hm=>(hM _ _ h1 hm).1 rfl),RJ.kp (Kp.fr hF (fun _ h _=>h) (fun k o _ hk ht hm=>(hM k o hk hm).2 ht)) _ _ h2⟩
theorem zhv {k:Nat}{c:Array Value}(hk:OldK.k≤k):¬ Vt k (.cells c 28 (0,0)):=by
 rintro(⟨c',f',h⟩ | ⟨c',f',h⟩ | h)
 ·injection h with _ h _;revert h;decide
 ·injection h with _ h _;revert h;decide
 omega
theorem Fr.mono2' {M M':Nat→Obj→Prop}{w w':World}(h:Fr M w w')(hM:∀ k o,w.heap[k]? = some o→M k o→M' k o):Fr M' w w' :=
 ⟨h.os,h.tape,h.output,h.size,fun k o hk hn=>h.block k o hk (fun hm=>hn (hM k o hk hm))⟩
theorem FB.keepE {S:Nat→Prop} {b p:Nat} {f:Fd} {e:En} {pv sv:Value} {w w':World} (h:FB S b f w) (hE:EnB p e pv sv w) (hbp:b≠p) (hpo:OldK.k≤p) (hF:Fr (fun k _=>k=p) w w'):FB S b f w' :=
 h.keep hF (fun k o hk hm=>by
  have hm:k=p:=hm;subst hm;obtain⟨c9,hc9⟩:=hE.ty;rw[hc9]at hk;have ho9:=zx hk;subst ho9
  exact⟨fun e=>hbp e.symm,zhv hpo⟩)
theorem zx5 (a:Sg) (ha:a.ok):Tryz.prog.builtSlice 115 1 [(0,.agg a.cells)]=some a.cells:=by
 obtain⟨i0,hi,hB,hA,hz2⟩:=info_parts zjz
 have h:=zsy (P:=ze) hi hB hA (by rfl) (by decide) (by decide:0<1) (by decide) [.agg a.cells] (fun v hv=>by
  obtain rfl:v = .agg a.cells:=by simpa using hv
  exact Sg.size ha) rfl
 have e:([Value.agg a.cells].flatMap fun v=>v.cells.toList).toArray=a.cells:=by simp[Value.cells]
 rw[e]at h;exact h
theorem zhu (s:Bs):(za8 s).1.ok:=by
 unfold za8;split
 ·refine⟨?_,rfl⟩;simp only;cases h:zii (s.drop 4) with
  | none=>rfl
  | some r=>exact((zc4 _ r).1 h).2
 exact⟨rfl,rfl⟩
theorem zm8 (f:Fd)(nm:Bs):(zj6 f nm).1.length=64:=by
 unfold zj6;simp only;cases h:zj2 (ju f nm).1 with
 | none=>rfl
 | some r=>exact((zgg _ r).1 h).2
theorem zsd {k:Nat}{c:Array Value}(hk:OldK.k≤k):¬ Vt k (.cells c 115 (0,0)):=by
 rintro(⟨c',f',h⟩ | ⟨c',f',h⟩ | h)
 ·injection h with _ h _;revert h;decide
 ·injection h with _ h _;revert h;decide
 omega
theorem zp7 (j:J):(zbt j).1.ok:=⟨(zhu _).1,zm8 _ _⟩
theorem zjj {f:Fd}{nm:Bs}(hf:Fits f.j):(ju f nm).1.length≤1000000:=(Fits.get (f:=f) (nm:=nm) (k:=3) hf).1.text
theorem zvf {f:Fd} {nm:Bs} (hf:Fits f.j):(zj1 f nm).1.length≤1000000:=by
 have h1:=zjj (nm:=nm) hf;unfold zj1;simp only;cases h:zet (ju f nm).1 with
 | none=>exact Nat.zero_le _
 | some r =>
   have:=zs0 h;show r.length≤1000000;omega
theorem zr9 (k:Int) {f:Fd} (hf:Fits f.j):(zsa k f).1.typ.length≤1000000∧(zsa k f).1.ident.length≤1000000∧(zsa k f).1.payload.length≤1000000:=by
 have h2:∀ nm,Fits (ju f nm).2.j:=fun nm=>by
  have e:(ju f nm).2.j=f.j:=(Fits.get (f:=f) (nm:=nm) (k:=3) hf).2;rw[e];exact hf
 unfold zsa
 repeat' split
 ·exact⟨Nat.zero_le _,Nat.zero_le _,Nat.zero_le _⟩
 ·exact⟨zjj hf,Nat.zero_le _,zvf (h2 _)⟩
 ·exact⟨Nat.zero_le _,Nat.zero_le _,zvf hf⟩
 ·exact⟨Nat.zero_le _,zjj hf,Nat.zero_le _⟩
 ·exact⟨Nat.zero_le _,zjj hf,Nat.zero_le _⟩
 exact⟨Nat.zero_le _,Nat.zero_le _,Nat.zero_le _⟩
theorem zw0 {j:J}(hf:Fits j):(zbt j).1.id.length≤1000000:=by
 have h1:=zjj (f:=⟨j,0,false⟩) (nm:=nBy) hf;show(za8 (ju ⟨j,0,false⟩ nBy).1).1.id.length≤1000000;unfold za8;split
 ·exact Nat.zero_le _
 exact h1
theorem z1l {p:Prop}(h:Hid p):p:=h.out
theorem zm9 (f:Fd)(nm:Bs):(zg5 f nm).1.length=32:=by
 unfold zg5;simp only;cases h:zii (ju f nm).1 with
 | none=>rfl
 | some r=>exact((zc4 _ r).1 h).2
theorem zda (f:Fd)(nm:Bs){n:Int}(hn:0≤f.seen∧f.seen≤n):(ju f nm).2.j=f.j∧0≤(ju f nm).2.seen∧(ju f nm).2.seen≤n+1:=by
 have h:=zba f nm 3;refine⟨h.1,?_⟩;have e:(ju f nm).2=(zbg f nm 3).2:=rfl;rw[e];rcases h.2 with h | h<;>omega
theorem zm3 (f:Fd)(nm:Bs){n:Int}(hn:0≤f.seen∧f.seen≤n):(zg5 f nm).2.j=f.j∧0≤(zg5 f nm).2.seen∧(zg5 f nm).2.seen≤n+1:=zda f nm hn
theorem zm7 (f:Fd)(nm:Bs){n:Int}(hn:0≤f.seen∧f.seen≤n):(zj1 f nm).2.j=f.j∧0≤(zj1 f nm).2.seen∧(zj1 f nm).2.seen≤n+1:=zda f nm hn
def zEn:Array Value:=(zat 0 []).cells (.slice none 0 0) (.slice none 0 0) |>.toArray
theorem zdr:zEn=Tryz.zeroCells28:=by kernel_rfl
def z1v (B:Nat) (w:World) (R:Option En) (r:Ending) (w':World):Prop :=
 (match R with
   | some e=>∃ pv sv,r = .returned (.tuple #[.agg (e.cells pv sv).toArray,.nilIface])∧SB (fun k=>B≤k) e.payload pv w'∧GS (fun k=>B≤k) e.sigs sv w'∧e.ok
   | none=>r = .returned (.tuple #[.agg zEn,.iface 49 (.int .i64 11)]))∧Fr NoB w w'
theorem z2j (S:Nat→Prop) (j:J) (v:Value) (w:World) (h:RJ S w j v) (hfit:Fits j) (hg:Gl w) (ho:OldK.k≤w.heap.size) :
 Calls ze 26 #[v] w (z1v w.heap.size w (pOf zh2 j)):=by
 obtain⟨jk,jn,jt,jl,jp⟩:=j;obtain⟨a1,c1,a2,c2,rfl,-,-⟩:=h.open;have Bd:=zh w (.cells #[.int .i64 jk,.int .i64 jn,.string ⟨jt.toArray⟩,.slice a1 jl.length c1,.slice a2 jp.length c2] 56);have E0:Fr NoB (w.alloc (.cells #[.int .i64 jk,.int .i64 jn,.string ⟨jt.toArray⟩,.slice a1 jl.length c1,.slice a2 jp.length c2] 56)) ((w.alloc (.cells #[.int .i64 jk,.int .i64 jn,.string ⟨jt.toArray⟩,.slice a1 jl.length c1,.slice a2 jp.length c2] 56)).alloc (.cells Tryz.zeroCells28 28)):=Fr.refl.alloc _;have EF:Fr NoB w ((w.alloc (.cells #[.int .i64 jk,.int .i64 jn,.string ⟨jt.toArray⟩,.slice a1 jl.length c1,.slice a2 jp.length c2] 56)).alloc (.cells Tryz.zeroCells28 28)):=(Fr.refl.alloc _).alloc _;have Bd:=E0.block _ _ Bd (fun h=>h);have B9:=zh (w.alloc (.cells #[.int .i64 jk,.int .i64 jn,.string ⟨jt.toArray⟩,.slice a1 jl.length c1,.slice a2 jp.length c2] 56)) (.cells Tryz.zeroCells28 28);rw[zf]at B9;obtain⟨W,hW⟩:∃ x,(w.alloc (.cells #[.int .i64 jk,.int .i64 jn,.string ⟨jt.toArray⟩,.slice a1 jl.length c1,.slice a2 jp.length c2] 56)).alloc (.cells Tryz.zeroCells28 28)=x:=⟨_,rfl⟩;obtain⟨b0,hb⟩:∃ x,w.heap.size=x:=⟨_,rfl⟩;obtain⟨p2,hp⟩:∃ x,b0+1=x:=⟨_,rfl⟩;rw[hW,hb]at Bd B9;rw[hb]at ho;rw[hp]at B9;rw[hW]at EF;have CA:=fun V (hV:Fr NoB w V)=>zvs S _ _ V (RJ.kp (Kp.ofFr hV) _ _ h) hfit.1 (hg.fr hV (fun _ _ _ h=>h.elim))
 unfold zqb at CA;obtain⟨R,hR⟩:∃ R,pOf zh2 (.mk jk jn jt jl jp)=R:=⟨_,rfl⟩;rw[hR];unfold pOf at hR;have Hb:=za hb;have Hp:=za hp;have Hck:=za CA;have Hh:=za h;have Hfit:=za hfit;have Hg:=za hg;have Di:=za EF;have Fu:=za Bd;have E2:=za B9;obtain⟨d0,d1,d2,d3,d4,dz,EI⟩:=VB.at Bd;have Hw2:=za (show p2<W.heap.size from jb B9);obtain⟨dE,Ee,Ep⟩:=zab;have Bp:=za Ee;have B1:=za Ep;have EL:=za (show(Tryz.prog.info? 28).map (·.size)=some zEn.size by rw[jc];rfl);have Br:=za (show(Tryz.prog.info? 28).map (·.size)=some zEn.toList.length by rw[jc];rfl);have Bo:=za (show zEn.all (·.oneCell')=true by unfold zEn;exact En.one rfl rfl);rw[hb];clear h hfit hg E0 EF Bd B9 Ee Ep;cases hs:j0 0 (.mk jk jn jt jl jp) with
 | false =>
   have Ad:∀ V,Fr NoB w V→Calls ze 74 #[.agg #[.int .i64 jk,.int .i64 jn,.string ⟨jt.toArray⟩,.slice a1 jl.length c1,.slice a2 jp.length c2]] V fun e w'=>e = .returned (.iface 49 (.int .i64 1))∧Fr NoB V w':=fun V hV=>by
    have:=CA V hV;rw[hs]at this;exact this
   have B2:=za Ad;rw[hs,if_pos rfl]at hR;subst hR;have HT:=za (show ∀ V,Fr NoB W V→V.there p2 0 zEn.size from fun V hV=>jf (hV.block _ _ E2.out (fun h=>h)) (by rw[zdr];exact zt _));clear hs CA Ad Hck;go_enter Tryz.func26,Tryz.ntmps26
   go_wp2_with fail
   clear hW;refine(B2.out _ Di.out).mono ?_;rintro r w1 ⟨rfl,AK⟩;have Ai:=za (HT.out _ AK);have CG:=za (Di.out.trans' AK);clear AK d0 d1 d2 d3 d4 dz EI hb hp
   go_wp2_with (first
    | ((with_reducible refine wpList_buildTo ?_ 28 _ rfl _ rfl zEn ?_ ?_);rfl;kernel_rfl)
    | (with_reducible refine wpList_store_mid rfl 28 _ _ rfl p2 0 zEn rfl rfl Ai.out EL.out Bo.out ?_))
   have An:=run_loadVar_mid (P:=ze) (w1.setCells p2 0 zEn.toList) p2 0 28 zEn.toList dE (zg w1 p2 0 zEn.toList (by simpa using Ai.out)) Bp.out B1.out Br.out;refine bodyPost_ret (v := .tuple #[.agg zEn,.iface 49 (.int .i64 11)]) ?_ rfl ⟨rfl,CG.out.trans (z8 _ _ _ _) (fun k _ hm => .inr (by have:=Hb.out;have:=Hp.out;have h2:k=p2:=hm;omega))⟩;rw[results_cell_tmp rfl];simp only[Array.toArray_toList]at An;simp[asAddr,Result.andThen,An]
 | true =>
   have Ad:∀ V,Fr NoB w V→Calls ze 74 #[.agg #[.int .i64 jk,.int .i64 jn,.string ⟨jt.toArray⟩,.slice a1 jl.length c1,.slice a2 jp.length c2]] V fun e w'=>e = .returned .nilIface∧Fr NoB V w':=fun V hV=>by
    have:=CA V hV;rw[hs]at this;exact this
   have B2:=za Ad;rw[hs,if_neg (by simp)]at hR;have HR:=za hR;clear hs CA Ad Hck hR;go_enter Tryz.func26,Tryz.ntmps26
   go_wp2_with fail
   clear hW;refine(B2.out _ Di.out).mono ?_;rintro r w1 ⟨rfl,AK⟩;obtain⟨d0,d1,d2,d3,d4,dz,EI⟩:=VB.at (AK.block _ _ Fu.out (fun h=>h));have CG:=za (Di.out.trans' AK);have Bu:=za (AK.block _ _ E2.out (fun h=>h));clear AK hb hp
   go_upto_region 4 with(fail)
   change Code.wp _ _ _ _ (w1.alloc (.cells #[.int .i64 jk,.int .i64 jn,.string ⟨jt.toArray⟩,.slice a1 jl.length c1,.slice a2 jp.length c2,.int .i64 0,.bool false] 118));have hX:Fr NoB w1 (w1.alloc (.cells #[.int .i64 jk,.int .i64 jn,.string ⟨jt.toArray⟩,.slice a1 jl.length c1,.slice a2 jp.length c2,.int .i64 0,.bool false] 118)):=Fr.refl.alloc _;have Eu:=zh w1 (.cells #[.int .i64 jk,.int .i64 jn,.string ⟨jt.toArray⟩,.slice a1 jl.length c1,.slice a2 jp.length c2,.int .i64 0,.bool false] 118);have De:FB S w1.heap.size ⟨.mk jk jn jt jl jp,0,false⟩ (w1.alloc (.cells #[.int .i64 jk,.int .i64 jn,.string ⟨jt.toArray⟩,.slice a1 jl.length c1,.slice a2 jp.length c2,.int .i64 0,.bool false] 118)):=⟨by have:=CG.out.size;have:=Hb.out;omega,a1,c1,a2,c2,Eu,RJ.kp (Kp.ofFr (CG.out.trans' hX)) _ _ Hh.out⟩;have EX:=za (CG.out.trans' hX);have Bt:=za (hX.block _ _ Bu.out (fun h=>h));have Fb:b0+1<w1.heap.size:=by rw[Hp.out];exact jb Bu.out
   obtain⟨W3,Db⟩:∃ z,w1.alloc (.cells #[.int .i64 jk,.int .i64 jn,.string ⟨jt.toArray⟩,.slice a1 jl.length c1,.slice a2 jp.length c2,.int .i64 0,.bool false] 118)=z:=⟨_,rfl⟩;obtain⟨bF,At⟩:∃ z,w1.heap.size=z:=⟨_,rfl⟩;rw[Db,At]at De;rw[Db]at EX Bt;rw[Db,At];rw[At]at Fb;have A2:=za De;have Cd:bF<W3.heap.size:=by obtain⟨-,y1,y2,y3,y4,h5,-⟩:=De;exact jb h5
   clear hX Eu De Db At d0 d1 d2 d3 d4 dz EI CG Bu Bd
   go_wp2_with fail
   refine(zjg _).mono ?_;rintro r w2 ⟨rfl,hL⟩;unfold zbr;have E8:=za (EX.out.trans' hL);have DO:=za (A2.out.fr hL);have C3:=za (hL.block _ _ Bt.out (fun h=>h));have Cf:bF<w2.heap.size:=zu Cd hL.size;clear hL A2 EX Bt
   go_wp2_with fail
   refine(z03 _).mono ?_;rintro r w3 ⟨rfl,hL⟩;unfold zoa;have E7:=za (E8.out.trans' hL);have DN:=za (DO.out.fr hL);have C2:=za (hL.block _ _ C3.out (fun h=>h));have Ce:bF<w3.heap.size:=zu Cf hL.size;clear hL DO E8 C3
   go_upto_region 5 with(fail)
   change Code.wp _ _ _ _ ((w3.alloc (.cells #[.string ⟨#[]⟩,.string ⟨wArt.toArray⟩,.string ⟨wEnv.toArray⟩,.string ⟨wSta.toArray⟩,.string ⟨wBin.toArray⟩] 135)).alloc (.cells #[.string ⟨#[]⟩,.string ⟨wBind.toArray⟩,.string ⟨wRot.toArray⟩,.string ⟨wRev.toArray⟩] 137));have Ac:Fr NoB w3 ((w3.alloc (.cells #[.string ⟨#[]⟩,.string ⟨wArt.toArray⟩,.string ⟨wEnv.toArray⟩,.string ⟨wSta.toArray⟩,.string ⟨wBin.toArray⟩] 135)).alloc (.cells #[.string ⟨#[]⟩,.string ⟨wBind.toArray⟩,.string ⟨wRot.toArray⟩,.string ⟨wRev.toArray⟩] 137)):=(Fr.refl.alloc _).alloc _;have CU:((w3.alloc (.cells #[.string ⟨#[]⟩,.string ⟨wArt.toArray⟩,.string ⟨wEnv.toArray⟩,.string ⟨wSta.toArray⟩,.string ⟨wBin.toArray⟩] 135)).alloc (.cells #[.string ⟨#[]⟩,.string ⟨wBind.toArray⟩,.string ⟨wRot.toArray⟩,.string ⟨wRev.toArray⟩] 137)).heap[w3.heap.size]? = some (.cells zbr 135 (0,0)):=((Fr.refl (M:=NoB)).alloc (.cells #[.string ⟨#[]⟩,.string ⟨wBind.toArray⟩,.string ⟨wRot.toArray⟩,.string ⟨wRev.toArray⟩] 137)).block _ _ (zh w3 (.cells #[.string ⟨#[]⟩,.string ⟨wArt.toArray⟩,.string ⟨wEnv.toArray⟩,.string ⟨wSta.toArray⟩,.string ⟨wBin.toArray⟩] 135)) (fun h=>h)
   have CS:((w3.alloc (.cells #[.string ⟨#[]⟩,.string ⟨wArt.toArray⟩,.string ⟨wEnv.toArray⟩,.string ⟨wSta.toArray⟩,.string ⟨wBin.toArray⟩] 135)).alloc (.cells #[.string ⟨#[]⟩,.string ⟨wBind.toArray⟩,.string ⟨wRot.toArray⟩,.string ⟨wRev.toArray⟩] 137)).heap[w3.heap.size+1]? = some (.cells zoa 137 (0,0)):=by
    have:=zh (w3.alloc (.cells #[.string ⟨#[]⟩,.string ⟨wArt.toArray⟩,.string ⟨wEnv.toArray⟩,.string ⟨wSta.toArray⟩,.string ⟨wBin.toArray⟩] 135)) (.cells #[.string ⟨#[]⟩,.string ⟨wBind.toArray⟩,.string ⟨wRot.toArray⟩,.string ⟨wRev.toArray⟩] 137);rw[zf]at this;exact this
   have BD:=za (E7.out.trans' Ac);have A1:=za (DN.out.fr Ac);have Ay:=za (Ac.block _ _ C2.out (fun h=>h));obtain⟨W5,D3⟩:∃ z,(w3.alloc (.cells #[.string ⟨#[]⟩,.string ⟨wArt.toArray⟩,.string ⟨wEnv.toArray⟩,.string ⟨wSta.toArray⟩,.string ⟨wBin.toArray⟩] 135)).alloc (.cells #[.string ⟨#[]⟩,.string ⟨wBind.toArray⟩,.string ⟨wRot.toArray⟩,.string ⟨wRev.toArray⟩] 137)=z:=⟨_,rfl⟩;rw[D3]at CU CS BD A1 Ay;rw[D3];obtain⟨bk,Et⟩:∃ z,w3.heap.size=z:=⟨_,rfl⟩;rw[Et]at CU CS Ce ⊢;obtain⟨bo,Es⟩:∃ z,bk+1=z:=⟨_,rfl⟩;rw[Es]at CS ⊢;have Fq:=za CU;have Fp:=za CS;have hbF5:bF<W5.heap.size:=by have:=jb CU;omega
   have Cc:bF<bk∧bk<bo:=by omega
   have DB:=za Cc;clear Ac CU CS D3 Et Es Ce Cc E7 DN C2 Cf Cd;obtain⟨J0,Ey⟩:∃ z,J.mk jk jn jt jl jp=z:=⟨_,rfl⟩;rw[Ey]at A1 HR Hfit;have h4:=fun V (hV:FB S bF ⟨J0,0,false⟩ V)=>zdg S bF ⟨J0,0,false⟩ j8 V hV Hfit.out ⟨Int.le_refl 0,show(0:Int)≤1000 by decide⟩
   have Dq:(ju ⟨J0,0,false⟩ j8).2.j=J0:=(zba _ _ _).1
   have h9:0≤(ju ⟨J0,0,false⟩ j8).2.seen∧(ju ⟨J0,0,false⟩ j8).2.seen≤1:=by
    rcases(zba ⟨J0,0,false⟩ j8 3).2 with h | h
    ·have:(ju ⟨J0,0,false⟩ j8).2.seen=0:=h;omega
    have:(ju ⟨J0,0,false⟩ j8).2.seen=0+1:=h;omega
   have Cm:=HR.out;unfold zv6 at Cm;obtain⟨T,hT⟩:∃ z,(ju ⟨J0,0,false⟩ j8).1=z:=⟨_,rfl⟩;obtain⟨f1,AK⟩:∃ z,(ju ⟨J0,0,false⟩ j8).2=z:=⟨_,rfl⟩;rw[hT,AK]at h4;rw[AK]at Dq h9;simp only[hT,AK]at Cm;have BO:=fun V (hV:Fr (MFd bF) W5 V)=>zxg T bk V (hV.block _ _ Fq.out (fun h=>by have:=h.1;have:=DB.out.1;omega))
   obtain⟨KN,Ex⟩:∃ z,zgv T=z:=⟨_,rfl⟩;simp only[Ex]at BO Cm;have Htx:=za h4;have Hix:=za BO;have E3:=za Cm;have BB:=za Dq;have Bq:=za h9;clear h4 BO Cm hT AK Ex HR Ey Dq h9
   go_cut [7] from 23 to 27 (fun v7 wx=>∃ p7,v7 = .pointer (some ⟨p7,0,none⟩)∧Hid (EnB p7 (zat KN []) (.slice none 0 0) (.slice none 0 0) wx∧FB S bF f1 wx∧Fr (MFd bF) W5 wx∧W5.heap.size≤p7))
   case first =>
    refine wp_region_held_drew (S:=fun _=>True) (by kernel_rfl) trivial (fun hA=>?_);simp only[qV];have hw:Fr (MFd bF) W5 W5.drew:=Fr.refl.drew;have BV:FB S bF ⟨J0,0,false⟩ W5.drew:=A1.out.fr Fr.refl.drew;obtain⟨V0,Ci⟩:∃ V,W5.drew=V:=⟨_,rfl⟩;rw[Ci]at hw BV ⊢;clear Ci
    iterate 2
     refine qt (v:=?_) rfl (zv ⟨by rfl,?_⟩) hA ?_;rotate_left
     ·intro W A7
      try simp only[qQ]
      go_simp
      try rw[if_neg (by omega)]
      try with_reducible rfl
     try simp only[Act.put,qP]
    refine q2H (i:=2) (j:=5) (by kernel_rfl) rfl rfl (fun K hK=>?_) (fun K hK=>?_)
    ·try simp only[qQ]
     go_simp;refine(Htx.out V0 BV).mono ?_;rintro r V1 ⟨rfl,hU,hM⟩;refine hK.out _ _ trivial (fun hA=>?_);clear hK K
     try simp only[Act.put,qP]
     have hi:=hw.trans' hM;refine q2H (i:=3) (j:=5) (by kernel_rfl) rfl rfl (fun K hK=>?_) (fun K hK=>?_)
     ·try simp only[qQ]
      go_simp;refine(Hix.out V1 hi).mono ?_;rintro r v9 ⟨rfl,AT⟩;refine hK.out _ _ trivial (fun hA=>?_);clear hK K
      try simp only[Act.put,qP]
      rw[AT];clear AT v9;refine qi (i:=4) (v:=?_) rfl (zv ⟨by rfl,?_⟩) hA ?_;rotate_left
      ·intro W A7
       try simp only[qQ]
       go_simp
       try rw[if_neg (by omega)]
       try with_reducible rfl
      try simp only[Act.put,qP]
      refine qr (i:=5) (by kernel_rfl) rfl (fun K hK=>?_)
      try simp only[qQ]
      go_simp;refine hK.out _ _ trivial (fun hA=>?_);clear hK K
      try simp only[Act.put,qP]
      have AF:Fr NoB V1 (V1.alloc (.cells Tryz.zeroCells28 28)):=Fr.refl.alloc _;have hJ:=zh V1 (.cells Tryz.zeroCells28 28);have h6:W5.heap.size≤V1.heap.size:=hi.size;obtain⟨V2,A6⟩:∃ z,V1.alloc (.cells Tryz.zeroCells28 28)=z:=⟨_,rfl⟩;obtain⟨p7,A3⟩:∃ z,V1.heap.size=z:=⟨_,rfl⟩;rw[A3]at hJ h6 ⊢;rw[A6]at hJ AF ⊢;have hF:=hU.fr AF;have hO:=hi.trans' (AF.mono (M':=MFd bF) (fun _ _ h=>h.elim));clear AF A6 A3
      have hH:EnB p7 (zat 0 []) (.slice none 0 0) (.slice none 0 0) V2:=⟨by
       have h1:=jm hJ;rw[← zdr]at h1
       simpa[zEn] using h1,jf hJ (zt 70),jb hJ,_,hJ⟩
      obtain⟨EC,AG⟩:∃ z,((zat KN []).cells (.slice none 0 0) (.slice none 0 0)).toArray=z:=⟨_,rfl⟩;have AW:EC.size=70:=by rw[← AG];rfl
      refine qr (i:=6) (by kernel_rfl) rfl (fun K hK=>?_)
      try simp only[qQ]
      rw[if_pos (by rfl)];refine wp_store_mid 28 (.tmp 7) (.tmp 27) (by rfl) p7 0 EC (by rfl) (by rw[← AG];rfl) (by rw[AW];exact hH.th) (by rw[jc,AW]) (by rw[← AG];exact En.one rfl rfl) ?_;refine hK.out _ _ trivial (fun hA=>?_);clear hK K
      try simp only[Act.put,qP]
      have AC:EnB p7 (zat KN []) (.slice none 0 0) (.slice none 0 0) (V2.setCells p7 0 EC.toList):=hH.sets 0 EC.toList (by
       have h1:=zg V2 p7 0 EC.toList (by rw[Array.length_toList,AW];exact hH.th);rw[← AG]at h1 ⊢
       simpa using h1)
      have hB:=z8 p7 EC.toList 0 V2
      have hS:=hF.keep hB (fun k o hk hm=>by
       have hm:k=p7:=hm;subst hm;obtain⟨c9,BZ⟩:=hH.ty;rw[BZ]at hk;have CR:=zx hk;subst CR;refine⟨by omega,?_⟩;rintro(⟨c',f',h⟩ | ⟨c',f',h⟩ | h)
       ·injection h with _ h _;revert h;decide
       ·injection h with _ h _;revert h;decide
       have:=BD.out.size;have:=Hb.out;omega)
      have hN:Fr (MFd bF) W5 (V2.setCells p7 0 EC.toList):=hO.trans hB (fun k o hm => .inr (by have h2:k=p7:=hm;omega));refine wpAnyH_done (by kernel_rfl) ?_ _;obtain⟨W9,hZ⟩:∃ z,V2.setCells p7 0 EC.toList=z:=⟨_,rfl⟩;rw[hZ]at AC hS hN ⊢;have HE:=za (And.intro AC (And.intro hS (And.intro hN h6)));clear hH AC hS hN h6 hJ hB hZ
      go_wp2_with fail
      go_meet
      case rel=>exact⟨p7,rfl,HE⟩
     try simp only[qQ]
     go_simp;refine hK.out _ _ trivial (fun hA=>?_);clear hK K
     try simp only[Act.put,qP]
     have AF:Fr NoB V1 (V1.alloc (.cells Tryz.zeroCells28 28)):=Fr.refl.alloc _;have hJ:=zh V1 (.cells Tryz.zeroCells28 28);have h6:W5.heap.size≤V1.heap.size:=hi.size;obtain⟨V2,A6⟩:∃ z,V1.alloc (.cells Tryz.zeroCells28 28)=z:=⟨_,rfl⟩;obtain⟨p7,A3⟩:∃ z,V1.heap.size=z:=⟨_,rfl⟩;rw[A3]at hJ h6 ⊢;rw[A6]at hJ AF ⊢;have hF:=hU.fr AF;have hO:=hi.trans' (AF.mono (M':=MFd bF) (fun _ _ h=>h.elim));clear AF A6 A3;refine qr (i:=3) (by kernel_rfl) rfl (fun K hK=>?_)
     try simp only[qQ]
     go_simp;refine(Hix.out V2 hO).mono ?_;rintro r v9 ⟨rfl,AT⟩;refine hK.out _ _ trivial (fun hA=>?_);clear hK K
     try simp only[Act.put,qP]
     rw[AT];clear AT v9;refine qi (i:=4) (v:=?_) rfl (zv ⟨by rfl,?_⟩) hA ?_;rotate_left
     ·intro W A7
      try simp only[qQ]
      go_simp
      try rw[if_neg (by omega)]
      try with_reducible rfl
     try simp only[Act.put,qP]
     have hH:EnB p7 (zat 0 []) (.slice none 0 0) (.slice none 0 0) V2:=⟨by
      have h1:=jm hJ;rw[← zdr]at h1
      simpa[zEn] using h1,jf hJ (zt 70),jb hJ,_,hJ⟩
     obtain⟨EC,AG⟩:∃ z,((zat KN []).cells (.slice none 0 0) (.slice none 0 0)).toArray=z:=⟨_,rfl⟩;have AW:EC.size=70:=by rw[← AG];rfl
     refine qr (i:=6) (by kernel_rfl) rfl (fun K hK=>?_)
     try simp only[qQ]
     rw[if_pos (by rfl)];refine wp_store_mid 28 (.tmp 7) (.tmp 27) (by rfl) p7 0 EC (by rfl) (by rw[← AG];rfl) (by rw[AW];exact hH.th) (by rw[jc,AW]) (by rw[← AG];exact En.one rfl rfl) ?_;refine hK.out _ _ trivial (fun hA=>?_);clear hK K
     try simp only[Act.put,qP]
     have AC:EnB p7 (zat KN []) (.slice none 0 0) (.slice none 0 0) (V2.setCells p7 0 EC.toList):=hH.sets 0 EC.toList (by
      have h1:=zg V2 p7 0 EC.toList (by rw[Array.length_toList,AW];exact hH.th);rw[← AG]at h1 ⊢
      simpa using h1)
     have hB:=z8 p7 EC.toList 0 V2
     have hS:=hF.keep hB (fun k o hk hm=>by
      have hm:k=p7:=hm;subst hm;obtain⟨c9,BZ⟩:=hH.ty;rw[BZ]at hk;have CR:=zx hk;subst CR;refine⟨by omega,?_⟩;rintro(⟨c',f',h⟩ | ⟨c',f',h⟩ | h)
      ·injection h with _ h _;revert h;decide
      ·injection h with _ h _;revert h;decide
      have:=BD.out.size;have:=Hb.out;omega)
     have hN:Fr (MFd bF) W5 (V2.setCells p7 0 EC.toList):=hO.trans hB (fun k o hm => .inr (by have h2:k=p7:=hm;omega));refine wpAnyH_done (by kernel_rfl) ?_ _;obtain⟨W9,hZ⟩:∃ z,V2.setCells p7 0 EC.toList=z:=⟨_,rfl⟩;rw[hZ]at AC hS hN ⊢;have HE:=za (And.intro AC (And.intro hS (And.intro hN h6)));clear hH AC hS hN h6 hJ hB hZ
     go_wp2_with fail
     go_meet
     case rel=>exact⟨p7,rfl,HE⟩
    try simp only[qQ]
    go_simp;refine hK.out _ _ trivial (fun hA=>?_);clear hK K
    try simp only[Act.put,qP]
    have AF:Fr NoB V0 (V0.alloc (.cells Tryz.zeroCells28 28)):=Fr.refl.alloc _;have hJ:=zh V0 (.cells Tryz.zeroCells28 28);have h6:W5.heap.size≤V0.heap.size:=hw.size;obtain⟨V1,A6⟩:∃ z,V0.alloc (.cells Tryz.zeroCells28 28)=z:=⟨_,rfl⟩;obtain⟨p7,A3⟩:∃ z,V0.heap.size=z:=⟨_,rfl⟩;rw[A3]at hJ h6 ⊢;rw[A6]at hJ AF ⊢;have hU:=BV.fr AF;have hi:=hw.trans' (AF.mono (M':=MFd bF) (fun _ _ h=>h.elim));clear AF A6 A3;refine qr (i:=2) (by kernel_rfl) rfl (fun K hK=>?_)
    try simp only[qQ]
    go_simp;refine(Htx.out V1 hU).mono ?_;rintro r V2 ⟨rfl,hF,hM⟩;refine hK.out _ _ trivial (fun hA=>?_);clear hK K
    try simp only[Act.put,qP]
    have hO:=hi.trans' hM;have hJ:=hM.block _ _ hJ (fun h=>by have:=h.1;omega);refine qr (i:=3) (by kernel_rfl) rfl (fun K hK=>?_)
    try simp only[qQ]
    go_simp;refine(Hix.out V2 hO).mono ?_;rintro r v9 ⟨rfl,AT⟩;refine hK.out _ _ trivial (fun hA=>?_);clear hK K
    try simp only[Act.put,qP]
    rw[AT];clear AT v9;refine qi (i:=4) (v:=?_) rfl (zv ⟨by rfl,?_⟩) hA ?_;rotate_left
    ·intro W A7
     try simp only[qQ]
     go_simp
     try rw[if_neg (by omega)]
     try with_reducible rfl
    try simp only[Act.put,qP]
    have hH:EnB p7 (zat 0 []) (.slice none 0 0) (.slice none 0 0) V2:=⟨by
     have h1:=jm hJ;rw[← zdr]at h1
     simpa[zEn] using h1,jf hJ (zt 70),jb hJ,_,hJ⟩
    obtain⟨EC,AG⟩:∃ z,((zat KN []).cells (.slice none 0 0) (.slice none 0 0)).toArray=z:=⟨_,rfl⟩;have AW:EC.size=70:=by rw[← AG];rfl
    refine qr (i:=6) (by kernel_rfl) rfl (fun K hK=>?_)
    try simp only[qQ]
    rw[if_pos (by rfl)];refine wp_store_mid 28 (.tmp 7) (.tmp 27) (by rfl) p7 0 EC (by rfl) (by rw[← AG];rfl) (by rw[AW];exact hH.th) (by rw[jc,AW]) (by rw[← AG];exact En.one rfl rfl) ?_;refine hK.out _ _ trivial (fun hA=>?_);clear hK K
    try simp only[Act.put,qP]
    have AC:EnB p7 (zat KN []) (.slice none 0 0) (.slice none 0 0) (V2.setCells p7 0 EC.toList):=hH.sets 0 EC.toList (by
     have h1:=zg V2 p7 0 EC.toList (by rw[Array.length_toList,AW];exact hH.th);rw[← AG]at h1 ⊢
     simpa using h1)
    have hB:=z8 p7 EC.toList 0 V2
    have hS:=hF.keep hB (fun k o hk hm=>by
     have hm:k=p7:=hm;subst hm;obtain⟨c9,BZ⟩:=hH.ty;rw[BZ]at hk;have CR:=zx hk;subst CR;refine⟨by omega,?_⟩;rintro(⟨c',f',h⟩ | ⟨c',f',h⟩ | h)
     ·injection h with _ h _;revert h;decide
     ·injection h with _ h _;revert h;decide
     have:=BD.out.size;have:=Hb.out;omega)
    have hN:Fr (MFd bF) W5 (V2.setCells p7 0 EC.toList):=hO.trans hB (fun k o hm => .inr (by have h2:k=p7:=hm;omega));refine wpAnyH_done (by kernel_rfl) ?_ _;obtain⟨W9,hZ⟩:∃ z,V2.setCells p7 0 EC.toList=z:=⟨_,rfl⟩;rw[hZ]at AC hS hN ⊢;have HE:=za (And.intro AC (And.intro hS (And.intro hN h6)));clear hH AC hS hN h6 hJ hB hZ
    go_wp2_with fail
    go_meet
    case rel=>exact⟨p7,rfl,HE⟩
   case rest =>
    obtain⟨p7,rfl,HE⟩:=hcut;obtain⟨AC,Ek,Ej,h6⟩:=HE.out;have c0:wc.cell? ⟨p7,0,none⟩=some (.int .i64 KN):=(En.parts (zdi (by simp)) AC.rg).1;clear Htx Hix A1 HE;have B7:=za AC;have A2:=za Ek;have CF:=za Ej;have Dk:=za h6;clear AC Ek Ej h6
    go_step
    go_step
    obtain⟨P1,D9⟩:∃ z,zsa KN f1=z:=⟨_,rfl⟩;have B4:=za D9;have DF:=E3.out;simp only[D9]at DF;have DF:=za DF;clear D9 E3
    go_cut [] from 28 to 63 (fun wx=>∃ pv,Hid (EnB p7 P1.1 pv (.slice none 0 0) wx∧FB S bF P1.2 wx∧Fr (MFd bF) W5 wx∧SB (fun k=>W5.heap.size≤k∧k≠p7) P1.1.payload pv wx∧P1.1.ok∧P1.1.sigs=[]∧P1.2.j=J0∧0≤P1.2.seen∧P1.2.seen≤10))
    case first =>
     have AL:bF≠p7:=by have:=Dk.out;omega
     have AJ:OldK.k≤p7:=by have:=Dk.out;have:=BD.out.size;have:=Hb.out;omega
     have h6:=Dk.out;have hQ:Fits f1.j:=by rw[BB.out];exact Hfit.out
     have Aq:=Bq.out;by_cases k1:KN=1
     ·subst k1;have hP:P1=(⟨1,(zg5 f1 zmb).1,[],[],0,[],jd,[]⟩,(zg5 f1 zmb).2):=by rw[← B4.out];rfl
      have h7:=zvb S bF f1 zmb wc A2.out hQ ⟨Aq.1,by omega⟩;have AA:=zm3 f1 zmb Aq;have hD:=zm9 f1 zmb;obtain⟨D,AD⟩:∃ z,(zg5 f1 zmb).1=z:=⟨_,rfl⟩;obtain⟨f2,hL⟩:∃ z,(zg5 f1 zmb).2=z:=⟨_,rfl⟩;rw[AD,hL]at h7 hP;rw[hL]at AA;rw[AD]at hD;subst hP;have Hsum:=za h7;have Hse:=za AA;have HD:=za hD;obtain⟨C,hC⟩:∃ C,zb D=C:=⟨_,rfl⟩;have HC:Hid (C.length=32):=za (by rw[← hC,je,hD]);have DQ:=za (show C.toArray.all (·.oneCell')=true by rw[← hC];exact all_oneCell_toArray (zau _));have EK:=za (show(Tryz.prog.info? 23).map (·.size)=some C.toArray.size by rw[jr,zn,HC.out]);rw[hC]at Hsum;have Ea:=za hC;clear h7 AA hD AD hL hC
      go_wp2_with fail
      refine Hsum.out.mono ?_;rintro r w2 ⟨rfl,hF,hM⟩;have AM:=B7.out.fr hM (fun c h=>by have:=h.1;omega);have HT:=za (show w2.there p7 1 C.toArray.size by rw[zn,HC.out];exact AM.part 1 32 (by decide));have Am:=za AM;have AP:=za hF;have AO:=za (CF.out.trans' hM);clear AM hF hM Hsum
      go_wp2_with(with_reducible refine wpList_store_mid rfl 23 _ _ rfl p7 1 C.toArray rfl rfl HT.out EK.out DQ.out ?_)
      have AR:EnB p7 ⟨1,D,[],[],0,[],jd,[]⟩ (.slice none 0 0) (.slice none 0 0) (w2.setCells p7 1 C):=by
       rw[← Ea.out];exact Am.out.sets 1 _ (En.setDigest (zdi (by simp)) Am.out.rg D HD.out)
      have hB:=z8 p7 C 1 w2;have hl:=za (And.intro AR (And.intro (AP.out.keepE Am.out AL AJ hB) (Fr.trans AO.out hB (fun k o hm => .inr (by have h2:k=p7:=hm;omega)))));obtain⟨W9,hZ⟩:∃ z,(w2.setCells p7 1 C)=z:=⟨_,rfl⟩;rw[hZ]at hl ⊢;clear hZ AR hB
      go_meet
      case rel=>exact⟨.slice none 0 0,za ⟨hl.out.1,hl.out.2.1,hl.out.2.2,SB.nil _ _ _,⟨HD.out,rfl,by simp⟩,(by first | rfl | trivial),Hse.out.1.trans BB.out,Hse.out.2.1,by have:=Hse.out.2.2;omega⟩⟩
     have k1c:(KN==1)=false:=by simpa using k1
     by_cases k2:KN=2
     ·subst k2;have hP:P1=(⟨2,jd,(ju f1 zee).1,(zj1 (ju f1 zee).2 zft).1,0,[],jd,[]⟩,(zj1 (ju f1 zee).2 zft).2):=by rw[← B4.out];rfl
      have h4:=zdg S bF f1 zee wc A2.out hQ ⟨Aq.1,by omega⟩;have hI:=zda f1 zee Aq;obtain⟨TY,D5⟩:∃ z,(ju f1 zee).1=z:=⟨_,rfl⟩;obtain⟨f2,hL⟩:∃ z,(ju f1 zee).2=z:=⟨_,rfl⟩;rw[D5,hL]at h4;rw[hL]at hI;rw[D5,hL]at hP;have Bc:=fun V (h:FB S bF f2 V)=>zyt S bF f2 zft V h (by rw[hI.1];exact hQ) ⟨hI.2.1,by have:=hI.2.2;omega⟩
      have AA:=zm7 f2 zft hI.2;obtain⟨D,AD⟩:∃ z,(zj1 f2 zft).1=z:=⟨_,rfl⟩;obtain⟨f3,hX⟩:∃ z,(zj1 f2 zft).2=z:=⟨_,rfl⟩;rw[AD,hX]at hP;simp only[AD,hX]at Bc;rw[hX,hI.1]at AA;subst hP;have Htx:=za h4;have DC:=za Bc;have Hse:=za AA;clear h4 Bc AA hI D5 hL AD hX
      go_wp2_with fail
      refine Htx.out.mono ?_;rintro r w2 ⟨rfl,hF,hM⟩;have Am:=za (B7.out.fr hM (fun c h=>by have:=h.1;omega));have AP:=za hF;have AO:=za (CF.out.trans' hM);clear hF hM Htx
      go_wp2_with fail
      refine(DC.out _ AP.out).mono ?_;rintro r w3 ⟨pv,rfl,AQ,hr,hM⟩;obtain⟨xa,xc,B8⟩:=AQ.form;subst B8;have Ap:=za (Am.out.fr hM (fun c h=>by have:=h.1;omega));have B0:=za hr;have FW:p7<w2.heap.size:=Am.out.lt;have Bw:=za (AO.out.trans' hM);have CK:=AQ;obtain⟨⟨x33,y33⟩,z33⟩:=Ap.out.at 33 (by decide);obtain⟨⟨FQ,FM⟩,FI⟩:=Ap.out.at 34 (by decide);have Hsb:=za CK;clear hr hM DC Am AP AO AQ CK
      go_wp2_with fail
      have Ax:=Ap.out.set1 33 (.string ⟨TY.toArray⟩) (En.setTyp (zdi (by simp)) Ap.out.rg TY);have Aw:=Ax.set1 34 (.slice xa D.length xc) (En.setPay ⟨rfl,rfl,by simp[zat]⟩ Ax.rg (.slice xa D.length xc) D);have hB:Fr (fun k _=>k=p7) w3 ((w3.setCell ⟨p7,33,none⟩ (.string ⟨TY.toArray⟩)).setCell ⟨p7,34,none⟩ (.slice xa D.length xc)):=(Fr.refl.setCell _ _ (fun _ _=>rfl)).setCell _ _ (fun _ _=>rfl);have AV:SB (fun k=>W5.heap.size≤k∧k≠p7) D (.slice xa D.length xc) ((w3.setCell ⟨p7,33,none⟩ (.string ⟨TY.toArray⟩)).setCell ⟨p7,34,none⟩ (.slice xa D.length xc)):=Hsb.out.kp (fun k o hk ho _=>⟨⟨by omega,by omega⟩,hB.block k o ho (fun h=>by have h2:k=p7:=h;omega)⟩);have Aw:EnB p7 ⟨2,jd,TY,D,0,[],jd,[]⟩ (.slice xa D.length xc) (.slice none 0 0) ((w3.setCell ⟨p7,33,none⟩ (.string ⟨TY.toArray⟩)).setCell ⟨p7,34,none⟩ (.slice xa D.length xc)):=Aw;have hl:=za (And.intro Aw (And.intro (B0.out.keepE Ap.out AL AJ hB) (And.intro (Fr.trans Bw.out hB (fun k o hm => .inr (by have h2:k=p7:=hm;omega))) AV)));obtain⟨W9,hZ⟩:∃ z,((w3.setCell ⟨p7,33,none⟩ (.string ⟨TY.toArray⟩)).setCell ⟨p7,34,none⟩ (.slice xa D.length xc))=z:=⟨_,rfl⟩;rw[hZ]at hl ⊢;clear hZ Aw hB AV
      go_meet
      case rel=>exact⟨.slice xa D.length xc,za ⟨hl.out.1,hl.out.2.1,hl.out.2.2.1,hl.out.2.2.2,⟨rfl,rfl,by simp⟩,(by first | rfl | trivial),Hse.out.1.trans BB.out,Hse.out.2.1,by have:=Hse.out.2.2;omega⟩⟩
     have k2c:(KN==2)=false:=by simpa using k2
     by_cases k3:KN=3
     ·subst k3;have hP:P1=(⟨3,jd,[],(zj1 f1 zft).1,0,[],jd,[]⟩,(zj1 f1 zft).2):=by rw[← B4.out];rfl
      have Bc:=zyt S bF f1 zft wc A2.out hQ ⟨Aq.1,by omega⟩;have AA:=zm7 f1 zft Aq;obtain⟨D,AD⟩:∃ z,(zj1 f1 zft).1=z:=⟨_,rfl⟩;obtain⟨f3,hX⟩:∃ z,(zj1 f1 zft).2=z:=⟨_,rfl⟩;rw[AD,hX]at hP;simp only[AD,hX]at Bc;rw[hX]at AA;subst hP;have DC:=za Bc;have Hse:=za AA;clear Bc AA AD hX
      go_wp2_with fail
      refine DC.out.mono ?_;rintro r w3 ⟨pv,rfl,AQ,hr,hM⟩;obtain⟨xa,xc,B8⟩:=AQ.form;subst B8;have Ap:=za (B7.out.fr hM (fun c h=>by have:=h.1;omega));have B0:=za hr;have FW:p7<wc.heap.size:=B7.out.lt;have Bw:=za (CF.out.trans' hM);obtain⟨⟨FQ,FM⟩,FI⟩:=Ap.out.at 34 (by decide);have Hsb:=za AQ;clear hr hM DC AQ
      go_wp2_with fail
      have Aw:=Ap.out.set1 34 (.slice xa D.length xc) (En.setPay (zdi (by simp)) Ap.out.rg (.slice xa D.length xc) D);have hB:Fr (fun k _=>k=p7) w3 (w3.setCell ⟨p7,34,none⟩ (.slice xa D.length xc)):=Fr.refl.setCell _ _ (fun _ _=>rfl);have AV:SB (fun k=>W5.heap.size≤k∧k≠p7) D (.slice xa D.length xc) (w3.setCell ⟨p7,34,none⟩ (.slice xa D.length xc)):=Hsb.out.kp (fun k o hk ho _=>⟨⟨by omega,by omega⟩,hB.block k o ho (fun h=>by have h2:k=p7:=h;omega)⟩);have Aw:EnB p7 ⟨3,jd,[],D,0,[],jd,[]⟩ (.slice xa D.length xc) (.slice none 0 0) (w3.setCell ⟨p7,34,none⟩ (.slice xa D.length xc)):=Aw;have hl:=za (And.intro Aw (And.intro (B0.out.keepE Ap.out AL AJ hB) (And.intro (Fr.trans Bw.out hB (fun k o hm => .inr (by have h2:k=p7:=hm;omega))) AV)));obtain⟨W9,hZ⟩:∃ z,(w3.setCell ⟨p7,34,none⟩ (.slice xa D.length xc))=z:=⟨_,rfl⟩;rw[hZ]at hl ⊢;clear hZ Aw hB AV
      go_meet
      case rel=>exact⟨.slice xa D.length xc,za ⟨hl.out.1,hl.out.2.1,hl.out.2.2.1,hl.out.2.2.2,⟨rfl,rfl,by simp⟩,(by first | rfl | trivial),Hse.out.1.trans BB.out,Hse.out.2.1,by have:=Hse.out.2.2;omega⟩⟩
     have k3c:(KN==3)=false:=by simpa using k3
     by_cases k4:KN=4
     ·subst k4;have h4:=fun V (h:FB S bF f1 V)=>zdg S bF f1 qg V h hQ ⟨Aq.1,by omega⟩
      have hI:=zda f1 qg Aq;have Bf:=B4.out;unfold zsa at Bf;rw[if_neg (by decide),if_neg (by decide),if_neg (by decide),if_pos rfl]at Bf;obtain⟨ID,EA⟩:∃ z,(ju f1 qg).1=z:=⟨_,rfl⟩;obtain⟨f2,hL⟩:∃ z,(ju f1 qg).2=z:=⟨_,rfl⟩;simp only[EA,hL]at h4;rw[hL]at hI;rw[EA,hL]at Bf;have BG:=fun V (h:FB S bF f2 V)=>zdg S bF f2 nOp V h (by rw[hI.1];exact hQ) ⟨hI.2.1,by have:=hI.2.2;omega⟩
      have BJ:=zda f2 nOp hI.2;obtain⟨TO,D6⟩:∃ z,(ju f2 nOp).1=z:=⟨_,rfl⟩;obtain⟨f3,hX⟩:∃ z,(ju f2 nOp).2=z:=⟨_,rfl⟩;simp only[D6,hX]at BG;rw[D6,hX]at Bf;rw[hX,hI.1]at BJ;have BO:=fun V (hV:Fr (MFd bF) W5 V)=>z04 TO bo V (hV.block _ _ Fp.out (fun h=>by have:=h.1;have:=DB.out;omega))
      obtain⟨oo,Eg⟩:∃ z,zzx TO=z:=⟨_,rfl⟩;simp only[Eg]at BO Bf;have Htx:=za h4;have Cx:=za BG;have Hix:=za BO;have E4:=za Bf;have hy:=za BJ;clear h4 BG BO Bf hI BJ EA hL D6 hX Eg
      go_upto_region 14 with(fail)
      refine wp_region_held_drew (S:=fun _=>True) (by kernel_rfl) trivial (fun hA=>?_);simp only[qV];have Dx:=Htx.out wc.drew (A2.out.fr Fr.refl.drew);have hw:Fr (MFd bF) W5 wc.drew:=CF.out.drew;have CC:EnB p7 (zat 4 []) (.slice none 0 0) (.slice none 0 0) wc.drew:=B7.out.fr (Fr.refl (M:=NoB)).drew (fun _ h=>h);obtain⟨V0,Ci⟩:∃ V,wc.drew=V:=⟨_,rfl⟩;rw[Ci]at Dx hw CC ⊢;clear Ci;refine qt (v:=?_) rfl (zv ⟨by rfl,?_⟩) hA ?_;rotate_left
      ·intro W A7
       try simp only[qQ]
       go_simp
       try rw[if_neg (by omega)]
       try with_reducible rfl
      try simp only[Act.put,qP]
      refine qi (i:=2) (v:=?_) rfl (zv ⟨by rfl,?_⟩) hA ?_;rotate_left
      ·intro W A7
       try simp only[qQ]
       go_simp
       try rw[if_neg (by omega)]
       try with_reducible rfl
      try simp only[Act.put,qP]
      refine qi (i:=3) (v:=?_) rfl (zv ⟨by rfl,?_⟩) hA ?_;rotate_left
      ·intro W A7
       try simp only[qQ]
       go_simp
       try rw[if_neg (by omega)]
       try with_reducible rfl
      try simp only[Act.put,qP]
      refine qr (i:=1) (by kernel_rfl) rfl (fun K hK=>?_)
      try simp only[qQ]
      go_simp;refine Dx.mono ?_;rintro r V1 ⟨rfl,hU,BR⟩;refine hK.out _ _ trivial (fun hA=>?_);clear hK K
      try simp only[Act.put,qP]
      refine qi (i:=6) (v:=?_) rfl (zv ⟨by rfl,?_⟩) hA ?_;rotate_left
      ·intro W A7
       try simp only[qQ]
       go_simp
       try rw[if_neg (by omega)]
       try with_reducible rfl
      try simp only[Act.put,qP]
      refine qr (i:=4) (by kernel_rfl) rfl (fun K hK=>?_)
      try simp only[qQ]
      go_simp;refine(Cx.out V1 hU).mono ?_;rintro r V2 ⟨rfl,hF,BQ⟩;refine hK.out _ _ trivial (fun hA=>?_);clear hK K
      try simp only[Act.put,qP]
      have hO:=(hw.trans' BR).trans' BQ;refine qr (i:=5) (by kernel_rfl) rfl (fun K hK=>?_)
      try simp only[qQ]
      go_simp;refine(Hix.out V2 hO).mono ?_;rintro r v9 ⟨rfl,AT⟩;refine hK.out _ _ trivial (fun hA=>?_);clear hK K
      try simp only[Act.put,qP]
      rw[AT];clear AT v9;have AM:=(CC.fr BR (fun c h=>by have:=h.1;omega)).fr BQ (fun c h=>by have:=h.1;omega);obtain⟨⟨FO,FK⟩,FG⟩:=AM.at 36 (by decide);refine qr (i:=7) (by kernel_rfl) rfl (fun K hK=>?_)
      try simp only[qQ]
      go_simp;refine hK.out _ _ trivial (fun hA=>?_);clear hK K
      try simp only[Act.put,qP]
      have AR:=AM.set1 36 (.string ⟨ID.toArray⟩) (En.setIdent (zdi (by simp)) AM.rg ID);have As:Fr (fun k _=>k=p7) V2 (V2.setCell ⟨p7,36,none⟩ (.string ⟨ID.toArray⟩)):=Fr.refl.setCell _ _ (fun _ _=>rfl);have hr:=hF.keepE AM AL AJ As;obtain⟨V3,Ew⟩:∃ z,V2.setCell ⟨p7,36,none⟩ (.string ⟨ID.toArray⟩)=z:=⟨_,rfl⟩;rw[Ew]at AR As hr ⊢;obtain⟨⟨FP,FL⟩,FH⟩:=AR.at 35 (by decide);refine qt (v:=?_) rfl (zv ⟨by rfl,?_⟩) hA ?_;rotate_left
      ·intro W A7
       try simp only[qQ]
       go_simp
       try rw[if_neg (by omega)]
       try with_reducible rfl
      try simp only[Act.put,qP]
      refine qr (i:=9) (by kernel_rfl) rfl (fun K hK=>?_)
      try simp only[qQ]
      go_simp;refine hK.out _ _ trivial (fun hA=>?_);clear hK K
      try simp only[Act.put,qP]
      have Ax:=AR.set1 35 (.int .i64 oo) (En.setOp ⟨rfl,rfl,by simp[zat]⟩ AR.rg oo);have BW:Fr (fun k _=>k=p7) V3 (V3.setCell ⟨p7,35,none⟩ (.int .i64 oo)):=Fr.refl.setCell _ _ (fun _ _=>rfl);have BU:=hr.keepE AR AL AJ BW;have BS:Fr (MFd bF) W5 (V3.setCell ⟨p7,35,none⟩ (.int .i64 oo)):=hO.trans (As.trans' BW) (fun k o hm => .inr (by have h2:k=p7:=hm;omega));refine wpAnyH_done (by kernel_rfl) ?_ _;obtain⟨V4,Ev⟩:∃ z,V3.setCell ⟨p7,35,none⟩ (.int .i64 oo)=z:=⟨_,rfl⟩;rw[Ev]at Ax BU BS ⊢;have Ax:EnB p7 ⟨4,jd,[],[],oo,ID,jd,[]⟩ (.slice none 0 0) (.slice none 0 0) V4:=Ax;have Fh:V4.cell? ⟨p7,35,none⟩=some (.int .i64 oo):=(En.parts (e:=⟨4,jd,[],[],oo,ID,jd,[]⟩) ⟨rfl,rfl,by simp⟩ Ax.rg).2.2.2.2.1;have FC:=za Ax;have C8:=za BU;have C4:=za BS;clear Ev Ew Ax BU BS BW As hr AR AM BR BQ hU hF hO CC hw Dx FO FK FG FP FL FH Htx Cx Hix;by_cases h3:oo=3
      ·subst h3
       have hP:P1=(⟨4,jd,[],[],3,ID,jd,[]⟩,f3):=by
        have:=E4.out;rw[if_pos rfl]at this;exact this.symm
       subst hP;have B5:Hid (EnB p7 ⟨4,jd,[],[],3,ID,jd,[]⟩ (.slice none 0 0) (.slice none 0 0) V4∧FB S bF f3 V4∧Fr (MFd bF) W5 V4∧SB (fun k=>W5.heap.size≤k∧k≠p7) [] (.slice none 0 0) V4∧En.ok ⟨4,jd,[],[],3,ID,jd,[]⟩∧([]:List Sg)=[]∧f3.j=J0∧0≤f3.seen∧f3.seen≤10):=za ⟨FC.out,C8.out,C4.out,SB.nil _ _ _,⟨rfl,rfl,by simp⟩,rfl,hy.out.1.trans BB.out,hy.out.2.1,by have:=hy.out.2.2;omega⟩
       go_wp2_with fail
       go_meet
       case rel=>exact⟨_,by simpa using B5⟩
      have h3c:(oo != 3)=true:=by simpa using h3
      have hP:P1=(⟨4,jd,[],[],oo,ID,(zg5 f3 zim).1,[]⟩,(zg5 f3 zim).2):=by
       have:=E4.out;rw[if_neg h3]at this;exact this.symm
      have h7:=zvb S bF f3 zim V4 C8.out (by rw[hy.out.1];exact hQ) ⟨hy.out.2.1,by have:=hy.out.2.2;omega⟩;have AA:=zm3 f3 zim hy.out.2;have hD:=zm9 f3 zim;obtain⟨D,AD⟩:∃ z,(zg5 f3 zim).1=z:=⟨_,rfl⟩;obtain⟨f4,Dv⟩:∃ z,(zg5 f3 zim).2=z:=⟨_,rfl⟩;rw[AD,Dv]at h7 hP;rw[Dv,hy.out.1]at AA;rw[AD]at hD;subst hP;have Hsum:=za h7;have Hse:=za AA;have HD:=za hD;obtain⟨C,hC⟩:∃ C,zb D=C:=⟨_,rfl⟩;have HC:Hid (C.length=32):=za (by rw[← hC,je,hD]);have DQ:=za (show C.toArray.all (·.oneCell')=true by rw[← hC];exact all_oneCell_toArray (zau _));have EK:=za (show(Tryz.prog.info? 25).map (·.size)=some C.toArray.size by rw[za3,zn,HC.out]);rw[hC]at Hsum;have Ea:=za hC;clear h7 AA hD AD Dv hC
      go_wp2_with fail
      refine Hsum.out.mono ?_;rintro r w6 ⟨rfl,hF,hM⟩;have AM:=FC.out.fr hM (fun c h=>by have:=h.1;omega);have HT:=za (show w6.there p7 37 C.toArray.size by rw[zn,HC.out];exact AM.part 37 32 (by decide));have Am:=za AM;have AP:=za hF;have AO:=za (C4.out.trans' hM);clear AM hF hM Hsum Fh
      go_wp2_with(with_reducible refine wpList_store_mid rfl 25 _ _ rfl p7 37 C.toArray rfl rfl HT.out EK.out DQ.out ?_)
      have AR:EnB p7 ⟨4,jd,[],[],oo,ID,D,[]⟩ (.slice none 0 0) (.slice none 0 0) (w6.setCells p7 37 C):=by
       rw[← Ea.out];exact Am.out.sets 37 _ (En.setKey ⟨rfl,rfl,by simp⟩ Am.out.rg D HD.out)
      have hB:=z8 p7 C 37 w6;have hl:=za (And.intro AR (And.intro (AP.out.keepE Am.out AL AJ hB) (Fr.trans AO.out hB (fun k o hm => .inr (by have h2:k=p7:=hm;omega)))));obtain⟨W9,hZ⟩:∃ z,(w6.setCells p7 37 C)=z:=⟨_,rfl⟩;rw[hZ]at hl ⊢;clear hZ AR hB
      go_meet
      case rel=>exact⟨.slice none 0 0,za ⟨hl.out.1,hl.out.2.1,hl.out.2.2,SB.nil _ _ _,⟨rfl,HD.out,by simp⟩,(by first | rfl | trivial),Hse.out.1.trans BB.out,Hse.out.2.1,by have:=Hse.out.2.2;omega⟩⟩
     have k4c:(KN==4)=false:=by simpa using k4
     have hP:P1=(zat KN [],f1):=by
      rw[← B4.out];unfold zsa;rw[if_neg k1,if_neg k2,if_neg k3,if_neg k4];rfl
     subst hP;have hE:=B7.out;have B5:Hid (EnB p7 (zat KN []) (.slice none 0 0) (.slice none 0 0) wc∧FB S bF f1 wc∧Fr (MFd bF) W5 wc∧SB (fun k=>W5.heap.size≤k∧k≠p7) (zat KN []).payload (.slice none 0 0) wc∧(zat KN []).ok∧(zat KN []).sigs=[]∧f1.j=J0∧0≤f1.seen∧f1.seen≤10):=za ⟨hE,A2.out,CF.out,SB.nil _ _ _,zdi (by simp),rfl,BB.out,Aq.1,by omega⟩;clear hE
     go_wp2_with fail
     go_meet
     case rel=>exact⟨_,B5⟩
    case rest =>
     have h8:=zr9 KN (f:=f1) (by rw[BB.out];exact Hfit.out);rw[B4.out]at h8;have Hshort:=za h8;clear h8;obtain⟨pv,FE⟩:=hcut;obtain⟨EG,hU,hi,BK,BM,BH,DW,Dn,Ef⟩:=FE.out;obtain⟨e1,f2⟩:=P1;simp only at EG hU BK BM BH DW Dn Ef;have Dd:=DF.out;simp only at Dd;have BP:=zg4 S bF f2 za6 4 wc hU (by rw[DW];exact Hfit.out.1) ⟨Dn,by omega⟩;have Aa:=(Fits.get (f:=f2) (nm:=za6) (k:=4) (by rw[DW];exact Hfit.out)).1;obtain⟨G,hG⟩:∃ x,(zbg f2 za6 4).1=x:=⟨_,rfl⟩;obtain⟨f3,hX⟩:∃ x,(zbg f2 za6 4).2=x:=⟨_,rfl⟩;rw[hG,hX]at BP;rw[hG]at Aa;simp only[hG,hX]at Dd;obtain⟨gk,gn,gt,gl,gq⟩:=G;have Fv:=za Dd;have Hget:=za BP;have AH:=za Aa;have EZ:=za EG;have C5:=za hi;have Cz:=za BK;have AN:=za BM;have EJ:=za BH;have h6:=Dk.out;clear EG hU hi BK BM BH DW Dn Ef Dd BP Aa hG hX FE DF B4 B7 A2 CF c0
     go_wp2_with fail
     refine Hget.out.mono ?_;rintro r w6 ⟨x6,rfl,Eb,CZ,Bk⟩;obtain⟨y1,m1,y2,m2,Dl,CM,-⟩:=Eb.open;subst Dl;have hfd:∀ V:World,(Instr.field 56 (.agg #[.int .i64 gk,.int .i64 gn,.string ⟨gt.toArray⟩,.slice y1 gl.length m1,.slice y2 gq.length m2]) 3).run ze V = .ok (.slice y1 gl.length m1) V:=fun _=>by kernel_rfl
     have FA:=za (EZ.out.fr Bk (fun c h=>by have:=h.1;omega));have Bv:=za (C5.out.trans' Bk);have hwp7:p7<wc.heap.size:=EZ.out.lt;have Cy:=za (show SB (fun k=>W5.heap.size≤k∧k≠p7∧k<w6.heap.size) e1.payload pv w6 from Cz.out.kp (fun k o hk ho _=>⟨⟨hk.1,hk.2,zu (jb ho) Bk.size⟩,Bk.block k o ho (fun h=>by have:=h.1;have:=hk.1;omega)⟩));have Hrow:=za CM;have EN:=za CZ;have hfbk:bF<w6.heap.size:=by have:=Bk.size;omega
     have hp7k:p7<w6.heap.size:=by have:=Bk.size;omega
     have hgl:gl.length≤67108864:=(fits.open AH.out.1).2.1;clear Eb CZ Bk CM Hget EZ C5 Cz
     go_wp2_with fail
     have Du:OldK.k≤bF:=by omega
     have CO:OldK.k≤p7:=by have:=BD.out.size;have:=Hb.out;omega
     obtain⟨ap,cp,B8⟩:=Cy.out.form
     have CC:EnB p7 { e1 with sigs:=[] } pv (.slice none 0 0) w6:=by
      have h1:=FA.out;have h2:=EJ.out;obtain⟨q1,q2,q3,q4,q5,q6,q7,q8⟩:=e1;simp only at h2;subst h2;exact h1
     have Fx:=za CC;have Hpv:=za B8;clear CC B8
     go_loopg [68] (gl.length+1) (fun g vi wr=>∃ (i:Nat) (AS:Value),vi = .int .i64 i∧i≤gl.length∧i+g=gl.length+1∧Hid (EnB p7 { e1 with sigs:=(gl.take i).map fun x=>(zbt x).1 } pv AS wr)∧Hid (wr.ownsRow w6.heap.size 115 97 AS i (((gl.take i).map fun x=>(zbt x).1).flatMap fun s=>s.cells.toList))∧Hid (FB S bF { f3 with bad:=f3.bad||(gl.take i).any fun x=>(zbt x).2 } wr)∧Hid (SB (fun k=>W5.heap.size≤k∧k≠p7∧k<w6.heap.size) e1.payload pv wr)∧Hid (Fr (fun k o=>MFd bF k o∨k=p7) w6 wr))
     case atStart=>exact⟨0,_,rfl,by omega,by omega,Fx,za ⟨rfl,.inl ⟨rfl,rfl⟩⟩,za (by simpa using EN.out),Cy,za Fr.refl⟩
     case round =>
      obtain⟨i,AS,rfl,hile,hgk,B6,Howni,Aj,Az,hz⟩:=hrel;have hw6r:=hz.out.size;rcases Nat.lt_or_ge i gl.length with hlt | Dt
      ·obtain ⟨jx,DV⟩:∃ x,gl[i]? = some x:=⟨_,List.getElem?_eq_getElem hlt⟩
       obtain ⟨rb,ro,x0,x1,x2,x3,x4,FV,hbl,r0,r1,r2,r3,r4,Do⟩:=(Hrow.out.kp (Kp.fr hz.out (fun _ h _=>h) (fun k o _ hk ht hm=>by
        rcases hm with hm | rfl
        ·exact zhn Du k o hm ht
        obtain⟨c9,BZ⟩:=FA.out.ty;rw[BZ]at hk;obtain rfl:=zx hk
        exact zhv CO ht))).at DV
       subst FV;have CX:=AH.out.at (j := .mk gk gn gt gl gq) DV
       have Dm:(gl.take (i+1)).map (fun x=>(zbt x).1)=(gl.take i).map (fun x=>(zbt x).1)++[(zbt jx).1]:=by
        rw[List.take_add_one,DV,List.map_append];rfl
       have Ba:((gl.take (i+1)).any fun x=>(zbt x).2)=(((gl.take i).any fun x=>(zbt x).2)||(zbt jx).2):=by
        rw[List.take_add_one,DV,List.any_append];simp
       obtain⟨hh,he,hc,hf,hd⟩:=jx;obtain⟨z1,m3,z2,m4,CI,-,-⟩:=Do.open;obtain⟨rfl,rfl,rfl,rfl,rfl⟩:x0 = .int .i64 hh∧x1 = .int .i64 he∧x2 = .string ⟨hc.toArray⟩∧x3 = .slice z1 hf.length m3∧x4 = .slice z2 hd.length m4:=by simpa using CI
       have Fc:Fr NoB wr (wr.alloc (.cells #[.int .i64 hh,.int .i64 he,.string ⟨hc.toArray⟩,.slice z1 hf.length m3,.slice z2 hd.length m4] 56)):=Fr.refl.alloc _;obtain⟨g0,g1,g2,g3,g4,gz,Ff⟩:=VB.at (zh wr (.cells #[.int .i64 hh,.int .i64 he,.string ⟨hc.toArray⟩,.slice z1 hf.length m3,.slice z2 hd.length m4] 56));have Av:Fr NoB wr ((wr.alloc (.cells #[.int .i64 hh,.int .i64 he,.string ⟨hc.toArray⟩,.slice z1 hf.length m3,.slice z2 hd.length m4] 56)).alloc (.cells #[.int .i64 hh,.int .i64 he,.string ⟨hc.toArray⟩,.slice z1 hf.length m3,.slice z2 hd.length m4,.int .i64 0,.bool false] 118)):=(Fr.refl.alloc _).alloc _;have D2:=zh (wr.alloc (.cells #[.int .i64 hh,.int .i64 he,.string ⟨hc.toArray⟩,.slice z1 hf.length m3,.slice z2 hd.length m4] 56)) (.cells #[.int .i64 hh,.int .i64 he,.string ⟨hc.toArray⟩,.slice z1 hf.length m3,.slice z2 hd.length m4,.int .i64 0,.bool false] 118);rw[zf]at D2;have BT:FB S (wr.heap.size+1) ⟨.mk hh he hc hf hd,0,false⟩ ((wr.alloc (.cells #[.int .i64 hh,.int .i64 he,.string ⟨hc.toArray⟩,.slice z1 hf.length m3,.slice z2 hd.length m4] 56)).alloc (.cells #[.int .i64 hh,.int .i64 he,.string ⟨hc.toArray⟩,.slice z1 hf.length m3,.slice z2 hd.length m4,.int .i64 0,.bool false] 118)):=⟨by omega,z1,m3,z2,m4,D2,RJ.kp (Kp.ofFr Av) _ _ Do⟩;have h4:=zdg S (wr.heap.size+1) ⟨.mk hh he hc hf hd,0,false⟩ nBy _ BT CX ⟨Int.le_refl 0,show(0:Int)≤1000 by decide⟩;have AU:(ju ⟨.mk hh he hc hf hd,0,false⟩ nBy).2.j = .mk hh he hc hf hd∧0≤(ju ⟨.mk hh he hc hf hd,0,false⟩ nBy).2.seen∧(ju ⟨.mk hh he hc hf hd,0,false⟩ nBy).2.seen≤0+1:=zda ⟨.mk hh he hc hf hd,0,false⟩ nBy ⟨Int.le_refl 0,Int.le_refl 0⟩;have D4:(ju ⟨.mk hh he hc hf hd,0,false⟩ nBy).1.length≤1000000:=(Fits.get (f:=⟨.mk hh he hc hf hd,0,false⟩) (nm:=nBy) (k:=3) CX).1.text;obtain⟨bG,Bb⟩:∃ z,wr.heap.size+1=z:=⟨_,rfl⟩;rw[Bb]at h4 BT;obtain⟨PS,Be⟩:∃ z,zbt (.mk hh he hc hf hd)=z:=⟨_,rfl⟩;rw[Be]at Dm Ba;unfold zbt at Be;obtain⟨TB,Dc⟩:∃ z,(ju ⟨.mk hh he hc hf hd,0,false⟩ nBy).1=z:=⟨_,rfl⟩;obtain⟨gd,DX⟩:∃ z,(ju ⟨.mk hh he hc hf hd,0,false⟩ nBy).2=z:=⟨_,rfl⟩;rw[Dc,DX]at h4;rw[Dc]at D4;rw[DX]at AU;simp only[Dc,DX]at Be;have Ar:=fun V=>zrv TB V D4
       have AI:=zhu TB;obtain⟨SG,D7⟩:∃ z,(za8 TB).1=z:=⟨_,rfl⟩;obtain⟨ok,CQ⟩:∃ z,(za8 TB).2=z:=⟨_,rfl⟩;rw[D7]at AI;simp only[D7,CQ]at Ar Be;have DR:=fun V (h:FB S bG gd V)=>zz7 S bG gd zxb V h (by rw[AU.1];exact CX) ⟨AU.2.1,by have:=AU.2.2;omega⟩
       have CD:=zm8 gd zxb;obtain⟨D,hD⟩:∃ z,(zj6 gd zxb).1=z:=⟨_,rfl⟩;obtain⟨ge,Dt⟩:∃ z,(zj6 gd zxb).2=z:=⟨_,rfl⟩;simp only[hD,Dt]at DR Be;rw[hD]at CD;have BI:∀ (V:World) bs,V.rangeAt bs 0 SG.cells.toList→(V.setCells bs 33 (zb D)).rangeAt bs 0 (Sg.cells ⟨SG.id,SG.key,D⟩).toList:=fun V bs h=>Sg.setSig AI h D CD
       have CL:=Sg.size AI;have DT:(Sg.cells ⟨SG.id,SG.key,D⟩).size=97:=Sg.size ⟨AI.1,CD⟩;have Dy:=zx5 ⟨SG.id,SG.key,D⟩ ⟨AI.1,CD⟩;have H1:=za (Sg.one SG);have H2:=za (Sg.one ⟨SG.id,SG.key,D⟩);obtain⟨SC,D8⟩:∃ z,SG.cells=z:=⟨_,rfl⟩;obtain⟨Ao,Au⟩:∃ z,(Sg.cells ⟨SG.id,SG.key,D⟩)=z:=⟨_,rfl⟩;have Cn:PS=(⟨SG.id,SG.key,D⟩,!ok || !zdp ge):=Be.symm;obtain⟨C,hC⟩:∃ C,zb D=C:=⟨_,rfl⟩;have HC:Hid (C.length=64):=za (by rw[← hC,je,CD]);have DQ:=za (show C.toArray.all (·.oneCell')=true by rw[← hC];exact all_oneCell_toArray (zau _));have Fl:=za (show(Tryz.prog.info? 113).map (·.size)=some C.toArray.size by rw[zax,zn,HC.out]);rw[D8]at Ar CL H1;rw[Au]at DT Dy H2;simp only[D8,Au,hC]at BI;simp only[hC]at DR;have Fj:=za (show(Tryz.prog.info? 115).map (·.size)=some SC.size by rw[qv,CL]);have Fi:=za (show(Tryz.prog.info? 115).map (·.size)=some Ao.toList.length by rw[qv,Array.length_toList,DT]);have Hzz:=za (show Tryz.zeroCells115.size=SC.size by rw[CL];rfl);have Fn:=za CL;have Fm:=za DT;have Hbu:=za Dy;have Hset:=za BI;have Htx:=za h4;have Hft:=za CX;have Htk:=za Dm;have EO:=za Ba;have Fw:=za Av;have DG:=za Cn;have Hsgn:=za Ar;have Hwd:=za DR;have EP:=za Au;clear h4 CX Dm Ba Av BT D2 Fc Do CI Be AU Dc DX D7 CQ hD Dt CD BI CL DT Dy D8 Au Cn hC Ar DR AI D4
       go_wp2_with fail
       have Ft:=za Bb;clear Bb;refine Htx.out.mono ?_;rintro r w7 ⟨rfl,CY,Ez⟩;have E6:=za ((Fw.out.mono (M':=MFd bG) (fun _ _ h=>h.elim)).trans' Ez);have C7:=za CY;clear CY Ez Htx g0 g1 g2 g3 g4 gz Ff r0 r1 r2 r3 r4
       go_wp2_with fail
       refine(Hsgn.out _).mono ?_;rintro r w8 ⟨rfl,EE⟩;have EW:=za (E6.out.trans' (EE.mono (M':=MFd bG) (fun _ _ h=>h.elim)));have Bz:=za (C7.out.fr EE);clear EE Hsgn E6 C7
       go_upto_region 22 with((with_reducible refine qe (w:=w8) rfl 115 _ _ rfl _ SC w8.heap.size rfl ?_ ?_ Fj.out Hzz.out H1.out ?_);rfl;rfl)
       have Ac:Fr NoB w8 (w8.alloc (.cells SC 115)):=Fr.refl.alloc _;have DS:=zh w8 (.cells SC 115);have By:=za (Bz.out.fr Ac);have Dh:=za (EW.out.trans' (Ac.mono (M':=MFd bG) (fun _ _ h=>h.elim)));change Code.wp _ _ _ _ (w8.alloc (.cells SC 115));obtain⟨W9,hZ⟩:∃ z,w8.alloc (.cells SC 115)=z:=⟨_,rfl⟩;rw[hZ]at DS By Dh ⊢;have Fe:=EW.out.size;have D1:bG<w8.heap.size:=by obtain⟨-,y1,y2,y3,y4,h5,-⟩:=Bz.out;exact jb h5
       obtain⟨bs,Er⟩:∃ z,w8.heap.size=z:=⟨_,rfl⟩;rw[Er]at DS Fe D1 ⊢;have Hsa:=za DS;clear Ac hZ Er EW Bz DS;have hbwr:wr.heap.size<bG:=by have:=Ft.out;omega
       go_wp2_with fail
       refine(Hwd.out _ By.out).mono ?_;rintro r BF ⟨rfl,A5,Bl⟩;have hv:=Bl.block _ _ Hsa.out (fun h=>by have:=h.1;omega)
       have HT:=za (show BF.there bs 33 C.toArray.size from fun jj hj=>by
        rw[zn,HC.out]at hj;have h1:=jf hv (n:=97) (by rw[Fn.out];exact zt 97) (33+jj) (by omega)
        rwa [Nat.zero_add]at h1)
       have BL:=Hset.out BF bs (jm hv);obtain⟨cz,Da⟩:=zf3 C 33 BF SC hv;have hB:=z8 bs C 33 BF;have Dz:OldK.k≤bs:=by have:=hz.out.size;omega
       have Ab:=A5.keep hB (fun k o hk hm=>by
        have hm:k=bs:=hm;subst hm;rw[hv]at hk;obtain rfl:=zx hk
        exact⟨by omega,zsd Dz⟩)
       have A8:Fr NoB wr (BF.setCells bs 33 C):=((Dh.out.trans' Bl).mono2' (M':=NoB) (fun k o hk hm=>by have:=hm.1;have:=jb hk;omega)).trans hB (fun k o hm => .inr (by have h2:k=bs:=hm;have:=Dh.out.size;omega));clear Bl A5 Hwd hv Dh By Hsa
       go_upto_region 23 with(with_reducible refine wpList_store_mid rfl 113 _ _ rfl bs 33 C.toArray rfl rfl HT.out Fl.out DQ.out ?_)
       change Code.wp _ _ _ _ (BF.setCells bs 33 C);obtain⟨Dg,Ch⟩:∃ z,BF.setCells bs 33 C=z:=⟨_,rfl⟩;rw[Ch]at BL Da Ab A8 ⊢;have Cb:bs<Dg.heap.size:=jb Da;clear Ch hB HT Hset;have Bi:=Aj.out.fr A8;have E1:=B6.out.fr A8 (fun _ h=>h);have Co:=za9 Howni.out A8 (fun _ _ _ _ _ h=>h);have Cj:=Az.out.fr A8 (fun _ _ _ _ h=>h);have Cq:=hz.out.trans' (A8.mono (M':=fun k o=>MFd bF k o∨k=p7) (fun _ _ h=>h.elim));obtain⟨bi,D0⟩:∃ z,(f3.bad||(gl.take i).any fun x=>(zbt x).2)=z:=⟨_,rfl⟩;rw[D0]at Bi;have A0:=za Bi;have E9:=za E1;have DH:=za Co;have DD:=za Cj;have DJ:=za Cq;have Hbi:=za D0;have C0:=za BL;have Hcz:=za Da;have C6:=za Ab;have hw6n:w6.heap.size≤Dg.heap.size:=by have:=A8.size;omega
       clear Bi E1 Co Cj Cq D0 BL Da Ab A8 B6 Howni Aj Az hz;simp only[Act.put]
       go_cut [68] from 68 to 106 (fun FR wx=>FR = .int .i64 i∧Hid (FB S bF { f3 with bad:=bi||(!ok || !zdp ge) } wx∧Fr (MFd bF) Dg wx))
       case first =>
        have hY:=zf9 S bG ge Dg C6.out;obtain⟨y5,n5,y6,n6,-,-,-,-,-,-,c6,fz,Dp,-⟩:=A0.out.cells;obtain⟨AY,AX⟩:=A0.out.setBad (bi||(!ok || !zdp ge));have HS:=za (And.intro AY AX);have Hdone:=za hY;clear hY AY AX;cases bi with
        | true =>
          simp only[Bool.true_or]at HS ⊢
          go_wp2_with fail
          go_meet
          case rel=>exact⟨rfl,HS⟩
        | false =>
          cases ok with
          | false =>
            simp only[Bool.not_false,Bool.true_or,Bool.or_true]at HS ⊢
            go_wp2_with fail
            go_meet
            case rel=>exact⟨rfl,HS⟩
          | true =>
            obtain⟨dn,Dw⟩:∃ z,zdp ge=z:=⟨_,rfl⟩;simp only[Dw,Bool.not_true,Bool.false_or]at HS Hdone ⊢;have Hdn:=za Dw;clear Dw HS
            go_wp2_with fail
            refine Hdone.out.mono ?_;rintro r CH ⟨rfl,ha⟩;have Ah:=A0.out.fr ha;obtain⟨y5,n5,y6,n6,-,-,-,-,-,-,c6,fz,Dp,-⟩:=Ah.cells;obtain⟨AY,AX⟩:=Ah.setBad (!dn);have HS:=za (And.intro AY ((ha.mono (M':=MFd bF) (fun _ _ h=>h.elim)).trans' AX));clear AY AX Ah ha
            go_wp2_with fail
            go_meet
            case rel=>exact⟨rfl,za (by rw[Hdn.out];exact HS.out)⟩
       case rest =>
        obtain⟨rfl,HS⟩:=hcut;obtain⟨Cu,Bj⟩:=HS.out;have hbFp:¬ MFd bF p7 (.cells #[] 28 (0,0)):=fun h=>by have:=h.1;omega
        have Df:=E9.out.fr Bj (fun c h=>by have:=h.1;omega);have Bg:=za9 DH.out Bj (fun k o _ hk _ h=>by have:=h.1;omega)
        have Cl:=DD.out.fr Bj (fun k o hk ht h=>by
         obtain⟨h1,c',f',rfl⟩:=h;rcases ht with⟨c2,f2',h2⟩ | h2
         ·injection h2 with _ h2 _;revert h2;decide
         omega)
        have Cs:=DJ.out.trans' (Bj.mono (M':=fun k o=>MFd bF k o∨k=p7) (fun _ _ h => .inl h));obtain⟨ao,co,FY⟩:=qj Bg;subst FY
        have AB:∀ x∈(gl.take i).map (fun x=>(zbt x).1),x.ok:=fun x hx=>by
         obtain⟨q,-,rfl⟩:=List.mem_map.1 hx;exact zp7 q
        have Fg:wc.cell? ⟨p7,69,none⟩=some (.slice ao i co):=(En.parts (e:={ e1 with sigs:=(gl.take i).map fun x=>(zbt x).1 }) ⟨AN.out.1,AN.out.2.1,AB⟩ Df.rg).2.2.2.2.2.2.2;have Fo:=za (ji C0.out Bj Cb (fun _ h=>by have:=h.1;omega));obtain⟨dS,Ed,Eo⟩:=zdm;have Fk:=za Ed;have Fs:=za Eo;obtain⟨i0,FZ,FU,FT,FS⟩:=info_parts zjz;have hw69:=Bj.size;have hp7wc:p7<wc.heap.size:=Df.lt;have Dj:=za Df;have DI:=za Bg;have EV:=za Cu;have EQ:=za Cl;have EU:=za Cs;have EM:=za AB
        have Fz:=za (show ∀ u∈Ao.toList,u.oneCell'=true from fun u hu=>by
         have h1:=H2.out;rw[Array.all_eq_true_iff_forall_mem]at h1
         exact h1 u (by simpa using hu))
        clear Df Bg Cu Cl Cs Bj Ed Eo HS E9 DH DD DJ A0 C6 AB Hcz C0
        go_wp2_with (first
         | ((with_reducible refine wpList_load_mid ?_ 115 _ rfl bs 0 ?_ Ao.toList dS Fo.out Fk.out ?_ Fi.out ?_);rfl;rfl;exact Fs.out)
         | ((with_reducible refine Great.wpList_buildSliceTo ?_ 26 115 1 _ rfl wc.heap.size rfl _ rfl Tryz.underlying26 Ao ?_ ?_);rfl;(refine Eq.trans (congrArg (Tryz.prog.builtSlice 115 1) ?_) Hbu.out;kernel_rfl))
         | (at_builtin;refine z1l ?_))
        refine za ?_;refine wpList_append_own_at _ rfl _ _ 26 rfl w6.heap.size 115 i0 (.agg sgZ) 97 112 Tryz.underlying26 FZ FU FT FS rfl (by decide) (.slice ao i co) i (((gl.take i).map fun x=>(zbt x).1).flatMap fun s=>s.cells.toList) (by rfl) (DI.out.alloc _) ⟨wc.heap.size,0,none⟩ 1 1 Ao.toList (by rfl) (by rw[Array.length_toList,Fm.out]) ?c6 Fz.out (by unfold maxLen;omega) (by omega) (by rw[zf];omega) ?_
        case c6=>exact zck wc 115 Ao.toList _ rfl
        intro v' wA AZ CW _ _;have Ac:Fr NoB wc (wc.alloc (.cells Ao 115)):=Fr.refl.alloc _;have A4:=DI.out.alloc (.cells Ao 115)
        have Ei:∀ k o,(wc.alloc (.cells Ao 115)).heap[k]? = some o→some k=(Value.slice ao i co).ownBlock→w6.heap.size≤k∧zbq 115 o:=fun k o hk hm=>by
         obtain⟨h1,o',Eh,ht⟩:=zam A4 k hm.symm;rw[hk]at Eh;obtain rfl:=zx Eh;exact⟨h1,ht⟩
        have Av:Fr (fun k o=>w6.heap.size≤k∧zbq 115 o) wc wA:=(Ac.mono (fun _ _ h=>h.elim)).trans' ((Fr.ofGrown CW).mono2' Ei);rcases AZ.2 with⟨_,h0⟩ | ⟨g,cp,cur,hv',hgB,hg3,-⟩
        ·omega
        subst hv';have Cw:=Dj.out.fr Av (fun c h=>by have:=h.1;omega)
        have Ct:=EV.out.keep Av (fun k o _ h=>⟨by have:=h.1;omega,fun FX=>by
         obtain⟨c',f',rfl⟩:=h.2;rcases FX with⟨c2,f2',h2⟩ | ⟨c2,f2',h2⟩ | h2
         ·injection h2 with _ h2 _;revert h2;decide
         ·injection h2 with _ h2 _;revert h2;decide
         have:=h.1;omega⟩)
        have Ck:=EQ.out.fr Av (fun k o hk _ h=>by have:=h.1;have:=hk.2.2;omega);have Cr:Fr (fun k o=>MFd bF k o∨k=p7) w6 wA:=EU.out.trans Av (fun k o h => .inr h.1);have hgp:g≠p7:=by omega
        obtain⟨⟨FN,FJ⟩,FF⟩:=Cw.at 69 (by decide);have Bm:=Cw.set1 69 (.slice (some ⟨g,0,none⟩) (i+1) cp) (En.setSigs (e:={ e1 with sigs:=(gl.take i).map fun x=>(zbt x).1 }) ⟨AN.out.1,AN.out.2.1,EM.out⟩ Cw.rg (.slice (some ⟨g,0,none⟩) (i+1) cp) ((gl.take (i+1)).map fun x=>(zbt x).1));have hB:Fr (fun k _=>k=p7) wA (wA.setCell ⟨p7,69,none⟩ (.slice (some ⟨g,0,none⟩) (i+1) cp)):=Fr.refl.setCell _ _ (fun _ _=>rfl)
        have Bh:(wA.setCell ⟨p7,69,none⟩ (.slice (some ⟨g,0,none⟩) (i+1) cp)).ownsRow w6.heap.size 115 97 (.slice (some ⟨g,0,none⟩) (i+1) cp) (i+1) (((gl.take (i+1)).map fun x=>(zbt x).1).flatMap fun s=>s.cells.toList):=by
         have h1:=zcf AZ (w':=wA.setCell ⟨p7,69,none⟩ (.slice (some ⟨g,0,none⟩) (i+1) cp)) (fun k hk=>Below.heap_setCell _ _ _ _ (by
          show k≠p7;have:k=g:=by simpa[Value.ownBlock] using hk.symm
          omega))
         have e:(((gl.take (i+1)).map fun x=>(zbt x).1).flatMap fun s=>s.cells.toList)=(((gl.take i).map fun x=>(zbt x).1).flatMap fun s=>s.cells.toList)++Ao.toList:=by
          rw[Htk.out,List.flatMap_append,DG.out,← EP.out];simp
         rw[e];exact h1
        have Ag:=Ct.keepE Cw (by omega) CO hB;have Ae:=Ck.fr hB (fun k o hk _ h=>by have h2:k=p7:=h;exact hk.2.1 h2);have Af:=Cr.trans' (hB.mono (M':=fun k o=>MFd bF k o∨k=p7) (fun _ _ h => .inr h));clear Fg
        go_wp2_with fail
        obtain⟨wB,Ec⟩:∃ z,wA.setCell ⟨p7,69,none⟩ (.slice (some ⟨g,0,none⟩) (i+1) cp)=z:=⟨_,rfl⟩;rw[Ec]at Bm Bh Ag Ae Af ⊢;have EY:=za Bm;have ET:=za Bh
        have DL:=za (show FB S bF { f3 with bad:=f3.bad||(gl.take (i+1)).any fun x=>(zbt x).2 } wB from by
         rw[EO.out,← Bool.or_assoc,Hbi.out,DG.out]
         exact Ag)
        have DE:=za Ae;have DK:=za Af;clear Ec Bm Bh Ag Ae Af hB Cw Ct Ck Cr Av Ei AZ A4 CW Ac hg3 FN FJ FF
        go_roundg (gk - 1)
        case measure=>omega
        case rel=>exact⟨i+1,_,by simp,by omega,by omega,EY,ET,DL,DE,DK⟩
      obtain rfl:i=gl.length:=by omega
      have hY:=zf9 S bF _ wr Aj.out;have CB:=Fv.out;simp only[J.list]at CB;have Cg:(gl.map zbt).any (fun x=>x.2)=gl.any fun x=>(zbt x).2:=by rw[List.any_map];rfl
      have CT:(gl.map zbt).map (fun x=>x.1)=gl.map fun x=>(zbt x).1:=by rw[List.map_map];rfl
      rw[List.take_length]at B6 Howni Aj hY;obtain⟨FD,ED⟩:∃ z,zdp { f3 with bad:=f3.bad||gl.any fun x=>(zbt x).2 }=z:=⟨_,rfl⟩;rw[ED]at hY;simp only[Cg,CT,ED]at CB;obtain⟨LS,Cp⟩:∃ z,(gl.map fun x=>(zbt x).1)=z:=⟨_,rfl⟩;rw[Cp]at B6 Howni CB
      have AB:∀ x∈LS,x.ok:=fun x hx=>by
       rw[← Cp]at hx;obtain⟨q,-,rfl⟩:=List.mem_map.1 hx;exact zp7 q
      have BN:LS.length=gl.length:=by rw[← Cp,List.length_map]
      obtain⟨ee,BY⟩:∃ z,{ e1 with sigs:=LS }=z:=⟨_,rfl⟩;have BX:ee.ok:=by rw[← BY];exact⟨AN.out.1,AN.out.2.1,AB⟩
      have DY:ee.sigs=LS:=by rw[← BY]
      have DZ:ee.payload=e1.payload:=by rw[← BY]
      rw[BY]at B6 CB;have CJ:=Hshort.out;have El:ee.typ=e1.typ:=by rw[← BY]
      have Em:ee.ident=e1.ident:=by rw[← BY]
      have Dr:GS (fun k=>w6.heap.size≤k) ee.sigs AS wr:=by
       rw[DY];refine GS.ofOwn ?_ AB;rw[BN];exact Howni.out
      have AQ:SB (fun k=>W5.heap.size≤k∧k≠p7∧k<w6.heap.size) ee.payload pv wr:=by rw[DZ];exact Az.out
      have CV:∀ x∈ee.sigs,x.id.length≤1000000:=fun x hx=>by
       rw[DY,← Cp]at hx;obtain⟨q,hq,rfl⟩:=List.mem_map.1 hx;obtain⟨n,hn⟩:=List.getElem?_of_mem hq;exact zw0 (AH.out.at (j := .mk _ gn gt gl gq) hn)
      have Ds:gl.length≤1000000:=(fits.open AH.out.2).2.1;have h5w:w.heap.size≤W5.heap.size:=BD.out.size;have h56:W5.heap.size≤w6.heap.size:=Bv.out.size;have EB:Fr NoB w wr:=(BD.out.trans Bv.out (fun k o hm => .inr (by have:=hm.1;have:=Hb.out;omega))).trans hz.out (fun k o hm => .inr (by rcases hm with hm | hm;have:=hm.1;have:=Hb.out;omega;omega))
      have CP:wr.heap[p2]? = some (.cells Tryz.zeroCells28 28 (0,0)):=by
       have hpp:=Hp.out;have h1:=Bv.out.block _ _ Ay.out (fun h=>by have:=h.1;omega);have h2:=jb Ay.out;exact hz.out.block _ _ h1 (fun h=>by rcases h with h | h;have:=h.1;omega;omega)
      have AE:=En.size BX pv AS;have Ca:=fun V (hV:Fr NoB wr V)=>znj zh2 _ _ ee pv AS V BX (AQ.fr hV (fun _ _ _ _ h=>h)) (Dr.fr hV (fun _ _ _ h=>h)) ((zog AQ (Hg.out.fr EB (fun _ _ _ h=>h.elim)) (by rw[DZ];exact CJ.2.2)).fr hV) (by rw[El];exact CJ.1) (by rw[Em];exact CJ.2.1) (by rw[DZ];have:=CJ.2.2;omega) (by rw[DY,BN];exact Ds) CV
      have hlti:decide ((gl.length:Int)<gl.length)=false:=by simp
      have Dj:=za B6.out;have Hgs:=za Dr;have Hsb:=za AQ;have E5:=za EB;have C1:=za CP;have C9:=za Ca;have Hdone:=za hY;have ER:=za CB;have Heok:=za BX;clear Ca Dr AQ EB CP hY CB ED Cp AB BN BY DY DZ El Em CV Cg CT Az hz Aj Howni B6 CJ;cases FD with
      | false =>
        obtain rfl:(none:Option En)=R:=by simpa using ER.out
        go_wp2_with fail
        refine Hdone.out.mono ?_;rintro r CH ⟨rfl,ha⟩;have Ai:=za (show CH.there p2 0 zEn.size from jf (ha.block _ _ C1.out (fun h=>h)) (by rw[zdr];exact zt _));have Al:=za (E5.out.trans' ha);clear ha
        go_wp2_with (first
         | ((with_reducible refine wpList_buildTo ?_ 28 _ rfl _ rfl zEn ?_ ?_);rfl;kernel_rfl)
         | (with_reducible refine wpList_store_mid rfl 28 _ _ rfl p2 0 zEn rfl rfl Ai.out EL.out Bo.out ?_))
        have An:=run_loadVar_mid (P:=ze) (CH.setCells p2 0 zEn.toList) p2 0 28 zEn.toList dE (zg CH p2 0 zEn.toList (by simpa using Ai.out)) Bp.out B1.out Br.out;refine bodyPost_ret (v := .tuple #[.agg zEn,.iface 49 (.int .i64 11)]) ?_ rfl ⟨rfl,Al.out.trans (z8 _ _ _ _) (fun k _ hm => .inr (by have:=Hb.out;have:=Hp.out;have h2:k=p2:=hm;omega))⟩;rw[results_cell_tmp rfl];simp only[Array.toArray_toList]at An;simp[asAddr,Result.andThen,An]
      | true =>
        have Hszc:=za (show(Tryz.prog.info? 28).map (·.size)=some (ee.cells pv AS).length by rw[jc,AE]);have A9:=za (show(Tryz.prog.info? 28).map (·.size)=some (ee.cells pv AS).toArray.size by rw[jc,zn,AE])
        have DA:=za (show(ee.cells pv AS).toArray.all (·.oneCell')=true from En.one (by rw[Hpv.out];rfl) (by
         obtain⟨q1,q2,q3,-⟩:=Hgs.out
         rw[q3];rfl))
        have EH:=Dj.out.rg;obtain⟨CE,Bn⟩:∃ z,ee.cells pv AS=z:=⟨_,rfl⟩;have Fy:=za Bn;rw[Bn]at EH Hszc A9 DA C9 AE;have CN:=Dj.out.lt;have DP:=za EH;clear EH Bn
        go_wp2_with fail
        refine Hdone.out.mono ?_;rintro r CH ⟨rfl,ha⟩;have B3:=za (ji DP.out ha CN (fun _ h=>h));have Al:=za ha;clear ha
        go_wp2_with (first
         | (with_reducible refine qh 28 _ rfl p7 0 rfl CE dE B3.out Bp.out B1.out Hszc.out rfl ?_)
         | ((with_reducible refine wpList_load_mid ?_ 28 _ rfl p7 0 ?_ CE dE B3.out Bp.out ?_ Hszc.out ?_);rfl;rfl;exact B1.out))
        refine(C9.out _ Al.out).mono ?_;rintro r BE ⟨rfl,Cv⟩;unfold z1n;have Ak:=za (Al.out.trans' Cv);have BC:=za (E5.out.trans' Ak.out);have ES:=za (ji DP.out Ak.out CN (fun _ h=>h));have BA:=za (Ak.out.block _ _ C1.out (fun h=>h));clear Cv Al B3;cases DU:zce zh2 ee with
        | false =>
          obtain rfl:(none:Option En)=R:=by simpa[DU] using ER.out
          have Ai:=za (show BE.there p2 0 zEn.size from jf BA.out (by rw[zdr];exact zt _));clear DU
          go_wp2_with (first
           | ((with_reducible refine wpList_buildTo ?_ 28 _ rfl _ rfl zEn ?_ ?_);rfl;kernel_rfl)
           | (with_reducible refine wpList_store_mid rfl 28 _ _ rfl p2 0 zEn rfl rfl Ai.out EL.out Bo.out ?_))
          have An:=run_loadVar_mid (P:=ze) (BE.setCells p2 0 zEn.toList) p2 0 28 zEn.toList dE (zg BE p2 0 zEn.toList (by simpa using Ai.out)) Bp.out B1.out Br.out;refine bodyPost_ret (v := .tuple #[.agg zEn,.iface 49 (.int .i64 11)]) ?_ rfl ⟨rfl,BC.out.trans (z8 _ _ _ _) (fun k _ hm => .inr (by have:=Hb.out;have:=Hp.out;have h2:k=p2:=hm;omega))⟩;rw[results_cell_tmp rfl];simp only[Array.toArray_toList]at An;simp[asAddr,Result.andThen,An]
        | true =>
          obtain rfl:some ee=R:=by simpa[DU] using ER.out
          have Ai:=za (show BE.there p2 0 CE.toArray.size from jf BA.out (by rw[zn,AE];exact zt 70));clear DU
          go_wp2_with (first
           | ((with_reducible refine wpList_load_mid ?_ 28 _ rfl p7 0 ?_ CE dE ES.out Bp.out ?_ Hszc.out ?_);rfl;rfl;exact B1.out)
           | (with_reducible refine wpList_store_mid rfl 28 _ _ rfl p2 0 CE.toArray rfl rfl Ai.out A9.out DA.out ?_))
          have An:=run_loadVar_mid (P:=ze) (BE.setCells p2 0 CE) p2 0 28 CE dE (zg BE p2 0 CE (by simpa using Ai.out)) Bp.out B1.out Hszc.out;have hB:=z8 p2 CE 0 BE;have hp2W:p2<W5.heap.size:=jb Ay.out;refine bodyPost_ret (v := .tuple #[.agg CE.toArray,.nilIface]) ?_ rfl ⟨⟨pv,AS,by rw[Fy.out],?_,?_,Heok.out⟩,BC.out.trans hB (fun k _ hm => .inr (by have:=Hb.out;have:=Hp.out;have h2:k=p2:=hm;omega))⟩
          ·rw[results_cell_tmp rfl];simp[asAddr,Result.andThen,An]
          ·exact(Hsb.out.fr Ak.out (fun _ _ _ _ h=>h)).kp (fun k o hk ho _=>⟨by have:=Hb.out;have:=hk.1;omega,hB.block k o ho (fun h=>by have h2:k=p2:=h;have:=hk.1;omega)⟩)
          have Fa:=(Hgs.out.fr Ak.out (fun _ _ _ h=>h)).fr hB (fun k o hk h=>by have h2:k=p2:=h;omega);obtain⟨qa,qc,q1,q2,q3 | ⟨qb,qo,q4,q5,q6,q7⟩⟩:=Fa
          ·exact⟨qa,qc,q1,q2,.inl q3⟩
          exact⟨qa,qc,q1,q2,.inr ⟨qb,qo,q4,by have:=Hb.out;omega,q6,q7⟩⟩
end Go.Proofs.YtmgfncjfgkllcaaGreatDoor
