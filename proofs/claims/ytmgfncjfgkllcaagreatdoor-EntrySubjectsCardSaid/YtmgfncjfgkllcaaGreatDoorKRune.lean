/-
 The walks of package coder: digests by their figures.
-/
import Derived.Test.YtmgfncjfgkllcaaGreatDoorKUnhex
import Derived.Deep.MidRow
import Derived.Deep.WholeRow
import Derived.Test.YtmgfncjfgkllcaaGreatDoorKSpecB64
import Derived.Laws.Runes
import Derived.StillTactics
import Derived.WalkMore
import Derived.Deep.LoopGhost
import Derived.StillTailTactics
open Go.Lib renaming hid→za,byteCells→zb
open Go.Proofs.Tryz renaming prog→ze
open Nat renaming le_refl→zt
open Go.Value renaming int→zy
open Go.IntKind renaming u8→z6
namespace Go.Proofs.YtmgfncjfgkllcaaGreatDoor
set_option linter.unusedVariables false
set_option linter.unusedSimpArgs false
set_option linter.unusedSectionVars false
set_option maxRecDepth 100000
set_option maxHeartbeats 1000000
section
open Go.RowKit
variable [OldK]
theorem zy6 (s:Bs) (w:World) (hlen:s.length≤1000000) :
 Calls ze 141 #[.string ⟨s.toArray⟩] w fun e w'=>zl9 w.heap.size (ze6 s) e w'∧Fr NoB w w':=by
 have hc:=fun W=>zqu hexes 4 (.inl rfl) rfl s W hlen
 unfold ze6;obtain⟨X,hX⟩:∃ X:Bs,X=hexes:=⟨_,rfl⟩;have hh:=zu1 w;rw[← hX]at hc hh ⊢;obtain⟨R,hR⟩:∃ R,zap X 4 0 0 [] s=R:=⟨_,rfl⟩;rw[hR]at hc ⊢;have Hc:=za hc;have Hh:=za hh;clear hc hh hX hR;cases R with
 | none =>
   go_enter Tryz.func141,Tryz.ntmps141
   go_wp2_with fail
   refine Hh.out.mono ?_;rintro e w1 ⟨rfl,hA⟩;have hB:=za hA;clear hA
   go_wp2_with fail
   refine(Hc.out _).mono ?_;rintro e w2 ⟨hp,hC⟩;obtain rfl:e=_:=hp
   go_wp2_with fail
   go_ret2;exact⟨rfl,hB.out.trans' hC⟩
 | some b =>
   go_enter Tryz.func141,Tryz.ntmps141
   go_wp2_with fail
   refine Hh.out.mono ?_;rintro e w1 ⟨rfl,hA⟩;have hB:=za hA;clear hA
   go_wp2_with fail
   refine(Hc.out _).mono ?_;rintro e w2 ⟨⟨a,c,rfl,hD⟩,hC⟩
   go_wp2_with fail
   go_ret2;exact⟨⟨a,c,rfl,hD.kp (fun k o hk ho _=>⟨by have:=hB.out.size;omega,ho⟩)⟩,hB.out.trans' hC⟩
theorem zyy (ad:Addr)(n c:Nat)(w:World)(h:n≤c) :
 Calls ze 214 #[.slice (some ad) n c] w fun e w'=>e = .returned (.slice (some ad) n n)∧w=w':=by
 have h1:(n:Int)≤(c:Int):=by omega
 go_enter Tryz.func214,Tryz.ntmps214
 go_wp2_with fail
 go_ret;exact⟨rfl,rfl⟩
def zn9 (B:Nat) (r:Option Bs) (e:Ending) (w':World):Prop :=
 match r with
 | some b=>∃ a,e = .returned (.tuple #[.slice a b.length b.length,.nilIface])∧SB (fun k=>B≤k) b (.slice a b.length b.length) w'
 | none=>e = .returned (.tuple #[.slice none 0 0,.iface 49 (.int .i64 1)])
theorem znh (s:Bs) (w:World) (hlen:s.length≤1000000) :
 Calls ze 140 #[.func (.func 141) #[] #[],.string ⟨s.toArray⟩,.int .i64 32] w fun e w'=>zn9 w.heap.size (zii s) e w'∧Fr NoB w w':=by
 have hc:=zy6 s w hlen;unfold zii;obtain⟨R,hR⟩:∃ R,ze6 s=R:=⟨_,rfl⟩;rw[hR]at hc ⊢;have Hc:=za hc;clear hc hR;have hent:∀ hC w,(callFunc 141 hC).run ze w = .ok (.enter 141 hC) w:=fun hC w=>by simp[go_sem]
 cases R with
 | none =>
   go_enter Tryz.func140,Tryz.ntmps140
   go_wp2_with fail
   refine Hc.out.mono ?_;rintro e w2 ⟨hp,hB⟩;obtain rfl:e=_:=hp
   go_wp2_with fail
   go_ret2;exact⟨rfl,hB⟩
 | some b =>
   simp only;by_cases hA:b.length=32
   ·rw[if_pos hA];have hF:=Hc;clear Hc;go_enter Tryz.func140,Tryz.ntmps140
    go_wp2_with fail
    refine hF.out.mono ?_;rintro e w2 ⟨⟨a,c,rfl,hD⟩,hB⟩;obtain⟨g,o,c',e1,hH,-,-,-⟩:=hD.cellsAt (by intro h;rw[h]at hA;simp at hA);obtain⟨rfl,rfl⟩:a=some ⟨g,o,none⟩∧c=c':=by simpa using e1
    have hl:=hD;have Hsb:=za hD;have hG:=za hB;rw[hA]at hH;have hE:((b.length:Int) != 32)=false:=by rw[hA];rfl
    have Hcl:=za (zyy ⟨g,o,none⟩ b.length c w2 (by omega));have H32:=za hA;clear e1 hl hD hB hA
    go_wp2_with fail
    refine Hcl.out.mono ?_;rintro e w3 ⟨rfl,rfl⟩
    go_wp2_with fail
    go_ret2;refine⟨⟨_,rfl,?_⟩,hG.out⟩;obtain⟨a',cp,hv,hcp,hx⟩:=Hsb.out;simp only[Value.slice.injEq]at hv;obtain⟨rfl,-,-⟩:=hv;exact⟨_,_,rfl,zt _,hx⟩
   rw[if_neg hA];have hF:=Hc;clear Hc;go_enter Tryz.func140,Tryz.ntmps140
   go_wp2_with fail
   refine hF.out.mono ?_;rintro e w2 ⟨⟨a,c,rfl,hD⟩,hB⟩;have hG:=za hB;have hE:((b.length:Int) != 32)=true:=by simp;omega
   have h32n:(b.length != 32)=true:=by simp;omega
   clear hD hB
   go_wp2_with fail
   go_ret2;exact⟨rfl,hG.out⟩
def z0l (r:Option Bs) (e:Ending):Prop :=
 match r with
 | some b=>e = .returned (.tuple #[.agg (zb b).toArray,.nilIface])
 | none=>e = .returned (.tuple #[.agg #[zy z6 0,zy z6 0,zy z6 0,zy z6 0,zy z6 0,zy z6 0,zy z6 0,zy z6 0,zy z6 0,zy z6 0,zy z6 0,zy z6 0,zy z6 0,zy z6 0,zy z6 0,zy z6 0,zy z6 0,zy z6 0,zy z6 0,zy z6 0,zy z6 0,zy z6 0,zy z6 0,zy z6 0,zy z6 0,zy z6 0,zy z6 0,zy z6 0,zy z6 0,zy z6 0,zy z6 0,zy z6 0],.iface 49 (.int .i64 1)])
theorem jr:(Tryz.prog.info? 23).map (·.size)=some 32:=by kernel_rfl
theorem jh:Tryz.prog.underlying 23=some (.array 32 5):=by kernel_rfl
theorem jm {w:World}{b:Nat}{cs:Array Value}{T:TypeId}{f:Nat × Nat}(h:w.heap[b]? = some (.cells cs T f)):w.rangeAt b 0 cs.toList:=by
 intro j v hv;rw[Array.getElem?_toList]at hv;simp[World.cell?,h,hv]
theorem jf {w:World} {b n:Nat} {cs:Array Value} {T:TypeId} (h:w.heap[b]? = some (.cells cs T (0,0))) (hn:n≤cs.size):w.there b 0 n:=by
 intro j hj;have hA:j<cs.size:=by omega
 have:cs[0+j]? = some cs[j]:=by rw[Nat.zero_add];exact Array.getElem?_eq_getElem hA
 have hc:w.cell? ⟨b,0+j,none⟩=some cs[j]:=by
  simp only[World.cell?,h];exact this
 exact⟨by rw[hc];rfl,by simp[World.frozen?,h]⟩
theorem z8 (b:Nat):∀ (vs:List Value) (o:Nat) (w:World),Fr (fun k _=>k=b) w (w.setCells b o vs)
 | [],_,_=>Fr.refl
 | v :: r,o,w=>by
   rw[World.setCells];exact(Fr.refl.setCell ⟨b,o,none⟩ v (fun _ _=>rfl)).trans' (z8 b r (o+1) _)
theorem z0r (s:Bs) (w:World) (hlen:s.length≤1000000) :
 Calls ze 79 #[.string ⟨s.toArray⟩] w fun e w'=>z0l (zii s) e∧Fr NoB w w':=by
 have hc:=fun W=>znh s W hlen
 have hl:=fun b h=>(zc4 s b).1 h
 obtain⟨R,hR⟩:∃ R,zii s=R:=⟨_,rfl⟩;rw[hR]at hc hl ⊢;have Hc:=za hc;clear hc hR;cases R with
 | none =>
   clear hl;go_enter Tryz.func79,Tryz.ntmps79
   go_wp2_with fail
   obtain⟨w1,hE⟩:∃ w1,w.alloc (.cells #[zy z6 0,zy z6 0,zy z6 0,zy z6 0,zy z6 0,zy z6 0,zy z6 0,zy z6 0,zy z6 0,zy z6 0,zy z6 0,zy z6 0,zy z6 0,zy z6 0,zy z6 0,zy z6 0,zy z6 0,zy z6 0,zy z6 0,zy z6 0,zy z6 0,zy z6 0,zy z6 0,zy z6 0,zy z6 0,zy z6 0,zy z6 0,zy z6 0,zy z6 0,zy z6 0,zy z6 0,zy z6 0] 23)=w1:=⟨_,rfl⟩;have hA:=heap_alloc_new w (.cells #[zy z6 0,zy z6 0,zy z6 0,zy z6 0,zy z6 0,zy z6 0,zy z6 0,zy z6 0,zy z6 0,zy z6 0,zy z6 0,zy z6 0,zy z6 0,zy z6 0,zy z6 0,zy z6 0,zy z6 0,zy z6 0,zy z6 0,zy z6 0,zy z6 0,zy z6 0,zy z6 0,zy z6 0,zy z6 0,zy z6 0,zy z6 0,zy z6 0,zy z6 0,zy z6 0,zy z6 0,zy z6 0] 23);have hF:=(Fr.refl (M:=NoB)).alloc (w:=w) (.cells #[zy z6 0,zy z6 0,zy z6 0,zy z6 0,zy z6 0,zy z6 0,zy z6 0,zy z6 0,zy z6 0,zy z6 0,zy z6 0,zy z6 0,zy z6 0,zy z6 0,zy z6 0,zy z6 0,zy z6 0,zy z6 0,zy z6 0,zy z6 0,zy z6 0,zy z6 0,zy z6 0,zy z6 0,zy z6 0,zy z6 0,zy z6 0,zy z6 0,zy z6 0,zy z6 0,zy z6 0,zy z6 0] 23);rw[hE]at hA hF ⊢;clear hE;refine(Hc.out _).mono ?_;rintro e w2 ⟨hp,hC⟩;obtain rfl:e=_:=hp;have hD:=hC.block _ _ hA (fun h=>h);have HT:=za (jf hD (n:=32) (by simp));have H1:=za (show((#[zy z6 0,zy z6 0,zy z6 0,zy z6 0,zy z6 0,zy z6 0,zy z6 0,zy z6 0,zy z6 0,zy z6 0,zy z6 0,zy z6 0,zy z6 0,zy z6 0,zy z6 0,zy z6 0,zy z6 0,zy z6 0,zy z6 0,zy z6 0,zy z6 0,zy z6 0,zy z6 0,zy z6 0,zy z6 0,zy z6 0,zy z6 0,zy z6 0,zy z6 0,zy z6 0,zy z6 0,zy z6 0]:Array Value).all (·.oneCell'))=true by simp[Value.oneCell']);have HA2:=za hD;have HF:=za (hF.trans' hC);clear hA hF hC hD
   go_wp2_with(refine wpList_store_mid rfl 23 _ _ rfl w.heap.size 0 #[zy z6 0,zy z6 0,zy z6 0,zy z6 0,zy z6 0,zy z6 0,zy z6 0,zy z6 0,zy z6 0,zy z6 0,zy z6 0,zy z6 0,zy z6 0,zy z6 0,zy z6 0,zy z6 0,zy z6 0,zy z6 0,zy z6 0,zy z6 0,zy z6 0,zy z6 0,zy z6 0,zy z6 0,zy z6 0,zy z6 0,zy z6 0,zy z6 0,zy z6 0,zy z6 0,zy z6 0,zy z6 0] rfl rfl HT.out jr H1.out ?_)
   have hH:=run_loadVar_mid (P:=ze) _ w.heap.size 0 23 (#[zy z6 0,zy z6 0,zy z6 0,zy z6 0,zy z6 0,zy z6 0,zy z6 0,zy z6 0,zy z6 0,zy z6 0,zy z6 0,zy z6 0,zy z6 0,zy z6 0,zy z6 0,zy z6 0,zy z6 0,zy z6 0,zy z6 0,zy z6 0,zy z6 0,zy z6 0,zy z6 0,zy z6 0,zy z6 0,zy z6 0,zy z6 0,zy z6 0,zy z6 0,zy z6 0,zy z6 0,zy z6 0]:Array Value).toList (.array 32 5) (World.rangeAt_setCells_same w2 w.heap.size 0 (#[zy z6 0,zy z6 0,zy z6 0,zy z6 0,zy z6 0,zy z6 0,zy z6 0,zy z6 0,zy z6 0,zy z6 0,zy z6 0,zy z6 0,zy z6 0,zy z6 0,zy z6 0,zy z6 0,zy z6 0,zy z6 0,zy z6 0,zy z6 0,zy z6 0,zy z6 0,zy z6 0,zy z6 0,zy z6 0,zy z6 0,zy z6 0,zy z6 0,zy z6 0,zy z6 0,zy z6 0,zy z6 0]:Array Value).toList HT.out) jh rfl jr;refine bodyPost_ret (v := .tuple #[.agg #[zy z6 0,zy z6 0,zy z6 0,zy z6 0,zy z6 0,zy z6 0,zy z6 0,zy z6 0,zy z6 0,zy z6 0,zy z6 0,zy z6 0,zy z6 0,zy z6 0,zy z6 0,zy z6 0,zy z6 0,zy z6 0,zy z6 0,zy z6 0,zy z6 0,zy z6 0,zy z6 0,zy z6 0,zy z6 0,zy z6 0,zy z6 0,zy z6 0,zy z6 0,zy z6 0,zy z6 0,zy z6 0],.iface 49 (.int .i64 1)]) ?_ rfl ⟨rfl,HF.out.trans (z8 _ _ _ _) (fun k _ hm => .inr (by omega))⟩;rw[results_cell_tmp rfl];simp only[Array.toArray_toList]at hH;simp[asAddr,Result.andThen,hH]
 | some b =>
   obtain⟨-,hI⟩:=hl b rfl;clear hl;go_enter Tryz.func79,Tryz.ntmps79
   go_wp2_with fail
   obtain⟨w1,hE⟩:∃ w1,w.alloc (.cells #[zy z6 0,zy z6 0,zy z6 0,zy z6 0,zy z6 0,zy z6 0,zy z6 0,zy z6 0,zy z6 0,zy z6 0,zy z6 0,zy z6 0,zy z6 0,zy z6 0,zy z6 0,zy z6 0,zy z6 0,zy z6 0,zy z6 0,zy z6 0,zy z6 0,zy z6 0,zy z6 0,zy z6 0,zy z6 0,zy z6 0,zy z6 0,zy z6 0,zy z6 0,zy z6 0,zy z6 0,zy z6 0] 23)=w1:=⟨_,rfl⟩;have hA:=heap_alloc_new w (.cells #[zy z6 0,zy z6 0,zy z6 0,zy z6 0,zy z6 0,zy z6 0,zy z6 0,zy z6 0,zy z6 0,zy z6 0,zy z6 0,zy z6 0,zy z6 0,zy z6 0,zy z6 0,zy z6 0,zy z6 0,zy z6 0,zy z6 0,zy z6 0,zy z6 0,zy z6 0,zy z6 0,zy z6 0,zy z6 0,zy z6 0,zy z6 0,zy z6 0,zy z6 0,zy z6 0,zy z6 0,zy z6 0] 23);have hF:=(Fr.refl (M:=NoB)).alloc (w:=w) (.cells #[zy z6 0,zy z6 0,zy z6 0,zy z6 0,zy z6 0,zy z6 0,zy z6 0,zy z6 0,zy z6 0,zy z6 0,zy z6 0,zy z6 0,zy z6 0,zy z6 0,zy z6 0,zy z6 0,zy z6 0,zy z6 0,zy z6 0,zy z6 0,zy z6 0,zy z6 0,zy z6 0,zy z6 0,zy z6 0,zy z6 0,zy z6 0,zy z6 0,zy z6 0,zy z6 0,zy z6 0,zy z6 0] 23);rw[hE]at hA hF ⊢;clear hE;refine(Hc.out _).mono ?_;rintro e w2 ⟨⟨a,rfl,hJ⟩,hC⟩;have hD:=hC.block _ _ hA (fun h=>h);obtain⟨g,o,c',e1,-,-,-,hB⟩:=hJ.cellsAt (by intro h;rw[h]at hI;simp at hI);obtain⟨rfl,-⟩:a=some ⟨g,o,none⟩∧b.length=c':=by simpa using e1
   have hG:(zb b).length=32:=by simp[zb,hI]
   have hM:=za (show w2.rangeAt g o (zb b) from fun j v hv=>by
    unfold zb at hv;rw[List.getElem?_map]at hv;cases hx:b[j]? with
    | none=>rw[hx]at hv;simp at hv
    | some x =>
      rw[hx]at hv;obtain rfl:v = .int .u8 x.toNat:=by simpa using hv.symm
      exact hB j x hx)
   have HT:=za (jf hD (n:=(zb b).toArray.size) (by simp[hG]))
   have H1:=za (show((zb b).toArray.all (·.oneCell'))=true from all_oneCell_toArray (fun v hv=>by
    unfold zb at hv;rw[List.mem_map]at hv;obtain⟨x,_,rfl⟩:=hv
    rfl))
   have hK:=za (show(Tryz.prog.info? 23).map (·.size)=some (zb b).length by rw[jr,hG]);have hL:=za (show(Tryz.prog.info? 23).map (·.size)=some (zb b).toArray.size by rw[jr];simp[hG]);have HF:=za (hF.trans' hC);have Hbl:=za hG;clear hA hF hC hD hJ hB e1 hG;have hat:∀ W,(Instr.arrayAt 23 (.slice (some ⟨g,o,none⟩) 32 32)).run ze W = .ok (.pointer (some ⟨g,o,none⟩)) W:=fun W=>run_arrayAt W 23 5 32 _ 32 32 jh (zt _)
   go_wp2_with(first | (refine wpList_load_mid rfl 23 _ rfl g o rfl (zb b) (.array 32 5) hM.out jh rfl hK.out ?_) | (refine wpList_store_mid rfl 23 _ _ rfl w.heap.size 0 (zb b).toArray rfl rfl HT.out hL.out H1.out ?_))
   have hH:=run_loadVar_mid (P:=ze) _ w.heap.size 0 23 (zb b) (.array 32 5) (World.rangeAt_setCells_same w2 w.heap.size 0 (zb b) (by simpa using HT.out)) jh rfl hK.out;refine bodyPost_ret (v := .tuple #[.agg (zb b).toArray,.nilIface]) ?_ rfl ⟨rfl,HF.out.trans (z8 _ _ _ _) (fun k _ hm => .inr (by omega))⟩;rw[results_cell_tmp rfl];simp[asAddr,Result.andThen,hH]
end
section
open Go.RowKit
variable [OldK]
theorem zwb (n:Nat) (W:World) (hn:n≤1114111) :
 Calls ze 132 #[.int .i32 n] W fun e w'=>e = .returned (.bool (!zf0 n))∧∃ q,w'=W.drewN q:=by
 have hA:(!zf0 n)=(decide ((n:Int)<33)||decide ((126:Int)<n)):=by
  unfold zf0;by_cases h1:n<33<;>by_cases h2:126<n
  all_goals (first | (have e1:((n:Int)<33):=by omega) | (have e1:¬ ((n:Int)<33):=by omega))
  all_goals (first | (have e2:((126:Int)<n):=by omega) | (have e2:¬ ((126:Int)<n):=by omega))
  all_goals simp[e1,e2]
  all_goals omega
 rw[hA];obtain⟨b1,hC⟩:∃ b1,decide ((n:Int)<33)=b1:=⟨_,rfl⟩;obtain⟨b2,hB⟩:∃ b2,decide ((126:Int)<n)=b2:=⟨_,rfl⟩;rw[hC,hB];clear hA;cases b1<;>cases b2
 all_goals
  go_enter Tryz.func132,Tryz.ntmps132
  go_wp2_with fail
  go_ret;exact⟨rfl,0,rfl⟩
theorem zpl (s:Bs):s.any (fun c=>!zf0 c.toNat) = !s.all (fun c=>zf0 c.toNat):=by
 induction s with
 | nil=>rfl
 | cons c s ih=>simp[ih]
theorem ztp (s:Bs):(ByteArray.mk s.toArray).size=s.length:=rfl
theorem ztc (s:Bs) (w:World) (hlen:s.length≤1000000000000) :
 Calls ze 65 #[.string ⟨s.toArray⟩] w fun e w'=>e = .returned (.bool (zcd s))∧Fr NoB w w':=by
 have hG:∀ args w,(callFunc 132 args).run ze w = .ok (.enter 132 args) w:=enters_of Tryz.func132 (by kernel_rfl) rfl
 have hC:=fun W:World=>Tryz.strings_ContainsFunc_runes 132 #[] hG (fun n=>!zf0 n) ⟨s.toArray⟩ W (fun W' x hx _=>by
  have:=zwb x W' hx
  exact this)
 have hF:=fun W:World=>Tryz.strings_HasPrefix ⟨s.toArray⟩ ⟨sReserved.toArray⟩ W
 rw[zu0 (fun n=>!zf0 n) (fun r hr=>by simp[zf0];omega) s,zpl s]at hC;obtain⟨P,hP⟩:∃ P,zcd s=P:=⟨_,rfl⟩;rw[hP];unfold zcd at hP;obtain⟨b3,hH⟩:∃ b3,s.all (fun c=>zf0 c.toNat)=b3:=⟨_,rfl⟩;obtain⟨b4,hD⟩:∃ b4,Lib.hasPrefix s sReserved=b4:=⟨_,rfl⟩;rw[hH]at hC hP;rw[hD]at hP
 have hB:∀ W,Calls ze 134 #[.string ⟨s.toArray⟩,.string ⟨sReserved.toArray⟩] W fun e w'=>e = .returned (.bool b4)∧w'=W:=fun W=>by
  have:=hF W;rw[show(ByteArray.mk s.toArray).data.toList=s from by simp,show(ByteArray.mk sReserved.toArray).data.toList=sReserved from by simp,hD]at this;exact this
 have Hcf:=za hC;have Hpf:=za hB;have hJ:=ztp s;clear hC hF hB hH hD hG;cases s with
 | nil =>
   obtain rfl:false=P:=hP;go_enter Tryz.func65,Tryz.ntmps65
   go_wp2_with fail
   go_ret;exact⟨rfl,Fr.refl⟩
 | cons c r =>
   have hK:(c :: r:Bs).isEmpty=false:=rfl;rw[List.isEmpty_cons]at hP;obtain⟨l,hl⟩:∃ l,(c :: r:Bs)=l:=⟨_,rfl⟩;rw[hl]at hP Hcf Hpf hJ hK hlen ⊢;clear hl;by_cases hI:l.length≤64
   ·have hE:decide ((l.length:Int)≤64)=true:=by simp;omega
    have hA:decide (l.length≤64)=true:=by simp;omega
    rw[hA]at hP;clear hI;cases b3 with
    | false =>
      obtain rfl:false=P:=by simpa using hP
      clear hP;go_enter Tryz.func65,Tryz.ntmps65
      go_wp2_with fail
      refine(Hcf.out _).mono ?_;rintro e w1 ⟨rfl,hb⟩;have HF:=za (Fr.ofBelow hb);clear hb
      go_wp2_with fail
      go_ret;exact⟨rfl,HF.out⟩
    | true =>
      obtain rfl:(!b4)=P:=by simpa using hP
      clear hP;go_enter Tryz.func65,Tryz.ntmps65
      go_wp2_with fail
      refine(Hcf.out _).mono ?_;rintro e w1 ⟨rfl,hb⟩;have HF:=za (Fr.ofBelow hb);clear hb
      go_wp2_with fail
      refine(Hpf.out _).mono ?_;rintro e w2 ⟨rfl,rfl⟩
      go_wp2_with fail
      go_ret;exact⟨rfl,HF.out⟩
   have hE:decide ((l.length:Int)≤64)=false:=by simp;omega
   have hA:decide (l.length≤64)=false:=by simp;omega
   rw[hA]at hP;obtain rfl:false=P:=by simpa using hP
   clear hI hP;go_enter Tryz.func65,Tryz.ntmps65
   go_wp2_with fail
   go_ret;exact⟨rfl,Fr.refl⟩
end
section
open Go.RowKit
variable [OldK]
def zq3 (g:Nat) (p:Nat→Bool):Prop :=
 ∀ (W:World) (x:Nat),x≤1114111→Calls ze g #[.int .i32 (x:Int)] W fun e w'=>e = .returned (.bool (p x))∧Below W.heap.size W w'
theorem zxk (g:Nat) (eg:∀ args w,(callFunc g args).run ze w = .ok (.enter g args) w) (p:Nat→Bool) (s:ByteArray) (w:World) (hp:zq3 g p) :
 Calls ze 263 #[.string s,.func (.func g) #[] #[],.bool true] w fun e w'=>e = .returned (.int .i64 (Lib.idxFunc p true s))∧Below w.heap.size w w':=by
 go_enter Tryz.func263,Tryz.ntmps263
 go_wp2_with fail
 go_loopg [] s.size (fun gf wx=>∃ i:Nat,wx.heap[w.heap.size]? = some (.stringIter s i)∧Below w.heap.size w wx∧Lib.idxFuncFrom p true s gf i=Lib.idxFunc p true s∧s.size≤i+gf)
 case atStart=>exact⟨0,World.iter_heap w s 0,(Below.refl _ w).alloc (zt _) _,rfl,by omega⟩
 case round =>
  obtain⟨i,hD,hB,hG,hf⟩:=hrel;by_cases hi:i<s.size
  ·obtain ⟨h,rfl⟩:∃ h,gk=h+1:=⟨gk - 1,by omega⟩;have hn:∀ ty,(Instr.next (.pointer (some ⟨w.heap.size,0,none⟩)) true ty).run ze wr=_:=fun ty=>Lib.run_next_any_at wr w.heap.size s i ty hD hi
   have hw:=Lib.width_pos s i;have hr:=Lib.rune_le s i;rw[Lib.idxFuncFrom,if_pos hi]at hG;obtain⟨R,hR⟩:∃ R,(Utf8.decode s i).1=R:=⟨_,rfl⟩;obtain⟨L,hL⟩:∃ L,(Utf8.decode s i).2=L:=⟨_,rfl⟩;rw[hR,hL]at hG hn;rw[hR]at hr;rw[hL]at hw;have hA:=Lib.iterAt_heap wr w.heap.size s i (i+L) hD;have hC:=Lib.below_iterAt hB (k:=w.heap.size) (zt _) s (i+L);obtain⟨W,hW⟩:∃ W,wr.iterAt w.heap.size s (i+L)=W:=⟨_,rfl⟩;rw[hW]at hn hA hC;have hc:=hp W R hr;clear hp hD hB hR hL hr hW;cases hx:p R with
   | true =>
     rw[hx]at hc;rw[hx,if_pos rfl]at hG
     go_wp2_with(go_at_fn g;refine hc.mono ?_;rintro e W' ⟨rfl,hE⟩)
     go_ret;exact⟨by rw[← hG]<;>rfl,hC.trans (hE.mono hC.size)⟩
   | false =>
     rw[hx]at hc;rw[hx,if_neg (by simp)]at hG
     go_wp2_with(go_at_fn g;refine hc.mono ?_;rintro e W' ⟨rfl,hE⟩)
     go_roundg h
     case measure=>omega
     case rel=>exact⟨i+L,by rw[hE.block _ (jb hA)];exact hA,hC.trans (hE.mono hC.size),hG,by omega⟩
  have hn:∀ ty,(Instr.next (.pointer (some ⟨w.heap.size,0,none⟩)) true ty).run ze wr=_:=fun ty=>Lib.run_next_end_at wr w.heap.size s i ty hD hi
  rw[Lib.idxFuncFrom_end p true s gk i hi]at hG
  go_wp2_with fail
  go_ret;exact⟨by rw[← hG]<;>rfl,hB⟩
theorem zpe (g:Nat) (eg:∀ args w,(callFunc g args).run ze w = .ok (.enter g args) w) (p:Nat→Bool) (s:ByteArray) (w:World) (hp:zq3 g p) :
 Calls ze 133 #[.string s,.func (.func g) #[] #[]] w fun e w'=>e = .returned (.bool (decide (0≤Lib.idxFunc p true s)))∧Below w.heap.size w w':=by
 have Hc:=za (zxk g eg p s w hp)
 have hi:Calls ze 204 #[.string s,.func (.func g) #[] #[]] w fun e w'=>e = .returned (.int .i64 (Lib.idxFunc p true s))∧Below w.heap.size w w':=by
  go_enter Tryz.func204,Tryz.ntmps204
  go_wp2_with fail
  refine Hc.out.mono ?_;rintro e W' ⟨rfl,hB⟩
  go_wp2_with fail
  go_ret;exact⟨rfl,hB⟩
 have Hi:=za hi;clear hi Hc;go_enter Tryz.func133,Tryz.ntmps133
 go_wp2_with fail
 refine Hi.out.mono ?_;rintro e W' ⟨rfl,hB⟩
 go_wp2_with fail
 go_ret;exact⟨rfl,hB⟩
end
section
open Go.RowKit
variable [OldK]
theorem zvj (n:Nat) (h1:128≤n) (h2:n≤1114111) (hv:Lib.validRune (n:Int)=true) :
 (∃ a b:UInt8,Utf8.encode (n:Int)=⟨#[a,b]⟩∧128≤b.toNat)∨(∃ a b c:UInt8,Utf8.encode (n:Int)=⟨#[a,b,c]⟩∧128≤c.toNat)∨(∃ a b c d:UInt8,Utf8.encode (n:Int)=⟨#[a,b,c,d]⟩∧128≤d.toNat):=by
 have hx:Utf8.valid (n:Int)=true:=by
  unfold Lib.validRune at hv;unfold Utf8.valid;simp only[Bool.or_eq_true,Bool.and_eq_true,decide_eq_true_eq]at hv ⊢;omega
 unfold Utf8.encode;simp only[hx,if_true,Int.toNat_natCast,if_neg (show ¬ n<128 from by omega)];split
 ·exact .inl ⟨_,_,rfl,by simp;omega⟩
 split
 ·exact .inr (.inl ⟨_,_,_,rfl,by simp;omega⟩)
 exact .inr (.inr ⟨_,_,_,_,rfl,by simp;omega⟩)
theorem zwv (n:Nat)(w:World)(h1:128≤n)(h2:n≤1114111)(h3:n≠65533)(hv:Lib.validRune (n:Int)=false) :
 Calls ze 273 #[.string ⟨#[46,45,95,64]⟩,.int .i32 n] w fun e w'=>e = .returned (.int .i64 (-1))∧Below w.heap.size w w':=by
 have e1:decide ((0:Int)≤n)=true:=decide_eq_true (by omega);have e2:decide ((n:Int)<128)=false:=by simp;omega
 have e3:((n:Int)==65533)=false:=by simp;omega
 have hc:=fun W=>Tryz.utf8_ValidRune (n:Int) W
 rw[hv]at hc;have Hc:=za hc;clear hc h1 h2 h3 hv;go_enter Tryz.func273,Tryz.ntmps273
 go_wp2_with fail
 refine(Hc.out _).mono ?_;rintro e w2 ⟨rfl,rfl⟩
 go_wp2_with fail
 go_ret;exact⟨rfl,Below.refl _ _⟩
theorem zlo (x:UInt8) (hx:128≤x.toNat):∀ l:Bs,(∀ y∈l,y.toNat<128)→Lib.indexByte l x = -1
 | [],_=>rfl
 | y :: l,h=>by
   have h1:=zlo x hx l (fun z hz=>h z (List.mem_cons_of_mem _ hz));have h2:=h y List.mem_cons_self
   have hne:(y==x)=false:=by
    rw[beq_eq_false_iff_ne];rintro rfl;omega
   unfold Lib.indexByte;rw[hne,h1];rfl
theorem zjv (x:UInt8):((x.toNat:Int)).toNat.toUInt8=x:=by
 rw[Int.toNat_natCast];simp
theorem z0c (i:Nat)(hi:i<4):Utf8.decode ⟨#[46,45,95,64]⟩ i=(([46,45,95,64]:List Nat).getD i 0,1):=by
 rcases(by omega:i=0∨i=1∨i=2∨i=3) with rfl | rfl | rfl | rfl<;>rfl
theorem zwu (w:World) :
 Calls ze 273 #[.string ⟨#[46,45,95,64]⟩,.int .i32 65533] w fun e w'=>e = .returned (.int .i64 (-1))∧Below w.heap.size w w':=by
 obtain⟨s,hs⟩:∃ s:ByteArray,s=⟨#[46,45,95,64]⟩:=⟨_,rfl⟩;have h4:s.size=4:=by rw[hs];rfl
 have hd:∀ i,i<4→Utf8.decode s i=(([46,45,95,64]:List Nat).getD i 0,1):=by rw[hs];exact z0c
 rw[← hs];clear hs;go_enter Tryz.func273,Tryz.ntmps273
 go_wp2_with fail
 go_loopg [] 4 (fun gf wx=>∃ i:Nat,wx.heap[w.heap.size]? = some (.stringIter s i)∧Below w.heap.size w wx∧4≤i+gf)
 case atStart=>exact⟨0,World.iter_heap w s 0,(Below.refl _ w).alloc (zt _) _,by omega⟩
 case round =>
  obtain⟨i,hC,hB,hf⟩:=hrel;by_cases hi:i<4
  ·obtain ⟨h,rfl⟩:∃ h,gk=h+1:=⟨gk - 1,by omega⟩;have hn:∀ ty,(Instr.next (.pointer (some ⟨w.heap.size,0,none⟩)) true ty).run ze wr=_:=fun ty=>Lib.run_next_any_at wr w.heap.size s i ty hC (by omega)
   rw[hd i hi]at hn;obtain⟨R,hR⟩:∃ R,([46,45,95,64]:List Nat).getD i 0=R:=⟨_,rfl⟩
   have hne:((R:Int)==65533)=false:=by
    have:R<128:=by
     rw[← hR];rcases(by omega:i=0∨i=1∨i=2∨i=3) with rfl | rfl | rfl | rfl<;>decide
    simp;omega
   rw[hR]at hn;have hA:=Lib.iterAt_heap wr w.heap.size s i (i+1) hC;have hD:=Lib.below_iterAt hB (k:=w.heap.size) (zt _) s (i+1);obtain⟨W,hW⟩:∃ W,wr.iterAt w.heap.size s (i+1)=W:=⟨_,rfl⟩;rw[hW]at hA hD;simp only[hW]at hn;clear hC hB hR hW hd h4 hi
   go_wp2_with fail
   go_roundg h
   case measure=>omega
   case rel=>exact⟨i+1,hA,hD,by omega⟩
  have hn:∀ ty,(Instr.next (.pointer (some ⟨w.heap.size,0,none⟩)) true ty).run ze wr=_:=fun ty=>Lib.run_next_end_at wr w.heap.size s i ty hC (by omega)
  clear hd h4 hi
  go_wp2_with fail
  go_ret;exact⟨rfl,hB⟩
theorem zr0 (n:Nat) (a b:UInt8) (w:World) (h1:128≤n) (h2:n≤1114111) (h3:n≠65533) (hv:Lib.validRune (n:Int)=true) (hE:Utf8.encode (n:Int)=⟨#[a,b]⟩) (hl:128≤b.toNat) :
 Calls ze 273 #[.string ⟨#[46,45,95,64]⟩,.int .i32 n] w fun e w'=>e = .returned (.int .i64 (-1))∧Below w.heap.size w w':=by
 have e1:decide ((0:Int)≤n)=true:=decide_eq_true (by omega);have e2:decide ((n:Int)<128)=false:=by simp;omega
 have e3:((n:Int)==65533)=false:=by simp;omega
 have hc:=fun W=>Tryz.utf8_ValidRune (n:Int) W
 rw[hv]at hc;have Hc:=za hc
 have hcv:∀ W,(convert 21 9 (.int .i32 (n:Int))).run ze W = .ok (.string ⟨#[a,b]⟩) W:=fun W=>by
  rw[← hE];exact run_convert_int_string W _ _ .i32 n (by kernel_rfl) (by kernel_rfl)
 clear hc h1 h2 h3 hv hE;go_enter Tryz.func273,Tryz.ntmps273
 go_wp2_with fail
 refine(Hc.out _).mono ?_;rintro e w2 ⟨rfl,rfl⟩
 go_wp2_with fail
 go_step3
 go_wp2_with fail
 go_loopg [9] 1 (fun gf vi wx=>vi = .int .i64 1∧wx=w2)
 case atStart=>exact⟨rfl,rfl⟩
 case round =>
  obtain⟨rfl,rfl⟩:=hrel;have hG:(((45:Nat):Int) != b.toNat)=true:=by simp;omega
  have hA:((45:Int) != b.toNat)=true:=by simp;omega
  go_wp2_with fail
  go_step3
  go_wp2_with fail
  go_still (by kernel_rfl)
  have hV:((((ByteArray.mk #[46,45,95,64])[1]'(by decide)).toNat:Int) != ((ByteArray.mk #[a,b])[1]'(show 1<2 by decide)).toNat)=true:=hA;have hB:Below wr.heap.size wr wr.drew:=(Below.refl _ _).drew;generalize hW:({ heap:=wr.heap,tape:=wr.tape,drawn:=wr.drawn+1,os:=wr.os,output:=wr.output }:World)=W1;have hC:wr.drew=W1:=hW;rw[hC]at hB;rw[hV];clear hW hC hG hA;have hF:IntKind.i64.wrap 2=2:=by decide
  go_wp2_with fail
  go_still_tail 7,(by kernel_rfl)
  change wpList _ _ _ _ _ W1.drew;have hD:=hB.drew;obtain⟨W2,hW⟩:∃ W2,W1.drew=W2:=⟨_,rfl⟩;rw[hW]at hD ⊢
  have hx:∀ W,Calls ze 221 #[.string ((ByteArray.mk #[46,45,95,64]).extract 2 4),.int .u8 (((ByteArray.mk #[a,b])[1]'(show 1<2 by decide)).toNat:Int)] W fun e w'=>e = .returned (.int .i64 (-1))∧w'=W:=fun W=>by
   have h:=Tryz.strings_IndexByte ((ByteArray.mk #[46,45,95,64]).extract 2 4) (((ByteArray.mk #[a,b])[1]'(show 1<2 by decide)).toNat:Int) W;have hi:Lib.indexByte ((ByteArray.mk #[46,45,95,64]).extract 2 4).data.toList ((ByteArray.mk #[a,b])[1]'(show 1<2 by decide)) = -1:=zlo b hl _ (by decide);rw[zjv,hi]at h;exact h
  clear hW hB hF
  go_wp2_with fail
  refine(hx _).mono ?_;rintro e W3 ⟨rfl,rfl⟩;clear hx hV
  go_wp2_with fail
  rw[Exit.noGoto_ret];go_simp;show bodyPost _ _ _ Exit.ret _ _;go_ret;exact⟨rfl,hD⟩
theorem zrz (n:Nat) (a b c:UInt8) (w:World) (h1:128≤n) (h2:n≤1114111) (h3:n≠65533) (hv:Lib.validRune (n:Int)=true) (hE:Utf8.encode (n:Int)=⟨#[a,b,c]⟩) (hl:128≤c.toNat) :
 Calls ze 273 #[.string ⟨#[46,45,95,64]⟩,.int .i32 n] w fun e w'=>e = .returned (.int .i64 (-1))∧Below w.heap.size w w':=by
 have e1:decide ((0:Int)≤n)=true:=decide_eq_true (by omega);have e2:decide ((n:Int)<128)=false:=by simp;omega
 have e3:((n:Int)==65533)=false:=by simp;omega
 have hc:=fun W=>Tryz.utf8_ValidRune (n:Int) W
 rw[hv]at hc;have Hc:=za hc
 have hcv:∀ W,(convert 21 9 (.int .i32 (n:Int))).run ze W = .ok (.string ⟨#[a,b,c]⟩) W:=fun W=>by
  rw[← hE];exact run_convert_int_string W _ _ .i32 n (by kernel_rfl) (by kernel_rfl)
 clear hc h1 h2 h3 hv hE;go_enter Tryz.func273,Tryz.ntmps273
 go_wp2_with fail
 refine(Hc.out _).mono ?_;rintro e w2 ⟨rfl,rfl⟩
 go_wp2_with fail
 go_step3
 go_wp2_with fail
 go_loopg [9] 1 (fun gf vi wx=>vi = .int .i64 2∧wx=w2)
 case atStart=>exact⟨rfl,rfl⟩
 case round =>
  obtain⟨rfl,rfl⟩:=hrel;have hG:(((95:Nat):Int) != c.toNat)=true:=by simp;omega
  have hA:((95:Int) != c.toNat)=true:=by simp;omega
  go_wp2_with fail
  go_step3
  go_wp2_with fail
  go_still (by kernel_rfl)
  have hV:((((ByteArray.mk #[46,45,95,64])[2]'(by decide)).toNat:Int) != ((ByteArray.mk #[a,b,c])[2]'(show 2<3 by decide)).toNat)=true:=hA;have hB:Below wr.heap.size wr wr.drew:=(Below.refl _ _).drew;generalize hW:({ heap:=wr.heap,tape:=wr.tape,drawn:=wr.drawn+1,os:=wr.os,output:=wr.output }:World)=W1;have hC:wr.drew=W1:=hW;rw[hC]at hB;rw[hV];clear hW hC hG hA;have hF:IntKind.i64.wrap 3=3:=by decide
  go_wp2_with fail
  go_still_tail 7,(by kernel_rfl)
  change wpList _ _ _ _ _ W1.drew;have hD:=hB.drew;obtain⟨W2,hW⟩:∃ W2,W1.drew=W2:=⟨_,rfl⟩;rw[hW]at hD ⊢
  have hx:∀ W,Calls ze 221 #[.string ((ByteArray.mk #[46,45,95,64]).extract 3 4),.int .u8 (((ByteArray.mk #[a,b,c])[2]'(show 2<3 by decide)).toNat:Int)] W fun e w'=>e = .returned (.int .i64 (-1))∧w'=W:=fun W=>by
   have h:=Tryz.strings_IndexByte ((ByteArray.mk #[46,45,95,64]).extract 3 4) (((ByteArray.mk #[a,b,c])[2]'(show 2<3 by decide)).toNat:Int) W;have hi:Lib.indexByte ((ByteArray.mk #[46,45,95,64]).extract 3 4).data.toList ((ByteArray.mk #[a,b,c])[2]'(show 2<3 by decide)) = -1:=zlo c hl _ (by decide);rw[zjv,hi]at h;exact h
  clear hW hB hF
  go_wp2_with fail
  refine(hx _).mono ?_;rintro e W3 ⟨rfl,rfl⟩;clear hx hV
  go_wp2_with fail
  rw[Exit.noGoto_ret];go_simp;show bodyPost _ _ _ Exit.ret _ _;go_ret;exact⟨rfl,hD⟩
theorem zry (n:Nat) (a b c d:UInt8) (w:World) (h1:128≤n) (h2:n≤1114111) (h3:n≠65533) (hv:Lib.validRune (n:Int)=true) (hE:Utf8.encode (n:Int)=⟨#[a,b,c,d]⟩) (hl:128≤d.toNat) :
 Calls ze 273 #[.string ⟨#[46,45,95,64]⟩,.int .i32 n] w fun e w'=>e = .returned (.int .i64 (-1))∧Below w.heap.size w w':=by
 have e1:decide ((0:Int)≤n)=true:=decide_eq_true (by omega);have e2:decide ((n:Int)<128)=false:=by simp;omega
 have e3:((n:Int)==65533)=false:=by simp;omega
 have hc:=fun W=>Tryz.utf8_ValidRune (n:Int) W
 rw[hv]at hc;have Hc:=za hc
 have hcv:∀ W,(convert 21 9 (.int .i32 (n:Int))).run ze W = .ok (.string ⟨#[a,b,c,d]⟩) W:=fun W=>by
  rw[← hE];exact run_convert_int_string W _ _ .i32 n (by kernel_rfl) (by kernel_rfl)
 clear hc h1 h2 h3 hv hE;go_enter Tryz.func273,Tryz.ntmps273
 go_wp2_with fail
 refine(Hc.out _).mono ?_;rintro e w2 ⟨rfl,rfl⟩
 go_wp2_with fail
 go_step3
 go_wp2_with fail
 go_loopg [9] 1 (fun gf vi wx=>vi = .int .i64 3∧wx=w2)
 case atStart=>exact⟨rfl,rfl⟩
 case round =>
  obtain⟨rfl,rfl⟩:=hrel;have hG:(((64:Nat):Int) != d.toNat)=true:=by simp;omega
  have hA:((64:Int) != d.toNat)=true:=by simp;omega
  go_wp2_with fail
  go_step3
  go_wp2_with fail
  go_still (by kernel_rfl)
  have hV:((((ByteArray.mk #[46,45,95,64])[3]'(by decide)).toNat:Int) != ((ByteArray.mk #[a,b,c,d])[3]'(show 3<4 by decide)).toNat)=true:=hA;have hB:Below wr.heap.size wr wr.drew:=(Below.refl _ _).drew;generalize hW:({ heap:=wr.heap,tape:=wr.tape,drawn:=wr.drawn+1,os:=wr.os,output:=wr.output }:World)=W1;have hC:wr.drew=W1:=hW;rw[hC]at hB;rw[hV];clear hW hC hG hA;have hF:IntKind.i64.wrap 4=4:=by decide
  go_wp2_with fail
  go_still_tail 7,(by kernel_rfl)
  change wpList _ _ _ _ _ W1.drew;have hD:=hB.drew;obtain⟨W2,hW⟩:∃ W2,W1.drew=W2:=⟨_,rfl⟩;rw[hW]at hD ⊢
  have hx:∀ W,Calls ze 221 #[.string ((ByteArray.mk #[46,45,95,64]).extract 4 4),.int .u8 (((ByteArray.mk #[a,b,c,d])[3]'(show 3<4 by decide)).toNat:Int)] W fun e w'=>e = .returned (.int .i64 (-1))∧w'=W:=fun W=>by
   have h:=Tryz.strings_IndexByte ((ByteArray.mk #[46,45,95,64]).extract 4 4) (((ByteArray.mk #[a,b,c,d])[3]'(show 3<4 by decide)).toNat:Int) W;have hi:Lib.indexByte ((ByteArray.mk #[46,45,95,64]).extract 4 4).data.toList ((ByteArray.mk #[a,b,c,d])[3]'(show 3<4 by decide)) = -1:=zlo d hl _ (by decide);rw[zjv,hi]at h;exact h
  clear hW hB hF
  go_wp2_with fail
  refine(hx _).mono ?_;rintro e W3 ⟨rfl,rfl⟩;clear hx hV
  go_wp2_with fail
  rw[Exit.noGoto_ret];go_simp;show bodyPost _ _ _ Exit.ret _ _;go_ret;exact⟨rfl,hD⟩
theorem z0x (n:Nat) (w:World) (h1:128≤n) (h2:n≤1114111) :
 Calls ze 273 #[.string ⟨#[46,45,95,64]⟩,.int .i32 n] w fun e w'=>e = .returned (.int .i64 (-1))∧Below w.heap.size w w':=by
 by_cases h3:n=65533
 ·subst h3;exact zwu w
 cases hv:Lib.validRune (n:Int) with
 | false=>exact zwv n w h1 h2 h3 hv
 | true =>
   rcases zvj n h1 h2 hv with⟨a,b,hE,hl⟩ | ⟨a,b,c,hE,hl⟩ | ⟨a,b,c,d,hE,hl⟩
   ·exact zr0 n a b w h1 h2 h3 hv hE hl
   ·exact zrz n a b c w h1 h2 h3 hv hE hl
   exact zry n a b c d w h1 h2 h3 hv hE hl
theorem z0d (n:Nat)(w:World)(h1:128≤n)(h2:n≤1114111) :
 Calls ze 224 #[.string ⟨#[46,45,95,64]⟩,.int .i32 n] w fun e w'=>e = .returned (.bool false)∧Below w.heap.size w w':=by
 have Hc:=za (z0x n w h1 h2);clear h1 h2;go_enter Tryz.func224,Tryz.ntmps224
 go_wp2_with fail
 refine Hc.out.mono ?_;rintro e W' ⟨rfl,hB⟩
 go_wp2_with fail
 go_ret;exact⟨rfl,hB⟩
end
end Go.Proofs.YtmgfncjfgkllcaaGreatDoor
