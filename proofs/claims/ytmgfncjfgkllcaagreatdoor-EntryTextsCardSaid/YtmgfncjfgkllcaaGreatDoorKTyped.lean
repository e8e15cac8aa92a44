/-
 The walks of package coder: digests by their figures.
-/
import Derived.Test.YtmgfncjfgkllcaaGreatDoorKUnhex
import Derived.Deep.MidRow
import Derived.Deep.WholeRow
import Derived.Test.YtmgfncjfgkllcaaGreatDoorKSpecB64
open Go.Lib renaming hid→za,byteCells→zb
open Go.Proofs.Tryz renaming prog→ze
open Go.Value renaming int→zy
open Go.IntKind renaming u8→z6
namespace Go.Proofs.YtmgfncjfgkllcaaGreatDoor
set_option linter.unusedVariables false
set_option linter.unusedSimpArgs false
set_option linter.unusedSectionVars false
set_option maxRecDepth 100000
set_option maxHeartbeats 1000000
section
open Go.RowKit
variable [OldK]
theorem zvj (s:Bs) (w:World) (hlen:s.length≤1000000) :
 Calls ze 141 #[.string ⟨s.toArray⟩] w fun e w'=>zj2 w.heap.size (zg5 s) e w'∧Fr NoB w w':=by
 have hc:=fun W=>zof hexes 4 (.inl rfl) rfl s W hlen
 unfold zg5;obtain⟨X,hX⟩:∃ X:Bs,X=hexes:=⟨_,rfl⟩;have hh:=zrw w;rw[← hX]at hc hh ⊢;obtain⟨R,hR⟩:∃ R,qq X 4 0 0 [] s=R:=⟨_,rfl⟩;rw[hR]at hc ⊢;have Hc:=za hc;have Hh:=za hh;clear hc hh hX hR;cases R with
 | none =>
   go_enter Tryz.func141,Tryz.ntmps141
   go_wp2_with fail
   refine Hh.out.mono ?_;rintro e w1 ⟨rfl,hA⟩;have hB:=za hA;clear hA
   go_wp2_with fail
   refine(Hc.out _).mono ?_;rintro e w2 ⟨hp,hC⟩;obtain rfl:e=_:=hp
   go_wp2_with fail
   go_ret2;exact⟨rfl,hB.out.trans' hC⟩
 | some b =>
   go_enter Tryz.func141,Tryz.ntmps141
   go_wp2_with fail
   refine Hh.out.mono ?_;rintro e w1 ⟨rfl,hA⟩;have hB:=za hA;clear hA
   go_wp2_with fail
   refine(Hc.out _).mono ?_;rintro e w2 ⟨⟨a,c,rfl,hD⟩,hC⟩
   go_wp2_with fail
   go_ret2;exact⟨⟨a,c,rfl,hD.kp (fun k o hk ho _=>⟨by have:=hB.out.size;omega,ho⟩)⟩,hB.out.trans' hC⟩
theorem zvb (ad:Addr)(n c:Nat)(w:World)(h:n≤c) :
 Calls ze 214 #[.slice (some ad) n c] w fun e w'=>e = .returned (.slice (some ad) n n)∧w=w':=by
 have h1:(n:Int)≤(c:Int):=by omega
 go_enter Tryz.func214,Tryz.ntmps214
 go_wp2_with fail
 go_ret;exact⟨rfl,rfl⟩
def zlx (B:Nat) (r:Option Bs) (e:Ending) (w':World):Prop :=
 match r with
 | some b=>∃ a,e = .returned (.tuple #[.slice a b.length b.length,.nilIface])∧SB (fun k=>B≤k) b (.slice a b.length b.length) w'
 | none=>e = .returned (.tuple #[.slice none 0 0,.iface 49 (.int .i64 1)])
theorem zk4 (s:Bs) (w:World) (hlen:s.length≤1000000) :
 Calls ze 140 #[.func (.func 141) #[] #[],.string ⟨s.toArray⟩,.int .i64 32] w fun e w'=>zlx w.heap.size (zl4 s) e w'∧Fr NoB w w':=by
 have hc:=zvj s w hlen;unfold zl4;obtain⟨R,hR⟩:∃ R,zg5 s=R:=⟨_,rfl⟩;rw[hR]at hc ⊢;have Hc:=za hc;clear hc hR;have hent:∀ hC w,(callFunc 141 hC).run ze w = .ok (.enter 141 hC) w:=fun hC w=>by simp[go_sem]
 cases R with
 | none =>
   go_enter Tryz.func140,Tryz.ntmps140
   go_wp2_with fail
   refine Hc.out.mono ?_;rintro e w2 ⟨hp,hB⟩;obtain rfl:e=_:=hp
   go_wp2_with fail
   go_ret2;exact⟨rfl,hB⟩
 | some b =>
   simp only;by_cases hA:b.length=32
   ·rw[if_pos hA];have hF:=Hc;clear Hc;go_enter Tryz.func140,Tryz.ntmps140
    go_wp2_with fail
    refine hF.out.mono ?_;rintro e w2 ⟨⟨a,c,rfl,hD⟩,hB⟩;obtain⟨g,o,c',e1,hH,-,-,-⟩:=hD.cellsAt (by intro h;rw[h]at hA;simp at hA);obtain⟨rfl,rfl⟩:a=some ⟨g,o,none⟩∧c=c':=by simpa using e1
    have hl:=hD;have Hsb:=za hD;have hG:=za hB;rw[hA]at hH;have hE:((b.length:Int) != 32)=false:=by rw[hA];rfl
    have Hcl:=za (zvb ⟨g,o,none⟩ b.length c w2 (by omega));have H32:=za hA;clear e1 hl hD hB hA
    go_wp2_with fail
    refine Hcl.out.mono ?_;rintro e w3 ⟨rfl,rfl⟩
    go_wp2_with fail
    go_ret2;refine⟨⟨_,rfl,?_⟩,hG.out⟩;obtain⟨a',cp,hv,hcp,hx⟩:=Hsb.out;simp only[Value.slice.injEq]at hv;obtain⟨rfl,-,-⟩:=hv;exact⟨_,_,rfl,Nat.le_refl _,hx⟩
   rw[if_neg hA];have hF:=Hc;clear Hc;go_enter Tryz.func140,Tryz.ntmps140
   go_wp2_with fail
   refine hF.out.mono ?_;rintro e w2 ⟨⟨a,c,rfl,hD⟩,hB⟩;have hG:=za hB;have hE:((b.length:Int) != 32)=true:=by simp;omega
   have h32n:(b.length != 32)=true:=by simp;omega
   clear hD hB
   go_wp2_with fail
   go_ret2;exact⟨rfl,hG.out⟩
def zwk (r:Option Bs) (e:Ending):Prop :=
 match r with
 | some b=>e = .returned (.tuple #[.agg (zb b).toArray,.nilIface])
 | none=>e = .returned (.tuple #[.agg #[zy z6 0,zy z6 0,zy z6 0,zy z6 0,zy z6 0,zy z6 0,zy z6 0,zy z6 0,zy z6 0,zy z6 0,zy z6 0,zy z6 0,zy z6 0,zy z6 0,zy z6 0,zy z6 0,zy z6 0,zy z6 0,zy z6 0,zy z6 0,zy z6 0,zy z6 0,zy z6 0,zy z6 0,zy z6 0,zy z6 0,zy z6 0,zy z6 0,zy z6 0,zy z6 0,zy z6 0,zy z6 0],.iface 49 (.int .i64 1)])
theorem j8:(Tryz.prog.info? 23).map (·.size)=some 32:=by kernel_rfl
theorem jv:Tryz.prog.underlying 23=some (.array 32 5):=by kernel_rfl
theorem jh {w:World}{b:Nat}{cs:Array Value}{T:TypeId}{f:Nat × Nat}(h:w.heap[b]? = some (.cells cs T f)):w.rangeAt b 0 cs.toList:=by
 intro j v hv;rw[Array.getElem?_toList]at hv;simp[World.cell?,h,hv]
theorem je {w:World} {b n:Nat} {cs:Array Value} {T:TypeId} (h:w.heap[b]? = some (.cells cs T (0,0))) (hn:n≤cs.size):w.there b 0 n:=by
 intro j hj;have hA:j<cs.size:=by omega
 have:cs[0+j]? = some cs[j]:=by rw[Nat.zero_add];exact Array.getElem?_eq_getElem hA
 have hc:w.cell? ⟨b,0+j,none⟩=some cs[j]:=by
  simp only[World.cell?,h];exact this
 exact⟨by rw[hc];rfl,by simp[World.frozen?,h]⟩
theorem z8 (b:Nat):∀ (vs:List Value) (o:Nat) (w:World),Fr (fun k _=>k=b) w (w.setCells b o vs)
 | [],_,_=>Fr.refl
 | v :: r,o,w=>by
   rw[World.setCells];exact(Fr.refl.setCell ⟨b,o,none⟩ v (fun _ _=>rfl)).trans' (z8 b r (o+1) _)
theorem zwp (s:Bs) (w:World) (hlen:s.length≤1000000) :
 Calls ze 79 #[.string ⟨s.toArray⟩] w fun e w'=>zwk (zl4 s) e∧Fr NoB w w':=by
 have hc:=fun W=>zk4 s W hlen
 have hl:=fun b h=>(zcf s b).1 h
 obtain⟨R,hR⟩:∃ R,zl4 s=R:=⟨_,rfl⟩;rw[hR]at hc hl ⊢;have Hc:=za hc;clear hc hR;cases R with
 | none =>
   clear hl;go_enter Tryz.func79,Tryz.ntmps79
   go_wp2_with fail
   obtain⟨w1,hE⟩:∃ w1,w.alloc (.cells #[zy z6 0,zy z6 0,zy z6 0,zy z6 0,zy z6 0,zy z6 0,zy z6 0,zy z6 0,zy z6 0,zy z6 0,zy z6 0,zy z6 0,zy z6 0,zy z6 0,zy z6 0,zy z6 0,zy z6 0,zy z6 0,zy z6 0,zy z6 0,zy z6 0,zy z6 0,zy z6 0,zy z6 0,zy z6 0,zy z6 0,zy z6 0,zy z6 0,zy z6 0,zy z6 0,zy z6 0,zy z6 0] 23)=w1:=⟨_,rfl⟩;have hA:=heap_alloc_new w (.cells #[zy z6 0,zy z6 0,zy z6 0,zy z6 0,zy z6 0,zy z6 0,zy z6 0,zy z6 0,zy z6 0,zy z6 0,zy z6 0,zy z6 0,zy z6 0,zy z6 0,zy z6 0,zy z6 0,zy z6 0,zy z6 0,zy z6 0,zy z6 0,zy z6 0,zy z6 0,zy z6 0,zy z6 0,zy z6 0,zy z6 0,zy z6 0,zy z6 0,zy z6 0,zy z6 0,zy z6 0,zy z6 0] 23);have hF:=(Fr.refl (M:=NoB)).alloc (w:=w) (.cells #[zy z6 0,zy z6 0,zy z6 0,zy z6 0,zy z6 0,zy z6 0,zy z6 0,zy z6 0,zy z6 0,zy z6 0,zy z6 0,zy z6 0,zy z6 0,zy z6 0,zy z6 0,zy z6 0,zy z6 0,zy z6 0,zy z6 0,zy z6 0,zy z6 0,zy z6 0,zy z6 0,zy z6 0,zy z6 0,zy z6 0,zy z6 0,zy z6 0,zy z6 0,zy z6 0,zy z6 0,zy z6 0] 23);rw[hE]at hA hF ⊢;clear hE;refine(Hc.out _).mono ?_;rintro e w2 ⟨hp,hC⟩;obtain rfl:e=_:=hp;have hD:=hC.block _ _ hA (fun h=>h);have HT:=za (je hD (n:=32) (by simp));have H1:=za (show((#[zy z6 0,zy z6 0,zy z6 0,zy z6 0,zy z6 0,zy z6 0,zy z6 0,zy z6 0,zy z6 0,zy z6 0,zy z6 0,zy z6 0,zy z6 0,zy z6 0,zy z6 0,zy z6 0,zy z6 0,zy z6 0,zy z6 0,zy z6 0,zy z6 0,zy z6 0,zy z6 0,zy z6 0,zy z6 0,zy z6 0,zy z6 0,zy z6 0,zy z6 0,zy z6 0,zy z6 0,zy z6 0]:Array Value).all (·.oneCell'))=true by simp[Value.oneCell']);have HA2:=za hD;have HF:=za (hF.trans' hC);clear hA hF hC hD
   go_wp2_with(refine wpList_store_mid rfl 23 _ _ rfl w.heap.size 0 #[zy z6 0,zy z6 0,zy z6 0,zy z6 0,zy z6 0,zy z6 0,zy z6 0,zy z6 0,zy z6 0,zy z6 0,zy z6 0,zy z6 0,zy z6 0,zy z6 0,zy z6 0,zy z6 0,zy z6 0,zy z6 0,zy z6 0,zy z6 0,zy z6 0,zy z6 0,zy z6 0,zy z6 0,zy z6 0,zy z6 0,zy z6 0,zy z6 0,zy z6 0,zy z6 0,zy z6 0,zy z6 0] rfl rfl HT.out j8 H1.out ?_)
   have hH:=run_loadVar_mid (P:=ze) _ w.heap.size 0 23 (#[zy z6 0,zy z6 0,zy z6 0,zy z6 0,zy z6 0,zy z6 0,zy z6 0,zy z6 0,zy z6 0,zy z6 0,zy z6 0,zy z6 0,zy z6 0,zy z6 0,zy z6 0,zy z6 0,zy z6 0,zy z6 0,zy z6 0,zy z6 0,zy z6 0,zy z6 0,zy z6 0,zy z6 0,zy z6 0,zy z6 0,zy z6 0,zy z6 0,zy z6 0,zy z6 0,zy z6 0,zy z6 0]:Array Value).toList (.array 32 5) (World.rangeAt_setCells_same w2 w.heap.size 0 (#[zy z6 0,zy z6 0,zy z6 0,zy z6 0,zy z6 0,zy z6 0,zy z6 0,zy z6 0,zy z6 0,zy z6 0,zy z6 0,zy z6 0,zy z6 0,zy z6 0,zy z6 0,zy z6 0,zy z6 0,zy z6 0,zy z6 0,zy z6 0,zy z6 0,zy z6 0,zy z6 0,zy z6 0,zy z6 0,zy z6 0,zy z6 0,zy z6 0,zy z6 0,zy z6 0,zy z6 0,zy z6 0]:Array Value).toList HT.out) jv rfl j8;refine bodyPost_ret (v := .tuple #[.agg #[zy z6 0,zy z6 0,zy z6 0,zy z6 0,zy z6 0,zy z6 0,zy z6 0,zy z6 0,zy z6 0,zy z6 0,zy z6 0,zy z6 0,zy z6 0,zy z6 0,zy z6 0,zy z6 0,zy z6 0,zy z6 0,zy z6 0,zy z6 0,zy z6 0,zy z6 0,zy z6 0,zy z6 0,zy z6 0,zy z6 0,zy z6 0,zy z6 0,zy z6 0,zy z6 0,zy z6 0,zy z6 0],.iface 49 (.int .i64 1)]) ?_ rfl ⟨rfl,HF.out.trans (z8 _ _ _ _) (fun k _ hm => .inr (by omega))⟩;rw[results_cell_tmp rfl];simp only[Array.toArray_toList]at hH;simp[asAddr,Result.andThen,hH]
 | some b =>
   obtain⟨-,hI⟩:=hl b rfl;clear hl;go_enter Tryz.func79,Tryz.ntmps79
   go_wp2_with fail
   obtain⟨w1,hE⟩:∃ w1,w.alloc (.cells #[zy z6 0,zy z6 0,zy z6 0,zy z6 0,zy z6 0,zy z6 0,zy z6 0,zy z6 0,zy z6 0,zy z6 0,zy z6 0,zy z6 0,zy z6 0,zy z6 0,zy z6 0,zy z6 0,zy z6 0,zy z6 0,zy z6 0,zy z6 0,zy z6 0,zy z6 0,zy z6 0,zy z6 0,zy z6 0,zy z6 0,zy z6 0,zy z6 0,zy z6 0,zy z6 0,zy z6 0,zy z6 0] 23)=w1:=⟨_,rfl⟩;have hA:=heap_alloc_new w (.cells #[zy z6 0,zy z6 0,zy z6 0,zy z6 0,zy z6 0,zy z6 0,zy z6 0,zy z6 0,zy z6 0,zy z6 0,zy z6 0,zy z6 0,zy z6 0,zy z6 0,zy z6 0,zy z6 0,zy z6 0,zy z6 0,zy z6 0,zy z6 0,zy z6 0,zy z6 0,zy z6 0,zy z6 0,zy z6 0,zy z6 0,zy z6 0,zy z6 0,zy z6 0,zy z6 0,zy z6 0,zy z6 0] 23);have hF:=(Fr.refl (M:=NoB)).alloc (w:=w) (.cells #[zy z6 0,zy z6 0,zy z6 0,zy z6 0,zy z6 0,zy z6 0,zy z6 0,zy z6 0,zy z6 0,zy z6 0,zy z6 0,zy z6 0,zy z6 0,zy z6 0,zy z6 0,zy z6 0,zy z6 0,zy z6 0,zy z6 0,zy z6 0,zy z6 0,zy z6 0,zy z6 0,zy z6 0,zy z6 0,zy z6 0,zy z6 0,zy z6 0,zy z6 0,zy z6 0,zy z6 0,zy z6 0] 23);rw[hE]at hA hF ⊢;clear hE;refine(Hc.out _).mono ?_;rintro e w2 ⟨⟨a,rfl,hJ⟩,hC⟩;have hD:=hC.block _ _ hA (fun h=>h);obtain⟨g,o,c',e1,-,-,-,hB⟩:=hJ.cellsAt (by intro h;rw[h]at hI;simp at hI);obtain⟨rfl,-⟩:a=some ⟨g,o,none⟩∧b.length=c':=by simpa using e1
   have hG:(zb b).length=32:=by simp[zb,hI]
   have hM:=za (show w2.rangeAt g o (zb b) from fun j v hv=>by
    unfold zb at hv;rw[List.getElem?_map]at hv;cases hx:b[j]? with
    | none=>rw[hx]at hv;simp at hv
    | some x =>
      rw[hx]at hv;obtain rfl:v = .int .u8 x.toNat:=by simpa using hv.symm
      exact hB j x hx)
   have HT:=za (je hD (n:=(zb b).toArray.size) (by simp[hG]))
   have H1:=za (show((zb b).toArray.all (·.oneCell'))=true from all_oneCell_toArray (fun v hv=>by
    unfold zb at hv;rw[List.mem_map]at hv;obtain⟨x,_,rfl⟩:=hv
    rfl))
   have hK:=za (show(Tryz.prog.info? 23).map (·.size)=some (zb b).length by rw[j8,hG]);have hL:=za (show(Tryz.prog.info? 23).map (·.size)=some (zb b).toArray.size by rw[j8];simp[hG]);have HF:=za (hF.trans' hC);have Hbl:=za hG;clear hA hF hC hD hJ hB e1 hG;have hat:∀ W,(Instr.arrayAt 23 (.slice (some ⟨g,o,none⟩) 32 32)).run ze W = .ok (.pointer (some ⟨g,o,none⟩)) W:=fun W=>run_arrayAt W 23 5 32 _ 32 32 jv (Nat.le_refl _)
   go_wp2_with(first | (refine wpList_load_mid rfl 23 _ rfl g o rfl (zb b) (.array 32 5) hM.out jv rfl hK.out ?_) | (refine wpList_store_mid rfl 23 _ _ rfl w.heap.size 0 (zb b).toArray rfl rfl HT.out hL.out H1.out ?_))
   have hH:=run_loadVar_mid (P:=ze) _ w.heap.size 0 23 (zb b) (.array 32 5) (World.rangeAt_setCells_same w2 w.heap.size 0 (zb b) (by simpa using HT.out)) jv rfl hK.out;refine bodyPost_ret (v := .tuple #[.agg (zb b).toArray,.nilIface]) ?_ rfl ⟨rfl,HF.out.trans (z8 _ _ _ _) (fun k _ hm => .inr (by omega))⟩;rw[results_cell_tmp rfl];simp[asAddr,Result.andThen,hH]
end
section
open Go.RowKit
variable [OldK]
theorem zs1 (n:Nat) (W:World) (hn:n≤1114111) :
 Calls ze 132 #[.int .i32 n] W fun e w'=>e = .returned (.bool (!zg6 n))∧∃ q,w'=W.drewN q:=by
 have hA:(!zg6 n)=(decide ((n:Int)<33)||decide ((126:Int)<n)):=by
  unfold zg6;by_cases h1:n<33<;>by_cases h2:126<n
  all_goals (first | (have e1:((n:Int)<33):=by omega) | (have e1:¬ ((n:Int)<33):=by omega))
  all_goals (first | (have e2:((126:Int)<n):=by omega) | (have e2:¬ ((126:Int)<n):=by omega))
  all_goals simp[e1,e2]
  all_goals omega
 rw[hA];obtain⟨b1,hC⟩:∃ b1,decide ((n:Int)<33)=b1:=⟨_,rfl⟩;obtain⟨b2,hB⟩:∃ b2,decide ((126:Int)<n)=b2:=⟨_,rfl⟩;rw[hC,hB];clear hA;cases b1<;>cases b2
 all_goals
  go_enter Tryz.func132,Tryz.ntmps132
  go_wp2_with fail
  go_ret;exact⟨rfl,0,rfl⟩
theorem zm6 (s:Bs):s.any (fun c=>!zg6 c.toNat) = !s.all (fun c=>zg6 c.toNat):=by
 induction s with
 | nil=>rfl
 | cons c s ih=>simp[ih]
theorem zqp (s:Bs):(ByteArray.mk s.toArray).size=s.length:=rfl
theorem zqk (s:Bs) (w:World) (hlen:s.length≤1000000000000) :
 Calls ze 65 #[.string ⟨s.toArray⟩] w fun e w'=>e = .returned (.bool (zdk s))∧Fr NoB w w':=by
 have hG:∀ args w,(callFunc 132 args).run ze w = .ok (.enter 132 args) w:=enters_of Tryz.func132 (by kernel_rfl) rfl
 have hC:=fun W:World=>Tryz.strings_ContainsFunc_runes 132 #[] hG (fun n=>!zg6 n) ⟨s.toArray⟩ W (fun W' x hx _=>by
  have:=zs1 x W' hx
  exact this)
 have hF:=fun W:World=>Tryz.strings_HasPrefix ⟨s.toArray⟩ ⟨sReserved.toArray⟩ W
 rw[zrv (fun n=>!zg6 n) (fun r hr=>by simp[zg6];omega) s,zm6 s]at hC;obtain⟨P,hP⟩:∃ P,zdk s=P:=⟨_,rfl⟩;rw[hP];unfold zdk at hP;obtain⟨b3,hH⟩:∃ b3,s.all (fun c=>zg6 c.toNat)=b3:=⟨_,rfl⟩;obtain⟨b4,hD⟩:∃ b4,Lib.hasPrefix s sReserved=b4:=⟨_,rfl⟩;rw[hH]at hC hP;rw[hD]at hP
 have hB:∀ W,Calls ze 134 #[.string ⟨s.toArray⟩,.string ⟨sReserved.toArray⟩] W fun e w'=>e = .returned (.bool b4)∧w'=W:=fun W=>by
  have:=hF W;rw[show(ByteArray.mk s.toArray).data.toList=s from by simp,show(ByteArray.mk sReserved.toArray).data.toList=sReserved from by simp,hD]at this;exact this
 have Hcf:=za hC;have Hpf:=za hB;have hJ:=zqp s;clear hC hF hB hH hD hG;cases s with
 | nil =>
   obtain rfl:false=P:=hP;go_enter Tryz.func65,Tryz.ntmps65
   go_wp2_with fail
   go_ret;exact⟨rfl,Fr.refl⟩
 | cons c r =>
   have hK:(c :: r:Bs).isEmpty=false:=rfl;rw[List.isEmpty_cons]at hP;obtain⟨l,hl⟩:∃ l,(c :: r:Bs)=l:=⟨_,rfl⟩;rw[hl]at hP Hcf Hpf hJ hK hlen ⊢;clear hl;by_cases hI:l.length≤64
   ·have hE:decide ((l.length:Int)≤64)=true:=by simp;omega
    have hA:decide (l.length≤64)=true:=by simp;omega
    rw[hA]at hP;clear hI;cases b3 with
    | false =>
      obtain rfl:false=P:=by simpa using hP
      clear hP;go_enter Tryz.func65,Tryz.ntmps65
      go_wp2_with fail
      refine(Hcf.out _).mono ?_;rintro e w1 ⟨rfl,hb⟩;have HF:=za (Fr.ofBelow hb);clear hb
      go_wp2_with fail
      go_ret;exact⟨rfl,HF.out⟩
    | true =>
      obtain rfl:(!b4)=P:=by simpa using hP
      clear hP;go_enter Tryz.func65,Tryz.ntmps65
      go_wp2_with fail
      refine(Hcf.out _).mono ?_;rintro e w1 ⟨rfl,hb⟩;have HF:=za (Fr.ofBelow hb);clear hb
      go_wp2_with fail
      refine(Hpf.out _).mono ?_;rintro e w2 ⟨rfl,rfl⟩
      go_wp2_with fail
      go_ret;exact⟨rfl,HF.out⟩
   have hE:decide ((l.length:Int)≤64)=false:=by simp;omega
   have hA:decide (l.length≤64)=false:=by simp;omega
   rw[hA]at hP;obtain rfl:false=P:=by simpa using hP
   clear hI hP;go_enter Tryz.func65,Tryz.ntmps65
   go_wp2_with fail
   go_ret;exact⟨rfl,Fr.refl⟩
end
end Go.Proofs.YtmgfncjfgkllcaaGreatDoor
