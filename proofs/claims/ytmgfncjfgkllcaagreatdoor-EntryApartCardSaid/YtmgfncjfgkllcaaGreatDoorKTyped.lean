/-
 The walks of package coder: digests by their figures.
-/
import Derived.Test.YtmgfncjfgkllcaaGreatDoorKUnhex
import Derived.Deep.MidRow
import Derived.Deep.WholeRow
import Derived.Test.YtmgfncjfgkllcaaGreatDoorKSpecB64
namespace Go.Proofs.YtmgfncjfgkllcaaGreatDoor
set_option linter.unusedVariables false
set_option linter.unusedSimpArgs false
set_option linter.unusedSectionVars false
open Go.RowKit
variable [OldK]
set_option maxRecDepth 100000 in
set_option maxHeartbeats 1000000 in
theorem zud (s:Bs) (w:World) (hlen:s.length≤1000000) :
 Calls Tryz.prog 141 #[.string ⟨s.toArray⟩] w fun e w'=>zjc w.heap.size (zgh s) e w'∧Fr NoB w w':=by
 have hc:=fun W=>zm4 hexes 4 (.inl rfl) rfl s W hlen
 unfold zgh;obtain⟨X,hX⟩:∃ X:Bs,X=hexes:=⟨_,rfl⟩;have hh:=zqn w;rw[← hX]at hc hh ⊢;obtain⟨R,hR⟩:∃ R,qp X 4 0 0 [] s=R:=⟨_,rfl⟩;rw[hR]at hc ⊢;have Hc:=Lib.hid hc;have Hh:=Lib.hid hh;clear hc hh hX hR;cases R with
 | none =>
   go_enter Tryz.func141,Tryz.ntmps141
   go_wp2_with fail
   refine Hh.out.mono ?_;rintro e w1 ⟨rfl,hA⟩;have hB:=Lib.hid hA;clear hA
   go_wp2_with fail
   refine(Hc.out _).mono ?_;rintro e w2 ⟨hp,hC⟩;obtain rfl:e=_:=hp
   go_wp2_with fail
   go_ret2;exact⟨rfl,hB.out.trans' hC⟩
 | some b =>
   go_enter Tryz.func141,Tryz.ntmps141
   go_wp2_with fail
   refine Hh.out.mono ?_;rintro e w1 ⟨rfl,hA⟩;have hB:=Lib.hid hA;clear hA
   go_wp2_with fail
   refine(Hc.out _).mono ?_;rintro e w2 ⟨⟨a,c,rfl,hD⟩,hC⟩
   go_wp2_with fail
   go_ret2;exact⟨⟨a,c,rfl,hD.kp (fun k o hk ho _=>⟨by have:=hB.out.size;omega,ho⟩)⟩,hB.out.trans' hC⟩
set_option maxRecDepth 100000 in
set_option maxHeartbeats 1000000 in
theorem zt6 (ad:Addr)(n c:Nat)(w:World)(h:n≤c) :
 Calls Tryz.prog 214 #[.slice (some ad) n c] w fun e w'=>e = .returned (.slice (some ad) n n)∧w=w':=by
 have h1:(n:Int)≤(c:Int):=by omega
 go_enter Tryz.func214,Tryz.ntmps214
 go_wp2_with fail
 go_ret;exact⟨rfl,rfl⟩
def zkr (B:Nat) (r:Option Bs) (e:Ending) (w':World):Prop :=
 match r with
 | some b=>∃ a,e = .returned (.tuple #[.slice a b.length b.length,.nilIface])∧SB (fun k=>B≤k) b (.slice a b.length b.length) w'
 | none=>e = .returned (.tuple #[.slice none 0 0,.iface 49 (.int .i64 1)])
set_option maxRecDepth 100000 in
set_option maxHeartbeats 1000000 in
theorem zkd (s:Bs) (w:World) (hlen:s.length≤1000000) :
 Calls Tryz.prog 140 #[.func (.func 141) #[] #[],.string ⟨s.toArray⟩,.int .i64 32] w fun e w'=>zkr w.heap.size (zky s) e w'∧Fr NoB w w':=by
 have hc:=zud s w hlen;unfold zky;obtain⟨R,hR⟩:∃ R,zgh s=R:=⟨_,rfl⟩;rw[hR]at hc ⊢;have Hc:=Lib.hid hc;clear hc hR;have hent:∀ hC w,(callFunc 141 hC).run Tryz.prog w = .ok (.enter 141 hC) w:=fun hC w=>by simp[go_sem]
 cases R with
 | none =>
   go_enter Tryz.func140,Tryz.ntmps140
   go_wp2_with fail
   refine Hc.out.mono ?_;rintro e w2 ⟨hp,hB⟩;obtain rfl:e=_:=hp
   go_wp2_with fail
   go_ret2;exact⟨rfl,hB⟩
 | some b =>
   simp only;by_cases hA:b.length=32
   ·rw[if_pos hA];have hF:=Hc;clear Hc;go_enter Tryz.func140,Tryz.ntmps140
    go_wp2_with fail
    refine hF.out.mono ?_;rintro e w2 ⟨⟨a,c,rfl,hD⟩,hB⟩;obtain⟨g,o,c',e1,hH,-,-,-⟩:=hD.cellsAt (by intro h;rw[h]at hA;simp at hA);obtain⟨rfl,rfl⟩:a=some ⟨g,o,none⟩∧c=c':=by simpa using e1
    have hl:=hD;have Hsb:=Lib.hid hD;have hG:=Lib.hid hB;rw[hA]at hH;have hE:((b.length:Int) != 32)=false:=by rw[hA];rfl
    have Hcl:=Lib.hid (zt6 ⟨g,o,none⟩ b.length c w2 (by omega));have H32:=Lib.hid hA;clear e1 hl hD hB hA
    go_wp2_with fail
    refine Hcl.out.mono ?_;rintro e w3 ⟨rfl,rfl⟩
    go_wp2_with fail
    go_ret2;refine⟨⟨_,rfl,?_⟩,hG.out⟩;obtain⟨a',cp,hv,hcp,hx⟩:=Hsb.out;simp only[Value.slice.injEq]at hv;obtain⟨rfl,-,-⟩:=hv;exact⟨_,_,rfl,Nat.le_refl _,hx⟩
   rw[if_neg hA];have hF:=Hc;clear Hc;go_enter Tryz.func140,Tryz.ntmps140
   go_wp2_with fail
   refine hF.out.mono ?_;rintro e w2 ⟨⟨a,c,rfl,hD⟩,hB⟩;have hG:=Lib.hid hB;have hE:((b.length:Int) != 32)=true:=by simp;omega
   have h32n:(b.length != 32)=true:=by simp;omega
   clear hD hB
   go_wp2_with fail
   go_ret2;exact⟨rfl,hG.out⟩
def zvg (r:Option Bs) (e:Ending):Prop :=
 match r with
 | some b=>e = .returned (.tuple #[.agg (Lib.byteCells b).toArray,.nilIface])
 | none=>e = .returned (.tuple #[.agg #[.int .u8 0,.int .u8 0,.int .u8 0,.int .u8 0,.int .u8 0,.int .u8 0,.int .u8 0,.int .u8 0,.int .u8 0,.int .u8 0,.int .u8 0,.int .u8 0,.int .u8 0,.int .u8 0,.int .u8 0,.int .u8 0,.int .u8 0,.int .u8 0,.int .u8 0,.int .u8 0,.int .u8 0,.int .u8 0,.int .u8 0,.int .u8 0,.int .u8 0,.int .u8 0,.int .u8 0,.int .u8 0,.int .u8 0,.int .u8 0,.int .u8 0,.int .u8 0],.iface 49 (.int .i64 1)])
theorem j6:(Tryz.prog.info? 23).map (·.size)=some 32:=by kernel_rfl
theorem ju:Tryz.prog.underlying 23=some (.array 32 5):=by kernel_rfl
theorem jg {w:World}{b:Nat}{cs:Array Value}{T:TypeId}{f:Nat × Nat}(h:w.heap[b]? = some (.cells cs T f)):w.rangeAt b 0 cs.toList:=by
 intro j v hv;rw[Array.getElem?_toList]at hv;simp[World.cell?,h,hv]
theorem jd {w:World} {b n:Nat} {cs:Array Value} {T:TypeId} (h:w.heap[b]? = some (.cells cs T (0,0))) (hn:n≤cs.size):w.there b 0 n:=by
 intro j hj;have hA:j<cs.size:=by omega
 have:cs[0+j]? = some cs[j]:=by rw[Nat.zero_add];exact Array.getElem?_eq_getElem hA
 have hc:w.cell? ⟨b,0+j,none⟩=some cs[j]:=by
  simp only[World.cell?,h];exact this
 exact⟨by rw[hc];rfl,by simp[World.frozen?,h]⟩
theorem z8 (b:Nat):∀ (vs:List Value) (o:Nat) (w:World),Fr (fun k _=>k=b) w (w.setCells b o vs)
 | [],_,_=>Fr.refl
 | v :: r,o,w=>by
   rw[World.setCells];exact(Fr.refl.setCell ⟨b,o,none⟩ v (fun _ _=>rfl)).trans' (z8 b r (o+1) _)
set_option maxRecDepth 100000 in
set_option maxHeartbeats 1000000 in
theorem zvl (s:Bs) (w:World) (hlen:s.length≤1000000) :
 Calls Tryz.prog 79 #[.string ⟨s.toArray⟩] w fun e w'=>zvg (zky s) e∧Fr NoB w w':=by
 have hc:=fun W=>zkd s W hlen
 have hl:=fun b h=>(zcd s b).1 h
 obtain⟨R,hR⟩:∃ R,zky s=R:=⟨_,rfl⟩;rw[hR]at hc hl ⊢;have Hc:=Lib.hid hc;clear hc hR;cases R with
 | none =>
   clear hl;go_enter Tryz.func79,Tryz.ntmps79
   go_wp2_with fail
   obtain⟨w1,hE⟩:∃ w1,w.alloc (.cells #[.int .u8 0,.int .u8 0,.int .u8 0,.int .u8 0,.int .u8 0,.int .u8 0,.int .u8 0,.int .u8 0,.int .u8 0,.int .u8 0,.int .u8 0,.int .u8 0,.int .u8 0,.int .u8 0,.int .u8 0,.int .u8 0,.int .u8 0,.int .u8 0,.int .u8 0,.int .u8 0,.int .u8 0,.int .u8 0,.int .u8 0,.int .u8 0,.int .u8 0,.int .u8 0,.int .u8 0,.int .u8 0,.int .u8 0,.int .u8 0,.int .u8 0,.int .u8 0] 23)=w1:=⟨_,rfl⟩;have hA:=heap_alloc_new w (.cells #[.int .u8 0,.int .u8 0,.int .u8 0,.int .u8 0,.int .u8 0,.int .u8 0,.int .u8 0,.int .u8 0,.int .u8 0,.int .u8 0,.int .u8 0,.int .u8 0,.int .u8 0,.int .u8 0,.int .u8 0,.int .u8 0,.int .u8 0,.int .u8 0,.int .u8 0,.int .u8 0,.int .u8 0,.int .u8 0,.int .u8 0,.int .u8 0,.int .u8 0,.int .u8 0,.int .u8 0,.int .u8 0,.int .u8 0,.int .u8 0,.int .u8 0,.int .u8 0] 23);have hF:=(Fr.refl (M:=NoB)).alloc (w:=w) (.cells #[.int .u8 0,.int .u8 0,.int .u8 0,.int .u8 0,.int .u8 0,.int .u8 0,.int .u8 0,.int .u8 0,.int .u8 0,.int .u8 0,.int .u8 0,.int .u8 0,.int .u8 0,.int .u8 0,.int .u8 0,.int .u8 0,.int .u8 0,.int .u8 0,.int .u8 0,.int .u8 0,.int .u8 0,.int .u8 0,.int .u8 0,.int .u8 0,.int .u8 0,.int .u8 0,.int .u8 0,.int .u8 0,.int .u8 0,.int .u8 0,.int .u8 0,.int .u8 0] 23);rw[hE]at hA hF ⊢;clear hE;refine(Hc.out _).mono ?_;rintro e w2 ⟨hp,hC⟩;obtain rfl:e=_:=hp;have hD:=hC.block _ _ hA (fun h=>h);have HT:=Lib.hid (jd hD (n:=32) (by simp));have H1:=Lib.hid (show((#[.int .u8 0,.int .u8 0,.int .u8 0,.int .u8 0,.int .u8 0,.int .u8 0,.int .u8 0,.int .u8 0,.int .u8 0,.int .u8 0,.int .u8 0,.int .u8 0,.int .u8 0,.int .u8 0,.int .u8 0,.int .u8 0,.int .u8 0,.int .u8 0,.int .u8 0,.int .u8 0,.int .u8 0,.int .u8 0,.int .u8 0,.int .u8 0,.int .u8 0,.int .u8 0,.int .u8 0,.int .u8 0,.int .u8 0,.int .u8 0,.int .u8 0,.int .u8 0]:Array Value).all (·.oneCell'))=true by simp[Value.oneCell']);have HA2:=Lib.hid hD;have HF:=Lib.hid (hF.trans' hC);clear hA hF hC hD
   go_wp2_with(refine wpList_store_mid rfl 23 _ _ rfl w.heap.size 0 #[.int .u8 0,.int .u8 0,.int .u8 0,.int .u8 0,.int .u8 0,.int .u8 0,.int .u8 0,.int .u8 0,.int .u8 0,.int .u8 0,.int .u8 0,.int .u8 0,.int .u8 0,.int .u8 0,.int .u8 0,.int .u8 0,.int .u8 0,.int .u8 0,.int .u8 0,.int .u8 0,.int .u8 0,.int .u8 0,.int .u8 0,.int .u8 0,.int .u8 0,.int .u8 0,.int .u8 0,.int .u8 0,.int .u8 0,.int .u8 0,.int .u8 0,.int .u8 0] rfl rfl HT.out j6 H1.out ?_)
   have hH:=run_loadVar_mid (P:=Tryz.prog) _ w.heap.size 0 23 (#[.int .u8 0,.int .u8 0,.int .u8 0,.int .u8 0,.int .u8 0,.int .u8 0,.int .u8 0,.int .u8 0,.int .u8 0,.int .u8 0,.int .u8 0,.int .u8 0,.int .u8 0,.int .u8 0,.int .u8 0,.int .u8 0,.int .u8 0,.int .u8 0,.int .u8 0,.int .u8 0,.int .u8 0,.int .u8 0,.int .u8 0,.int .u8 0,.int .u8 0,.int .u8 0,.int .u8 0,.int .u8 0,.int .u8 0,.int .u8 0,.int .u8 0,.int .u8 0]:Array Value).toList (.array 32 5) (World.rangeAt_setCells_same w2 w.heap.size 0 (#[.int .u8 0,.int .u8 0,.int .u8 0,.int .u8 0,.int .u8 0,.int .u8 0,.int .u8 0,.int .u8 0,.int .u8 0,.int .u8 0,.int .u8 0,.int .u8 0,.int .u8 0,.int .u8 0,.int .u8 0,.int .u8 0,.int .u8 0,.int .u8 0,.int .u8 0,.int .u8 0,.int .u8 0,.int .u8 0,.int .u8 0,.int .u8 0,.int .u8 0,.int .u8 0,.int .u8 0,.int .u8 0,.int .u8 0,.int .u8 0,.int .u8 0,.int .u8 0]:Array Value).toList HT.out) ju rfl j6;refine bodyPost_ret (v := .tuple #[.agg #[.int .u8 0,.int .u8 0,.int .u8 0,.int .u8 0,.int .u8 0,.int .u8 0,.int .u8 0,.int .u8 0,.int .u8 0,.int .u8 0,.int .u8 0,.int .u8 0,.int .u8 0,.int .u8 0,.int .u8 0,.int .u8 0,.int .u8 0,.int .u8 0,.int .u8 0,.int .u8 0,.int .u8 0,.int .u8 0,.int .u8 0,.int .u8 0,.int .u8 0,.int .u8 0,.int .u8 0,.int .u8 0,.int .u8 0,.int .u8 0,.int .u8 0,.int .u8 0],.iface 49 (.int .i64 1)]) ?_ rfl ⟨rfl,HF.out.trans (z8 _ _ _ _) (fun k _ hm => .inr (by omega))⟩;rw[results_cell_tmp rfl];simp only[Array.toArray_toList]at hH;simp[asAddr,Result.andThen,hH]
 | some b =>
   obtain⟨-,hI⟩:=hl b rfl;clear hl;go_enter Tryz.func79,Tryz.ntmps79
   go_wp2_with fail
   obtain⟨w1,hE⟩:∃ w1,w.alloc (.cells #[.int .u8 0,.int .u8 0,.int .u8 0,.int .u8 0,.int .u8 0,.int .u8 0,.int .u8 0,.int .u8 0,.int .u8 0,.int .u8 0,.int .u8 0,.int .u8 0,.int .u8 0,.int .u8 0,.int .u8 0,.int .u8 0,.int .u8 0,.int .u8 0,.int .u8 0,.int .u8 0,.int .u8 0,.int .u8 0,.int .u8 0,.int .u8 0,.int .u8 0,.int .u8 0,.int .u8 0,.int .u8 0,.int .u8 0,.int .u8 0,.int .u8 0,.int .u8 0] 23)=w1:=⟨_,rfl⟩;have hA:=heap_alloc_new w (.cells #[.int .u8 0,.int .u8 0,.int .u8 0,.int .u8 0,.int .u8 0,.int .u8 0,.int .u8 0,.int .u8 0,.int .u8 0,.int .u8 0,.int .u8 0,.int .u8 0,.int .u8 0,.int .u8 0,.int .u8 0,.int .u8 0,.int .u8 0,.int .u8 0,.int .u8 0,.int .u8 0,.int .u8 0,.int .u8 0,.int .u8 0,.int .u8 0,.int .u8 0,.int .u8 0,.int .u8 0,.int .u8 0,.int .u8 0,.int .u8 0,.int .u8 0,.int .u8 0] 23);have hF:=(Fr.refl (M:=NoB)).alloc (w:=w) (.cells #[.int .u8 0,.int .u8 0,.int .u8 0,.int .u8 0,.int .u8 0,.int .u8 0,.int .u8 0,.int .u8 0,.int .u8 0,.int .u8 0,.int .u8 0,.int .u8 0,.int .u8 0,.int .u8 0,.int .u8 0,.int .u8 0,.int .u8 0,.int .u8 0,.int .u8 0,.int .u8 0,.int .u8 0,.int .u8 0,.int .u8 0,.int .u8 0,.int .u8 0,.int .u8 0,.int .u8 0,.int .u8 0,.int .u8 0,.int .u8 0,.int .u8 0,.int .u8 0] 23);rw[hE]at hA hF ⊢;clear hE;refine(Hc.out _).mono ?_;rintro e w2 ⟨⟨a,rfl,hJ⟩,hC⟩;have hD:=hC.block _ _ hA (fun h=>h);obtain⟨g,o,c',e1,-,-,-,hB⟩:=hJ.cellsAt (by intro h;rw[h]at hI;simp at hI);obtain⟨rfl,-⟩:a=some ⟨g,o,none⟩∧b.length=c':=by simpa using e1
   have hG:(Lib.byteCells b).length=32:=by simp[Lib.byteCells,hI]
   have hM:=Lib.hid (show w2.rangeAt g o (Lib.byteCells b) from fun j v hv=>by
    unfold Lib.byteCells at hv;rw[List.getElem?_map]at hv;cases hx:b[j]? with
    | none=>rw[hx]at hv;simp at hv
    | some x =>
      rw[hx]at hv;obtain rfl:v = .int .u8 x.toNat:=by simpa using hv.symm
      exact hB j x hx)
   have HT:=Lib.hid (jd hD (n:=(Lib.byteCells b).toArray.size) (by simp[hG]))
   have H1:=Lib.hid (show((Lib.byteCells b).toArray.all (·.oneCell'))=true from all_oneCell_toArray (fun v hv=>by
    unfold Lib.byteCells at hv;rw[List.mem_map]at hv;obtain⟨x,_,rfl⟩:=hv
    rfl))
   have hK:=Lib.hid (show(Tryz.prog.info? 23).map (·.size)=some (Lib.byteCells b).length by rw[j6,hG]);have hL:=Lib.hid (show(Tryz.prog.info? 23).map (·.size)=some (Lib.byteCells b).toArray.size by rw[j6];simp[hG]);have HF:=Lib.hid (hF.trans' hC);have Hbl:=Lib.hid hG;clear hA hF hC hD hJ hB e1 hG;have hat:∀ W,(Instr.arrayAt 23 (.slice (some ⟨g,o,none⟩) 32 32)).run Tryz.prog W = .ok (.pointer (some ⟨g,o,none⟩)) W:=fun W=>run_arrayAt W 23 5 32 _ 32 32 ju (Nat.le_refl _)
   go_wp2_with(first | (refine wpList_load_mid rfl 23 _ rfl g o rfl (Lib.byteCells b) (.array 32 5) hM.out ju rfl hK.out ?_) | (refine wpList_store_mid rfl 23 _ _ rfl w.heap.size 0 (Lib.byteCells b).toArray rfl rfl HT.out hL.out H1.out ?_))
   have hH:=run_loadVar_mid (P:=Tryz.prog) _ w.heap.size 0 23 (Lib.byteCells b) (.array 32 5) (World.rangeAt_setCells_same w2 w.heap.size 0 (Lib.byteCells b) (by simpa using HT.out)) ju rfl hK.out;refine bodyPost_ret (v := .tuple #[.agg (Lib.byteCells b).toArray,.nilIface]) ?_ rfl ⟨rfl,HF.out.trans (z8 _ _ _ _) (fun k _ hm => .inr (by omega))⟩;rw[results_cell_tmp rfl];simp[asAddr,Result.andThen,hH]
end Go.Proofs.YtmgfncjfgkllcaaGreatDoor
namespace Go.Proofs.YtmgfncjfgkllcaaGreatDoor
set_option linter.unusedVariables false
set_option linter.unusedSimpArgs false
set_option linter.unusedSectionVars false
open Go.RowKit
variable [OldK]
theorem zrt (n:Nat) (W:World) (hn:n≤1114111) :
 Calls Tryz.prog 132 #[.int .i32 n] W fun e w'=>e = .returned (.bool (!zgi n))∧∃ q,w'=W.drewN q:=by
 have hA:(!zgi n)=(decide ((n:Int)<33)||decide ((126:Int)<n)):=by
  unfold zgi;by_cases h1:n<33<;>by_cases h2:126<n
  all_goals (first | (have e1:((n:Int)<33):=by omega) | (have e1:¬ ((n:Int)<33):=by omega))
  all_goals (first | (have e2:((126:Int)<n):=by omega) | (have e2:¬ ((126:Int)<n):=by omega))
  all_goals simp[e1,e2]
  all_goals omega
 rw[hA];obtain⟨b1,hC⟩:∃ b1,decide ((n:Int)<33)=b1:=⟨_,rfl⟩;obtain⟨b2,hB⟩:∃ b2,decide ((126:Int)<n)=b2:=⟨_,rfl⟩;rw[hC,hB];clear hA;cases b1<;>cases b2
 all_goals
  go_enter Tryz.func132,Tryz.ntmps132
  go_wp2_with fail
  go_ret;exact⟨rfl,0,rfl⟩
theorem zly (s:Bs):s.any (fun c=>!zgi c.toNat) = !s.all (fun c=>zgi c.toNat):=by
 induction s with
 | nil=>rfl
 | cons c s ih=>simp[ih]
theorem zph (s:Bs):(ByteArray.mk s.toArray).size=s.length:=rfl
theorem zpc (s:Bs) (w:World) (hlen:s.length≤1000000000000) :
 Calls Tryz.prog 65 #[.string ⟨s.toArray⟩] w fun e w'=>e = .returned (.bool (zdh s))∧Fr NoB w w':=by
 have hG:∀ args w,(callFunc 132 args).run Tryz.prog w = .ok (.enter 132 args) w:=enters_of Tryz.func132 (by kernel_rfl) rfl
 have hC:=fun W:World=>Tryz.strings_ContainsFunc_runes 132 #[] hG (fun n=>!zgi n) ⟨s.toArray⟩ W (fun W' x hx _=>by
  have:=zrt x W' hx
  exact this)
 have hF:=fun W:World=>Tryz.strings_HasPrefix ⟨s.toArray⟩ ⟨sReserved.toArray⟩ W
 rw[zqm (fun n=>!zgi n) (fun r hr=>by simp[zgi];omega) s,zly s]at hC;obtain⟨P,hP⟩:∃ P,zdh s=P:=⟨_,rfl⟩;rw[hP];unfold zdh at hP;obtain⟨b3,hH⟩:∃ b3,s.all (fun c=>zgi c.toNat)=b3:=⟨_,rfl⟩;obtain⟨b4,hD⟩:∃ b4,Lib.hasPrefix s sReserved=b4:=⟨_,rfl⟩;rw[hH]at hC hP;rw[hD]at hP
 have hB:∀ W,Calls Tryz.prog 134 #[.string ⟨s.toArray⟩,.string ⟨sReserved.toArray⟩] W fun e w'=>e = .returned (.bool b4)∧w'=W:=fun W=>by
  have:=hF W;rw[show(ByteArray.mk s.toArray).data.toList=s from by simp,show(ByteArray.mk sReserved.toArray).data.toList=sReserved from by simp,hD]at this;exact this
 have Hcf:=Lib.hid hC;have Hpf:=Lib.hid hB;have hJ:=zph s;clear hC hF hB hH hD hG;cases s with
 | nil =>
   obtain rfl:false=P:=hP;go_enter Tryz.func65,Tryz.ntmps65
   go_wp2_with fail
   go_ret;exact⟨rfl,Fr.refl⟩
 | cons c r =>
   have hK:(c :: r:Bs).isEmpty=false:=rfl;rw[List.isEmpty_cons]at hP;obtain⟨l,hl⟩:∃ l,(c :: r:Bs)=l:=⟨_,rfl⟩;rw[hl]at hP Hcf Hpf hJ hK hlen ⊢;clear hl;by_cases hI:l.length≤64
   ·have hE:decide ((l.length:Int)≤64)=true:=by simp;omega
    have hA:decide (l.length≤64)=true:=by simp;omega
    rw[hA]at hP;clear hI;cases b3 with
    | false =>
      obtain rfl:false=P:=by simpa using hP
      clear hP;go_enter Tryz.func65,Tryz.ntmps65
      go_wp2_with fail
      refine(Hcf.out _).mono ?_;rintro e w1 ⟨rfl,hb⟩;have HF:=Lib.hid (Fr.ofBelow hb);clear hb
      go_wp2_with fail
      go_ret;exact⟨rfl,HF.out⟩
    | true =>
      obtain rfl:(!b4)=P:=by simpa using hP
      clear hP;go_enter Tryz.func65,Tryz.ntmps65
      go_wp2_with fail
      refine(Hcf.out _).mono ?_;rintro e w1 ⟨rfl,hb⟩;have HF:=Lib.hid (Fr.ofBelow hb);clear hb
      go_wp2_with fail
      refine(Hpf.out _).mono ?_;rintro e w2 ⟨rfl,rfl⟩
      go_wp2_with fail
      go_ret;exact⟨rfl,HF.out⟩
   have hE:decide ((l.length:Int)≤64)=false:=by simp;omega
   have hA:decide (l.length≤64)=false:=by simp;omega
   rw[hA]at hP;obtain rfl:false=P:=by simpa using hP
   clear hI hP;go_enter Tryz.func65,Tryz.ntmps65
   go_wp2_with fail
   go_ret;exact⟨rfl,Fr.refl⟩
end Go.Proofs.YtmgfncjfgkllcaaGreatDoor
