/-
 The walk of sum.shape's piece (words of 32 bits).
-/
import Derived.Test.YtffggpplnjibgaaGreatDoorKShaMix
import Derived.Test.YtffggpplnjibgaaGreatDoorKHeldC
import Derived.Deep.DeepAppendRoom
open Go.Lib renaming hid→zi
open Go.Proofs.Tryz renaming prog→zl
open Go.World renaming size_alloc→zm
open Go renaming heap_alloc_new→zo
open Go.IntKind renaming wrap_i64→zt
open Go.Value renaming int→zv
open Nat renaming le_refl→ja
open Or renaming inl→jc
namespace Go.Proofs.YtffggpplnjibgaaGreatDoor
set_option linter.unusedVariables false
set_option linter.unusedSimpArgs false
set_option linter.unusedSectionVars false
set_option maxRecDepth 100000
set_option maxHeartbeats 4000000
open Go.RowKit Go.Shelf
variable [OldK]
attribute [local go_sem] Oper.semAt_some
def wkC (s:Wk):Array Value:=#[.int .u32 s.a,.int .u32 s.b,.int .u32 s.c,.int .u32 s.d,.int .u32 s.e,.int .u32 s.f,.int .u32 s.g,.int .u32 s.h]
theorem zel:(Tryz.prog.info? 159).map (fun i=>(i.zero,i.size,i.bytes))=some (some (.int .u32 0),1,4):=by kernel_rfl
def wkZ:Array Value:=#[.int .u32 0,.int .u32 0,.int .u32 0,.int .u32 0,.int .u32 0,.int .u32 0,.int .u32 0,.int .u32 0]
theorem orI (X:Nat)(y:UInt8)(h:X<4294967296):zv .u32 (bits .or .u32 ((X:Int) * 256 % 4294967296) (y.toNat:Int)) = .int .u32 ((X * 256 % 4294967296 ||| y.toNat:Nat):Int):=by
 have hy:=y.toNat_lt;rw[show((X:Int) * 256 % 4294967296)=((X * 256 % 4294967296:Nat):Int) by omega,u32_or_nat _ _ (Nat.mod_lt _ (by decide)) (by omega)]
def pcW (p:Bs) (pre:List (Fin 16)):List Value:=pre.map fun i => .int .u32 (zbn ((p.drop (i.val * 4)).take 4))
def ze0 (l:List Nat):List Value:=l.map fun(x:Nat) => .int .u32 x
theorem zeb {l:List Nat}(h:∀ x∈l,x<4294967296)(i:Nat):l.getD i 0<4294967296:=by
 rw[List.getD_eq_getElem?_getD];cases hq:l[i]? with
 | none=>decide
 | some x=>exact h x (List.mem_of_getElem? hq)
theorem zpx (p:Bs):pcW p (List.finRange 16)=ze0 ((zaz 4 16 p).map zbn):=by
 unfold pcW ze0;rw[List.map_map];apply List.ext_getElem?;intro i;rw[List.getElem?_map,List.getElem?_map];rcases Nat.lt_or_ge i 16 with h | h
 ·rw[zgg _ _ _ _ h,List.getElem?_eq_getElem (by simpa using h)];simp
 rw[List.getElem?_eq_none (by simpa using h),List.getElem?_eq_none (by rw[zd9];exact h)];rfl
structure PcI (q B n:Nat) (xs k1 k2:List Value) (V:World):Prop where
 var:V.heap[B]? = some (.cells #[.slice (some ⟨q+2,0,none⟩) n 64] 158 (0,0))
 row:V.ownsRow (q+2) 159 1 (.slice (some ⟨q+2,0,none⟩) n 64) n xs
 lt:q+2<B
 b1:V.heap[B+1]? = some (.cells k1.toArray 24 (0,0))
 b2:V.heap[B+1+1]? = some (.cells k2.toArray 3 (0,0))
theorem PcI.block {q B n:Nat}{xs k1 k2:List Value}{V:World}(h:PcI q B n xs k1 k2 V):∃ cur,V.heap[q+2]? = some (.cells cur 159 (0,0)):=by
 rcases h.row.2 with⟨h,-⟩ | ⟨g,cap,cur,h1,h2,h3,-⟩
 ·cases h
 injection h1 with h1
 injection h1 with h1
 injection h1 with h1
 rw[← h1]at h3;exact⟨cur,h3⟩
theorem PcI.cell {q B n:Nat} {l:List Nat} {k1 k2:List Value} {V:World} (h:PcI q B n (ze0 l) k1 k2 V) (i:Nat) (hi:i<l.length):V.cell? ⟨q+2,i,none⟩=some (.int .u32 (l.getD i 0:Nat)):=by
 have:=h.row.cells (g:=q+2) rfl i (.int .u32 (l.getD i 0:Nat)) (by
  unfold ze0;rw[List.getElem?_map,List.getElem?_eq_getElem hi]
  simp[hi])
 rw[Addr.add_lit]at this;rw[Nat.zero_add]at this;exact this
theorem PcI.own {q B n:Nat}{xs k1 k2:List Value}{A C:World}{row:Option Nat}(h:PcI q B n xs k1 k2 A)(hg:A.grownBy C row)(hr:∀ r,row=some r→∃ o:Obj,A.heap[r]? = some o∧o.isCells=false):PcI q B n xs k1 k2 C:=by
 refine⟨qo (β:=Unit) _ _ _ _ () A C row h.var hg hr,⟨h.row.1,h.row.2.imp id ?_⟩,h.lt,qo (β:=Unit) _ _ _ _ () A C row h.b1 hg hr,qo (β:=Unit) _ _ _ _ () A C row h.b2 hg hr⟩;rintro⟨g,cp,hA,e1,e2,e3,e4⟩;exact⟨g,cp,hA,e1,e2,qo (β:=Unit) _ _ _ _ () A C row e3 hg hr,e4⟩
theorem PcI.fr {q B n:Nat}{xs k1 k2:List Value}{A C:World}(h:PcI q B n xs k1 k2 A)(hF:Fr NoB A C):PcI q B n xs k1 k2 C :=
 ⟨hF.block _ _ h.var (fun h=>h),za1 h.row hF (fun _ _ _ _ h=>h),h.lt,hF.block _ _ h.b1 (fun h=>h),hF.block _ _ h.b2 (fun h=>h)⟩
theorem zo2 {q B n:Nat} {xs ys k1 k2:List Value} {V V' w1:World} (h:PcI q B n xs k1 k2 V) (hV:Fr NoB V V')
 (hown:w1.ownsRow (q+2) 159 1 (.slice (some ⟨q+2,0,none⟩) (n+1) 64) (n+1) ys) (hg:V'.grownBy w1 (some (q+2))) (v':Value) (hv':v' = .slice (some ⟨q+2,0,none⟩) (n+1) 64) :
 KeepsOthers V (w1.setCell ⟨B,0,none⟩ v')∧Ck2 (B+1) (B+1+1) V (w1.setCell ⟨B,0,none⟩ v')∧PcI q B (n+1) ys k1 k2 (w1.setCell ⟨B,0,none⟩ v')∧w1.cell? ⟨B,0,none⟩=some (.slice (some ⟨q+2,0,none⟩) n 64)∧w1.frozen? ⟨B,0,none⟩=false∧Below (q+2) V (w1.setCell ⟨B,0,none⟩ v'):=by
 subst hv';have hG:=h.lt
 have hn:∀ k,k≠q+2→k<V.heap.size→w1.heap[k]? = V.heap[k]?:=fun k hk hl=>by
  obtain⟨o,ho⟩:=zb2 hl;rw[ho];exact(hg.block k (Nat.lt_of_lt_of_le hl hV.size) (fun e=>hk (by injection e))).trans (hV.block _ _ ho (fun h=>h))
 have hA:=(hn B (by omega) (jq h.var)).trans h.var;have hF:V.heap.size≤w1.heap.size:=Nat.le_trans hV.size hg.size;have hC:∀ k v,k≠B→(w1.setCell ⟨B,0,none⟩ v).heap[k]? = w1.heap[k]?:=fun k v hk=>Below.heap_setCell _ _ _ _ (by simpa using hk)
 have hE:=(hC (B+1) (.slice (some ⟨q+2,0,none⟩) (n+1) 64) (by omega)).trans (hn _ (by omega) (jq h.b1));have hD:=(hC (B+1+1) (.slice (some ⟨q+2,0,none⟩) (n+1) 64) (by omega)).trans (hn _ (by omega) (jq h.b2));obtain⟨cur0,hB⟩:=h.block;refine⟨?_,⟨by simp;omega,hE,hD⟩,⟨jh (o:=0) _ hA,⟨hown.1,hown.2.imp id ?_⟩,hG,hE.trans h.b1,hD.trans h.b2⟩,by simp[World.cell?,hA],by simp[World.frozen?,hA],Below.setCell (p:=⟨B,0,none⟩) ⟨hg.os.trans hV.os,hg.tape.trans hV.tape,hg.output.trans hV.output,hF,fun k hk=>hn k (by omega) (by have:=jq h.var;omega)⟩ (by show q+2≤B;omega) _⟩
 ·have hK:KeepsOthers V V':=⟨hV.size,fun k o hk _=>hV.block k o hk (fun h=>h)⟩;refine(hK.trans (KeepsOthers.of_grownBy hg (fun j o hj ho=>?_))).trans (KeepsOthers.setCell _ _ _);obtain rfl:q+2=j:=by injection hj
  have:=hV.block _ _ hB (fun h=>h);rw[this]at ho;cases ho;rfl
 rintro⟨g,hI,hH,e1,e2,e3,e4⟩
 obtain rfl:q+2=g:=by
  injection e1 with e1
  injection e1 with e1
  injection e1 with e1
 exact⟨_,hI,hH,e1,e2,(hC _ _ (by omega)).trans e3,e4⟩
theorem zle (l:List Nat)(x:Nat):ze0 (l++[x])=ze0 l++[.int .u32 x]:=by simp[ze0]
theorem zlu {base e size n:Nat}{v:Value}{xs:List Value}{w w':World}(h:w.ownsRow base e size v n xs)(hF:Fr NoB w w'):w'.ownsRow base e size v n xs:=za1 h hF (fun _ _ _ _ h=>h)
theorem zkp {q B n i2 i7 i15 i16 y3:Nat} {l:List Nat} {a2 a7 a15 a16:Value} {k1 k2:List Value} {V V3 w4:World} (h:PcI q B n (ze0 l) k1 k2 V) (hF:Fr NoB V V3)
 (hown:w4.ownsRow (q+2) 159 1 (.slice (some ⟨q+2,0,none⟩) (n+1) 64) (n+1) (ze0 l++[.int .u32 y3])) (h4:w4.cell? ⟨B,0,none⟩=some (.slice (some ⟨q+2,0,none⟩) n 64))
 (hS:V3.cell? ⟨B,0,none⟩=some (.slice (some ⟨q+2,0,none⟩) n 64)∧V3.cell? ⟨q+2,i2,none⟩=some a2∧V3.cell? ⟨q+2,i7,none⟩=some a7∧V3.cell? ⟨q+2,i15,none⟩=some a15∧V3.cell? ⟨q+2,i16,none⟩=some a16)
 (h2:i2<n) (h7:i7<n) (h15:i15<n) (h16:i16<n) :
 w4.cell? ⟨B,0,none⟩=some (.slice (some ⟨q+2,0,none⟩) n 64)∧w4.cell? ⟨q+2,i2,none⟩=some a2∧w4.cell? ⟨q+2,i7,none⟩=some a7∧w4.cell? ⟨q+2,i15,none⟩=some a15∧w4.cell? ⟨q+2,i16,none⟩=some a16:=by
 have hl:(ze0 l).length=n:=by have:=h.row.1;simpa using this
 have hA:∀ i v,i<n→V3.cell? ⟨q+2,i,none⟩=some v→w4.cell? ⟨q+2,i,none⟩=some v:=fun i v hi hv=>by
  have hx:(ze0 l)[i]? = some (ze0 l)[i]:=List.getElem?_eq_getElem (by omega);have h1:=(zlu h.row hF).cells (g:=q+2) rfl i _ hx;have h2:=hown.cells (g:=q+2) rfl i (ze0 l)[i] (by rw[List.getElem?_append_left (by omega)];exact hx);rw[Addr.add_lit]at h1 h2;rw[Nat.zero_add]at h1 h2;rw[h2,← h1,hv]
 exact⟨h4,hA _ _ h2 hS.2.1,hA _ _ h7 hS.2.2.1,hA _ _ h15 hS.2.2.2.1,hA _ _ h16 hS.2.2.2.2⟩
def zhb (s t:Wk) (j:Nat):Wk:=⟨if 0<j then (s.a+t.a) % 4294967296 else s.a,if 1<j then (s.b+t.b) % 4294967296 else s.b,if 2<j then (s.c+t.c) % 4294967296 else s.c,if 3<j then (s.d+t.d) % 4294967296 else s.d,if 4<j then (s.e+t.e) % 4294967296 else s.e,if 5<j then (s.f+t.f) % 4294967296 else s.f,if 6<j then (s.g+t.g) % 4294967296 else s.g,if 7<j then (s.h+t.h) % 4294967296 else s.h⟩
theorem zh0 {l:List Nat}{j:Nat}(h:j<l.length):l.drop j=l.getD j 0 :: l.drop (j+1):=by
 rw[List.drop_eq_getElem_cons h]
 congr 1
 simp[h]
theorem zmj:∀ x∈kShort,x<4294967296:=by decide
theorem zr2 (e:Nat) (h:e<4294967296):bits .xor .u32 (4294967295:Int) (e:Int)=((4294967295 - e:Nat):Int):=by
 have h1:=u32_xor_nat 4294967295 e (by decide) h
 have h2:4294967295 ^^^ e=4294967295 - e:=by
  have:=BitVec.toNat_not (x:=BitVec.ofNat 32 e);have h3:(BitVec.ofNat 32 e).toNat=e:=by simp;omega
  rw[h3]at this;have h4:(~~~ BitVec.ofNat 32 e)=(BitVec.allOnes 32) ^^^ BitVec.ofNat 32 e:=by rw[BitVec.allOnes_xor]
  rw[h4,BitVec.toNat_xor,h3,BitVec.toNat_allOnes]at this;exact this
 rw[h2]at h1;exact h1
theorem zqg {a b y:Nat}(h:(a+b) % 4294967296=y):IntKind.u32.wrap ((a:Int)+(b:Int))=(y:Int)∧((a:Int)+(b:Int)) % 4294967296=(y:Int):=by
 rw[IntKind.wrap_u32'];omega
theorem znz (b tb tcap pb po pcap:Nat) (s0 s:Wk) (p:Bs) (w:World) (hpc:pcap≤maxLen) (hpc2:64≤pcap) (hpo:po≤maxLen) (hpl:p.length=64) (hslt:s.lt) (htab:∀ i,i<64→w.cell? ⟨tb,i,none⟩=some (.int .u32 (kShort.getD i 0:Nat))) (hp:∀ (j:Nat) (x:UInt8),p[j]? = some x→w.cell? ⟨pb,po+j,none⟩=some (.int .u8 x.toNat)) (hS:w.heap[b]? = some (.cells (zba (.slice (some ⟨tb,0,none⟩) 64 tcap) s0) 162 (0,0))) :
 CallsIn Fence.wide 5 zl 165 #[.pointer (some ⟨b,0,none⟩),.agg (wkC s),.slice (some ⟨pb,po,none⟩) 64 pcap] w fun e w'=>e = .returned (.agg (wkC (zbg kShort s p)))∧Fr NoB w w':=by
 have c0:w.cell? ⟨b,0,none⟩=some (.int .i64 32):=by simp[World.cell?,hS,zba]
 have c1:w.cell? ⟨b,1,none⟩=some (.slice (some ⟨tb,0,none⟩) 64 tcap):=by simp[World.cell?,hS,zba]
 have Av:Fr NoB w ((w.alloc (.cells (wkC s) 160)).alloc (.cells wkZ 160)):=(Fr.refl.alloc _).alloc _;have Bg:((w.alloc (.cells (wkC s) 160)).alloc (.cells wkZ 160)).heap[w.heap.size]? = some (.cells (wkC s) 160 (0,0)):=((Fr.refl (M:=NoB)).alloc _).block _ _ (zo w _) (fun h=>h)
 have Be:((w.alloc (.cells (wkC s) 160)).alloc (.cells wkZ 160)).heap[w.heap.size+1]? = some (.cells wkZ 160 (0,0)):=by
  have:=zo (w.alloc (.cells (wkC s) 160)) (.cells wkZ 160)
  rwa [zm]at this
 have CK:=Fr.cell Av c0;have CJ:=Fr.cell Av c1;have Cq:=jq hS;clear c0 c1;have Ao:=zi Av;have BR:=zi Bg;have BQ:=zi Be;have HS:=zi hS;have Hp:=zi hp;have Hpl:=zi hpl;have Hslt:=zi hslt;have Htab:=zi htab;clear Av Bg Be hS hp htab hslt;obtain⟨PP,BL⟩:∃ x,zbg kShort s p=x:=⟨_,rfl⟩;rw[BL];have C9:=zi BL;clear BL;refine callsIn_of_wp_marks Tryz.func165 rfl trivial ?_ rfl;simp only[Tryz.ntmps165,List.size_toArray,List.length_cons,List.length_nil,Nat.reduceAdd,Nat.reduceSub,Array.replicate_succ,Array.replicate_zero,List.push_toArray,List.append_toArray,List.nil_append,List.cons_append];refine wpIn_wide.2 ?_
 go_upto_region 1 with(fail)
 change Code.wp _ _ _ _ ((w.alloc (.cells (wkC s) 160)).alloc (.cells wkZ 160));obtain⟨W,hW⟩:∃ V,(w.alloc (.cells (wkC s) 160)).alloc (.cells wkZ 160)=V:=⟨_,rfl⟩;rw[hW]at CK CJ Ao BR BQ ⊢;obtain⟨q,hq⟩:∃ x,w.heap.size=x:=⟨_,rfl⟩;have Cr:W.heap.size=q+2:=by rw[← hW,← hq];simp
 rw[hq]at BR BQ Cq ⊢;have Hq:=zi hq;clear hW hq;obtain⟨i0,BE,Ci,A9,Ch⟩:=info_parts zel;obtain⟨W1,Bi,AA,Bq⟩:=run_make_own (P:=zl) W W.heap.size 158 159 i0 (.int .u32 0) 1 Tryz.underlying158 BE Ci A9 .i64 .i64 64 (by rw[Ch];decide) (by decide) (ja _);have BA:(Instr.makeSlice 158 (.int .i64 0) (.int .i64 64)).run zl W = .ok (.slice (some ⟨W.heap.size,0,none⟩) 0 64) W1:=Bi
 go_upto_region 3 with(fail)
 change Code.wp _ _ _ _ (W1.alloc (.cells #[.slice (some ⟨q+2,0,none⟩) 0 64] 158));obtain⟨B,hB⟩:∃ x,W1.heap.size=x:=⟨_,rfl⟩;rw[Cr]at AA
 have B8:q+2<B:=by
  rcases AA.2 with⟨h,-⟩ | ⟨g,cp,cur,h1,h2,h3,-⟩
  ·cases h
  injection h1 with h1
  injection h1 with h1
  injection h1 with h1
  rw[← hB,h1];exact jq h3
 have Aj:Fr NoB W W1:=(Fr.ofGrown Bq).mono (fun k _ h=>by cases h);have AT:Fr NoB W (W1.alloc (.cells #[.slice (some ⟨q+2,0,none⟩) 0 64] 158)):=Aj.alloc _;have Ar:=zo W1 (.cells #[.slice (some ⟨q+2,0,none⟩) 0 64] 158);have hi:=AA.alloc (.cells #[.slice (some ⟨q+2,0,none⟩) 0 64] 158);have AI:(W1.alloc (.cells #[.slice (some ⟨q+2,0,none⟩) 0 64] 158)).heap.size=B+1:=by rw[zm,hB]
 rw[hB]at Ar ⊢;obtain⟨W2,B3⟩:∃ V,W1.alloc (.cells #[.slice (some ⟨q+2,0,none⟩) 0 64] 158)=V:=⟨_,rfl⟩;rw[B3]at AT Ar hi AI ⊢;have BF:=zm3 (some ⟨pb,po,none⟩) 64 pcap 4 (by decide) W2;rw[AI]at BF;have DB:=zi AT;have Cv:=zi Ar;have Am:=zi hi;have Hck:=zi BF;clear Bi BA AA Bq Aj AT Ar hi BF B3 hB CK CJ
 go_wp2_with fail
 refine Hck.out.mono ?_;rintro e W3 ⟨rfl,AR⟩;have hs3:W3.heap.size=B+3:=by rw[AR];simp[AI]
 have Ak:Fr NoB W2 W3:=by rw[AR];exact(Fr.refl.alloc _).alloc _
 have Bm:W3.cell? ⟨B+1,0,none⟩=some (.slice (some ⟨pb,po,none⟩) 64 pcap):=by
  have h1:=((Fr.refl (M:=NoB)).alloc (.cells #[.int .i64 4] 3)).block _ _ (zo W2 (.cells #[.slice (some ⟨pb,po,none⟩) 64 pcap] 24)) (fun h=>h);rw[← AR,AI]at h1;simp[World.cell?,h1]
 have Bl:W3.cell? ⟨B+2,0,none⟩=some (.int .i64 4):=by
  have h1:=zo (W2.alloc (.cells #[.slice (some ⟨pb,po,none⟩) 64 pcap] 24)) (.cells #[.int .i64 4] 3);rw[← AR,zm,AI]at h1;simp[World.cell?,h1]
 have C3:Hid (W3.heap[B+1]? = some (.cells [Value.slice (some ⟨pb,po,none⟩) 64 pcap].toArray 24 (0,0))):=zi (by
  have h1:=((Fr.refl (M:=NoB)).alloc (.cells #[.int .i64 4] 3)).block _ _ (zo W2 (.cells #[.slice (some ⟨pb,po,none⟩) 64 pcap] 24)) (fun h=>h);rw[← AR,AI]at h1
  exact h1)
 have C2:Hid (W3.heap[B+1+1]? = some (.cells [zv .i64 4].toArray 3 (0,0))):=zi (by
  have h1:=zo (W2.alloc (.cells #[.slice (some ⟨pb,po,none⟩) 64 pcap] 24)) (.cells #[.int .i64 4] 3);rw[← AR,zm,AI]at h1
  exact h1)
 have C1:=zi Bm;have C0:=zi Bl;have BT:=zi Ak;clear Bm Bl Ak AR Hck
 go_wp2_with fail
 refine(wpIn_wide (n:=5)).1 ?_
 refine wpIn_rangeFunc_ownH (w:=W3) rfl (by omega) (gf:=211) (lb:=#[.pointer (some ⟨B+1,0,none⟩),.pointer (some ⟨B+1+1,0,none⟩)]) rfl trivial (enters_of Tryz.func211 (by kernel_rfl) rfl)
  (zfx Fence.wide 4 trivial rfl (by omega) (B+1) (B+1+1) pb po pcap 4 16 (by omega) (by omega) (by omega) (by omega) hpc hpo W3 (by omega) (by omega) C1.out C0.out)
  Ck2.trans (fun W l o o' hl ho hc hw=>Ck2.put (n₀:=B+3) (by omega) (by omega) W l o o' (by omega) ho hc hw) (Below.refl _ _) (fun _=>rfl)
  (fun he V=>PcI q B he.length (pcW p he) [.slice (some ⟨pb,po,none⟩) 64 pcap] [.int .i64 4] V∧Below (q+2) W V∧W3.heap.size≤V.heap.size)
  (fun c he V=>False)
  ?hI (fun _ s A B row hs hg hr=>hs.elim)
  ?h0
  (fun x a' V=>a'={ tmps:=#[.pointer (some ⟨b,0,none⟩),.agg (wkC s),.slice (some ⟨pb,po,none⟩) 64 pcap,undef,.pointer (some ⟨q,0,none⟩),undef,.pointer (some ⟨q+1,0,none⟩),.int .i64 4,.pointer (some ⟨B,0,none⟩),.slice (some ⟨pb,po+x.val * 4,none⟩) 4 4,undef,undef,undef,undef,undef,undef,undef,undef,undef,undef,undef,undef,undef,undef,undef,undef,undef,undef,.pointer (some ⟨b,0,none⟩),.pointer (some ⟨b,0,none⟩),.pointer (some ⟨b,0,none⟩),.int .i64 32,.int .i64 4,.pointer (some ⟨b,0,none⟩),.pointer (some ⟨b,0,none⟩),.pointer (some ⟨b,1,none⟩),.slice (some ⟨tb,0,none⟩) 64 tcap,.int .i64 64,.slice (some ⟨q+2,0,none⟩) 0 64,.slice (some ⟨pb,po,none⟩) 64 pcap,.int .i64 4,.func (.func 211) #[] #[.pointer (some ⟨B+1,0,none⟩),.pointer (some ⟨B+1+1,0,none⟩)],.slice (some ⟨pb,po+x.val * 4,none⟩) 4 4,undef,undef,undef,undef,undef,undef,undef,undef,undef,undef,undef,undef,undef,undef,undef,undef,undef,undef,undef,undef,undef,undef,undef,undef,undef,undef,undef,undef,undef,undef,undef,undef,undef,undef,undef,undef,undef,undef,undef,undef,undef,undef,undef,undef,undef,undef,undef,undef,undef,undef,undef,undef,undef,undef,undef,undef,undef,undef,undef,undef,undef,undef,undef,undef,undef,undef,undef,undef,undef,undef,undef,undef,undef,undef,undef,undef,undef,undef,undef,undef,undef,undef,undef,undef,undef,undef,undef,undef,undef,undef,undef,undef,undef,undef,undef,undef,undef,undef,undef,undef,undef,undef,undef,undef,undef,undef,undef,undef,undef,undef,undef,undef,undef,undef,undef,undef,undef,undef,undef,undef,undef,undef,undef,undef,undef,undef,undef,undef,undef,undef,undef,undef,undef,undef,undef,undef,undef,undef,undef,undef,undef,undef,undef,undef,undef,undef,undef,undef,undef,undef,undef],defers:=[] })
  (fun x a' s A B row hs hg hr=>hs) ?assign ?body ?done ?stop
 case hI =>
  rintro s A B' row ⟨h1,h5,h6⟩ hg Bb;exact⟨h1.own hg (fun r e=>(Bb r e).2),ownFrom_below (β:=Unit) (n₀:=q+2) (B:=W3.heap.size) (w₀:=W) (by omega) (by omega) () A B' row h5 hg Bb,Nat.le_trans h6 hg.size⟩
 case h0 =>
  exact⟨⟨BT.out.block _ _ Cv.out (fun h=>h),za1 Am.out BT.out (fun _ _ _ _ h=>h),B8,C3.out,C2.out⟩,(DB.out.trans' BT.out).below (by omega) (fun _ _ _ h=>h.elim),ja _⟩
 case assign =>
  rintro l he x V K hI hK;have HI:=zi hI;have HK:=zi hK;clear hI hK;unfold zh4
  gi_wp2
  exact HK.out _ _ (KeepsFrom.refl _ _) Ck2.refl HI.out rfl
 case body =>
  rintro l he x a' V hl ⟨r,Cm⟩ ⟨ha,hB,BZ⟩ rfl hM;have h1:=ha.var;have v0:V.cell? ⟨B,0,none⟩=some (.slice (some ⟨q+2,0,none⟩) he.length 64):=by simp[World.cell?,h1]
  have AE:∀ j (hj:j<4),∃ y:UInt8,p[x.val * 4+j]? = some y∧V.cell? ⟨pb,po+x.val * 4+j,none⟩=some (.int .u8 y.toNat):=fun j hj=>by
   have hx:=x.isLt;obtain⟨y,hy⟩:∃ y,p[x.val * 4+j]? = some y:=⟨_,List.getElem?_eq_getElem (by omega)⟩;refine⟨y,hy,?_⟩;have h:=Hp.out _ _ hy;rw[Nat.add_assoc];exact(hB.cell (p:=⟨pb,po+(x.val * 4+j),none⟩) (by have:=World.block_lt_of_cell? _ _ h;have:=Hq.out;omega)).trans (Fr.cell Ao.out h)
  have HB:=zi hB;have Hby:=zi AE;have Hpci:=zi ha;clear h1 hB AE Cm hl ha;obtain⟨c,hc⟩:∃ c,(p.drop (x.val * 4)).take 4=c:=⟨_,rfl⟩;have Bv:c.length=4:=by rw[← hc,List.length_take,List.length_drop];have:=x.isLt;have:=Hpl.out;omega
  have Hc:=zi hc;have Hcl:=zi Bv;clear hc Bv
  gi_wp2_with fail
  gi_loopw [10,45] (fun vx vi wr=>∃ j:Nat,j≤4∧vi = .int .i64 j∧vx = .int .u32 (zbn (c.take j))∧V=wr) (fun _ vi _=>4 - (intOf vi).toNat)
  case atStart=>exact⟨0,by omega,rfl,rfl,rfl⟩
  case round =>
   obtain⟨j,hj,rfl,rfl,rfl⟩:=hrel;by_cases AN:j<4
   ·obtain ⟨y,hy,hyc⟩:=Hby.out j AN;have hT:decide ((j:Int)<4)=true:=decide_eq_true (by omega);have hyl:=y.toNat_lt
    have BY:c.take (j+1)=c.take j++[y]:=by
     rw[List.take_add_one,← Hc.out,List.getElem?_take,if_pos AN,List.getElem?_drop,hy];rfl
    have AZ:=zhg (c.take j)
    have AX:zbn (c.take (j+1))=zbn (c.take j) * 256 % 4294967296 ||| y.toNat:=by
     rw[BY];unfold zbn;rw[List.foldl_append];rfl
    obtain⟨X,hX⟩:∃ X,zbn (c.take j)=X:=⟨_,rfl⟩;rw[hX]at AZ AX ⊢;have Hwn:=zi AX;clear AX BY hX hy
    gi_wp2_with fail
    go_roundw
    case rel=>exact⟨j+1,by omega,by simp,by rw[Hwn.out];exact orI X y AZ,trivial⟩
    case measure=>simp[intOf];omega
   obtain rfl:j=4:=by omega
   rw[List.take_of_length_le (by rw[Hcl.out];omega)];have hf:pcW p (he++[x])=pcW p he++[.int .u32 (zbn c)]:=by rw[← Hc.out];simp[pcW]
   obtain⟨X,hX⟩:∃ X,zbn c=X:=⟨_,rfl⟩;rw[hX]at hf ⊢;have Hrows:=zi hf;have hBV:B<V.heap.size:=jq Hpci.out.var;have hqV:=B8;clear hf hX AN
   gi_wp2_with (gi_at_builtin;refine zli ?_)
   refine zi ?_;refine wpListIn_append_fits _ rfl _ _ 158 rfl (q+2) 159 i0 1 Tryz.underlying158 BE A9 (q+2) he.length 64 (pcW p he) (by rfl) (Hpci.out.row.alloc _) ⟨V.heap.size,0,none⟩ 1 1 [.int .u32 X] (by rfl) rfl (j8 V [.int .u32 X] 159) (by simp[Value.oneCell']) (by omega) ?_;intro w1 AD Ae;obtain⟨r1,r2,r3,r4,r5,r6⟩:=zo2 Hpci.out ((Fr.refl (M:=NoB)).alloc _) AD Ae _ rfl;have R1:=zi r1;have R2:=zi r2;have R3:=zi r3;have R6:=zi r6;clear r1 r2 r3 r6 AD Ae v0
   gi_wp2
   refine⟨R1.out.from _,R2.out,?_,HB.out.trans R6.out,by have:=R2.out.size;omega⟩;rw[Hrows.out,List.length_append];exact R3.out
 case done =>
  rintro D ys V hD rfl ⟨ha,hB,BZ⟩ hK;have Hpci:=zi ha;have HB:=zi hB;have HK:=zi hK;clear ha hB hK;have ht:(List.finRange 16).length=16:=by simp
  obtain⟨ws,AW⟩:∃ ws,ws=(zaz 4 16 p).map zbn:=⟨_,rfl⟩;have AZ:ws.length=16:=by rw[AW];simp[zd9]
  have AY:∀ x∈ws,x<4294967296:=fun x hx=>by
   rw[AW]at hx;obtain⟨c,-,rfl⟩:=List.mem_map.1 hx;exact zhg c
  have hu:pcW p (List.finRange 16)=ze0 ws:=by
   rw[AW];exact zpx p
  rw[ht,hu]at Hpci;have Hwl:=zi AZ;have Hwlt:=zi AY;have Hws:=zi AW;clear AZ AY AW ht hu
  go_wp2_with fail
  go_loopg [13] 49 (fun gf vt wr=>∃ j:Nat,vt = .int .i64 ((16+j:Nat):Int)∧j≤48∧j+gf=49∧Hid (PcI q B (16+j) (ze0 (zd6 ws j)) [.slice (some ⟨pb,po,none⟩) 64 pcap] [.int .i64 4] wr)∧Hid (Below (q+2) W wr)∧Hid (W3.heap.size≤wr.heap.size)∧Hid (wr.heap[D]? = some (.deferred (some []))))
  case atStart=>exact⟨0,rfl,by omega,by omega,Hpci,HB,zi BZ,HK⟩
  case round =>
   obtain⟨j,rfl,hj,BD,HP,AF,CO,BS⟩:=hrel;have Bw:=AF.out.block b (by omega);have BJ:wr.heap[b]? = some (.cells (zba (.slice (some ⟨tb,0,none⟩) 64 tcap) s0) 162 (0,0)):=Bw.trans (Ao.out.block _ _ HS.out (fun h=>h));have CI:wr.cell? ⟨b,1,none⟩=some (.slice (some ⟨tb,0,none⟩) 64 tcap):=by simp[World.cell?,BJ,zba]
   have Az:=zi BJ;clear Bw BJ;have hv:=HP.out.var;have hH:=zlr ws j;rw[Hwl.out]at hH;by_cases hM:j<48
   ·have hT:decide (((16+j:Nat):Int)<64)=true:=decide_eq_true (by omega);have v0:wr.cell? ⟨B,0,none⟩=some (.slice (some ⟨q+2,0,none⟩) (16+j) 64):=by simp[World.cell?,hv]
    have hb:=zjo ws Hwlt.out j;have hZ:zd6 ws (j+1)=zd6 ws j++[zkw (zd6 ws j)]:=rfl;obtain⟨l,hl⟩:∃ l,zd6 ws j=l:=⟨_,rfl⟩;rw[hl]at hH hb hZ HP;obtain⟨n,hn⟩:∃ n,16+j=n:=⟨_,rfl⟩;rw[hn]at hH HP hv v0 hT ⊢;have x2:=HP.out.cell (n - 2) (by omega);have x7:=HP.out.cell (n - 7) (by omega);have Aq:=HP.out.cell (n - 15) (by omega);have Ap:=HP.out.cell (n - 16) (by omega);obtain⟨i2,Bp⟩:∃ i,n - 2=i:=⟨_,rfl⟩;obtain⟨i7,Bo⟩:∃ i,n - 7=i:=⟨_,rfl⟩;obtain⟨AH,Ac⟩:∃ i,n - 15=i:=⟨_,rfl⟩;obtain⟨AG,Ab⟩:∃ i,n - 16=i:=⟨_,rfl⟩;obtain⟨y3,hP⟩:∃ y,zkw l=y:=⟨_,rfl⟩;rw[hP]at hZ;unfold zkw at hP;rw[hH]at hP;rw[Bp]at x2 hP;rw[Bo]at x7 hP;rw[Ac]at Aq hP;rw[Ab]at Ap hP;have g2:=zeb hb i2;have g7:=zeb hb i7;have Ay:=zeb hb AH;have CH:=zeb hb AG;obtain⟨a2,B1⟩:∃ a,l.getD i2 0=a:=⟨_,rfl⟩;obtain⟨a7,B0⟩:∃ a,l.getD i7 0=a:=⟨_,rfl⟩;obtain⟨AU,Ah⟩:∃ a,l.getD AH 0=a:=⟨_,rfl⟩;obtain⟨BP,Ag⟩:∃ a,l.getD AG 0=a:=⟨_,rfl⟩;rw[B1]at x2 hP g2;rw[B0]at x7 hP g7;rw[Ah]at Aq hP Ay;rw[Ag]at Ap hP CH;have BB:∀ V,Fr NoB wr V→Calls zl 212 #[.pointer (some ⟨b,0,none⟩),.int .u32 a2,.int .i64 3] V fun e w'=>e = .returned (.int .u32 (zhp 3 a2))∧Fr NoB V w':=fun V hF=>zoa b a2 3 (by omega) _ s0 V (hF.block _ _ Az.out (fun h=>h)) g2
    have BC:∀ V,Fr NoB wr V→Calls zl 212 #[.pointer (some ⟨b,0,none⟩),.int .u32 AU,.int .i64 2] V fun e w'=>e = .returned (.int .u32 (zhp 2 AU))∧Fr NoB V w':=fun V hF=>zoa b AU 2 (by omega) _ s0 V (hF.block _ _ Az.out (fun h=>h)) Ay
    have p3:=zg1 (k:=3) g2;have p2:=zg1 (k:=2) Ay;obtain⟨m3,AJ⟩:∃ m,zhp 3 a2=m:=⟨_,rfl⟩;obtain⟨m2,AK⟩:∃ m,zhp 2 AU=m:=⟨_,rfl⟩;simp only[AJ]at BB;simp only[AK]at BC;rw[AJ]at hP p3;rw[AK]at hP p2;obtain⟨y1,BV⟩:∃ y,(m3+a7) % 4294967296=y:=⟨_,rfl⟩;rw[BV]at hP;obtain⟨y2,BU⟩:∃ y,(y1+m2) % 4294967296=y:=⟨_,rfl⟩;rw[BU]at hP;have e1:IntKind.u32.wrap ((m3:Int)+(a7:Int))=(y1:Int):=by rw[IntKind.wrap_u32'];omega
    have e2:IntKind.u32.wrap ((y1:Int)+(m2:Int))=(y2:Int):=by rw[IntKind.wrap_u32'];omega
    have e3:IntKind.u32.wrap ((y2:Int)+(BP:Int))=(y3:Int):=by rw[IntKind.wrap_u32'];omega
    have d2:IntKind.i64.wrap ((n:Int) - 2)=(i2:Int):=by rw[zt];omega
    have d7:IntKind.i64.wrap ((n:Int) - 7)=(i7:Int):=by rw[zt];omega
    have Ct:IntKind.i64.wrap ((n:Int) - 15)=(AH:Int):=by rw[zt];omega
    have Cs:IntKind.i64.wrap ((n:Int) - 16)=(AG:Int):=by rw[zt];omega
    have b2:(i2:Int)<(n:Int):=by omega
    have b7:(i7:Int)<(n:Int):=by omega
    have b15:(AH:Int)<(n:Int):=by omega
    have b16:(AG:Int)<(n:Int):=by omega
    have c2:(0:Int)≤(i2:Int):=by omega
    have c7:(0:Int)≤(i7:Int):=by omega
    have c15:(0:Int)≤(AH:Int):=by omega
    have c16:(0:Int)≤(AG:Int):=by omega
    have hn48:n<64:=by omega
    have Bh:wrap64 ((n:Int)+1)=(n:Int)+1:=by unfold wrap64;omega
    have B4:∀ V,Fr NoB wr V→V.cell? ⟨B,0,none⟩=some (.slice (some ⟨q+2,0,none⟩) n 64)∧V.cell? ⟨q+2,i2,none⟩=some (.int .u32 a2)∧V.cell? ⟨q+2,i7,none⟩=some (.int .u32 a7)∧V.cell? ⟨q+2,AH,none⟩=some (.int .u32 AU)∧V.cell? ⟨q+2,AG,none⟩=some (.int .u32 BP):=fun V hF =>
     ⟨Fr.cell hF v0,Fr.cell hF x2,Fr.cell hF x7,Fr.cell hF Aq,Fr.cell hF Ap⟩
    have An:=zi B4;have Cw:=zi BB;have Cx:=zi BC;have Hnw:=zi Bh;have Hsu:=zi (And.intro hZ (And.intro hn hH));have Ba:∀ m,m=n+1→16+(j+1)=m:=fun m hm=>by rw[hm,← hn];rfl
    have Hsn:=zi Ba;clear B4 BB BC Bh hZ hn hH Ba v0 x2 x7 Aq Ap hv hl Bp Bo Ac Ab BV BU hP AJ AK B1 B0 Ah Ag hb g2 g7 Ay CH p3 p2
    go_upto_region 15 with(fail)
    refine zc2 (S:=fun V=>Hid (V.cell? ⟨B,0,none⟩=some (.slice (some ⟨q+2,0,none⟩) n 64)∧V.cell? ⟨q+2,i2,none⟩=some (.int .u32 a2)∧V.cell? ⟨q+2,i7,none⟩=some (.int .u32 a7)∧V.cell? ⟨q+2,AH,none⟩=some (.int .u32 AU)∧V.cell? ⟨q+2,AG,none⟩=some (.int .u32 BP))) 30 (by kernel_rfl) (zi (An.out _ Fr.refl.drew)) (fun hA=>?_);simp only[qV]
    iterate 7
     refine qtD (v:=?_) rfl (jc ⟨by rfl,?_⟩) hA ?_;rotate_left
     ·intro W hC;obtain⟨z0,z2,z7,hL,hJ⟩:=hC.out
      try simp only[qQ]
      go_simp
      try rw[if_neg (by omega)]
      try with_reducible rfl
     try simp only[Act.put,qP]
    refine qiD (i:=8) (v:=?_) rfl (jc ⟨by rfl,?_⟩) hA ?_;rotate_left
    ·intro W hC;obtain⟨z0,z2,z7,hL,hJ⟩:=hC.out
     try simp only[qQ]
     go_simp
     try rw[if_neg (by omega)]
     try with_reducible rfl
    try simp only[Act.put,qP]
    refine qiD (i:=9) (v:=?_) rfl (jc ⟨by rfl,?_⟩) hA ?_;rotate_left
    ·intro W hC;obtain⟨z0,z2,z7,hL,hJ⟩:=hC.out
     try simp only[qQ]
     go_simp
     try rw[if_neg (by omega)]
     try with_reducible rfl
    try simp only[Act.put,qP]
    refine qiD (i:=10) (v:=?_) rfl (jc ⟨by rfl,?_⟩) hA ?_;rotate_left
    ·intro W hC;obtain⟨z0,z2,z7,hL,hJ⟩:=hC.out
     try simp only[qQ]
     go_simp
     try rw[if_neg (by omega)]
     try with_reducible rfl
    try simp only[Act.put,qP]
    refine qiD (i:=11) (v:=?_) rfl (jc ⟨by rfl,?_⟩) hA ?_;rotate_left
    ·intro W hC;obtain⟨z0,z2,z7,hL,hJ⟩:=hC.out
     try simp only[qQ]
     go_simp
     try rw[if_neg (by omega)]
     try with_reducible rfl
    try simp only[Act.put,qP]
    refine qiD (i:=12) (v:=?_) rfl (jc ⟨by rfl,?_⟩) hA ?_;rotate_left
    ·intro W hC;obtain⟨z0,z2,z7,hL,hJ⟩:=hC.out
     try simp only[qQ]
     go_simp
     try rw[if_neg (by omega)]
     try with_reducible rfl
    try simp only[Act.put,qP]
    refine qiD (i:=14) (v:=?_) rfl (jc ⟨by rfl,?_⟩) hA ?_;rotate_left
    ·intro W hC;obtain⟨z0,z2,z7,hL,hJ⟩:=hC.out
     try simp only[qQ]
     go_simp
     try rw[if_neg (by omega)]
     try with_reducible rfl
    try simp only[Act.put,qP]
    refine qiD (i:=15) (v:=?_) rfl (jc ⟨by rfl,?_⟩) hA ?_;rotate_left
    ·intro W hC;obtain⟨z0,z2,z7,hL,hJ⟩:=hC.out
     try simp only[qQ]
     go_simp
     try rw[if_neg (by omega)]
     try with_reducible rfl
    try simp only[Act.put,qP]
    refine qiD (i:=16) (v:=?_) rfl (jc ⟨by rfl,?_⟩) hA ?_;rotate_left
    ·intro W hC;obtain⟨z0,z2,z7,hL,hJ⟩:=hC.out
     try simp only[qQ]
     go_simp
     try rw[if_neg (by omega)]
     try with_reducible rfl
    try simp only[Act.put,qP]
    refine qiD (i:=17) (v:=?_) rfl (jc ⟨by rfl,?_⟩) hA ?_;rotate_left
    ·intro W hC;obtain⟨z0,z2,z7,hL,hJ⟩:=hC.out
     try simp only[qQ]
     go_simp
     try rw[if_neg (by omega)]
     try with_reducible rfl
    try simp only[Act.put,qP]
    refine qiD (i:=18) (v:=?_) rfl (jc ⟨by rfl,?_⟩) hA ?_;rotate_left
    ·intro W hC;obtain⟨z0,z2,z7,hL,hJ⟩:=hC.out
     try simp only[qQ]
     go_simp
     try rw[if_neg (by omega)]
     try with_reducible rfl
    try simp only[Act.put,qP]
    refine qiD (i:=19) (v:=?_) rfl (jc ⟨by rfl,?_⟩) hA ?_;rotate_left
    ·intro W hC;obtain⟨z0,z2,z7,hL,hJ⟩:=hC.out
     try simp only[qQ]
     go_simp
     try rw[if_neg (by omega)]
     try with_reducible rfl
    try simp only[Act.put,qP]
    refine qiD (i:=22) (v:=?_) rfl (jc ⟨by rfl,?_⟩) hA ?_;rotate_left
    ·intro W hC;obtain⟨z0,z2,z7,hL,hJ⟩:=hC.out
     try simp only[qQ]
     go_simp
     try rw[if_neg (by omega)]
     try with_reducible rfl
    try simp only[Act.put,qP]
    refine qiD (i:=23) (v:=?_) rfl (jc ⟨by rfl,?_⟩) hA ?_;rotate_left
    ·intro W hC;obtain⟨z0,z2,z7,hL,hJ⟩:=hC.out
     try simp only[qQ]
     go_simp
     try rw[if_neg (by omega)]
     try with_reducible rfl
    try simp only[Act.put,qP]
    refine qiD (i:=24) (v:=?_) rfl (jc ⟨by rfl,?_⟩) hA ?_;rotate_left
    ·intro W hC;obtain⟨z0,z2,z7,hL,hJ⟩:=hC.out
     try simp only[qQ]
     go_simp
     try rw[if_neg (by omega)]
     try with_reducible rfl
    try simp only[Act.put,qP]
    refine qiD (i:=25) (v:=?_) rfl (jc ⟨by rfl,?_⟩) hA ?_;rotate_left
    ·intro W hC;obtain⟨z0,z2,z7,hL,hJ⟩:=hC.out
     try simp only[qQ]
     go_simp
     try rw[if_neg (by omega)]
     try with_reducible rfl
    try simp only[Act.put,qP]
    refine qiD (i:=26) (v:=?_) rfl (jc ⟨by rfl,?_⟩) hA ?_;rotate_left
    ·intro W hC;obtain⟨z0,z2,z7,hL,hJ⟩:=hC.out
     try simp only[qQ]
     go_simp
     try rw[if_neg (by omega)]
     try with_reducible rfl
    try simp only[Act.put,qP]
    refine qrD (i:=7) (by kernel_rfl) rfl (fun K hK=>?_)
    try simp only[qQ]
    go_simp;refine(Cw.out _ Fr.refl.drew).mono ?_;rintro r w2 ⟨rfl,AT⟩;have AS:=zi ((Fr.refl (M:=NoB)).drew.trans' AT);clear AT;refine hK.out _ _ (zi (An.out _ AS.out)) (fun hA=>?_);clear hK K
    try simp only[Act.put,qP]
    refine qtD (v:=?_) rfl (jc ⟨by rfl,?_⟩) hA ?_;rotate_left
    ·intro W hC;obtain⟨z0,z2,z7,hL,hJ⟩:=hC.out
     try simp only[qQ]
     go_simp
     try rw[if_neg (by omega)]
     try with_reducible rfl
    try simp only[Act.put,qP]
    refine qrD (i:=20) (by kernel_rfl) rfl (fun K hK=>?_)
    try simp only[qQ]
    go_simp;refine(Cx.out _ AS.out).mono ?_;rintro r w3 ⟨rfl,Ak⟩;have hd:=zi (AS.out.trans' Ak);clear Ak;refine hK.out _ _ (zi (An.out _ hd.out)) (fun hA=>?_);clear hK K
    try simp only[Act.put,qP]
    iterate 2
     refine qtD (v:=?_) rfl (jc ⟨by rfl,?_⟩) hA ?_;rotate_left
     ·intro W hC;obtain⟨z0,z2,z7,hL,hJ⟩:=hC.out
      try simp only[qQ]
      go_simp
      try rw[if_neg (by omega)]
      try with_reducible rfl
     try simp only[Act.put,qP]
    refine qrD (i:=28) (by kernel_rfl) rfl (fun K hK=>?_)
    try simp only[qQ]
    go_simp;refine hK.out _ _ (zi (An.out _ (hd.out.alloc _))) (fun hA=>?_);clear hK K
    try simp only[Act.put,qP]
    refine qrD (i:=29) (by kernel_rfl) rfl (fun K hK=>?_)
    try simp only[qQ]
    rw[if_pos (by rfl)];refine wp_append_own_spare _ _ _ 158 (by rfl) (q+2) 159 i0 1 Tryz.underlying158 BE A9 (q+2) n 64 (ze0 l) (by rfl) (zlu HP.out.row (hd.out.alloc _)) ⟨w3.heap.size,0,none⟩ 1 1 [.int .u32 y3] (by rfl) rfl (j8 w3 [.int .u32 y3] 159) (by simp[Value.oneCell']) (by omega) ?_;intro w4 hh Ad;obtain⟨r1,r2,r3,r4,r5,r6⟩:=zo2 HP.out (hd.out.alloc _) hh Ad _ rfl;have R1:=zi r1;have R2:=zi r2;have R3:=zi r3;have R6:=zi r6;clear r1 r2 r3 r6;have B5:=zkp HP.out hd.out hh r4 (An.out _ hd.out) (by omega) (by omega) (by omega) (by omega);refine hK.out _ _ (zi B5) (fun hA=>?_);clear hK K
    try simp only[Act.put,qP]
    refine qzD (by kernel_rfl) rfl (fun K hK=>?_)
    try simp only[qQ]
    go_simp;refine hK.out _ _ ?_;clear hK K
    try simp only[Act.put,qP]
    refine ziq (by kernel_rfl) ?_ _;simp only[zax];clear hA B5 r4 r5 hh Ad e1 e2 e3 d2 d7 Ct Cs
    go_wp2_with fail
    go_roundg (gk - 1)
    case measure=>omega
    case rel =>
     have Bn:=Hsn.out _ rfl;exact⟨j+1,by rw[Bn];simp,by omega,by omega,by rw[Bn,Hsu.out.1,zle];exact R3.out,zi (AF.out.trans R6.out),zi (Nat.le_trans CO.out R2.out.size),zi (R1.out.same _ _ BS.out rfl)⟩
   obtain rfl:j=48:=by omega
   have hT:decide (((16+48:Nat):Int)<64)=false:=by decide
   have h7:=(AF.out.block q (by omega)).trans BR.out;have Cf:wr.cell? ⟨q,0,none⟩=some (.int .u32 s.a):=by simp[World.cell?,h7,wkC]
   have Ce:wr.cell? ⟨q,1,none⟩=some (.int .u32 s.b):=by simp[World.cell?,h7,wkC]
   have Cd:wr.cell? ⟨q,2,none⟩=some (.int .u32 s.c):=by simp[World.cell?,h7,wkC]
   have Cc:wr.cell? ⟨q,3,none⟩=some (.int .u32 s.d):=by simp[World.cell?,h7,wkC]
   have Cb:wr.cell? ⟨q,4,none⟩=some (.int .u32 s.e):=by simp[World.cell?,h7,wkC]
   have Ca:wr.cell? ⟨q,5,none⟩=some (.int .u32 s.f):=by simp[World.cell?,h7,wkC]
   have CZ:wr.cell? ⟨q,6,none⟩=some (.int .u32 s.g):=by simp[World.cell?,h7,wkC]
   have CY:wr.cell? ⟨q,7,none⟩=some (.int .u32 s.h):=by simp[World.cell?,h7,wkC]
   have CL:=zi h7;clear h7 hv
   go_upto_region 16 with(fail)
   refine qg (S:=fun V=>V=wr.drew) (by kernel_rfl) rfl (fun hA=>?_);simp only[qV]
   iterate 24
    refine qt (v:=?_) rfl (jc ⟨by rfl,?_⟩) hA ?_;rotate_left
    ·intro W hC;obtain rfl:=hC
     try simp only[qQ]
     go_simp
     try rw[if_neg (by omega)]
     try with_reducible rfl
    try simp only[Act.put,qP]
   refine wpAnyH_done (by kernel_rfl) ?_ _;simp only[zax];clear hA Cf Ce Cd Cc Cb Ca CZ CY;obtain⟨l,hl⟩:∃ l,zd6 ws 48=l:=⟨_,rfl⟩;rw[hl]at HP hH;obtain⟨R,hR⟩:∃ R,zgf s kShort l=R:=⟨_,rfl⟩;have HR:Hid (zgf s (kShort.drop 0) (l.drop 0)=R):=zi hR;have Bk:kShort.length=64:=by decide
   have Hl:Hid (l.length=64∧kShort.length=64):=zi ⟨hH,Bk⟩;have Hlw:Hid (∀ x∈l,x<4294967296):=zi (by rw[← hl];exact zjo ws Hwlt.out 48);have Aw:Fr NoB wr wr.drew:=Fr.refl.drew;obtain⟨wq,BX⟩:∃ x,wr.drew=x:=⟨_,rfl⟩;rw[BX]at Aw ⊢;have Cu:=Fr.cell Aw CI;obtain⟨wo,Ck⟩:∃ x:World,x=wr:=⟨_,rfl⟩;subst Ck;have CR:=zi Aw;have HL:=zi hl;have C5:=zi hR;clear hR Bk hH hl Aw BX CI hT hM hj BD CO
   go_wp2_with fail
   go_loopg [14,15,16,17,18,19,20,21,119] 65 (fun gf va vb vc vd ve vf vg vh vi w5=>∃ (j:Nat) (z:Wk),vi = .int .i64 j∧j≤64∧j+gf=65∧va = .int .u32 z.a∧vb = .int .u32 z.b∧vc = .int .u32 z.c∧vd = .int .u32 z.d∧ve = .int .u32 z.e∧vf = .int .u32 z.f∧vg = .int .u32 z.g∧vh = .int .u32 z.h∧Hid z.lt∧Hid (zgf z (kShort.drop j) (l.drop j)=R)∧Hid (Fr NoB wo w5))
   case atStart=>exact⟨0,s,rfl,by omega,by omega,rfl,rfl,rfl,rfl,rfl,rfl,rfl,rfl,Hslt,HR,CR⟩
   case round =>
    obtain⟨j,z,rfl,hj,BD,rfl,rfl,rfl,rfl,rfl,rfl,rfl,rfl,HZ,A0,h8⟩:=hrel;by_cases hM:j<64
    ·as_aux_lemma =>
      obtain⟨k,hk⟩:∃ x,kShort.getD j 0=x:=⟨_,rfl⟩;obtain⟨x,hx⟩:∃ x,l.getD j 0=x:=⟨_,rfl⟩;have Cp:k<4294967296:=by rw[← hk];exact zeb zmj j
      have Cj:x<4294967296:=by rw[← hx];exact zeb Hlw.out j
      have Bt:kShort.drop j=k :: kShort.drop (j+1):=by rw[← hk];exact zh0 (by rw[Hl.out.2];exact hM)
      have Br:l.drop j=x :: l.drop (j+1):=by rw[← hx];exact zh0 (by rw[Hl.out.1];exact hM)
      have h9:=Htab.out j hM
      have tc:wr.cell? ⟨tb,j,none⟩=some (.int .u32 k):=by
       rw[hk]at h9;have h1:=Fr.cell Ao.out h9;have h2:=(AF.out.cell (p:=⟨tb,j,none⟩) (by have h0:tb<w.heap.size:=World.block_lt_of_cell? _ _ h9;have:=Hq.out;show tb<q+2;omega)).trans h1;exact Fr.cell h8.out h2
      have xc:=Fr.cell h8.out (HP.out.cell j (by rw[Hl.out.1];exact hM));rw[hx]at xc;have hQ:wr.cell? ⟨B,0,none⟩=some (.slice (some ⟨q+2,0,none⟩) 64 64):=Fr.cell h8.out (by have h:=HP.out.var;simp[World.cell?,h]);have BK:=h8.out.block _ _ Az.out (fun h=>h);have CP:Hid (zgf (z.step k x) (kShort.drop (j+1)) (l.drop (j+1))=R):=zi (by have h:=A0.out;rw[Bt,Br]at h;exact h);have AV:=HZ.out;have CM:=zi (Wk.step_lt AV k x);obtain⟨ga,gb,gc,gd,ge,Ax,gg,gh⟩:=AV;have hN:z.step k x=⟨(zkg z k x+znk z) % 4294967296,z.a,z.b,z.c,(z.d+zkg z k x) % 4294967296,z.e,z.f,z.g⟩:=rfl;obtain⟨U,hU⟩:∃ u,zkg z k x=u:=⟨_,rfl⟩;obtain⟨Vv,hV⟩:∃ u,znk z=u:=⟨_,rfl⟩;rw[hU,hV]at hN;unfold zkg at hU;unfold znk at hV;have As:∀ V,Fr NoB wr V→Calls zl 212 #[.pointer (some ⟨b,0,none⟩),.int .u32 z.e,.int .i64 1] V fun e w'=>e = .returned (.int .u32 (zhp 1 z.e))∧Fr NoB V w':=fun V hF=>zoa b z.e 1 (by omega) _ s0 V (hF.block _ _ BK (fun h=>h)) ge
      have At:∀ V,Fr NoB wr V→Calls zl 212 #[.pointer (some ⟨b,0,none⟩),.int .u32 z.a,.int .i64 0] V fun e w'=>e = .returned (.int .u32 (zhp 0 z.a))∧Fr NoB V w':=fun V hF=>zoa b z.a 0 (by omega) _ s0 V (hF.block _ _ BK (fun h=>h)) ga
      have p1:=zg1 (k:=1) ge;have p0:=zg1 (k:=0) ga;obtain⟨za,zb,zc,zd,ze,zf,zg,zh⟩:=z;simp only at As At p1 p0 hU hV hN ga gb gc gd ge Ax gg gh ⊢;obtain⟨m1,AL⟩:∃ m,zhp 1 ze=m:=⟨_,rfl⟩;obtain⟨m0,AM⟩:∃ m,zhp 0 za=m:=⟨_,rfl⟩;simp only[AL]at As;simp only[AM]at At;rw[AL]at hU p1;rw[AM]at hV p0;have f1:=u32_and_nat ze zf ge Ax;have BW:bits .xor .u32 (if IntKind.u32.signed=true then -1 else IntKind.u32.max) (ze:Int)=((4294967295 - ze:Nat):Int):=zr2 ze ge;have f2:=u32_and_nat (4294967295 - ze) zg (by omega) gg;have l1:ze &&& zf<4294967296:=Nat.and_lt_two_pow (n:=32) _ Ax;have l2:(4294967295 - ze) &&& zg<4294967296:=Nat.and_lt_two_pow (n:=32) _ gg;have f3:=u32_or_nat _ _ l1 l2;have f4:=u32_and_nat za zb ga gb;have f5:=u32_and_nat za zc ga gc;have f6:=u32_and_nat zb zc gb gc;have l4:za &&& zb<4294967296:=Nat.and_lt_two_pow (n:=32) _ gb;have l5:za &&& zc<4294967296:=Nat.and_lt_two_pow (n:=32) _ gc;have l6:zb &&& zc<4294967296:=Nat.and_lt_two_pow (n:=32) _ gc;have f7:=u32_or_nat _ _ l4 l5;have l7:za &&& zb ||| za &&& zc<4294967296:=Nat.or_lt_two_pow (n:=32) l4 l5
      have f8:=u32_or_nat _ _ l7 l6;obtain⟨Cg,Aa⟩:∃ y,4294967295 - ze=y:=⟨_,rfl⟩;rw[Aa]at BW f2 f3 hU;obtain⟨A1,CG⟩:∃ y,ze &&& zf=y:=⟨_,rfl⟩;obtain⟨A2,CF⟩:∃ y,Cg &&& zg=y:=⟨_,rfl⟩;rw[CG]at f1 f3 hU;rw[CF]at f2 f3 hU;obtain⟨A3,CE⟩:∃ y,A1 ||| A2=y:=⟨_,rfl⟩
      rw[CE]at f3 hU;obtain⟨A4,CD⟩:∃ y,za &&& zb=y:=⟨_,rfl⟩;obtain⟨A5,CC⟩:∃ y,za &&& zc=y:=⟨_,rfl⟩;obtain⟨A6,CB⟩:∃ y,zb &&& zc=y:=⟨_,rfl⟩;rw[CD]at f4 f7 f8 hV;rw[CC]at f5 f7 f8 hV;rw[CB]at f6 f8 hV;obtain⟨A7,CA⟩:∃ y,A4 ||| A5=y:=⟨_,rfl⟩
      rw[CA]at f7 f8 hV;obtain⟨A8,B9⟩:∃ y,A7 ||| A6=y:=⟨_,rfl⟩
      rw[B9]at f8 hV;obtain⟨U1,BI⟩:∃ y,(zh+m1) % 4294967296=y:=⟨_,rfl⟩;rw[BI]at hU;obtain⟨U2,BH⟩:∃ y,(U1+A3) % 4294967296=y:=⟨_,rfl⟩;rw[BH]at hU;obtain⟨U3,BG⟩:∃ y,(U2+k) % 4294967296=y:=⟨_,rfl⟩;rw[BG]at hU;obtain⟨E1,BN⟩:∃ y,(U+Vv) % 4294967296=y:=⟨_,rfl⟩;obtain⟨E2,BM⟩:∃ y,(zd+U) % 4294967296=y:=⟨_,rfl⟩;rw[BN,BM]at hN;have t1:=zqg BI;have t2:=zqg BH;have t3:=zqg BG;have t4:=zqg hU;have T5:=zi (zqg hV);have T6:=zi (zqg BN);have T7:=zi (zqg BM);obtain⟨t1,-⟩:=t1;obtain⟨t2,-⟩:=t2;obtain⟨t3,-⟩:=t3;obtain⟨t4,-⟩:=t4;rw[hN]at CP CM;have hT:decide ((j:Int)<64)=true:=decide_eq_true (by omega);have hj64:(j:Int)<64:=by omega
      have Cy:=zi As;have Cz:=zi At;clear As At hU hV CG CF CE CD CC CB CA B9 BI BH BG BN BM hN AL AM Aa hk hx Bt Br h9 BK l1 l2 l4 l5 l6 l7 ga gb gc gd ge Ax gg gh p1 p0 Cp Cj A0 HZ
      go_upto_region 20 with(fail)
      refine qg (S:=fun V=>Hid (Fr NoB wr V)) (by kernel_rfl) (zi Fr.refl.drew) (fun hA=>?_);simp only[qV]
      iterate 3
       refine qt (v:=?_) rfl (jc ⟨by rfl,?_⟩) hA ?_;rotate_left
       ·intro W hC;have hE:=Fr.cell hC.out hQ;have hY:=Fr.cell hC.out xc
        try simp only[qQ]
        go_simp
        try rw[if_neg (by omega)]
        try with_reducible rfl
       try simp only[Act.put,qP]
      refine qi (i:=5) (v:=?_) rfl (jc ⟨by rfl,?_⟩) hA ?_;rotate_left
      ·intro W hC;have hE:=Fr.cell hC.out hQ;have hY:=Fr.cell hC.out xc
       try simp only[qQ]
       go_simp
       try rw[if_neg (by omega)]
       try with_reducible rfl
      try simp only[Act.put,qP]
      refine qi (i:=6) (v:=?_) rfl (jc ⟨by rfl,?_⟩) hA ?_;rotate_left
      ·intro W hC;have hE:=Fr.cell hC.out hQ;have hY:=Fr.cell hC.out xc
       try simp only[qQ]
       go_simp
       try rw[if_neg (by omega)]
       try with_reducible rfl
      try simp only[Act.put,qP]
      refine qi (i:=7) (v:=?_) rfl (jc ⟨by rfl,?_⟩) hA ?_;rotate_left
      ·intro W hC;have hE:=Fr.cell hC.out hQ;have hY:=Fr.cell hC.out xc
       try simp only[qQ]
       go_simp
       try rw[if_neg (by omega)]
       try with_reducible rfl
      try simp only[Act.put,qP]
      refine qi (i:=8) (v:=?_) rfl (jc ⟨by rfl,?_⟩) hA ?_;rotate_left
      ·intro W hC;have hE:=Fr.cell hC.out hQ;have hY:=Fr.cell hC.out xc
       try simp only[qQ]
       go_simp
       try rw[if_neg (by omega)]
       try with_reducible rfl
      try simp only[Act.put,qP]
      refine qi (i:=9) (v:=?_) rfl (jc ⟨by rfl,?_⟩) hA ?_;rotate_left
      ·intro W hC;have hE:=Fr.cell hC.out hQ;have hY:=Fr.cell hC.out xc
       try simp only[qQ]
       go_simp
       try rw[if_neg (by omega)]
       try with_reducible rfl
      try simp only[Act.put,qP]
      refine qi (i:=10) (v:=?_) rfl (jc ⟨by rfl,?_⟩) hA ?_;rotate_left
      ·intro W hC;have hE:=Fr.cell hC.out hQ;have hY:=Fr.cell hC.out xc
       try simp only[qQ]
       go_simp
       try rw[if_neg (by omega)]
       try with_reducible rfl
      try simp only[Act.put,qP]
      refine qi (i:=11) (v:=?_) rfl (jc ⟨by rfl,?_⟩) hA ?_;rotate_left
      ·intro W hC;have hE:=Fr.cell hC.out hQ;have hY:=Fr.cell hC.out xc
       try simp only[qQ]
       go_simp
       try rw[if_neg (by omega)]
       try with_reducible rfl
      try simp only[Act.put,qP]
      refine qi (i:=12) (v:=?_) rfl (jc ⟨by rfl,?_⟩) hA ?_;rotate_left
      ·intro W hC;have hE:=Fr.cell hC.out hQ;have hY:=Fr.cell hC.out xc
       try simp only[qQ]
       go_simp
       try rw[if_neg (by omega)]
       try with_reducible rfl
      try simp only[Act.put,qP]
      refine qi (i:=14) (v:=?_) rfl (jc ⟨by rfl,?_⟩) hA ?_;rotate_left
      ·intro W hC;have hE:=Fr.cell hC.out hQ;have hY:=Fr.cell hC.out xc
       try simp only[qQ]
       go_simp
       try rw[if_neg (by omega)]
       try with_reducible rfl
      try simp only[Act.put,qP]
      refine qi (i:=16) (v:=?_) rfl (jc ⟨by rfl,?_⟩) hA ?_;rotate_left
      ·intro W hC;have hE:=Fr.cell hC.out hQ;have hY:=Fr.cell hC.out xc
       try simp only[qQ]
       go_simp
       try rw[if_neg (by omega)]
       try with_reducible rfl
      try simp only[Act.put,qP]
      refine qi (i:=17) (v:=?_) rfl (jc ⟨by rfl,?_⟩) hA ?_;rotate_left
      ·intro W hC;have hE:=Fr.cell hC.out hQ;have hY:=Fr.cell hC.out xc
       try simp only[qQ]
       go_simp
       try rw[if_neg (by omega)]
       try with_reducible rfl
      try simp only[Act.put,qP]
      refine qi (i:=18) (v:=?_) rfl (jc ⟨by rfl,?_⟩) hA ?_;rotate_left
      ·intro W hC;have hE:=Fr.cell hC.out hQ;have hY:=Fr.cell hC.out xc
       try simp only[qQ]
       go_simp
       try rw[if_neg (by omega)]
       try with_reducible rfl
      try simp only[Act.put,qP]
      refine qi (i:=19) (v:=?_) rfl (jc ⟨by rfl,?_⟩) hA ?_;rotate_left
      ·intro W hC;have hE:=Fr.cell hC.out hQ;have hY:=Fr.cell hC.out xc
       try simp only[qQ]
       go_simp
       try rw[if_neg (by omega)]
       try with_reducible rfl
      try simp only[Act.put,qP]
      refine qr (i:=3) (by kernel_rfl) rfl (fun K hK=>?_)
      try simp only[qQ]
      go_simp;refine(Cy.out _ hA.out).mono ?_;rintro r w6 ⟨rfl,B7⟩;refine hK.out _ _ (zi (hA.out.trans' B7)) (fun hA=>?_);clear hK K
      try simp only[Act.put,qP]
      iterate 5
       refine qt (v:=?_) rfl (jc ⟨by rfl,?_⟩) hA ?_;rotate_left
       ·intro W hC;have hE:=Fr.cell hC.out hQ;have hY:=Fr.cell hC.out xc
        try simp only[qQ]
        go_simp
        try rw[if_neg (by omega)]
        try with_reducible rfl
       try simp only[Act.put,qP]
      refine wpAnyH_done (by kernel_rfl) ?_ _;simp only[zax];have CQ:=zi hA.out;clear hA B7 t1 t2 t3 t4 f1 f2 f3 BW tc;have Hf:=zi (And.intro f4 (And.intro f5 (And.intro f6 (And.intro f7 f8))));clear f4 f5 f6 f7 f8
      go_wp2_with fail
      refine(Cz.out _ CQ.out).mono ?_;rintro r w7 ⟨rfl,B6⟩;have DA:=zi (h8.out.trans' (CQ.out.trans' B6));clear B6;obtain⟨f4,f5,f6,f7,f8⟩:=Hf.out
      go_wp2_with fail
      go_roundg (gk - 1)
      case measure=>omega
      case rel =>
       obtain⟨CX,CW⟩:=T5.out;obtain⟨CV,CU⟩:=T6.out;obtain⟨CT,CS⟩:=T7.out;refine⟨j+1,⟨E1,za,zb,zc,E2,ze,zf,zg⟩,by simp,by omega,by omega,?_,rfl,rfl,rfl,?_,rfl,rfl,rfl,CM,CP,DA⟩
       ·first | simp only[CW,CU] | simp only[CX,CV]
       first | simp only[CS] | simp only[CT]
    obtain rfl:j=64:=by omega
    have hT:decide (((64:Nat):Int)<64)=false:=by decide
    have hz:z=R:=by
     have h:=A0.out
     rwa [List.drop_of_length_le (by rw[Hl.out.2];exact ja _),List.drop_of_length_le (by rw[Hl.out.1];exact ja _)]at h
    subst hz;have Bf:wr.heap[q]? = some (.cells (wkC (zhb s z 0)) 160 (0,0)):=h8.out.block _ _ CL.out (fun h=>h);have Bd:wr.heap[q+1]? = some (.cells wkZ 160 (0,0)):=h8.out.block _ _ ((AF.out.block (q+1) (by omega)).trans BQ.out) (fun h=>h);have Bu:=h8.out.block _ _ BS.out (fun h=>h);have Af:Below q w wr:=((Ao.out.below (by rw[Hq.out];exact ja _) (fun _ _ _ h=>h.elim)).trans (AF.out.mono (by omega))).trans (h8.out.below (by have:=AF.out.size;omega) (fun _ _ _ h=>h.elim));have C8:=zi Bf;have C7:=zi Bd;have DC:=zi Bu;have Hbel:=zi Af;clear Bf Bd Bu Af A0 HR CR h8 AF HP Hl Hlw Az CL BS hM Cu;obtain⟨wn,AX⟩:∃ x:World,x=wr:=⟨_,rfl⟩;subst AX
    go_wp2_with fail
    go_loopg [182] 9 (fun gf vi wr=>∃ (j:Nat),vi = .int .i64 j∧j≤8∧j+gf=9∧Hid (wr.heap[q]? = some (.cells (wkC (zhb s z j)) 160 (0,0)))∧Hid (wr.heap[q+1]? = some (.cells wkZ 160 (0,0)))∧Hid (wr.heap[D]? = some (.deferred (some [])))∧Hid (Below q w wr))
    case atStart=>exact⟨0,rfl,by omega,by omega,C8,C7,DC,Hbel⟩
    case round =>
     obtain⟨j,rfl,hj,BD,HQ,h4,AB,AC⟩:=hrel;by_cases hM:j<8
     ·have AQ:j=0∨j=1∨j=2∨j=3∨j=4∨j=5∨j=6∨j=7:=by omega
      rcases AQ with rfl | rfl | rfl | rfl | rfl | rfl | rfl | rfl
      ·have x0:wr.cell? ⟨q,0,none⟩=some (.int .u32 s.a):=by simp[World.cell?,HQ.out,wkC,zhb]
       have xz:wr.frozen? ⟨q,0,none⟩=false:=by simp[World.frozen?,HQ.out]
       have AO:(Instr.index 160 (.agg #[.int .u32 z.a,.int .u32 z.b,.int .u32 z.c,.int .u32 z.d,.int .u32 z.e,.int .u32 z.f,.int .u32 z.g,.int .u32 z.h]) (.int .i64 0)).run zl wr = .ok (.int .u32 z.a) wr:=by kernel_rfl
       have hG:∀ v,v=zv .u32 (((s.a+z.a) % 4294967296:Nat):Int)→(wr.setCell ⟨q,0,none⟩ v).heap[q]? = some (.cells (wkC (zhb s z (0+1))) 160 (0,0)):=fun v hv=>by
        rw[jh (o:=0) v HQ.out,hv];rfl
       have hO:=zi hG;clear hj hM hG
       go_wp2_with fail
       go_roundg (gk - 1)
       case measure=>omega
       case rel =>
        have e:zv .u32 (((s.a:Int)+(z.a:Int)) % 4294967296) = .int .u32 (((s.a+z.a) % 4294967296:Nat):Int):=by congr 1
        exact⟨0+1,rfl,by omega,by omega,zi (hO.out _ e),zi ((Below.heap_setCell _ _ _ _ (by simp)).trans h4.out),zi ((Below.heap_setCell _ _ _ _ (by show D≠q;omega)).trans AB.out),zi (AC.out.setCell (p:=⟨q,0,none⟩) (ja _) _)⟩
      ·have x0:wr.cell? ⟨q,1,none⟩=some (.int .u32 s.b):=by simp[World.cell?,HQ.out,wkC,zhb]
       have xz:wr.frozen? ⟨q,1,none⟩=false:=by simp[World.frozen?,HQ.out]
       have AO:(Instr.index 160 (.agg #[.int .u32 z.a,.int .u32 z.b,.int .u32 z.c,.int .u32 z.d,.int .u32 z.e,.int .u32 z.f,.int .u32 z.g,.int .u32 z.h]) (.int .i64 1)).run zl wr = .ok (.int .u32 z.b) wr:=by kernel_rfl
       have hG:∀ v,v=zv .u32 (((s.b+z.b) % 4294967296:Nat):Int)→(wr.setCell ⟨q,1,none⟩ v).heap[q]? = some (.cells (wkC (zhb s z (1+1))) 160 (0,0)):=fun v hv=>by
        rw[jh (o:=1) v HQ.out,hv];rfl
       have hO:=zi hG;clear hj hM hG
       go_wp2_with fail
       go_roundg (gk - 1)
       case measure=>omega
       case rel =>
        have e:zv .u32 (((s.b:Int)+(z.b:Int)) % 4294967296) = .int .u32 (((s.b+z.b) % 4294967296:Nat):Int):=by congr 1
        exact⟨1+1,rfl,by omega,by omega,zi (hO.out _ e),zi ((Below.heap_setCell _ _ _ _ (by simp)).trans h4.out),zi ((Below.heap_setCell _ _ _ _ (by show D≠q;omega)).trans AB.out),zi (AC.out.setCell (p:=⟨q,1,none⟩) (ja _) _)⟩
      ·have x0:wr.cell? ⟨q,2,none⟩=some (.int .u32 s.c):=by simp[World.cell?,HQ.out,wkC,zhb]
       have xz:wr.frozen? ⟨q,2,none⟩=false:=by simp[World.frozen?,HQ.out]
       have AO:(Instr.index 160 (.agg #[.int .u32 z.a,.int .u32 z.b,.int .u32 z.c,.int .u32 z.d,.int .u32 z.e,.int .u32 z.f,.int .u32 z.g,.int .u32 z.h]) (.int .i64 2)).run zl wr = .ok (.int .u32 z.c) wr:=by kernel_rfl
       have hG:∀ v,v=zv .u32 (((s.c+z.c) % 4294967296:Nat):Int)→(wr.setCell ⟨q,2,none⟩ v).heap[q]? = some (.cells (wkC (zhb s z (2+1))) 160 (0,0)):=fun v hv=>by
        rw[jh (o:=2) v HQ.out,hv];rfl
       have hO:=zi hG;clear hj hM hG
       go_wp2_with fail
       go_roundg (gk - 1)
       case measure=>omega
       case rel =>
        have e:zv .u32 (((s.c:Int)+(z.c:Int)) % 4294967296) = .int .u32 (((s.c+z.c) % 4294967296:Nat):Int):=by congr 1
        exact⟨2+1,rfl,by omega,by omega,zi (hO.out _ e),zi ((Below.heap_setCell _ _ _ _ (by simp)).trans h4.out),zi ((Below.heap_setCell _ _ _ _ (by show D≠q;omega)).trans AB.out),zi (AC.out.setCell (p:=⟨q,2,none⟩) (ja _) _)⟩
      ·have x0:wr.cell? ⟨q,3,none⟩=some (.int .u32 s.d):=by simp[World.cell?,HQ.out,wkC,zhb]
       have xz:wr.frozen? ⟨q,3,none⟩=false:=by simp[World.frozen?,HQ.out]
       have AO:(Instr.index 160 (.agg #[.int .u32 z.a,.int .u32 z.b,.int .u32 z.c,.int .u32 z.d,.int .u32 z.e,.int .u32 z.f,.int .u32 z.g,.int .u32 z.h]) (.int .i64 3)).run zl wr = .ok (.int .u32 z.d) wr:=by kernel_rfl
       have hG:∀ v,v=zv .u32 (((s.d+z.d) % 4294967296:Nat):Int)→(wr.setCell ⟨q,3,none⟩ v).heap[q]? = some (.cells (wkC (zhb s z (3+1))) 160 (0,0)):=fun v hv=>by
        rw[jh (o:=3) v HQ.out,hv];rfl
       have hO:=zi hG;clear hj hM hG
       go_wp2_with fail
       go_roundg (gk - 1)
       case measure=>omega
       case rel =>
        have e:zv .u32 (((s.d:Int)+(z.d:Int)) % 4294967296) = .int .u32 (((s.d+z.d) % 4294967296:Nat):Int):=by congr 1
        exact⟨3+1,rfl,by omega,by omega,zi (hO.out _ e),zi ((Below.heap_setCell _ _ _ _ (by simp)).trans h4.out),zi ((Below.heap_setCell _ _ _ _ (by show D≠q;omega)).trans AB.out),zi (AC.out.setCell (p:=⟨q,3,none⟩) (ja _) _)⟩
      ·have x0:wr.cell? ⟨q,4,none⟩=some (.int .u32 s.e):=by simp[World.cell?,HQ.out,wkC,zhb]
       have xz:wr.frozen? ⟨q,4,none⟩=false:=by simp[World.frozen?,HQ.out]
       have AO:(Instr.index 160 (.agg #[.int .u32 z.a,.int .u32 z.b,.int .u32 z.c,.int .u32 z.d,.int .u32 z.e,.int .u32 z.f,.int .u32 z.g,.int .u32 z.h]) (.int .i64 4)).run zl wr = .ok (.int .u32 z.e) wr:=by kernel_rfl
       have hG:∀ v,v=zv .u32 (((s.e+z.e) % 4294967296:Nat):Int)→(wr.setCell ⟨q,4,none⟩ v).heap[q]? = some (.cells (wkC (zhb s z (4+1))) 160 (0,0)):=fun v hv=>by
        rw[jh (o:=4) v HQ.out,hv];rfl
       have hO:=zi hG;clear hj hM hG
       go_wp2_with fail
       go_roundg (gk - 1)
       case measure=>omega
       case rel =>
        have e:zv .u32 (((s.e:Int)+(z.e:Int)) % 4294967296) = .int .u32 (((s.e+z.e) % 4294967296:Nat):Int):=by congr 1
        exact⟨4+1,rfl,by omega,by omega,zi (hO.out _ e),zi ((Below.heap_setCell _ _ _ _ (by simp)).trans h4.out),zi ((Below.heap_setCell _ _ _ _ (by show D≠q;omega)).trans AB.out),zi (AC.out.setCell (p:=⟨q,4,none⟩) (ja _) _)⟩
      ·have x0:wr.cell? ⟨q,5,none⟩=some (.int .u32 s.f):=by simp[World.cell?,HQ.out,wkC,zhb]
       have xz:wr.frozen? ⟨q,5,none⟩=false:=by simp[World.frozen?,HQ.out]
       have AO:(Instr.index 160 (.agg #[.int .u32 z.a,.int .u32 z.b,.int .u32 z.c,.int .u32 z.d,.int .u32 z.e,.int .u32 z.f,.int .u32 z.g,.int .u32 z.h]) (.int .i64 5)).run zl wr = .ok (.int .u32 z.f) wr:=by kernel_rfl
       have hG:∀ v,v=zv .u32 (((s.f+z.f) % 4294967296:Nat):Int)→(wr.setCell ⟨q,5,none⟩ v).heap[q]? = some (.cells (wkC (zhb s z (5+1))) 160 (0,0)):=fun v hv=>by
        rw[jh (o:=5) v HQ.out,hv];rfl
       have hO:=zi hG;clear hj hM hG
       go_wp2_with fail
       go_roundg (gk - 1)
       case measure=>omega
       case rel =>
        have e:zv .u32 (((s.f:Int)+(z.f:Int)) % 4294967296) = .int .u32 (((s.f+z.f) % 4294967296:Nat):Int):=by congr 1
        exact⟨5+1,rfl,by omega,by omega,zi (hO.out _ e),zi ((Below.heap_setCell _ _ _ _ (by simp)).trans h4.out),zi ((Below.heap_setCell _ _ _ _ (by show D≠q;omega)).trans AB.out),zi (AC.out.setCell (p:=⟨q,5,none⟩) (ja _) _)⟩
      ·have x0:wr.cell? ⟨q,6,none⟩=some (.int .u32 s.g):=by simp[World.cell?,HQ.out,wkC,zhb]
       have xz:wr.frozen? ⟨q,6,none⟩=false:=by simp[World.frozen?,HQ.out]
       have AO:(Instr.index 160 (.agg #[.int .u32 z.a,.int .u32 z.b,.int .u32 z.c,.int .u32 z.d,.int .u32 z.e,.int .u32 z.f,.int .u32 z.g,.int .u32 z.h]) (.int .i64 6)).run zl wr = .ok (.int .u32 z.g) wr:=by kernel_rfl
       have hG:∀ v,v=zv .u32 (((s.g+z.g) % 4294967296:Nat):Int)→(wr.setCell ⟨q,6,none⟩ v).heap[q]? = some (.cells (wkC (zhb s z (6+1))) 160 (0,0)):=fun v hv=>by
        rw[jh (o:=6) v HQ.out,hv];rfl
       have hO:=zi hG;clear hj hM hG
       go_wp2_with fail
       go_roundg (gk - 1)
       case measure=>omega
       case rel =>
        have e:zv .u32 (((s.g:Int)+(z.g:Int)) % 4294967296) = .int .u32 (((s.g+z.g) % 4294967296:Nat):Int):=by congr 1
        exact⟨6+1,rfl,by omega,by omega,zi (hO.out _ e),zi ((Below.heap_setCell _ _ _ _ (by simp)).trans h4.out),zi ((Below.heap_setCell _ _ _ _ (by show D≠q;omega)).trans AB.out),zi (AC.out.setCell (p:=⟨q,6,none⟩) (ja _) _)⟩
      have x0:wr.cell? ⟨q,7,none⟩=some (.int .u32 s.h):=by simp[World.cell?,HQ.out,wkC,zhb]
      have xz:wr.frozen? ⟨q,7,none⟩=false:=by simp[World.frozen?,HQ.out]
      have AO:(Instr.index 160 (.agg #[.int .u32 z.a,.int .u32 z.b,.int .u32 z.c,.int .u32 z.d,.int .u32 z.e,.int .u32 z.f,.int .u32 z.g,.int .u32 z.h]) (.int .i64 7)).run zl wr = .ok (.int .u32 z.h) wr:=by kernel_rfl
      have hG:∀ v,v=zv .u32 (((s.h+z.h) % 4294967296:Nat):Int)→(wr.setCell ⟨q,7,none⟩ v).heap[q]? = some (.cells (wkC (zhb s z (7+1))) 160 (0,0)):=fun v hv=>by
       rw[jh (o:=7) v HQ.out,hv];rfl
      have hO:=zi hG;clear hj hM hG
      go_wp2_with fail
      go_roundg (gk - 1)
      case measure=>omega
      case rel =>
       have e:zv .u32 (((s.h:Int)+(z.h:Int)) % 4294967296) = .int .u32 (((s.h+z.h) % 4294967296:Nat):Int):=by congr 1
       exact⟨7+1,rfl,by omega,by omega,zi (hO.out _ e),zi ((Below.heap_setCell _ _ _ _ (by simp)).trans h4.out),zi ((Below.heap_setCell _ _ _ _ (by show D≠q;omega)).trans AB.out),zi (AC.out.setCell (p:=⟨q,7,none⟩) (ja _) _)⟩
     obtain rfl:j=8:=by omega
     have hT:decide (((8:Nat):Int)<8)=false:=by decide
     have hX:zhb s z 8=PP:=by
      rw[← C9.out];unfold zbg;rw[← Hws.out,HL.out,C5.out];rfl
     rw[hX]at HQ;obtain⟨X,Ai⟩:∃ X,wkC PP=X:=⟨_,rfl⟩;have Au:X.size=8:=by rw[← Ai];rfl
     have B2:X.all (·.oneCell')=true:=by rw[← Ai];simp[wkC,Value.oneCell']
     rw[Ai]at HQ;have C4:=zi Ai;have C6:=zi (jz HQ.out);have CN:Hid (wr.there (q+1) 0 X.size):=zi (by rw[Au];exact jw h4.out (ja _));have hO:Hid ((Tryz.prog.info? 160).map (·.size)=some X.size):=zi (by rw[Au];kernel_rfl);have Al:Hid ((Tryz.prog.info? 160).map (·.size)=some X.toList.length):=zi (by rw[Array.length_toList,Au];kernel_rfl);have H1:=zi B2;clear hX Ai Au B2 hM
     go_wp2_with (first
      | (with_reducible refine wpList_load_mid rfl 160 _ rfl q 0 rfl X.toList (.array 8 159) C6.out Tryz.underlying160 rfl Al.out ?_)
      | (with_reducible refine wpList_store_mid rfl 160 _ _ rfl (q+1) 0 X rfl rfl CN.out hO.out H1.out ?_))
     have Bc:=World.rangeAt_setCells_same wr (q+1) 0 X.toList (by simpa using CN.out);have AP:=ji (q+1) X.toList 0 wr;have BO:=AP.block _ _ AB.out (fun h=>by have h2:D=q+1:=h;omega);have Bz:Below q w (wr.setCells (q+1) 0 X.toList):=AC.out.trans (AP.below (by have:=jq h4.out;omega) (fun k _ _ hk=>by have h2:k=q+1:=hk;omega));obtain⟨o9,Co⟩:=zb2 (w:=wr.setCells (q+1) 0 X.toList) (k:=q+1) (Nat.lt_of_lt_of_le (jq h4.out) AP.size);obtain⟨w9,Cl⟩:∃ V,wr.setCells (q+1) 0 X.toList=V:=⟨_,rfl⟩;rw[Cl]at Bc BO Bz Co ⊢
     have Cn:(w9.putObj D (.deferred none)).heap[q+1]? = w9.heap[q+1]?:=by
      unfold World.putObj;simp only;rw[Array.getElem?_setIfInBounds_ne (by omega)]
     have Bj:=run_loadVar_mid (P:=zl) (w9.putObj D (.deferred none)) (q+1) 0 160 X.toList (.array 8 159) (zcx Bc Cn) Tryz.underlying160 rfl Al.out;rw[show X.toList.toArray=X by simp]at Bj;have By:Below q w (w9.putObj D (.deferred none)):=Bz.trans (belowK_b (w:=W3) (by omega) w9 D _ _ hD BO rfl rfl);rw[← Hq.out]at By;refine⟨by simp,.inl ⟨_,_,rfl,run_takeDeferred BO,?_⟩⟩;refine⟨.agg X,?_,by rw[C4.out],Fr.ofBelow By⟩;rw[qb rfl];show((asAddr (.pointer (some ⟨q+1,0,none⟩))).run _ _).andThen _=_;simp[asAddr,Result.andThen,Bj]
 case stop =>
  rintro D c he W hD hpre h hK;exact h.elim
theorem zpw (b tb tcap pb po pcap:Nat)(s0 s:Wk)(p:Bs)(w:World)(hpc:pcap≤maxLen)(hpc2:64≤pcap)(hpo:po≤maxLen)(hpl:p.length=64)(hslt:s.lt)(htab:∀ i,i<64→w.cell? ⟨tb,i,none⟩=some (.int .u32 (kShort.getD i 0:Nat)))(hp:∀ (j:Nat) (x:UInt8),p[j]? = some x→w.cell? ⟨pb,po+j,none⟩=some (.int .u8 x.toNat))(hS:w.heap[b]? = some (.cells (zba (.slice (some ⟨tb,0,none⟩) 64 tcap) s0) 162 (0,0))) :
 Calls zl 165 #[.pointer (some ⟨b,0,none⟩),.agg (wkC s),.slice (some ⟨pb,po,none⟩) 64 pcap] w fun e w'=>e = .returned (.agg (wkC (zbg kShort s p)))∧Fr NoB w w' :=
 callsIn_wide.1 (znz b tb tcap pb po pcap s0 s p w hpc hpc2 hpo hpl hslt htab hp hS)
end Go.Proofs.YtffggpplnjibgaaGreatDoor
