/-
 The walk of sum.shape's piece (words of 32 bits).
-/
import Derived.Test.YtffggpplnjibgaaGreatDoorKRefShaA
import Derived.Test.YtffggpplnjibgaaGreatDoorKHeldC
import Derived.Deep.DeepAppendRoom
open Go.Lib renaming hid→zi
open Go.Proofs.Tryz renaming prog→zl
open Go.World renaming size_alloc→zm
open Go renaming heap_alloc_new→zo
open Go.IntKind renaming wrap_i64→zt
open Go.Value renaming int→zv
open Nat renaming le_refl→ja
open Or renaming inl→jc
namespace Go.Proofs.YtffggpplnjibgaaGreatDoor
set_option linter.unusedVariables false
set_option linter.unusedSimpArgs false
set_option linter.unusedSectionVars false
set_option maxRecDepth 100000
set_option maxHeartbeats 4000000
open Go.RowKit Go.Shelf
variable [OldK]
attribute [local go_sem] Oper.semAt_some
def wkC (s:Wk):Array Value:=#[.int .u32 s.a,.int .u32 s.b,.int .u32 s.c,.int .u32 s.d,.int .u32 s.e,.int .u32 s.f,.int .u32 s.g,.int .u32 s.h]
theorem zhc:(Tryz.prog.info? 159).map (fun i=>(i.zero,i.size,i.bytes))=some (some (.int .u32 0),1,4):=by kernel_rfl
def wkZ:Array Value:=#[.int .u32 0,.int .u32 0,.int .u32 0,.int .u32 0,.int .u32 0,.int .u32 0,.int .u32 0,.int .u32 0]
theorem orI (X:Nat)(y:UInt8)(h:X<4294967296):zv .u32 (bits .or .u32 ((X:Int) * 256 % 4294967296) (y.toNat:Int)) = .int .u32 ((X * 256 % 4294967296 ||| y.toNat:Nat):Int):=by
 have hy:=y.toNat_lt;rw[show((X:Int) * 256 % 4294967296)=((X * 256 % 4294967296:Nat):Int) by omega,u32_or_nat _ _ (Nat.mod_lt _ (by decide)) (by omega)]
def pcW (p:Bs) (pre:List (Fin 16)):List Value:=pre.map fun i => .int .u32 (za0 ((p.drop (i.val * 4)).take 4))
def zc3 (l:List Nat):List Value:=l.map fun(x:Nat) => .int .u32 x
theorem zcm {l:List Nat}(h:∀ x∈l,x<4294967296)(i:Nat):l.getD i 0<4294967296:=by
 rw[List.getD_eq_getElem?_getD];cases hq:l[i]? with
 | none=>decide
 | some x=>exact h x (List.mem_of_getElem? hq)
theorem zwe (p:Bs):pcW p (List.finRange 16)=zc3 ((za9 4 16 p).map za0):=by
 unfold pcW zc3;rw[List.map_map];apply List.ext_getElem?;intro i;rw[List.getElem?_map,List.getElem?_map];rcases Nat.lt_or_ge i 16 with h | h
 ·rw[ze8 _ _ _ _ h,List.getElem?_eq_getElem (by simpa using h)];simp
 rw[List.getElem?_eq_none (by simpa using h),List.getElem?_eq_none (by rw[zdv];exact h)];rfl
structure PcI (q B n:Nat) (xs k1 k2:List Value) (V:World):Prop where
 var:V.heap[B]? = some (.cells #[.slice (some ⟨q+2,0,none⟩) n 64] 158 (0,0))
 row:V.ownsRow (q+2) 159 1 (.slice (some ⟨q+2,0,none⟩) n 64) n xs
 lt:q+2<B
 b1:V.heap[B+1]? = some (.cells k1.toArray 24 (0,0))
 b2:V.heap[B+1+1]? = some (.cells k2.toArray 3 (0,0))
theorem PcI.block {q B n:Nat}{xs k1 k2:List Value}{V:World}(h:PcI q B n xs k1 k2 V):∃ cur,V.heap[q+2]? = some (.cells cur 159 (0,0)):=by
 rcases h.row.2 with⟨h,-⟩ | ⟨g,cap,cur,h1,h2,h3,-⟩
 ·cases h
 injection h1 with h1
 injection h1 with h1
 injection h1 with h1
 rw[← h1]at h3;exact⟨cur,h3⟩
theorem PcI.cell {q B n:Nat} {l:List Nat} {k1 k2:List Value} {V:World} (h:PcI q B n (zc3 l) k1 k2 V) (i:Nat) (hi:i<l.length):V.cell? ⟨q+2,i,none⟩=some (.int .u32 (l.getD i 0:Nat)):=by
 have:=h.row.cells (g:=q+2) rfl i (.int .u32 (l.getD i 0:Nat)) (by
  unfold zc3;rw[List.getElem?_map,List.getElem?_eq_getElem hi]
  simp[hi])
 rw[Addr.add_lit]at this;rw[Nat.zero_add]at this;exact this
theorem PcI.own {q B n:Nat}{xs k1 k2:List Value}{A C:World}{row:Option Nat}(h:PcI q B n xs k1 k2 A)(hg:A.grownBy C row)(hr:∀ r,row=some r→∃ o:Obj,A.heap[r]? = some o∧o.isCells=false):PcI q B n xs k1 k2 C:=by
 refine⟨zas (β:=Unit) _ _ _ _ () A C row h.var hg hr,⟨h.row.1,h.row.2.imp id ?_⟩,h.lt,zas (β:=Unit) _ _ _ _ () A C row h.b1 hg hr,zas (β:=Unit) _ _ _ _ () A C row h.b2 hg hr⟩;rintro⟨g,cp,hB,e1,e2,e3,e4⟩;exact⟨g,cp,hB,e1,e2,zas (β:=Unit) _ _ _ _ () A C row e3 hg hr,e4⟩
theorem PcI.fr {q B n:Nat}{xs k1 k2:List Value}{A C:World}(h:PcI q B n xs k1 k2 A)(hF:Fr NoB A C):PcI q B n xs k1 k2 C :=
 ⟨hF.block _ _ h.var (fun h=>h),zb2 h.row hF (fun _ _ _ _ h=>h),h.lt,hF.block _ _ h.b1 (fun h=>h),hF.block _ _ h.b2 (fun h=>h)⟩
theorem zu4 {q B n:Nat} {xs ys k1 k2:List Value} {V V' w1:World} (h:PcI q B n xs k1 k2 V) (hV:Fr NoB V V')
 (hown:w1.ownsRow (q+2) 159 1 (.slice (some ⟨q+2,0,none⟩) (n+1) 64) (n+1) ys) (hg:V'.grownBy w1 (some (q+2))) (v':Value) (hv':v' = .slice (some ⟨q+2,0,none⟩) (n+1) 64) :
 KeepsOthers V (w1.setCell ⟨B,0,none⟩ v')∧Ck2 (B+1) (B+1+1) V (w1.setCell ⟨B,0,none⟩ v')∧PcI q B (n+1) ys k1 k2 (w1.setCell ⟨B,0,none⟩ v')∧w1.cell? ⟨B,0,none⟩=some (.slice (some ⟨q+2,0,none⟩) n 64)∧w1.frozen? ⟨B,0,none⟩=false∧Below (q+2) V (w1.setCell ⟨B,0,none⟩ v'):=by
 subst hv';have hH:=h.lt
 have hn:∀ k,k≠q+2→k<V.heap.size→w1.heap[k]? = V.heap[k]?:=fun k hk hl=>by
  obtain⟨o,ho⟩:=zd8 hl;rw[ho];exact(hg.block k (Nat.lt_of_lt_of_le hl hV.size) (fun e=>hk (by injection e))).trans (hV.block _ _ ho (fun h=>h))
 have hB:=(hn B (by omega) (ju h.var)).trans h.var;have hG:V.heap.size≤w1.heap.size:=Nat.le_trans hV.size hg.size;have hD:∀ k v,k≠B→(w1.setCell ⟨B,0,none⟩ v).heap[k]? = w1.heap[k]?:=fun k v hk=>Below.heap_setCell _ _ _ _ (by simpa using hk)
 have hF:=(hD (B+1) (.slice (some ⟨q+2,0,none⟩) (n+1) 64) (by omega)).trans (hn _ (by omega) (ju h.b1));have hE:=(hD (B+1+1) (.slice (some ⟨q+2,0,none⟩) (n+1) 64) (by omega)).trans (hn _ (by omega) (ju h.b2));obtain⟨cur0,hC⟩:=h.block;refine⟨?_,⟨by simp;omega,hF,hE⟩,⟨jh (o:=0) _ hB,⟨hown.1,hown.2.imp id ?_⟩,hH,hF.trans h.b1,hE.trans h.b2⟩,by simp[World.cell?,hB],by simp[World.frozen?,hB],Below.setCell (p:=⟨B,0,none⟩) ⟨hg.os.trans hV.os,hg.tape.trans hV.tape,hg.output.trans hV.output,hG,fun k hk=>hn k (by omega) (by have:=ju h.var;omega)⟩ (by show q+2≤B;omega) _⟩
 ·have hK:KeepsOthers V V':=⟨hV.size,fun k o hk _=>hV.block k o hk (fun h=>h)⟩;refine(hK.trans (KeepsOthers.of_grownBy hg (fun j o hj ho=>?_))).trans (KeepsOthers.setCell _ _ _);obtain rfl:q+2=j:=by injection hj
  have:=hV.block _ _ hC (fun h=>h);rw[this]at ho;cases ho;rfl
 rintro⟨g,hJ,hI,e1,e2,e3,e4⟩
 obtain rfl:q+2=g:=by
  injection e1 with e1
  injection e1 with e1
  injection e1 with e1
 exact⟨_,hJ,hI,e1,e2,(hD _ _ (by omega)).trans e3,e4⟩
theorem zqk (l:List Nat)(x:Nat):zc3 (l++[x])=zc3 l++[.int .u32 x]:=by simp[zc3]
theorem zq3 {base e size n:Nat}{v:Value}{xs:List Value}{w w':World}(h:w.ownsRow base e size v n xs)(hF:Fr NoB w w'):w'.ownsRow base e size v n xs:=zb2 h hF (fun _ _ _ _ h=>h)
theorem zpt {q B n i2 i7 i15 i16 y3:Nat} {l:List Nat} {a2 a7 a15 a16:Value} {k1 k2:List Value} {V V3 w4:World} (h:PcI q B n (zc3 l) k1 k2 V) (hF:Fr NoB V V3)
 (hown:w4.ownsRow (q+2) 159 1 (.slice (some ⟨q+2,0,none⟩) (n+1) 64) (n+1) (zc3 l++[.int .u32 y3])) (h4:w4.cell? ⟨B,0,none⟩=some (.slice (some ⟨q+2,0,none⟩) n 64))
 (hS:V3.cell? ⟨B,0,none⟩=some (.slice (some ⟨q+2,0,none⟩) n 64)∧V3.cell? ⟨q+2,i2,none⟩=some a2∧V3.cell? ⟨q+2,i7,none⟩=some a7∧V3.cell? ⟨q+2,i15,none⟩=some a15∧V3.cell? ⟨q+2,i16,none⟩=some a16)
 (h2:i2<n) (h7:i7<n) (h15:i15<n) (h16:i16<n) :
 w4.cell? ⟨B,0,none⟩=some (.slice (some ⟨q+2,0,none⟩) n 64)∧w4.cell? ⟨q+2,i2,none⟩=some a2∧w4.cell? ⟨q+2,i7,none⟩=some a7∧w4.cell? ⟨q+2,i15,none⟩=some a15∧w4.cell? ⟨q+2,i16,none⟩=some a16:=by
 have hl:(zc3 l).length=n:=by have:=h.row.1;simpa using this
 have hB:∀ i v,i<n→V3.cell? ⟨q+2,i,none⟩=some v→w4.cell? ⟨q+2,i,none⟩=some v:=fun i v hi hv=>by
  have hx:(zc3 l)[i]? = some (zc3 l)[i]:=List.getElem?_eq_getElem (by omega);have h1:=(zq3 h.row hF).cells (g:=q+2) rfl i _ hx;have h2:=hown.cells (g:=q+2) rfl i (zc3 l)[i] (by rw[List.getElem?_append_left (by omega)];exact hx);rw[Addr.add_lit]at h1 h2;rw[Nat.zero_add]at h1 h2;rw[h2,← h1,hv]
 exact⟨h4,hB _ _ h2 hS.2.1,hB _ _ h7 hS.2.2.1,hB _ _ h15 hS.2.2.2.1,hB _ _ h16 hS.2.2.2.2⟩
def zkx (s t:Wk) (j:Nat):Wk:=⟨if 0<j then (s.a+t.a) % 4294967296 else s.a,if 1<j then (s.b+t.b) % 4294967296 else s.b,if 2<j then (s.c+t.c) % 4294967296 else s.c,if 3<j then (s.d+t.d) % 4294967296 else s.d,if 4<j then (s.e+t.e) % 4294967296 else s.e,if 5<j then (s.f+t.f) % 4294967296 else s.f,if 6<j then (s.g+t.g) % 4294967296 else s.g,if 7<j then (s.h+t.h) % 4294967296 else s.h⟩
theorem zgl {l:List Nat}{j:Nat}(h:j<l.length):l.drop j=l.getD j 0 :: l.drop (j+1):=by
 rw[List.drop_eq_getElem_cons h]
 congr 1
 simp[h]
theorem zlz:∀ x∈kShort,x<4294967296:=by decide
theorem zy2 (e:Nat) (h:e<4294967296):bits .xor .u32 (4294967295:Int) (e:Int)=((4294967295 - e:Nat):Int):=by
 have h1:=u32_xor_nat 4294967295 e (by decide) h
 have h2:4294967295 ^^^ e=4294967295 - e:=by
  have:=BitVec.toNat_not (x:=BitVec.ofNat 32 e);have h3:(BitVec.ofNat 32 e).toNat=e:=by simp;omega
  rw[h3]at this;have h4:(~~~ BitVec.ofNat 32 e)=(BitVec.allOnes 32) ^^^ BitVec.ofNat 32 e:=by rw[BitVec.allOnes_xor]
  rw[h4,BitVec.toNat_xor,h3,BitVec.toNat_allOnes]at this;exact this
 rw[h2]at h1;exact h1
theorem zi7 {a b y:Nat}(h:(a+b) % 4294967296=y):IntKind.u32.wrap ((a:Int)+(b:Int))=(y:Int)∧((a:Int)+(b:Int)) % 4294967296=(y:Int):=by
 rw[IntKind.wrap_u32'];omega
theorem ztv (b tb tcap pb po pcap:Nat) (s0 s:Wk) (p:Bs) (w:World) (hpc:pcap≤maxLen) (hpc2:64≤pcap) (hpo:po≤maxLen) (hpl:p.length=64) (hslt:s.lt) (htab:∀ i,i<64→w.cell? ⟨tb,i,none⟩=some (.int .u32 (kShort.getD i 0:Nat))) (hp:∀ (j:Nat) (x:UInt8),p[j]? = some x→w.cell? ⟨pb,po+j,none⟩=some (.int .u8 x.toNat)) (hS:w.heap[b]? = some (.cells (zc4 (.slice (some ⟨tb,0,none⟩) 64 tcap) s0) 162 (0,0))) :
 CallsIn Fence.wide 5 zl 165 #[.pointer (some ⟨b,0,none⟩),.agg (wkC s),.slice (some ⟨pb,po,none⟩) 64 pcap] w fun e w'=>e = .returned (.agg (wkC (zbf kShort s p)))∧Fr NoB w w':=by
 have c0:w.cell? ⟨b,0,none⟩=some (.int .i64 32):=by simp[World.cell?,hS,zc4]
 have c1:w.cell? ⟨b,1,none⟩=some (.slice (some ⟨tb,0,none⟩) 64 tcap):=by simp[World.cell?,hS,zc4]
 have Aw:Fr NoB w ((w.alloc (.cells (wkC s) 160)).alloc (.cells wkZ 160)):=(Fr.refl.alloc _).alloc _;have Bh:((w.alloc (.cells (wkC s) 160)).alloc (.cells wkZ 160)).heap[w.heap.size]? = some (.cells (wkC s) 160 (0,0)):=((Fr.refl (M:=NoB)).alloc _).block _ _ (zo w _) (fun h=>h)
 have Bf:((w.alloc (.cells (wkC s) 160)).alloc (.cells wkZ 160)).heap[w.heap.size+1]? = some (.cells wkZ 160 (0,0)):=by
  have:=zo (w.alloc (.cells (wkC s) 160)) (.cells wkZ 160)
  rwa [zm]at this
 have CL:=Fr.cell Aw c0;have CK:=Fr.cell Aw c1;have Cs:=ju hS;clear c0 c1;have Ap:=zi Aw;have BS:=zi Bh;have BR:=zi Bf;have HS:=zi hS;have Hp:=zi hp;have Hpl:=zi hpl;have Hslt:=zi hslt;have Htab:=zi htab;clear Aw Bh Bf hS hp htab hslt;obtain⟨PP,BM⟩:∃ x,zbf kShort s p=x:=⟨_,rfl⟩;rw[BM];have DB:=zi BM;clear BM;refine callsIn_of_wp_marks Tryz.func165 rfl trivial ?_ rfl;simp only[Tryz.ntmps165,List.size_toArray,List.length_cons,List.length_nil,Nat.reduceAdd,Nat.reduceSub,Array.replicate_succ,Array.replicate_zero,List.push_toArray,List.append_toArray,List.nil_append,List.cons_append];refine wpIn_wide.2 ?_
 go_upto_region 1 with(fail)
 change Code.wp _ _ _ _ ((w.alloc (.cells (wkC s) 160)).alloc (.cells wkZ 160));obtain⟨W,hW⟩:∃ V,(w.alloc (.cells (wkC s) 160)).alloc (.cells wkZ 160)=V:=⟨_,rfl⟩;rw[hW]at CL CK Ap BS BR ⊢;obtain⟨q,hq⟩:∃ x,w.heap.size=x:=⟨_,rfl⟩;have Ct:W.heap.size=q+2:=by rw[← hW,← hq];simp
 rw[hq]at BS BR Cs ⊢;have Hq:=zi hq;clear hW hq;obtain⟨i0,BF,Cj,BA,Ci⟩:=info_parts zhc;obtain⟨W1,Bj,AB,Br⟩:=run_make_own (P:=zl) W W.heap.size 158 159 i0 (.int .u32 0) 1 Tryz.underlying158 BF Cj BA .i64 .i64 64 (by rw[Ci];decide) (by decide) (ja _);have BB:(Instr.makeSlice 158 (.int .i64 0) (.int .i64 64)).run zl W = .ok (.slice (some ⟨W.heap.size,0,none⟩) 0 64) W1:=Bj
 go_upto_region 3 with(fail)
 change Code.wp _ _ _ _ (W1.alloc (.cells #[.slice (some ⟨q+2,0,none⟩) 0 64] 158));obtain⟨B,hB⟩:∃ x,W1.heap.size=x:=⟨_,rfl⟩;rw[Ct]at AB
 have B9:q+2<B:=by
  rcases AB.2 with⟨h,-⟩ | ⟨g,cp,cur,h1,h2,h3,-⟩
  ·cases h
  injection h1 with h1
  injection h1 with h1
  injection h1 with h1
  rw[← hB,h1];exact ju h3
 have Ak:Fr NoB W W1:=(Fr.ofGrown Br).mono (fun k _ h=>by cases h);have AU:Fr NoB W (W1.alloc (.cells #[.slice (some ⟨q+2,0,none⟩) 0 64] 158)):=Ak.alloc _;have As:=zo W1 (.cells #[.slice (some ⟨q+2,0,none⟩) 0 64] 158);have ht:=AB.alloc (.cells #[.slice (some ⟨q+2,0,none⟩) 0 64] 158);have AJ:(W1.alloc (.cells #[.slice (some ⟨q+2,0,none⟩) 0 64] 158)).heap.size=B+1:=by rw[zm,hB]
 rw[hB]at As ⊢;obtain⟨W2,B4⟩:∃ V,W1.alloc (.cells #[.slice (some ⟨q+2,0,none⟩) 0 64] 158)=V:=⟨_,rfl⟩;rw[B4]at AU As ht AJ ⊢;have BG:=zsr (some ⟨pb,po,none⟩) 64 pcap 4 (by decide) W2;rw[AJ]at BG;have DD:=zi AU;have Cx:=zi As;have An:=zi ht;have Hck:=zi BG;clear Bj BB AB Br Ak AU As ht BG B4 hB CL CK
 go_wp2_with fail
 refine Hck.out.mono ?_;rintro e W3 ⟨rfl,AS⟩;have hs3:W3.heap.size=B+3:=by rw[AS];simp[AJ]
 have Al:Fr NoB W2 W3:=by rw[AS];exact(Fr.refl.alloc _).alloc _
 have Bn:W3.cell? ⟨B+1,0,none⟩=some (.slice (some ⟨pb,po,none⟩) 64 pcap):=by
  have h1:=((Fr.refl (M:=NoB)).alloc (.cells #[.int .i64 4] 3)).block _ _ (zo W2 (.cells #[.slice (some ⟨pb,po,none⟩) 64 pcap] 24)) (fun h=>h);rw[← AS,AJ]at h1;simp[World.cell?,h1]
 have Bm:W3.cell? ⟨B+2,0,none⟩=some (.int .i64 4):=by
  have h1:=zo (W2.alloc (.cells #[.slice (some ⟨pb,po,none⟩) 64 pcap] 24)) (.cells #[.int .i64 4] 3);rw[← AS,zm,AJ]at h1;simp[World.cell?,h1]
 have C5:Hid (W3.heap[B+1]? = some (.cells [Value.slice (some ⟨pb,po,none⟩) 64 pcap].toArray 24 (0,0))):=zi (by
  have h1:=((Fr.refl (M:=NoB)).alloc (.cells #[.int .i64 4] 3)).block _ _ (zo W2 (.cells #[.slice (some ⟨pb,po,none⟩) 64 pcap] 24)) (fun h=>h);rw[← AS,AJ]at h1
  exact h1)
 have C4:Hid (W3.heap[B+1+1]? = some (.cells [zv .i64 4].toArray 3 (0,0))):=zi (by
  have h1:=zo (W2.alloc (.cells #[.slice (some ⟨pb,po,none⟩) 64 pcap] 24)) (.cells #[.int .i64 4] 3);rw[← AS,zm,AJ]at h1
  exact h1)
 have C3:=zi Bn;have C2:=zi Bm;have BU:=zi Al;clear Bn Bm Al AS Hck
 go_wp2_with fail
 refine(wpIn_wide (n:=5)).1 ?_
 refine wpIn_rangeFunc_ownH (w:=W3) rfl (by omega) (gf:=211) (lb:=#[.pointer (some ⟨B+1,0,none⟩),.pointer (some ⟨B+1+1,0,none⟩)]) rfl trivial (enters_of Tryz.func211 (by kernel_rfl) rfl)
  (zi3 Fence.wide 4 trivial rfl (by omega) (B+1) (B+1+1) pb po pcap 4 16 (by omega) (by omega) (by omega) (by omega) hpc hpo W3 (by omega) (by omega) C3.out C2.out)
  Ck2.trans (fun W l o o' hl ho hc hw=>Ck2.put (n₀:=B+3) (by omega) (by omega) W l o o' (by omega) ho hc hw) (Below.refl _ _) (fun _=>rfl)
  (fun hf V=>PcI q B hf.length (pcW p hf) [.slice (some ⟨pb,po,none⟩) 64 pcap] [.int .i64 4] V∧Below (q+2) W V∧W3.heap.size≤V.heap.size)
  (fun c hf V=>False)
  ?hI (fun _ s A B row hs hg hr=>hs.elim)
  ?h0
  (fun x a' V=>a'={ tmps:=#[.pointer (some ⟨b,0,none⟩),.agg (wkC s),.slice (some ⟨pb,po,none⟩) 64 pcap,undef,.pointer (some ⟨q,0,none⟩),undef,.pointer (some ⟨q+1,0,none⟩),.int .i64 4,.pointer (some ⟨B,0,none⟩),.slice (some ⟨pb,po+x.val * 4,none⟩) 4 4,undef,undef,undef,undef,undef,undef,undef,undef,undef,undef,undef,undef,undef,undef,undef,undef,undef,undef,.pointer (some ⟨b,0,none⟩),.pointer (some ⟨b,0,none⟩),.pointer (some ⟨b,0,none⟩),.int .i64 32,.int .i64 4,.pointer (some ⟨b,0,none⟩),.pointer (some ⟨b,0,none⟩),.pointer (some ⟨b,1,none⟩),.slice (some ⟨tb,0,none⟩) 64 tcap,.int .i64 64,.slice (some ⟨q+2,0,none⟩) 0 64,.slice (some ⟨pb,po,none⟩) 64 pcap,.int .i64 4,.func (.func 211) #[] #[.pointer (some ⟨B+1,0,none⟩),.pointer (some ⟨B+1+1,0,none⟩)],.slice (some ⟨pb,po+x.val * 4,none⟩) 4 4,undef,undef,undef,undef,undef,undef,undef,undef,undef,undef,undef,undef,undef,undef,undef,undef,undef,undef,undef,undef,undef,undef,undef,undef,undef,undef,undef,undef,undef,undef,undef,undef,undef,undef,undef,undef,undef,undef,undef,undef,undef,undef,undef,undef,undef,undef,undef,undef,undef,undef,undef,undef,undef,undef,undef,undef,undef,undef,undef,undef,undef,undef,undef,undef,undef,undef,undef,undef,undef,undef,undef,undef,undef,undef,undef,undef,undef,undef,undef,undef,undef,undef,undef,undef,undef,undef,undef,undef,undef,undef,undef,undef,undef,undef,undef,undef,undef,undef,undef,undef,undef,undef,undef,undef,undef,undef,undef,undef,undef,undef,undef,undef,undef,undef,undef,undef,undef,undef,undef,undef,undef,undef,undef,undef,undef,undef,undef,undef,undef,undef,undef,undef,undef,undef,undef,undef,undef,undef,undef,undef,undef,undef,undef,undef,undef,undef,undef,undef,undef,undef,undef],defers:=[] })
  (fun x a' s A B row hs hg hr=>hs) ?assign ?body ?done ?stop
 case hI =>
  rintro s A B' row ⟨h1,h5,h6⟩ hg Bc;exact⟨h1.own hg (fun r e=>(Bc r e).2),ownFrom_below (β:=Unit) (n₀:=q+2) (B:=W3.heap.size) (w₀:=W) (by omega) (by omega) () A B' row h5 hg Bc,Nat.le_trans h6 hg.size⟩
 case h0 =>
  exact⟨⟨BU.out.block _ _ Cx.out (fun h=>h),zb2 An.out BU.out (fun _ _ _ _ h=>h),B9,C5.out,C4.out⟩,(DD.out.trans' BU.out).below (by omega) (fun _ _ _ h=>h.elim),ja _⟩
 case assign =>
  rintro l hf x V K hI hK;have HI:=zi hI;have HK:=zi hK;clear hI hK;unfold zmb
  gi_wp2
  exact HK.out _ _ (KeepsFrom.refl _ _) Ck2.refl HI.out rfl
 case body =>
  rintro l hf x a' V hl ⟨r,Co⟩ ⟨hb,hB,Ba⟩ rfl hN;have h1:=hb.var;have v0:V.cell? ⟨B,0,none⟩=some (.slice (some ⟨q+2,0,none⟩) hf.length 64):=by simp[World.cell?,h1]
  have AF:∀ j (hj:j<4),∃ y:UInt8,p[x.val * 4+j]? = some y∧V.cell? ⟨pb,po+x.val * 4+j,none⟩=some (.int .u8 y.toNat):=fun j hj=>by
   have hx:=x.isLt;obtain⟨y,hy⟩:∃ y,p[x.val * 4+j]? = some y:=⟨_,List.getElem?_eq_getElem (by omega)⟩;refine⟨y,hy,?_⟩;have h:=Hp.out _ _ hy;rw[Nat.add_assoc];exact(hB.cell (p:=⟨pb,po+(x.val * 4+j),none⟩) (by have:=World.block_lt_of_cell? _ _ h;have:=Hq.out;omega)).trans (Fr.cell Ap.out h)
  have HB:=zi hB;have Hby:=zi AF;have Hpci:=zi hb;clear h1 hB AF Co hl hb;obtain⟨c,hc⟩:∃ c,(p.drop (x.val * 4)).take 4=c:=⟨_,rfl⟩;have Bw:c.length=4:=by rw[← hc,List.length_take,List.length_drop];have:=x.isLt;have:=Hpl.out;omega
  have Hc:=zi hc;have Hcl:=zi Bw;clear hc Bw
  gi_wp2_with fail
  gi_loopw [10,45] (fun vx vi wr=>∃ j:Nat,j≤4∧vi = .int .i64 j∧vx = .int .u32 (za0 (c.take j))∧V=wr) (fun _ vi _=>4 - (intOf vi).toNat)
  case atStart=>exact⟨0,by omega,rfl,rfl,rfl⟩
  case round =>
   obtain⟨j,hj,rfl,rfl,rfl⟩:=hrel;by_cases AO:j<4
   ·obtain ⟨y,hy,hyc⟩:=Hby.out j AO;have hY:decide ((j:Int)<4)=true:=decide_eq_true (by omega);have hyl:=y.toNat_lt
    have BZ:c.take (j+1)=c.take j++[y]:=by
     rw[List.take_add_one,← Hc.out,List.getElem?_take,if_pos AO,List.getElem?_drop,hy];rfl
    have Aa:=zh4 (c.take j)
    have AY:za0 (c.take (j+1))=za0 (c.take j) * 256 % 4294967296 ||| y.toNat:=by
     rw[BZ];unfold za0;rw[List.foldl_append];rfl
    obtain⟨X,hX⟩:∃ X,za0 (c.take j)=X:=⟨_,rfl⟩;rw[hX]at Aa AY ⊢;have Hwn:=zi AY;clear AY BZ hX hy
    gi_wp2_with fail
    go_roundw
    case rel=>exact⟨j+1,by omega,by simp,by rw[Hwn.out];exact orI X y Aa,trivial⟩
    case measure=>simp[intOf];omega
   obtain rfl:j=4:=by omega
   rw[List.take_of_length_le (by rw[Hcl.out];omega)];have hh:pcW p (hf++[x])=pcW p hf++[.int .u32 (za0 c)]:=by rw[← Hc.out];simp[pcW]
   obtain⟨X,hX⟩:∃ X,za0 c=X:=⟨_,rfl⟩;rw[hX]at hh ⊢;have Hrows:=zi hh;have hBV:B<V.heap.size:=ju Hpci.out.var;have hqV:=B9;clear hh hX AO
   gi_wp2_with (gi_at_builtin;refine zk9 ?_)
   refine zi ?_;refine wpListIn_append_fits _ rfl _ _ 158 rfl (q+2) 159 i0 1 Tryz.underlying158 BF BA (q+2) hf.length 64 (pcW p hf) (by rfl) (Hpci.out.row.alloc _) ⟨V.heap.size,0,none⟩ 1 1 [.int .u32 X] (by rfl) rfl (qm V [.int .u32 X] 159) (by simp[Value.oneCell']) (by omega) ?_;intro w1 AE Af;obtain⟨r1,r2,r3,r4,r5,r6⟩:=zu4 Hpci.out ((Fr.refl (M:=NoB)).alloc _) AE Af _ rfl;have R1:=zi r1;have R2:=zi r2;have R3:=zi r3;have R6:=zi r6;clear r1 r2 r3 r6 AE Af v0
   gi_wp2
   refine⟨R1.out.from _,R2.out,?_,HB.out.trans R6.out,by have:=R2.out.size;omega⟩;rw[Hrows.out,List.length_append];exact R3.out
 case done =>
  rintro D ys V hD rfl ⟨hb,hB,Ba⟩ hK;have Hpci:=zi hb;have HB:=zi hB;have HK:=zi hK;clear hb hB hK;have hu:(List.finRange 16).length=16:=by simp
  obtain⟨ws,AX⟩:∃ ws,ws=(za9 4 16 p).map za0:=⟨_,rfl⟩;have Aa:ws.length=16:=by rw[AX];simp[zdv]
  have AZ:∀ x∈ws,x<4294967296:=fun x hx=>by
   rw[AX]at hx;obtain⟨c,-,rfl⟩:=List.mem_map.1 hx;exact zh4 c
  have h4:pcW p (List.finRange 16)=zc3 ws:=by
   rw[AX];exact zwe p
  rw[hu,h4]at Hpci;have Hwl:=zi Aa;have Hwlt:=zi AZ;have Hws:=zi AX;clear Aa AZ AX hu h4
  go_wp2_with fail
  go_loopg [13] 49 (fun gf vt wr=>∃ j:Nat,vt = .int .i64 ((16+j:Nat):Int)∧j≤48∧j+gf=49∧Hid (PcI q B (16+j) (zc3 (zcv ws j)) [.slice (some ⟨pb,po,none⟩) 64 pcap] [.int .i64 4] wr)∧Hid (Below (q+2) W wr)∧Hid (W3.heap.size≤wr.heap.size)∧Hid (wr.heap[D]? = some (.deferred (some []))))
  case atStart=>exact⟨0,rfl,by omega,by omega,Hpci,HB,zi Ba,HK⟩
  case round =>
   obtain⟨j,rfl,hj,BE,HP,AG,CP,BT⟩:=hrel;have By:=AG.out.block b (by omega);have BK:wr.heap[b]? = some (.cells (zc4 (.slice (some ⟨tb,0,none⟩) 64 tcap) s0) 162 (0,0)):=By.trans (Ap.out.block _ _ HS.out (fun h=>h));have CJ:wr.cell? ⟨b,1,none⟩=some (.slice (some ⟨tb,0,none⟩) 64 tcap):=by simp[World.cell?,BK,zc4]
   have A0:=zi BK;clear By BK;have hv:=HP.out.var;have hJ:=zf6 ws j;rw[Hwl.out]at hJ;by_cases hN:j<48
   ·have hY:decide (((16+j:Nat):Int)<64)=true:=decide_eq_true (by omega);have v0:wr.cell? ⟨B,0,none⟩=some (.slice (some ⟨q+2,0,none⟩) (16+j) 64):=by simp[World.cell?,hv]
    have hd:=zkf ws Hwlt.out j;have ha:zcv ws (j+1)=zcv ws j++[znf (zcv ws j)]:=rfl;obtain⟨l,hl⟩:∃ l,zcv ws j=l:=⟨_,rfl⟩;rw[hl]at hJ hd ha HP;obtain⟨n,hn⟩:∃ n,16+j=n:=⟨_,rfl⟩;rw[hn]at hJ HP hv v0 hY ⊢;have x2:=HP.out.cell (n - 2) (by omega);have x7:=HP.out.cell (n - 7) (by omega);have Ar:=HP.out.cell (n - 15) (by omega);have Aq:=HP.out.cell (n - 16) (by omega);obtain⟨i2,Bq⟩:∃ i,n - 2=i:=⟨_,rfl⟩;obtain⟨i7,Bp⟩:∃ i,n - 7=i:=⟨_,rfl⟩;obtain⟨AI,Ad⟩:∃ i,n - 15=i:=⟨_,rfl⟩;obtain⟨AH,Ac⟩:∃ i,n - 16=i:=⟨_,rfl⟩;obtain⟨y3,hQ⟩:∃ y,znf l=y:=⟨_,rfl⟩;rw[hQ]at ha;unfold znf at hQ;rw[hJ]at hQ;rw[Bq]at x2 hQ;rw[Bp]at x7 hQ;rw[Ad]at Ar hQ;rw[Ac]at Aq hQ;have g2:=zcm hd i2;have g7:=zcm hd i7;have Az:=zcm hd AI;have CI:=zcm hd AH;obtain⟨a2,B2⟩:∃ a,l.getD i2 0=a:=⟨_,rfl⟩;obtain⟨a7,B1⟩:∃ a,l.getD i7 0=a:=⟨_,rfl⟩;obtain⟨AV,Ai⟩:∃ a,l.getD AI 0=a:=⟨_,rfl⟩;obtain⟨BQ,Ah⟩:∃ a,l.getD AH 0=a:=⟨_,rfl⟩;rw[B2]at x2 hQ g2;rw[B1]at x7 hQ g7;rw[Ai]at Ar hQ Az;rw[Ah]at Aq hQ CI;have BC:∀ V,Fr NoB wr V→Calls zl 212 #[.pointer (some ⟨b,0,none⟩),.int .u32 a2,.int .i64 3] V fun e w'=>e = .returned (.int .u32 (zjd 3 a2))∧Fr NoB V w':=fun V hF=>zt8 b a2 3 (by omega) _ s0 V (hF.block _ _ A0.out (fun h=>h)) g2
    have BD:∀ V,Fr NoB wr V→Calls zl 212 #[.pointer (some ⟨b,0,none⟩),.int .u32 AV,.int .i64 2] V fun e w'=>e = .returned (.int .u32 (zjd 2 AV))∧Fr NoB V w':=fun V hF=>zt8 b AV 2 (by omega) _ s0 V (hF.block _ _ A0.out (fun h=>h)) Az
    have p3:=zko (k:=3) g2;have p2:=zko (k:=2) Az;obtain⟨m3,AK⟩:∃ m,zjd 3 a2=m:=⟨_,rfl⟩;obtain⟨m2,AL⟩:∃ m,zjd 2 AV=m:=⟨_,rfl⟩;simp only[AK]at BC;simp only[AL]at BD;rw[AK]at hQ p3;rw[AL]at hQ p2;obtain⟨y1,BW⟩:∃ y,(m3+a7) % 4294967296=y:=⟨_,rfl⟩;rw[BW]at hQ;obtain⟨y2,BV⟩:∃ y,(y1+m2) % 4294967296=y:=⟨_,rfl⟩;rw[BV]at hQ;have e1:IntKind.u32.wrap ((m3:Int)+(a7:Int))=(y1:Int):=by rw[IntKind.wrap_u32'];omega
    have e2:IntKind.u32.wrap ((y1:Int)+(m2:Int))=(y2:Int):=by rw[IntKind.wrap_u32'];omega
    have e3:IntKind.u32.wrap ((y2:Int)+(BQ:Int))=(y3:Int):=by rw[IntKind.wrap_u32'];omega
    have d2:IntKind.i64.wrap ((n:Int) - 2)=(i2:Int):=by rw[zt];omega
    have d7:IntKind.i64.wrap ((n:Int) - 7)=(i7:Int):=by rw[zt];omega
    have Cv:IntKind.i64.wrap ((n:Int) - 15)=(AI:Int):=by rw[zt];omega
    have Cu:IntKind.i64.wrap ((n:Int) - 16)=(AH:Int):=by rw[zt];omega
    have b2:(i2:Int)<(n:Int):=by omega
    have b7:(i7:Int)<(n:Int):=by omega
    have b15:(AI:Int)<(n:Int):=by omega
    have b16:(AH:Int)<(n:Int):=by omega
    have c2:(0:Int)≤(i2:Int):=by omega
    have c7:(0:Int)≤(i7:Int):=by omega
    have c15:(0:Int)≤(AI:Int):=by omega
    have c16:(0:Int)≤(AH:Int):=by omega
    have hn48:n<64:=by omega
    have Bi:wrap64 ((n:Int)+1)=(n:Int)+1:=by unfold wrap64;omega
    have B5:∀ V,Fr NoB wr V→V.cell? ⟨B,0,none⟩=some (.slice (some ⟨q+2,0,none⟩) n 64)∧V.cell? ⟨q+2,i2,none⟩=some (.int .u32 a2)∧V.cell? ⟨q+2,i7,none⟩=some (.int .u32 a7)∧V.cell? ⟨q+2,AI,none⟩=some (.int .u32 AV)∧V.cell? ⟨q+2,AH,none⟩=some (.int .u32 BQ):=fun V hF =>
     ⟨Fr.cell hF v0,Fr.cell hF x2,Fr.cell hF x7,Fr.cell hF Ar,Fr.cell hF Aq⟩
    have Ao:=zi B5;have Cy:=zi BC;have Cz:=zi BD;have Hnw:=zi Bi;have Hsu:=zi (And.intro ha (And.intro hn hJ));have Bb:∀ m,m=n+1→16+(j+1)=m:=fun m hm=>by rw[hm,← hn];rfl
    have Hsn:=zi Bb;clear B5 BC BD Bi ha hn hJ Bb v0 x2 x7 Ar Aq hv hl Bq Bp Ad Ac BW BV hQ AK AL B2 B1 Ai Ah hd g2 g7 Az CI p3 p2
    go_upto_region 15 with(fail)
    refine zam (S:=fun V=>Hid (V.cell? ⟨B,0,none⟩=some (.slice (some ⟨q+2,0,none⟩) n 64)∧V.cell? ⟨q+2,i2,none⟩=some (.int .u32 a2)∧V.cell? ⟨q+2,i7,none⟩=some (.int .u32 a7)∧V.cell? ⟨q+2,AI,none⟩=some (.int .u32 AV)∧V.cell? ⟨q+2,AH,none⟩=some (.int .u32 BQ))) 30 (by kernel_rfl) (zi (Ao.out _ Fr.refl.drew)) (fun hC=>?_);simp only[qV]
    iterate 7
     refine qtD (v:=?_) rfl (jc ⟨by rfl,?_⟩) hC ?_;rotate_left
     ·intro W hE;obtain⟨z0,z2,z7,hM,hL⟩:=hE.out
      try simp only[qQ]
      go_simp
      try rw[if_neg (by omega)]
      try with_reducible rfl
     try simp only[Act.put,qP]
    refine qiD (i:=8) (v:=?_) rfl (jc ⟨by rfl,?_⟩) hC ?_;rotate_left
    ·intro W hE;obtain⟨z0,z2,z7,hM,hL⟩:=hE.out
     try simp only[qQ]
     go_simp
     try rw[if_neg (by omega)]
     try with_reducible rfl
    try simp only[Act.put,qP]
    refine qiD (i:=9) (v:=?_) rfl (jc ⟨by rfl,?_⟩) hC ?_;rotate_left
    ·intro W hE;obtain⟨z0,z2,z7,hM,hL⟩:=hE.out
     try simp only[qQ]
     go_simp
     try rw[if_neg (by omega)]
     try with_reducible rfl
    try simp only[Act.put,qP]
    refine qiD (i:=10) (v:=?_) rfl (jc ⟨by rfl,?_⟩) hC ?_;rotate_left
    ·intro W hE;obtain⟨z0,z2,z7,hM,hL⟩:=hE.out
     try simp only[qQ]
     go_simp
     try rw[if_neg (by omega)]
     try with_reducible rfl
    try simp only[Act.put,qP]
    refine qiD (i:=11) (v:=?_) rfl (jc ⟨by rfl,?_⟩) hC ?_;rotate_left
    ·intro W hE;obtain⟨z0,z2,z7,hM,hL⟩:=hE.out
     try simp only[qQ]
     go_simp
     try rw[if_neg (by omega)]
     try with_reducible rfl
    try simp only[Act.put,qP]
    refine qiD (i:=12) (v:=?_) rfl (jc ⟨by rfl,?_⟩) hC ?_;rotate_left
    ·intro W hE;obtain⟨z0,z2,z7,hM,hL⟩:=hE.out
     try simp only[qQ]
     go_simp
     try rw[if_neg (by omega)]
     try with_reducible rfl
    try simp only[Act.put,qP]
    refine qiD (i:=14) (v:=?_) rfl (jc ⟨by rfl,?_⟩) hC ?_;rotate_left
    ·intro W hE;obtain⟨z0,z2,z7,hM,hL⟩:=hE.out
     try simp only[qQ]
     go_simp
     try rw[if_neg (by omega)]
     try with_reducible rfl
    try simp only[Act.put,qP]
    refine qiD (i:=15) (v:=?_) rfl (jc ⟨by rfl,?_⟩) hC ?_;rotate_left
    ·intro W hE;obtain⟨z0,z2,z7,hM,hL⟩:=hE.out
     try simp only[qQ]
     go_simp
     try rw[if_neg (by omega)]
     try with_reducible rfl
    try simp only[Act.put,qP]
    refine qiD (i:=16) (v:=?_) rfl (jc ⟨by rfl,?_⟩) hC ?_;rotate_left
    ·intro W hE;obtain⟨z0,z2,z7,hM,hL⟩:=hE.out
     try simp only[qQ]
     go_simp
     try rw[if_neg (by omega)]
     try with_reducible rfl
    try simp only[Act.put,qP]
    refine qiD (i:=17) (v:=?_) rfl (jc ⟨by rfl,?_⟩) hC ?_;rotate_left
    ·intro W hE;obtain⟨z0,z2,z7,hM,hL⟩:=hE.out
     try simp only[qQ]
     go_simp
     try rw[if_neg (by omega)]
     try with_reducible rfl
    try simp only[Act.put,qP]
    refine qiD (i:=18) (v:=?_) rfl (jc ⟨by rfl,?_⟩) hC ?_;rotate_left
    ·intro W hE;obtain⟨z0,z2,z7,hM,hL⟩:=hE.out
     try simp only[qQ]
     go_simp
     try rw[if_neg (by omega)]
     try with_reducible rfl
    try simp only[Act.put,qP]
    refine qiD (i:=19) (v:=?_) rfl (jc ⟨by rfl,?_⟩) hC ?_;rotate_left
    ·intro W hE;obtain⟨z0,z2,z7,hM,hL⟩:=hE.out
     try simp only[qQ]
     go_simp
     try rw[if_neg (by omega)]
     try with_reducible rfl
    try simp only[Act.put,qP]
    refine qiD (i:=22) (v:=?_) rfl (jc ⟨by rfl,?_⟩) hC ?_;rotate_left
    ·intro W hE;obtain⟨z0,z2,z7,hM,hL⟩:=hE.out
     try simp only[qQ]
     go_simp
     try rw[if_neg (by omega)]
     try with_reducible rfl
    try simp only[Act.put,qP]
    refine qiD (i:=23) (v:=?_) rfl (jc ⟨by rfl,?_⟩) hC ?_;rotate_left
    ·intro W hE;obtain⟨z0,z2,z7,hM,hL⟩:=hE.out
     try simp only[qQ]
     go_simp
     try rw[if_neg (by omega)]
     try with_reducible rfl
    try simp only[Act.put,qP]
    refine qiD (i:=24) (v:=?_) rfl (jc ⟨by rfl,?_⟩) hC ?_;rotate_left
    ·intro W hE;obtain⟨z0,z2,z7,hM,hL⟩:=hE.out
     try simp only[qQ]
     go_simp
     try rw[if_neg (by omega)]
     try with_reducible rfl
    try simp only[Act.put,qP]
    refine qiD (i:=25) (v:=?_) rfl (jc ⟨by rfl,?_⟩) hC ?_;rotate_left
    ·intro W hE;obtain⟨z0,z2,z7,hM,hL⟩:=hE.out
     try simp only[qQ]
     go_simp
     try rw[if_neg (by omega)]
     try with_reducible rfl
    try simp only[Act.put,qP]
    refine qiD (i:=26) (v:=?_) rfl (jc ⟨by rfl,?_⟩) hC ?_;rotate_left
    ·intro W hE;obtain⟨z0,z2,z7,hM,hL⟩:=hE.out
     try simp only[qQ]
     go_simp
     try rw[if_neg (by omega)]
     try with_reducible rfl
    try simp only[Act.put,qP]
    refine qrD (i:=7) (by kernel_rfl) rfl (fun K hK=>?_)
    try simp only[qQ]
    go_simp;refine(Cy.out _ Fr.refl.drew).mono ?_;rintro r w2 ⟨rfl,AU⟩;have AT:=zi ((Fr.refl (M:=NoB)).drew.trans' AU);clear AU;refine hK.out _ _ (zi (Ao.out _ AT.out)) (fun hC=>?_);clear hK K
    try simp only[Act.put,qP]
    refine qtD (v:=?_) rfl (jc ⟨by rfl,?_⟩) hC ?_;rotate_left
    ·intro W hE;obtain⟨z0,z2,z7,hM,hL⟩:=hE.out
     try simp only[qQ]
     go_simp
     try rw[if_neg (by omega)]
     try with_reducible rfl
    try simp only[Act.put,qP]
    refine qrD (i:=20) (by kernel_rfl) rfl (fun K hK=>?_)
    try simp only[qQ]
    go_simp;refine(Cz.out _ AT.out).mono ?_;rintro r w3 ⟨rfl,Al⟩;have he:=zi (AT.out.trans' Al);clear Al;refine hK.out _ _ (zi (Ao.out _ he.out)) (fun hC=>?_);clear hK K
    try simp only[Act.put,qP]
    iterate 2
     refine qtD (v:=?_) rfl (jc ⟨by rfl,?_⟩) hC ?_;rotate_left
     ·intro W hE;obtain⟨z0,z2,z7,hM,hL⟩:=hE.out
      try simp only[qQ]
      go_simp
      try rw[if_neg (by omega)]
      try with_reducible rfl
     try simp only[Act.put,qP]
    refine qrD (i:=28) (by kernel_rfl) rfl (fun K hK=>?_)
    try simp only[qQ]
    go_simp;refine hK.out _ _ (zi (Ao.out _ (he.out.alloc _))) (fun hC=>?_);clear hK K
    try simp only[Act.put,qP]
    refine qrD (i:=29) (by kernel_rfl) rfl (fun K hK=>?_)
    try simp only[qQ]
    rw[if_pos (by rfl)];refine wp_append_own_spare _ _ _ 158 (by rfl) (q+2) 159 i0 1 Tryz.underlying158 BF BA (q+2) n 64 (zc3 l) (by rfl) (zq3 HP.out.row (he.out.alloc _)) ⟨w3.heap.size,0,none⟩ 1 1 [.int .u32 y3] (by rfl) rfl (qm w3 [.int .u32 y3] 159) (by simp[Value.oneCell']) (by omega) ?_;intro w4 hi Ae;obtain⟨r1,r2,r3,r4,r5,r6⟩:=zu4 HP.out (he.out.alloc _) hi Ae _ rfl;have R1:=zi r1;have R2:=zi r2;have R3:=zi r3;have R6:=zi r6;clear r1 r2 r3 r6;have B6:=zpt HP.out he.out hi r4 (Ao.out _ he.out) (by omega) (by omega) (by omega) (by omega);refine hK.out _ _ (zi B6) (fun hC=>?_);clear hK K
    try simp only[Act.put,qP]
    refine qzD (by kernel_rfl) rfl (fun K hK=>?_)
    try simp only[qQ]
    go_simp;refine hK.out _ _ ?_;clear hK K
    try simp only[Act.put,qP]
    refine zd2 (by kernel_rfl) ?_ _;simp only[zbl];clear hC B6 r4 r5 hi Ae e1 e2 e3 d2 d7 Cv Cu
    go_wp2_with fail
    go_roundg (gk - 1)
    case measure=>omega
    case rel =>
     have Bo:=Hsn.out _ rfl;exact⟨j+1,by rw[Bo];simp,by omega,by omega,by rw[Bo,Hsu.out.1,zqk];exact R3.out,zi (AG.out.trans R6.out),zi (Nat.le_trans CP.out R2.out.size),zi (R1.out.same _ _ BT.out rfl)⟩
   obtain rfl:j=48:=by omega
   have hY:decide (((16+48:Nat):Int)<64)=false:=by decide
   have h8:=(AG.out.block q (by omega)).trans BS.out;have Cg:wr.cell? ⟨q,0,none⟩=some (.int .u32 s.a):=by simp[World.cell?,h8,wkC]
   have Cf:wr.cell? ⟨q,1,none⟩=some (.int .u32 s.b):=by simp[World.cell?,h8,wkC]
   have Ce:wr.cell? ⟨q,2,none⟩=some (.int .u32 s.c):=by simp[World.cell?,h8,wkC]
   have Cd:wr.cell? ⟨q,3,none⟩=some (.int .u32 s.d):=by simp[World.cell?,h8,wkC]
   have Cc:wr.cell? ⟨q,4,none⟩=some (.int .u32 s.e):=by simp[World.cell?,h8,wkC]
   have Cb:wr.cell? ⟨q,5,none⟩=some (.int .u32 s.f):=by simp[World.cell?,h8,wkC]
   have Ca:wr.cell? ⟨q,6,none⟩=some (.int .u32 s.g):=by simp[World.cell?,h8,wkC]
   have CZ:wr.cell? ⟨q,7,none⟩=some (.int .u32 s.h):=by simp[World.cell?,h8,wkC]
   have CM:=zi h8;clear h8 hv
   go_upto_region 16 with(fail)
   refine zal (S:=fun V=>V=wr.drew) (by kernel_rfl) rfl (fun hC=>?_);simp only[qV]
   iterate 24
    refine qt (v:=?_) rfl (jc ⟨by rfl,?_⟩) hC ?_;rotate_left
    ·intro W hE;obtain rfl:=hE
     try simp only[qQ]
     go_simp
     try rw[if_neg (by omega)]
     try with_reducible rfl
    try simp only[Act.put,qP]
   refine wpAnyH_done (by kernel_rfl) ?_ _;simp only[zbl];clear hC Cg Cf Ce Cd Cc Cb Ca CZ;obtain⟨l,hl⟩:∃ l,zcv ws 48=l:=⟨_,rfl⟩;rw[hl]at HP hJ;obtain⟨R,hR⟩:∃ R,zf7 s kShort l=R:=⟨_,rfl⟩;have HR:Hid (zf7 s (kShort.drop 0) (l.drop 0)=R):=zi hR;have Bl:kShort.length=64:=by decide
   have Hl:Hid (l.length=64∧kShort.length=64):=zi ⟨hJ,Bl⟩;have Hlw:Hid (∀ x∈l,x<4294967296):=zi (by rw[← hl];exact zkf ws Hwlt.out 48);have Ax:Fr NoB wr wr.drew:=Fr.refl.drew;obtain⟨wq,BY⟩:∃ x,wr.drew=x:=⟨_,rfl⟩;rw[BY]at Ax ⊢;have Cw:=Fr.cell Ax CJ;obtain⟨wo,Cl⟩:∃ x:World,x=wr:=⟨_,rfl⟩;subst Cl;have CS:=zi Ax;have HL:=zi hl;have C7:=zi hR;clear hR Bl hJ hl Ax BY CJ hY hN hj BE CP
   go_wp2_with fail
   go_loopg [14,15,16,17,18,19,20,21,119] 65 (fun gf va vb vc vd ve vf vg vh vi w5=>∃ (j:Nat) (z:Wk),vi = .int .i64 j∧j≤64∧j+gf=65∧va = .int .u32 z.a∧vb = .int .u32 z.b∧vc = .int .u32 z.c∧vd = .int .u32 z.d∧ve = .int .u32 z.e∧vf = .int .u32 z.f∧vg = .int .u32 z.g∧vh = .int .u32 z.h∧Hid z.lt∧Hid (zf7 z (kShort.drop j) (l.drop j)=R)∧Hid (Fr NoB wo w5))
   case atStart=>exact⟨0,s,rfl,by omega,by omega,rfl,rfl,rfl,rfl,rfl,rfl,rfl,rfl,Hslt,HR,CS⟩
   case round =>
    obtain⟨j,z,rfl,hj,BE,rfl,rfl,rfl,rfl,rfl,rfl,rfl,rfl,HZ,A9,h9⟩:=hrel;by_cases hN:j<64
    ·as_aux_lemma =>
      obtain⟨k,hk⟩:∃ x,kShort.getD j 0=x:=⟨_,rfl⟩;obtain⟨x,hx⟩:∃ x,l.getD j 0=x:=⟨_,rfl⟩;have Cr:k<4294967296:=by rw[← hk];exact zcm zlz j
      have Ck:x<4294967296:=by rw[← hx];exact zcm Hlw.out j
      have Bu:kShort.drop j=k :: kShort.drop (j+1):=by rw[← hk];exact zgl (by rw[Hl.out.2];exact hN)
      have Bt:l.drop j=x :: l.drop (j+1):=by rw[← hx];exact zgl (by rw[Hl.out.1];exact hN)
      have AA:=Htab.out j hN
      have tc:wr.cell? ⟨tb,j,none⟩=some (.int .u32 k):=by
       rw[hk]at AA;have h1:=Fr.cell Ap.out AA;have h2:=(AG.out.cell (p:=⟨tb,j,none⟩) (by have h0:tb<w.heap.size:=World.block_lt_of_cell? _ _ AA;have:=Hq.out;show tb<q+2;omega)).trans h1;exact Fr.cell h9.out h2
      have xc:=Fr.cell h9.out (HP.out.cell j (by rw[Hl.out.1];exact hN));rw[hx]at xc;have hT:wr.cell? ⟨B,0,none⟩=some (.slice (some ⟨q+2,0,none⟩) 64 64):=Fr.cell h9.out (by have h:=HP.out.var;simp[World.cell?,h]);have BL:=h9.out.block _ _ A0.out (fun h=>h);have CQ:Hid (zf7 (z.step k x) (kShort.drop (j+1)) (l.drop (j+1))=R):=zi (by have h:=A9.out;rw[Bu,Bt]at h;exact h);have AW:=HZ.out;have CN:=zi (Wk.step_lt AW k x);obtain⟨ga,gb,gc,gd,ge,Ay,gg,gh⟩:=AW;have hO:z.step k x=⟨(zke z k x+zpe z) % 4294967296,z.a,z.b,z.c,(z.d+zke z k x) % 4294967296,z.e,z.f,z.g⟩:=rfl;obtain⟨U,hU⟩:∃ u,zke z k x=u:=⟨_,rfl⟩;obtain⟨Vv,hV⟩:∃ u,zpe z=u:=⟨_,rfl⟩;rw[hU,hV]at hO;unfold zke at hU;unfold zpe at hV;have At:∀ V,Fr NoB wr V→Calls zl 212 #[.pointer (some ⟨b,0,none⟩),.int .u32 z.e,.int .i64 1] V fun e w'=>e = .returned (.int .u32 (zjd 1 z.e))∧Fr NoB V w':=fun V hF=>zt8 b z.e 1 (by omega) _ s0 V (hF.block _ _ BL (fun h=>h)) ge
      have Au:∀ V,Fr NoB wr V→Calls zl 212 #[.pointer (some ⟨b,0,none⟩),.int .u32 z.a,.int .i64 0] V fun e w'=>e = .returned (.int .u32 (zjd 0 z.a))∧Fr NoB V w':=fun V hF=>zt8 b z.a 0 (by omega) _ s0 V (hF.block _ _ BL (fun h=>h)) ga
      have p1:=zko (k:=1) ge;have p0:=zko (k:=0) ga;obtain⟨za,zb,zc,zd,ze,zf,zg,zh⟩:=z;simp only at At Au p1 p0 hU hV hO ga gb gc gd ge Ay gg gh ⊢;obtain⟨m1,AM⟩:∃ m,zjd 1 ze=m:=⟨_,rfl⟩;obtain⟨m0,AN⟩:∃ m,zjd 0 za=m:=⟨_,rfl⟩;simp only[AM]at At;simp only[AN]at Au;rw[AM]at hU p1;rw[AN]at hV p0;have f1:=u32_and_nat ze zf ge Ay;have BX:bits .xor .u32 (if IntKind.u32.signed=true then -1 else IntKind.u32.max) (ze:Int)=((4294967295 - ze:Nat):Int):=zy2 ze ge;have f2:=u32_and_nat (4294967295 - ze) zg (by omega) gg;have l1:ze &&& zf<4294967296:=Nat.and_lt_two_pow (n:=32) _ Ay;have l2:(4294967295 - ze) &&& zg<4294967296:=Nat.and_lt_two_pow (n:=32) _ gg;have f3:=u32_or_nat _ _ l1 l2;have f4:=u32_and_nat za zb ga gb;have f5:=u32_and_nat za zc ga gc;have f6:=u32_and_nat zb zc gb gc;have l4:za &&& zb<4294967296:=Nat.and_lt_two_pow (n:=32) _ gb;have l5:za &&& zc<4294967296:=Nat.and_lt_two_pow (n:=32) _ gc;have l6:zb &&& zc<4294967296:=Nat.and_lt_two_pow (n:=32) _ gc;have f7:=u32_or_nat _ _ l4 l5;have l7:za &&& zb ||| za &&& zc<4294967296:=Nat.or_lt_two_pow (n:=32) l4 l5
      have f8:=u32_or_nat _ _ l7 l6;obtain⟨Ch,Ab⟩:∃ y,4294967295 - ze=y:=⟨_,rfl⟩;rw[Ab]at BX f2 f3 hU;obtain⟨A1,CH⟩:∃ y,ze &&& zf=y:=⟨_,rfl⟩;obtain⟨A2,CG⟩:∃ y,Ch &&& zg=y:=⟨_,rfl⟩;rw[CH]at f1 f3 hU;rw[CG]at f2 f3 hU;obtain⟨A3,CF⟩:∃ y,A1 ||| A2=y:=⟨_,rfl⟩
      rw[CF]at f3 hU;obtain⟨A4,CE⟩:∃ y,za &&& zb=y:=⟨_,rfl⟩;obtain⟨A5,CD⟩:∃ y,za &&& zc=y:=⟨_,rfl⟩;obtain⟨A6,CC⟩:∃ y,zb &&& zc=y:=⟨_,rfl⟩;rw[CE]at f4 f7 f8 hV;rw[CD]at f5 f7 f8 hV;rw[CC]at f6 f8 hV;obtain⟨A7,CB⟩:∃ y,A4 ||| A5=y:=⟨_,rfl⟩
      rw[CB]at f7 f8 hV;obtain⟨A8,CA⟩:∃ y,A7 ||| A6=y:=⟨_,rfl⟩
      rw[CA]at f8 hV;obtain⟨U1,BJ⟩:∃ y,(zh+m1) % 4294967296=y:=⟨_,rfl⟩;rw[BJ]at hU;obtain⟨U2,BI⟩:∃ y,(U1+A3) % 4294967296=y:=⟨_,rfl⟩;rw[BI]at hU;obtain⟨U3,BH⟩:∃ y,(U2+k) % 4294967296=y:=⟨_,rfl⟩;rw[BH]at hU;obtain⟨E1,BO⟩:∃ y,(U+Vv) % 4294967296=y:=⟨_,rfl⟩;obtain⟨E2,BN⟩:∃ y,(zd+U) % 4294967296=y:=⟨_,rfl⟩;rw[BO,BN]at hO;have t1:=zi7 BJ;have t2:=zi7 BI;have t3:=zi7 BH;have t4:=zi7 hU;have T5:=zi (zi7 hV);have T6:=zi (zi7 BO);have T7:=zi (zi7 BN);obtain⟨t1,-⟩:=t1;obtain⟨t2,-⟩:=t2;obtain⟨t3,-⟩:=t3;obtain⟨t4,-⟩:=t4;rw[hO]at CQ CN;have hY:decide ((j:Int)<64)=true:=decide_eq_true (by omega);have hj64:(j:Int)<64:=by omega
      have C0:=zi At;have C1:=zi Au;clear At Au hU hV CH CG CF CE CD CC CB CA BJ BI BH BO BN hO AM AN Ab hk hx Bu Bt AA BL l1 l2 l4 l5 l6 l7 ga gb gc gd ge Ay gg gh p1 p0 Cr Ck A9 HZ
      go_upto_region 20 with(fail)
      refine zal (S:=fun V=>Hid (Fr NoB wr V)) (by kernel_rfl) (zi Fr.refl.drew) (fun hC=>?_);simp only[qV]
      iterate 3
       refine qt (v:=?_) rfl (jc ⟨by rfl,?_⟩) hC ?_;rotate_left
       ·intro W hE;have hG:=Fr.cell hE.out hT;have hZ:=Fr.cell hE.out xc
        try simp only[qQ]
        go_simp
        try rw[if_neg (by omega)]
        try with_reducible rfl
       try simp only[Act.put,qP]
      refine qi (i:=5) (v:=?_) rfl (jc ⟨by rfl,?_⟩) hC ?_;rotate_left
      ·intro W hE;have hG:=Fr.cell hE.out hT;have hZ:=Fr.cell hE.out xc
       try simp only[qQ]
       go_simp
       try rw[if_neg (by omega)]
       try with_reducible rfl
      try simp only[Act.put,qP]
      refine qi (i:=6) (v:=?_) rfl (jc ⟨by rfl,?_⟩) hC ?_;rotate_left
      ·intro W hE;have hG:=Fr.cell hE.out hT;have hZ:=Fr.cell hE.out xc
       try simp only[qQ]
       go_simp
       try rw[if_neg (by omega)]
       try with_reducible rfl
      try simp only[Act.put,qP]
      refine qi (i:=7) (v:=?_) rfl (jc ⟨by rfl,?_⟩) hC ?_;rotate_left
      ·intro W hE;have hG:=Fr.cell hE.out hT;have hZ:=Fr.cell hE.out xc
       try simp only[qQ]
       go_simp
       try rw[if_neg (by omega)]
       try with_reducible rfl
      try simp only[Act.put,qP]
      refine qi (i:=8) (v:=?_) rfl (jc ⟨by rfl,?_⟩) hC ?_;rotate_left
      ·intro W hE;have hG:=Fr.cell hE.out hT;have hZ:=Fr.cell hE.out xc
       try simp only[qQ]
       go_simp
       try rw[if_neg (by omega)]
       try with_reducible rfl
      try simp only[Act.put,qP]
      refine qi (i:=9) (v:=?_) rfl (jc ⟨by rfl,?_⟩) hC ?_;rotate_left
      ·intro W hE;have hG:=Fr.cell hE.out hT;have hZ:=Fr.cell hE.out xc
       try simp only[qQ]
       go_simp
       try rw[if_neg (by omega)]
       try with_reducible rfl
      try simp only[Act.put,qP]
      refine qi (i:=10) (v:=?_) rfl (jc ⟨by rfl,?_⟩) hC ?_;rotate_left
      ·intro W hE;have hG:=Fr.cell hE.out hT;have hZ:=Fr.cell hE.out xc
       try simp only[qQ]
       go_simp
       try rw[if_neg (by omega)]
       try with_reducible rfl
      try simp only[Act.put,qP]
      refine qi (i:=11) (v:=?_) rfl (jc ⟨by rfl,?_⟩) hC ?_;rotate_left
      ·intro W hE;have hG:=Fr.cell hE.out hT;have hZ:=Fr.cell hE.out xc
       try simp only[qQ]
       go_simp
       try rw[if_neg (by omega)]
       try with_reducible rfl
      try simp only[Act.put,qP]
      refine qi (i:=12) (v:=?_) rfl (jc ⟨by rfl,?_⟩) hC ?_;rotate_left
      ·intro W hE;have hG:=Fr.cell hE.out hT;have hZ:=Fr.cell hE.out xc
       try simp only[qQ]
       go_simp
       try rw[if_neg (by omega)]
       try with_reducible rfl
      try simp only[Act.put,qP]
      refine qi (i:=14) (v:=?_) rfl (jc ⟨by rfl,?_⟩) hC ?_;rotate_left
      ·intro W hE;have hG:=Fr.cell hE.out hT;have hZ:=Fr.cell hE.out xc
       try simp only[qQ]
       go_simp
       try rw[if_neg (by omega)]
       try with_reducible rfl
      try simp only[Act.put,qP]
      refine qi (i:=16) (v:=?_) rfl (jc ⟨by rfl,?_⟩) hC ?_;rotate_left
      ·intro W hE;have hG:=Fr.cell hE.out hT;have hZ:=Fr.cell hE.out xc
       try simp only[qQ]
       go_simp
       try rw[if_neg (by omega)]
       try with_reducible rfl
      try simp only[Act.put,qP]
      refine qi (i:=17) (v:=?_) rfl (jc ⟨by rfl,?_⟩) hC ?_;rotate_left
      ·intro W hE;have hG:=Fr.cell hE.out hT;have hZ:=Fr.cell hE.out xc
       try simp only[qQ]
       go_simp
       try rw[if_neg (by omega)]
       try with_reducible rfl
      try simp only[Act.put,qP]
      refine qi (i:=18) (v:=?_) rfl (jc ⟨by rfl,?_⟩) hC ?_;rotate_left
      ·intro W hE;have hG:=Fr.cell hE.out hT;have hZ:=Fr.cell hE.out xc
       try simp only[qQ]
       go_simp
       try rw[if_neg (by omega)]
       try with_reducible rfl
      try simp only[Act.put,qP]
      refine qi (i:=19) (v:=?_) rfl (jc ⟨by rfl,?_⟩) hC ?_;rotate_left
      ·intro W hE;have hG:=Fr.cell hE.out hT;have hZ:=Fr.cell hE.out xc
       try simp only[qQ]
       go_simp
       try rw[if_neg (by omega)]
       try with_reducible rfl
      try simp only[Act.put,qP]
      refine qr (i:=3) (by kernel_rfl) rfl (fun K hK=>?_)
      try simp only[qQ]
      go_simp;refine(C0.out _ hC.out).mono ?_;rintro r w6 ⟨rfl,B8⟩;refine hK.out _ _ (zi (hC.out.trans' B8)) (fun hC=>?_);clear hK K
      try simp only[Act.put,qP]
      iterate 5
       refine qt (v:=?_) rfl (jc ⟨by rfl,?_⟩) hC ?_;rotate_left
       ·intro W hE;have hG:=Fr.cell hE.out hT;have hZ:=Fr.cell hE.out xc
        try simp only[qQ]
        go_simp
        try rw[if_neg (by omega)]
        try with_reducible rfl
       try simp only[Act.put,qP]
      refine wpAnyH_done (by kernel_rfl) ?_ _;simp only[zbl];have CR:=zi hC.out;clear hC B8 t1 t2 t3 t4 f1 f2 f3 BX tc;have Hf:=zi (And.intro f4 (And.intro f5 (And.intro f6 (And.intro f7 f8))));clear f4 f5 f6 f7 f8
      go_wp2_with fail
      refine(C1.out _ CR.out).mono ?_;rintro r w7 ⟨rfl,B7⟩;have DC:=zi (h9.out.trans' (CR.out.trans' B7));clear B7;obtain⟨f4,f5,f6,f7,f8⟩:=Hf.out
      go_wp2_with fail
      go_roundg (gk - 1)
      case measure=>omega
      case rel =>
       obtain⟨CY,CX⟩:=T5.out;obtain⟨CW,CV⟩:=T6.out;obtain⟨CU,CT⟩:=T7.out;refine⟨j+1,⟨E1,za,zb,zc,E2,ze,zf,zg⟩,by simp,by omega,by omega,?_,rfl,rfl,rfl,?_,rfl,rfl,rfl,CN,CQ,DC⟩
       ·first | simp only[CX,CV] | simp only[CY,CW]
       first | simp only[CT] | simp only[CU]
    obtain rfl:j=64:=by omega
    have hY:decide (((64:Nat):Int)<64)=false:=by decide
    have hz:z=R:=by
     have h:=A9.out
     rwa [List.drop_of_length_le (by rw[Hl.out.2];exact ja _),List.drop_of_length_le (by rw[Hl.out.1];exact ja _)]at h
    subst hz;have Bg:wr.heap[q]? = some (.cells (wkC (zkx s z 0)) 160 (0,0)):=h9.out.block _ _ CM.out (fun h=>h);have Be:wr.heap[q+1]? = some (.cells wkZ 160 (0,0)):=h9.out.block _ _ ((AG.out.block (q+1) (by omega)).trans BR.out) (fun h=>h);have Bv:=h9.out.block _ _ BT.out (fun h=>h);have Ag:Below q w wr:=((Ap.out.below (by rw[Hq.out];exact ja _) (fun _ _ _ h=>h.elim)).trans (AG.out.mono (by omega))).trans (h9.out.below (by have:=AG.out.size;omega) (fun _ _ _ h=>h.elim));have DA:=zi Bg;have C9:=zi Be;have DE:=zi Bv;have Hbel:=zi Ag;clear Bg Be Bv Ag A9 HR CS h9 AG HP Hl Hlw A0 CM BT hN Cw;obtain⟨wn,AY⟩:∃ x:World,x=wr:=⟨_,rfl⟩;subst AY
    go_wp2_with fail
    go_loopg [182] 9 (fun gf vi wr=>∃ (j:Nat),vi = .int .i64 j∧j≤8∧j+gf=9∧Hid (wr.heap[q]? = some (.cells (wkC (zkx s z j)) 160 (0,0)))∧Hid (wr.heap[q+1]? = some (.cells wkZ 160 (0,0)))∧Hid (wr.heap[D]? = some (.deferred (some [])))∧Hid (Below q w wr))
    case atStart=>exact⟨0,rfl,by omega,by omega,DA,C9,DE,Hbel⟩
    case round =>
     obtain⟨j,rfl,hj,BE,HQ,h7,AC,AD⟩:=hrel;by_cases hN:j<8
     ·have AR:j=0∨j=1∨j=2∨j=3∨j=4∨j=5∨j=6∨j=7:=by omega
      rcases AR with rfl | rfl | rfl | rfl | rfl | rfl | rfl | rfl
      ·have x0:wr.cell? ⟨q,0,none⟩=some (.int .u32 s.a):=by simp[World.cell?,HQ.out,wkC,zkx]
       have xz:wr.frozen? ⟨q,0,none⟩=false:=by simp[World.frozen?,HQ.out]
       have AP:(Instr.index 160 (.agg #[.int .u32 z.a,.int .u32 z.b,.int .u32 z.c,.int .u32 z.d,.int .u32 z.e,.int .u32 z.f,.int .u32 z.g,.int .u32 z.h]) (.int .i64 0)).run zl wr = .ok (.int .u32 z.a) wr:=by kernel_rfl
       have hH:∀ v,v=zv .u32 (((s.a+z.a) % 4294967296:Nat):Int)→(wr.setCell ⟨q,0,none⟩ v).heap[q]? = some (.cells (wkC (zkx s z (0+1))) 160 (0,0)):=fun v hv=>by
        rw[jh (o:=0) v HQ.out,hv];rfl
       have hP:=zi hH;clear hj hN hH
       go_wp2_with fail
       go_roundg (gk - 1)
       case measure=>omega
       case rel =>
        have e:zv .u32 (((s.a:Int)+(z.a:Int)) % 4294967296) = .int .u32 (((s.a+z.a) % 4294967296:Nat):Int):=by congr 1
        exact⟨0+1,rfl,by omega,by omega,zi (hP.out _ e),zi ((Below.heap_setCell _ _ _ _ (by simp)).trans h7.out),zi ((Below.heap_setCell _ _ _ _ (by show D≠q;omega)).trans AC.out),zi (AD.out.setCell (p:=⟨q,0,none⟩) (ja _) _)⟩
      ·have x0:wr.cell? ⟨q,1,none⟩=some (.int .u32 s.b):=by simp[World.cell?,HQ.out,wkC,zkx]
       have xz:wr.frozen? ⟨q,1,none⟩=false:=by simp[World.frozen?,HQ.out]
       have AP:(Instr.index 160 (.agg #[.int .u32 z.a,.int .u32 z.b,.int .u32 z.c,.int .u32 z.d,.int .u32 z.e,.int .u32 z.f,.int .u32 z.g,.int .u32 z.h]) (.int .i64 1)).run zl wr = .ok (.int .u32 z.b) wr:=by kernel_rfl
       have hH:∀ v,v=zv .u32 (((s.b+z.b) % 4294967296:Nat):Int)→(wr.setCell ⟨q,1,none⟩ v).heap[q]? = some (.cells (wkC (zkx s z (1+1))) 160 (0,0)):=fun v hv=>by
        rw[jh (o:=1) v HQ.out,hv];rfl
       have hP:=zi hH;clear hj hN hH
       go_wp2_with fail
       go_roundg (gk - 1)
       case measure=>omega
       case rel =>
        have e:zv .u32 (((s.b:Int)+(z.b:Int)) % 4294967296) = .int .u32 (((s.b+z.b) % 4294967296:Nat):Int):=by congr 1
        exact⟨1+1,rfl,by omega,by omega,zi (hP.out _ e),zi ((Below.heap_setCell _ _ _ _ (by simp)).trans h7.out),zi ((Below.heap_setCell _ _ _ _ (by show D≠q;omega)).trans AC.out),zi (AD.out.setCell (p:=⟨q,1,none⟩) (ja _) _)⟩
      ·have x0:wr.cell? ⟨q,2,none⟩=some (.int .u32 s.c):=by simp[World.cell?,HQ.out,wkC,zkx]
       have xz:wr.frozen? ⟨q,2,none⟩=false:=by simp[World.frozen?,HQ.out]
       have AP:(Instr.index 160 (.agg #[.int .u32 z.a,.int .u32 z.b,.int .u32 z.c,.int .u32 z.d,.int .u32 z.e,.int .u32 z.f,.int .u32 z.g,.int .u32 z.h]) (.int .i64 2)).run zl wr = .ok (.int .u32 z.c) wr:=by kernel_rfl
       have hH:∀ v,v=zv .u32 (((s.c+z.c) % 4294967296:Nat):Int)→(wr.setCell ⟨q,2,none⟩ v).heap[q]? = some (.cells (wkC (zkx s z (2+1))) 160 (0,0)):=fun v hv=>by
        rw[jh (o:=2) v HQ.out,hv];rfl
       have hP:=zi hH;clear hj hN hH
       go_wp2_with fail
       go_roundg (gk - 1)
       case measure=>omega
       case rel =>
        have e:zv .u32 (((s.c:Int)+(z.c:Int)) % 4294967296) = .int .u32 (((s.c+z.c) % 4294967296:Nat):Int):=by congr 1
        exact⟨2+1,rfl,by omega,by omega,zi (hP.out _ e),zi ((Below.heap_setCell _ _ _ _ (by simp)).trans h7.out),zi ((Below.heap_setCell _ _ _ _ (by show D≠q;omega)).trans AC.out),zi (AD.out.setCell (p:=⟨q,2,none⟩) (ja _) _)⟩
      ·have x0:wr.cell? ⟨q,3,none⟩=some (.int .u32 s.d):=by simp[World.cell?,HQ.out,wkC,zkx]
       have xz:wr.frozen? ⟨q,3,none⟩=false:=by simp[World.frozen?,HQ.out]
       have AP:(Instr.index 160 (.agg #[.int .u32 z.a,.int .u32 z.b,.int .u32 z.c,.int .u32 z.d,.int .u32 z.e,.int .u32 z.f,.int .u32 z.g,.int .u32 z.h]) (.int .i64 3)).run zl wr = .ok (.int .u32 z.d) wr:=by kernel_rfl
       have hH:∀ v,v=zv .u32 (((s.d+z.d) % 4294967296:Nat):Int)→(wr.setCell ⟨q,3,none⟩ v).heap[q]? = some (.cells (wkC (zkx s z (3+1))) 160 (0,0)):=fun v hv=>by
        rw[jh (o:=3) v HQ.out,hv];rfl
       have hP:=zi hH;clear hj hN hH
       go_wp2_with fail
       go_roundg (gk - 1)
       case measure=>omega
       case rel =>
        have e:zv .u32 (((s.d:Int)+(z.d:Int)) % 4294967296) = .int .u32 (((s.d+z.d) % 4294967296:Nat):Int):=by congr 1
        exact⟨3+1,rfl,by omega,by omega,zi (hP.out _ e),zi ((Below.heap_setCell _ _ _ _ (by simp)).trans h7.out),zi ((Below.heap_setCell _ _ _ _ (by show D≠q;omega)).trans AC.out),zi (AD.out.setCell (p:=⟨q,3,none⟩) (ja _) _)⟩
      ·have x0:wr.cell? ⟨q,4,none⟩=some (.int .u32 s.e):=by simp[World.cell?,HQ.out,wkC,zkx]
       have xz:wr.frozen? ⟨q,4,none⟩=false:=by simp[World.frozen?,HQ.out]
       have AP:(Instr.index 160 (.agg #[.int .u32 z.a,.int .u32 z.b,.int .u32 z.c,.int .u32 z.d,.int .u32 z.e,.int .u32 z.f,.int .u32 z.g,.int .u32 z.h]) (.int .i64 4)).run zl wr = .ok (.int .u32 z.e) wr:=by kernel_rfl
       have hH:∀ v,v=zv .u32 (((s.e+z.e) % 4294967296:Nat):Int)→(wr.setCell ⟨q,4,none⟩ v).heap[q]? = some (.cells (wkC (zkx s z (4+1))) 160 (0,0)):=fun v hv=>by
        rw[jh (o:=4) v HQ.out,hv];rfl
       have hP:=zi hH;clear hj hN hH
       go_wp2_with fail
       go_roundg (gk - 1)
       case measure=>omega
       case rel =>
        have e:zv .u32 (((s.e:Int)+(z.e:Int)) % 4294967296) = .int .u32 (((s.e+z.e) % 4294967296:Nat):Int):=by congr 1
        exact⟨4+1,rfl,by omega,by omega,zi (hP.out _ e),zi ((Below.heap_setCell _ _ _ _ (by simp)).trans h7.out),zi ((Below.heap_setCell _ _ _ _ (by show D≠q;omega)).trans AC.out),zi (AD.out.setCell (p:=⟨q,4,none⟩) (ja _) _)⟩
      ·have x0:wr.cell? ⟨q,5,none⟩=some (.int .u32 s.f):=by simp[World.cell?,HQ.out,wkC,zkx]
       have xz:wr.frozen? ⟨q,5,none⟩=false:=by simp[World.frozen?,HQ.out]
       have AP:(Instr.index 160 (.agg #[.int .u32 z.a,.int .u32 z.b,.int .u32 z.c,.int .u32 z.d,.int .u32 z.e,.int .u32 z.f,.int .u32 z.g,.int .u32 z.h]) (.int .i64 5)).run zl wr = .ok (.int .u32 z.f) wr:=by kernel_rfl
       have hH:∀ v,v=zv .u32 (((s.f+z.f) % 4294967296:Nat):Int)→(wr.setCell ⟨q,5,none⟩ v).heap[q]? = some (.cells (wkC (zkx s z (5+1))) 160 (0,0)):=fun v hv=>by
        rw[jh (o:=5) v HQ.out,hv];rfl
       have hP:=zi hH;clear hj hN hH
       go_wp2_with fail
       go_roundg (gk - 1)
       case measure=>omega
       case rel =>
        have e:zv .u32 (((s.f:Int)+(z.f:Int)) % 4294967296) = .int .u32 (((s.f+z.f) % 4294967296:Nat):Int):=by congr 1
        exact⟨5+1,rfl,by omega,by omega,zi (hP.out _ e),zi ((Below.heap_setCell _ _ _ _ (by simp)).trans h7.out),zi ((Below.heap_setCell _ _ _ _ (by show D≠q;omega)).trans AC.out),zi (AD.out.setCell (p:=⟨q,5,none⟩) (ja _) _)⟩
      ·have x0:wr.cell? ⟨q,6,none⟩=some (.int .u32 s.g):=by simp[World.cell?,HQ.out,wkC,zkx]
       have xz:wr.frozen? ⟨q,6,none⟩=false:=by simp[World.frozen?,HQ.out]
       have AP:(Instr.index 160 (.agg #[.int .u32 z.a,.int .u32 z.b,.int .u32 z.c,.int .u32 z.d,.int .u32 z.e,.int .u32 z.f,.int .u32 z.g,.int .u32 z.h]) (.int .i64 6)).run zl wr = .ok (.int .u32 z.g) wr:=by kernel_rfl
       have hH:∀ v,v=zv .u32 (((s.g+z.g) % 4294967296:Nat):Int)→(wr.setCell ⟨q,6,none⟩ v).heap[q]? = some (.cells (wkC (zkx s z (6+1))) 160 (0,0)):=fun v hv=>by
        rw[jh (o:=6) v HQ.out,hv];rfl
       have hP:=zi hH;clear hj hN hH
       go_wp2_with fail
       go_roundg (gk - 1)
       case measure=>omega
       case rel =>
        have e:zv .u32 (((s.g:Int)+(z.g:Int)) % 4294967296) = .int .u32 (((s.g+z.g) % 4294967296:Nat):Int):=by congr 1
        exact⟨6+1,rfl,by omega,by omega,zi (hP.out _ e),zi ((Below.heap_setCell _ _ _ _ (by simp)).trans h7.out),zi ((Below.heap_setCell _ _ _ _ (by show D≠q;omega)).trans AC.out),zi (AD.out.setCell (p:=⟨q,6,none⟩) (ja _) _)⟩
      have x0:wr.cell? ⟨q,7,none⟩=some (.int .u32 s.h):=by simp[World.cell?,HQ.out,wkC,zkx]
      have xz:wr.frozen? ⟨q,7,none⟩=false:=by simp[World.frozen?,HQ.out]
      have AP:(Instr.index 160 (.agg #[.int .u32 z.a,.int .u32 z.b,.int .u32 z.c,.int .u32 z.d,.int .u32 z.e,.int .u32 z.f,.int .u32 z.g,.int .u32 z.h]) (.int .i64 7)).run zl wr = .ok (.int .u32 z.h) wr:=by kernel_rfl
      have hH:∀ v,v=zv .u32 (((s.h+z.h) % 4294967296:Nat):Int)→(wr.setCell ⟨q,7,none⟩ v).heap[q]? = some (.cells (wkC (zkx s z (7+1))) 160 (0,0)):=fun v hv=>by
       rw[jh (o:=7) v HQ.out,hv];rfl
      have hP:=zi hH;clear hj hN hH
      go_wp2_with fail
      go_roundg (gk - 1)
      case measure=>omega
      case rel =>
       have e:zv .u32 (((s.h:Int)+(z.h:Int)) % 4294967296) = .int .u32 (((s.h+z.h) % 4294967296:Nat):Int):=by congr 1
       exact⟨7+1,rfl,by omega,by omega,zi (hP.out _ e),zi ((Below.heap_setCell _ _ _ _ (by simp)).trans h7.out),zi ((Below.heap_setCell _ _ _ _ (by show D≠q;omega)).trans AC.out),zi (AD.out.setCell (p:=⟨q,7,none⟩) (ja _) _)⟩
     obtain rfl:j=8:=by omega
     have hY:decide (((8:Nat):Int)<8)=false:=by decide
     have hX:zkx s z 8=PP:=by
      rw[← DB.out];unfold zbf;rw[← Hws.out,HL.out,C7.out];rfl
     rw[hX]at HQ;obtain⟨X,Aj⟩:∃ X,wkC PP=X:=⟨_,rfl⟩;have Av:X.size=8:=by rw[← Aj];rfl
     have B3:X.all (·.oneCell')=true:=by rw[← Aj];simp[wkC,Value.oneCell']
     rw[Aj]at HQ;have C6:=zi Aj;have C8:=zi (j8 HQ.out);have CO:Hid (wr.there (q+1) 0 X.size):=zi (by rw[Av];exact qa h7.out (ja _));have hP:Hid ((Tryz.prog.info? 160).map (·.size)=some X.size):=zi (by rw[Av];kernel_rfl);have Am:Hid ((Tryz.prog.info? 160).map (·.size)=some X.toList.length):=zi (by rw[Array.length_toList,Av];kernel_rfl);have H1:=zi B3;clear hX Aj Av B3 hN
     go_wp2_with (first
      | (with_reducible refine wpList_load_mid rfl 160 _ rfl q 0 rfl X.toList (.array 8 159) C8.out Tryz.underlying160 rfl Am.out ?_)
      | (with_reducible refine wpList_store_mid rfl 160 _ _ rfl (q+1) 0 X rfl rfl CO.out hP.out H1.out ?_))
     have Bd:=World.rangeAt_setCells_same wr (q+1) 0 X.toList (by simpa using CO.out);have AQ:=jr (q+1) X.toList 0 wr;have BP:=AQ.block _ _ AC.out (fun h=>by have h2:D=q+1:=h;omega);have B0:Below q w (wr.setCells (q+1) 0 X.toList):=AD.out.trans (AQ.below (by have:=ju h7.out;omega) (fun k _ _ hk=>by have h2:k=q+1:=hk;omega));obtain⟨o9,Cq⟩:=zd8 (w:=wr.setCells (q+1) 0 X.toList) (k:=q+1) (Nat.lt_of_lt_of_le (ju h7.out) AQ.size);obtain⟨w9,Cn⟩:∃ V,wr.setCells (q+1) 0 X.toList=V:=⟨_,rfl⟩;rw[Cn]at Bd BP B0 Cq ⊢
     have Cp:(w9.putObj D (.deferred none)).heap[q+1]? = w9.heap[q+1]?:=by
      unfold World.putObj;simp only;rw[Array.getElem?_setIfInBounds_ne (by omega)]
     have Bk:=run_loadVar_mid (P:=zl) (w9.putObj D (.deferred none)) (q+1) 0 160 X.toList (.array 8 159) (ze4 Bd Cp) Tryz.underlying160 rfl Am.out;rw[show X.toList.toArray=X by simp]at Bk;have Bz:Below q w (w9.putObj D (.deferred none)):=B0.trans (belowK_b (w:=W3) (by omega) w9 D _ _ hD BP rfl rfl);rw[← Hq.out]at Bz;refine⟨by simp,.inl ⟨_,_,rfl,run_takeDeferred BP,?_⟩⟩;refine⟨.agg X,?_,by rw[C6.out],Fr.ofBelow Bz⟩;rw[qu rfl];show((asAddr (.pointer (some ⟨q+1,0,none⟩))).run _ _).andThen _=_;simp[asAddr,Result.andThen,Bk]
 case stop =>
  rintro D c hf W hD hpre h hK;exact h.elim
theorem zwd (b tb tcap pb po pcap:Nat)(s0 s:Wk)(p:Bs)(w:World)(hpc:pcap≤maxLen)(hpc2:64≤pcap)(hpo:po≤maxLen)(hpl:p.length=64)(hslt:s.lt)(htab:∀ i,i<64→w.cell? ⟨tb,i,none⟩=some (.int .u32 (kShort.getD i 0:Nat)))(hp:∀ (j:Nat) (x:UInt8),p[j]? = some x→w.cell? ⟨pb,po+j,none⟩=some (.int .u8 x.toNat))(hS:w.heap[b]? = some (.cells (zc4 (.slice (some ⟨tb,0,none⟩) 64 tcap) s0) 162 (0,0))) :
 Calls zl 165 #[.pointer (some ⟨b,0,none⟩),.agg (wkC s),.slice (some ⟨pb,po,none⟩) 64 pcap] w fun e w'=>e = .returned (.agg (wkC (zbf kShort s p)))∧Fr NoB w w' :=
 callsIn_wide.1 (ztv b tb tcap pb po pcap s0 s p w hpc hpc2 hpo hpl hslt htab hp hS)
end Go.Proofs.YtffggpplnjibgaaGreatDoor
