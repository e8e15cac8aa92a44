/-
 Arrays of bytes compared;signatures compared;ranges of cells put side by side.
-/
import Derived.Test.YtffggpplnjibgaaGreatDoorKSpecBind
import Derived.Test.YtffggpplnjibgaaGreatDoorKRune
import Derived.Stop.BytesEq
import Derived.Test.YtffggpplnjibgaaGreatDoorKOwn
import Derived.Test.YtffggpplnjibgaaGreatDoorKShelf
import Derived.Deep.LoopGhost
open Go.Lib renaming hid→zi,byteCells→zj
open Go.Proofs.Tryz renaming prog→zl
open List renaming length_cons→zx,length_append→zy
open Nat renaming le_refl→ja
open Go.Value renaming int→jf
open Go.IntKind renaming u8→jg
namespace Go.Proofs.YtffggpplnjibgaaGreatDoor
set_option linter.unusedVariables false
set_option linter.unusedSimpArgs false
set_option linter.unusedSectionVars false
set_option maxRecDepth 100000
set_option maxHeartbeats 4000000
section
open Go.RowKit
variable [OldK]
theorem zb9 (l:Bs):zj l=l.map Extern.Stop.cell:=rfl
theorem zef (w:World):(sizeOf 5).run zl w = .ok 1 w:=by kernel_rfl
theorem jo:Tryz.prog.underlying 25=some (.array 32 5):=by kernel_rfl
theorem zca:Tryz.prog.underlying 30=some (.array 64 5):=by kernel_rfl
theorem q8:(Tryz.prog.info? 25).map (·.size)=some 32:=by kernel_rfl
theorem zgp:(Tryz.prog.info? 30).map (·.size)=some 64:=by kernel_rfl
theorem zov (a b:Bs)(ha:a.length=32)(hb:b.length=32)(w:World) :
 (Op.equalIn 10000 25 (.agg (zj a).toArray) (.agg (zj b).toArray)).run zl w = .ok (a==b) w:=by
 have:=run_equalIn_bytes (P:=zl) w 9998 25 5 32 jo Tryz.underlying5 zef a b ha hb;rw[zb9,zb9,this]
theorem zou (a b:Bs)(ha:a.length=32)(hb:b.length=32)(w:World) :
 (Op.equalIn 10000 23 (.agg (zj a).toArray) (.agg (zj b).toArray)).run zl w = .ok (a==b) w:=by
 have:=run_equalIn_bytes (P:=zl) w 9998 23 5 32 ji Tryz.underlying5 zef a b ha hb;rw[zb9,zb9,this]
theorem zk4:(zj jz).toArray=#[jf jg 0,jf jg 0,jf jg 0,jf jg 0,jf jg 0,jf jg 0,jf jg 0,jf jg 0,jf jg 0,jf jg 0,jf jg 0,jf jg 0,jf jg 0,jf jg 0,jf jg 0,jf jg 0,jf jg 0,jf jg 0,jf jg 0,jf jg 0,jf jg 0,jf jg 0,jf jg 0,jf jg 0,jf jg 0,jf jg 0,jf jg 0,jf jg 0,jf jg 0,jf jg 0,jf jg 0,jf jg 0]:=rfl
theorem zns (a:Bs)(ha:a.length=32)(w:World) :
 (Op.equalIn 10000 25 (.agg (zj a).toArray) (.agg #[jf jg 0,jf jg 0,jf jg 0,jf jg 0,jf jg 0,jf jg 0,jf jg 0,jf jg 0,jf jg 0,jf jg 0,jf jg 0,jf jg 0,jf jg 0,jf jg 0,jf jg 0,jf jg 0,jf jg 0,jf jg 0,jf jg 0,jf jg 0,jf jg 0,jf jg 0,jf jg 0,jf jg 0,jf jg 0,jf jg 0,jf jg 0,jf jg 0,jf jg 0,jf jg 0,jf jg 0,jf jg 0])).run zl w = .ok (a==jz) w:=by
 rw[← zk4];exact zov a jz ha rfl w
theorem qb {w:World} {b o:Nat} {xs ys:List Value}:w.rangeAt b o (xs++ys)↔w.rangeAt b o xs∧w.rangeAt b (o+xs.length) ys:=by
 constructor
 ·intro h;refine⟨fun j v hv=>h j v ?_,fun j v hv=>?_⟩
  ·have hj:j<xs.length:=(List.getElem?_eq_some_iff.1 hv).1;rw[List.getElem?_append_left hj];exact hv
  have:=h (xs.length+j) v (by rw[List.getElem?_append_right (by omega)];simpa using hv)
  rwa [← Nat.add_assoc]at this
 rintro⟨h1,h2⟩ j v hv;rcases Nat.lt_or_ge j xs.length with hj | hj
 ·rw[List.getElem?_append_left hj]at hv;exact h1 j v hv
 rw[List.getElem?_append_right hj]at hv;have:=h2 _ v hv
 rwa [show o+xs.length+(j - xs.length)=o+j by omega]at this
theorem zcy {w:World}{b o:Nat}{v:Value}:w.rangeAt b o [v]↔w.cell? ⟨b,o,none⟩=some v:=by
 constructor
 ·intro h;exact h 0 v rfl
 intro h j x hx;obtain⟨h1,rfl⟩:=List.getElem?_eq_some_iff.1 hx;obtain rfl:j=0:=by simpa using h1
 exact h
theorem ze4 {w w':World}{b o:Nat}{cs:List Value}(h:w.rangeAt b o cs)(hb:w'.heap[b]? = w.heap[b]?):w'.rangeAt b o cs:=by
 intro j x hx;have:=h j x hx;simp only[World.cell?]at this ⊢;rw[hb];exact this
theorem zpa {w w':World}{b o n:Nat}(h:w.there b o n)(hb:w'.heap[b]? = w.heap[b]?):w'.there b o n:=by
 intro j hj;have:=h j hj;simp only[World.cell?,World.frozen?]at this ⊢;rw[hb];exact this
theorem Fr.cell {M:Nat→Obj→Prop}{w w':World}{b o:Nat}{v:Value}(hF:Fr M w w')(h:w.cell? ⟨b,o,none⟩=some v)(hM:∀ ob,¬ M b ob:=by exact fun _ h=>h):w'.cell? ⟨b,o,none⟩=some v:=by
 have hb:=World.block_lt_of_cell? w _ h;obtain⟨ob,hC⟩:∃ ob,w.heap[b]? = some ob:=⟨_,Array.getElem?_eq_getElem hb⟩;have hB:=hF.block _ _ hC (hM _);simp only[World.cell?,hC]at h;simp only[World.cell?,hB];exact h
theorem qu {fn:Func}{p:Tmp}{ty:TypeId}(h:fn.results=#[.cell p ty])(tmps:Array Value)(P:Program)(w:World) :
 (results fn tmps).run P w=((asAddr (tmps.getD p undef)).run P w).andThen fun a w₁=>(loadVar ty a).run P w₁:=by
 simp only[results,h];simp[Sem.run_bind,Result.andThen]
theorem jw {P:Program} {ops:Array Oper} {rest:List Oper} {op:Oper} {a:Act} {w:World} {Q:Exit→Act→World→Prop} (ty:TypeId) (x:Operand) (ho:op.op = .load ty x)
 (b o:Nat) (hx:a.eval x = .pointer (some ⟨b,o,none⟩)) (cs:List Value) (d:TypeDesc) (hc:w.rangeAt b o cs)
 (hu:P.underlying ty=some d) (hd:d.isRow=true) (hi:(P.info? ty).map (·.size)=some cs.length) (hw:Region.wanted op (yielded ops a.tmps)=true)
 (h:wpList P ops Q rest (a.put op.dst (.agg cs.toArray)) w):wpList P ops Q (op :: rest) a w :=
 wpList_step fun _ hK=>by
  rw[if_pos hw];exact wp_load_mid ty x ho b o hx cs d hc hu hd hi (hK _ _ h)
end
section
open Go.RowKit
variable [OldK]
theorem zcx {w:World}{b:Nat}(xs ys zs vs:List Value)(h:w.rangeAt b 0 (xs++(ys++zs)))(hl:vs.length=ys.length):(w.setCells b xs.length vs).rangeAt b 0 (xs++(vs++zs)):=by
 rw[qb,qb]at h ⊢;obtain⟨h1,h2,h3⟩:=h;rw[Nat.zero_add]at h2 h3 ⊢;have h2':=h2;refine⟨World.rangeAt_setCells_apart h1 _ _ _ (.inr (.inl (by omega))),fun j v hv=>?_,?_⟩
 ·have hj:j<vs.length:=(List.getElem?_eq_some_iff.1 hv).1;rw[World.cell?_setCells_in b vs _ w (fun i hi=>h2.isSome i (by omega)) j hj,← hv,List.getElem?_eq_getElem hj]
 rw[hl];exact World.rangeAt_setCells_apart h3 _ _ _ (.inr (.inr (by omega)))
theorem zai {w:World}{b o n:Nat}(h:w.there b o n)(b' o':Nat)(v:Value):(w.setCell ⟨b',o',none⟩ v).there b o n:=World.there_setCells h b' o' [v]
section
variable {e:En} {pv sv:Value} {w:World} {b:Nat}
theorem jm (l:Bs):(zj l).length=l.length:=by simp[zj]
theorem En.parts (h:e.ok)(hw:w.rangeAt b 0 (e.cells pv sv)):w.cell? ⟨b,0,none⟩=some (.int .i64 e.kind)∧w.rangeAt b 1 (zj e.digest)∧w.cell? ⟨b,33,none⟩=some (.string ⟨e.typ.toArray⟩)∧w.cell? ⟨b,34,none⟩=some pv ∧
 w.cell? ⟨b,35,none⟩=some (.int .i64 e.op)∧w.cell? ⟨b,36,none⟩=some (.string ⟨e.ident.toArray⟩)∧w.rangeAt b 37 (zj e.key)∧w.cell? ⟨b,69,none⟩=some sv:=by
 obtain⟨h1,h2,-⟩:=h;unfold En.cells at hw;rw[qb,qb,qb,qb,zcy,zcy]at hw;simp only[jm,h1,h2,zx,List.length_nil,Nat.zero_add,Nat.reduceAdd]at hw;obtain⟨a,b1,c,d,e1⟩:=hw;exact⟨a,b1,c 0 _ rfl,c 1 _ rfl,c 2 _ rfl,c 3 _ rfl,d,e1⟩
theorem En.setDigest (h:e.ok)(hw:w.rangeAt b 0 (e.cells pv sv))(d:Bs)(hd:d.length=32):(w.setCells b 1 (zj d)).rangeAt b 0 (En.cells { e with digest:=d } pv sv):=by
 have:=zcx [.int .i64 e.kind] (zj e.digest) _ (zj d) hw (by rw[jm,jm,h.1,hd]);exact this
theorem En.setTyp (h:e.ok)(hw:w.rangeAt b 0 (e.cells pv sv))(t:Bs):(w.setCell ⟨b,33,none⟩ (.string ⟨t.toArray⟩)).rangeAt b 0 (En.cells { e with typ:=t } pv sv):=by
 have:=zcx (w:=w) (b:=b) (.int .i64 e.kind :: zj e.digest) [.string ⟨e.typ.toArray⟩] ([pv,.int .i64 e.op,.string ⟨e.ident.toArray⟩]++(zj e.key++[sv])) [.string ⟨t.toArray⟩] (by simpa[En.cells] using hw) rfl;simp only[zx,jm,h.1,Nat.reduceAdd]at this;simpa[En.cells,World.setCells] using this
theorem En.setPay (h:e.ok)(hw:w.rangeAt b 0 (e.cells pv sv))(v:Value)(p:Bs):(w.setCell ⟨b,34,none⟩ v).rangeAt b 0 (En.cells { e with payload:=p } v sv):=by
 have:=zcx (w:=w) (b:=b) (.int .i64 e.kind :: (zj e.digest++[.string ⟨e.typ.toArray⟩])) [pv] ([.int .i64 e.op,.string ⟨e.ident.toArray⟩]++(zj e.key++[sv])) [v] (by simpa[En.cells] using hw) rfl;simp only[zx,zy,List.length_nil,jm,h.1,Nat.reduceAdd]at this;simpa[En.cells,World.setCells] using this
theorem En.setOp (h:e.ok)(hw:w.rangeAt b 0 (e.cells pv sv))(k:Int):(w.setCell ⟨b,35,none⟩ (.int .i64 k)).rangeAt b 0 (En.cells { e with op:=k } pv sv):=by
 have:=zcx (w:=w) (b:=b) (.int .i64 e.kind :: (zj e.digest++[.string ⟨e.typ.toArray⟩,pv])) [.int .i64 e.op] ([.string ⟨e.ident.toArray⟩]++(zj e.key++[sv])) [.int .i64 k] (by simpa[En.cells] using hw) rfl;simp only[zx,zy,List.length_nil,jm,h.1,Nat.reduceAdd]at this;simpa[En.cells,World.setCells] using this
theorem En.setIdent (h:e.ok)(hw:w.rangeAt b 0 (e.cells pv sv))(t:Bs):(w.setCell ⟨b,36,none⟩ (.string ⟨t.toArray⟩)).rangeAt b 0 (En.cells { e with ident:=t } pv sv):=by
 have:=zcx (w:=w) (b:=b) (.int .i64 e.kind :: (zj e.digest++[.string ⟨e.typ.toArray⟩,pv,.int .i64 e.op])) [.string ⟨e.ident.toArray⟩] (zj e.key++[sv]) [.string ⟨t.toArray⟩] (by simpa[En.cells] using hw) rfl;simp only[zx,zy,List.length_nil,jm,h.1,Nat.reduceAdd]at this;simpa[En.cells,World.setCells] using this
theorem En.setKey (h:e.ok)(hw:w.rangeAt b 0 (e.cells pv sv))(d:Bs)(hd:d.length=32):(w.setCells b 37 (zj d)).rangeAt b 0 (En.cells { e with key:=d } pv sv):=by
 have:=zcx (w:=w) (b:=b) (.int .i64 e.kind :: (zj e.digest++[.string ⟨e.typ.toArray⟩,pv,.int .i64 e.op,.string ⟨e.ident.toArray⟩])) (zj e.key) [sv] (zj d) (by simpa[En.cells] using hw) (by rw[jm,jm,h.2.1,hd]);simp only[zx,zy,List.length_nil,jm,h.1,Nat.reduceAdd]at this;simpa[En.cells,World.setCells] using this
end
theorem qv (l:Bs):∀ v∈zj l,v.oneCell'=true:=by
 intro v hv;unfold zj at hv;rw[List.mem_map]at hv;obtain⟨x,_,rfl⟩:=hv;rfl
theorem En.one {e:En}{pv sv:Value}(hp:pv.oneCell'=true)(hs:sv.oneCell'=true):(e.cells pv sv).toArray.all (·.oneCell')=true:=by
 refine all_oneCell_toArray (fun v hv=>?_);unfold En.cells at hv;simp only[List.mem_append,List.mem_cons,List.not_mem_nil,or_false]at hv;rcases hv with rfl | hv | (rfl | rfl | rfl | rfl) | hv | rfl
 all_goals first | rfl | exact qv _ _ hv | assumption
end
section
open Go.RowKit Go.Shelf Go.Sort
variable [OldK]
theorem zdj:(Tryz.prog.info? 5).map (fun i=>(i.zero,i.size,i.bytes))=some (some (jf jg 0),1,1):=by kernel_rfl
theorem zx3 (n:Nat) (hn:n≤2000000) (w:World) :
 Calls zl 210 #[.slice none 0 0,.int .i64 n] w fun e w'=>∃ v,e = .returned v∧OB w.heap.size [] v w'∧Fr NoB w w':=by
 obtain⟨i0,hE,hC,hz1,hB⟩:=info_parts zdj;rcases Nat.eq_zero_or_pos n with rfl | hp
 ·exact (Any8.slices_Grow_room zj6 none 0 0 0 w (ja _) (by decide) (by decide) (ja _)).mono (by
   rintro e w' ⟨rfl,rfl⟩
   exact⟨_,rfl,⟨rfl,.inl ⟨rfl,rfl⟩⟩,Fr.refl⟩)
 exact (Any8.slices_Grow_grow zj6 i0 (jf jg 0) hE hC (by omega) none 0 0 n [] w (ja _) (by omega) (by rw[hB];omega) (by omega) (by simp) (fun _=>rfl) (fun a h=>by cases h)).mono (by
  rintro e w' ⟨rfl,rfl⟩;refine⟨_,rfl,?_,(Fr.refl.drew).alloc _⟩;have hD:grownCap w (0+n) 0 5≤maxLen:=grownCap_le_maxLen _ _ _ _ (by unfold maxLen;omega);have hge:=grownCap_ge w (0+n) 0 5;refine World.ownsRow_made (size:=1) w.drew _ _ (ja _) hD ?_;have hz:((jf jg 0:Value).cells).size=1:=rfl;simp only[Array.size_append,size_zeroCells,hz,List.size_toArray,List.length_nil];show 0+(0+n - 0) * 1+(grownCap w (0+n) 0 5 - (0+n)) * 1=grownCap w (0+n) 0 5 * 1
  omega)
theorem zck {p:Prop}(h:Hid p):p:=h.out
theorem zdr {P:Program} {ops:Array Oper} {rest:List Oper} {o:Oper} {a:Act} {w:World} {Q:Exit→Act→World→Prop} (hgd:o.guard=none) (s x:Operand) (t:TypeId)
 (ho:o.op = .call { callee := .builtin .append,args:=#[s,x],argTypes:=#[t,t] }) (base:Nat) (e:TypeId) (i:TypeInfo) (size:Nat) (ht:P.underlying t=some (.slice e)) (hi:P.info? e=some i)
 (v:Value) (n:Nat) (xs:List Value) (hs:a.eval s=v) (hown:w.ownsRow base e size v n xs) (hx:a.eval x = .slice none 0 0) (h:wpList P ops Q rest (a.put o.dst v) w):wpList P ops Q (o :: rest) a w :=
 wpList_plain hgd fun _ hK=>by
  have hr:=run_append_owned_none (P:=P) w base t o.type e i size ht hi v n xs hown;unfold Oper.wp execOp;simp only[ho,resolve,invoke,builtin,Sem.run_bind,Sem.run_pure,Result.andThen_ok,List.map_toArray,List.map_cons,List.map_nil,hs,hx,hr];exact hK _ _ h
def tot (vs:List (Value × Bs)):Nat:=(vs.map fun x=>x.2.length).sum
def flat (vs:List (Value × Bs)):Bs:=vs.flatMap fun x=>x.2
theorem zoo (vs:List (Value × Bs)):(flat vs).length=tot vs:=by simp[flat,tot,List.length_flatMap]
theorem zur (S:Nat→Prop) (vs:List (Value × Bs)) (g cap:Nat) (w:World) (hg:∀ i (hi:i<vs.length),w.cell? ⟨g,i,none⟩=some vs[i].1) (hsb:∀ x∈vs,SB S x.2 x.1 w) (hnil:∀ x∈vs,∀ n c,x.1 = .slice none n c→c=0) (hn:vs.length≤1000) (ht:tot vs≤1000000) :
 Calls zl 163 #[.slice (some ⟨g,0,none⟩) vs.length cap] w fun e w'=>∃ v,e = .returned v∧OB w.heap.size (flat vs) v w'∧Fr NoB w w':=by
 obtain⟨i0,hV,hb,ha,hZ⟩:=info_parts zdj
 have hC:∀ i,tot (vs.take i)≤1000000:=fun i=>by
  have h:tot (vs.take i)≤tot vs:=by
   unfold tot;rw[← List.take_append_drop i vs,List.map_append,List.sum_append];simp
  omega
 have Hg:=zi hg;have Hsb:=zi hsb;have Hnil:=zi hnil;have Htake:=zi hC;clear hg hsb hnil hC;go_enter Tryz.func163,Tryz.ntmps163
 go_wp2_with fail
 go_loopg [3,11] (vs.length+1) (fun gf vz vi wr=>∃ i:Nat,vi = .int .i64 i∧i≤vs.length∧i+gf=vs.length+1∧vz = .int .i64 (tot (vs.take i):Nat)∧w=wr)
 case atStart=>exact⟨0,rfl,by omega,by omega,rfl,rfl⟩
 case round =>
  obtain⟨i,rfl,hi,hk,rfl,rfl⟩:=hrel;by_cases hG:i<vs.length
  ·have hJ:decide ((i:Int)<vs.length)=true:=decide_eq_true (by omega);have hc:=Hg.out i hG;have hs:=Hsb.out _ (List.getElem_mem hG);obtain⟨a,c,hv⟩:=hs.form;rw[hv]at hc
   have hN:tot (vs.take (i+1))=tot (vs.take i)+vs[i].2.length:=by
    unfold tot;rw[List.take_add_one,List.getElem?_eq_getElem hG,List.map_append,List.sum_append];simp
   have hL:=Htake.out (i+1);rw[hN]at hL;obtain⟨T,hT⟩:∃ x,tot (vs.take i)=x:=⟨_,rfl⟩;obtain⟨m,hm⟩:∃ x,vs[i].2.length=x:=⟨_,rfl⟩;rw[hT,hm]at hL hN;rw[hm]at hc;rw[hT];have Hst:=zi hN;have hneg:decide (((T:Int)+(m:Int))<0)=false:=decide_eq_false (by omega);clear hN hT hm hs hv
   go_wp2_with fail
   go_roundg (gk - 1)
   case measure=>omega
   case rel=>exact⟨i+1,by simp,by omega,by omega,by rw[Hst.out];simp,rfl⟩
  obtain rfl:i=vs.length:=by omega
  have hJ:decide ((vs.length:Int)<vs.length)=false:=by simp
  rw[List.take_length];have hS:=fun W=>zx3 (tot vs) (by omega) W
  obtain⟨T,hT⟩:∃ x,tot vs=x:=⟨_,rfl⟩;rw[hT]at ht ⊢;simp only[hT]at hS;have Hgr:=zi hS;have HT:=zi hT;clear hS hT
  go_wp2_with fail
  refine(Hgr.out _).mono ?_;rintro e w1 ⟨v,rfl,hO,hF⟩;have HO:=zi hO;have HF:=zi hF;obtain⟨a0,c0,rfl⟩:=hO.form;clear hO hF;obtain⟨w0,hd⟩:∃ x:World,x=w:=⟨_,rfl⟩;subst hd
  go_wp2_with fail
  go_loopg [6,27] (vs.length+1) (fun gf vz vi wr=>∃ i:Nat,vi = .int .i64 i∧i≤vs.length∧i+gf=vs.length+1∧Hid (OB w0.heap.size (flat (vs.take i)) vz wr)∧Hid (Fr (fun k _=>w0.heap.size≤k) w0 wr))
  case atStart=>exact⟨0,rfl,by omega,by omega,HO,zi (HF.out.mono (fun _ _ h=>h.elim))⟩
  case round =>
   obtain⟨i,rfl,hi,hk,hI,hK⟩:=hrel;have hOs:=hK.out.size;by_cases hG:i<vs.length
   ·have hJ:decide ((i:Int)<vs.length)=true:=decide_eq_true (by omega);have hU:=Hg.out i hG;have hc:=Fr.cell hK.out hU (fun h=>by have:=World.block_lt_of_cell? _ _ hU;simp only at this;omega);have hs:=Hsb.out _ (List.getElem_mem hG);have hP:=Hnil.out _ (List.getElem_mem hG)
    have hQ:flat (vs.take (i+1))=flat (vs.take i)++vs[i].2:=by
     unfold flat;rw[List.take_add_one,List.getElem?_eq_getElem hG,List.flatMap_append];simp
    have hL:=Htake.out (i+1);rw[← zoo,hQ,zy]at hL;obtain⟨F,hF⟩:∃ x,flat (vs.take i)=x:=⟨_,rfl⟩;obtain⟨l,hl⟩:∃ x,vs[i].2=x:=⟨_,rfl⟩;obtain⟨v,hv⟩:∃ x,vs[i].1=x:=⟨_,rfl⟩;rw[hF,hl]at hL hQ;rw[hF]at hI;rw[hl,hv]at hs;rw[hv]at hc hP;have Hfl:=zi hQ;clear hU hQ hF hl hv;obtain⟨ao,co,he⟩:=hI.out.form;subst he;have hR:=hs;obtain⟨a,cp,rfl,hW,hB⟩:=hs;cases a with
    | none =>
      have hh:l=[]:=by
       rcases hB with h | ⟨b,o,cs,T,f,h,-⟩
       ·exact h
       cases h
      subst hh;obtain rfl:=hP _ _ rfl;clear hB hW hR hP;simp only[List.length_nil]at hc
      go_wp2_with(at_builtin;refine zck ?_)
      refine zi ?_;refine zdr rfl _ _ 24 rfl w0.heap.size 5 i0 1 Tryz.underlying24 hV _ _ _ rfl hI.out rfl ?_
      go_wp2_with fail
      go_roundg (gk - 1)
      case measure=>omega
      case rel=>exact⟨i+1,by simp,by omega,by omega,by rw[Hfl.out,List.append_nil];exact hI,hK⟩
    | some ad =>
      have hE:∀ j u,(zj l)[j]? = some u→wr.cell? (ad.add j)=some u:=fun j u hj=>by
       have hf:l≠[]:=fun h=>by rw[h]at hj;simp[zj]at hj
       obtain⟨b,o,c',e1,-,-,hbw,hM⟩:=hR.cellsAt hf
       injection e1 with e1
       injection e1 with e1
       subst e1;unfold zj at hj;rw[List.getElem?_map]at hj;cases hq:l[j]? with
       | none=>rw[hq]at hj;cases hj
       | some y =>
         rw[hq]at hj;obtain rfl:=Option.some.inj hj;rw[Addr.add_lit];exact Fr.cell hK.out (hM j y hq) (fun h=>by omega)
      have Hnews:=zi hE;clear hB hW hR hP hE
      go_wp2_with(at_builtin;refine zck ?_)
      refine zi ?_;refine wpList_append_own _ rfl _ _ 24 rfl w0.heap.size 5 i0 (jf jg 0) 1 1 Tryz.underlying24 hV hb ha hZ rfl (by decide) _ _ _ rfl hI.out ad l.length cp (zj l) rfl (by rw[jm,Nat.mul_one]) Hnews.out (fun u hu=>qv _ _ hu) (by unfold maxLen;omega) (by omega) (by omega) ?_;intro v' w3 hD hH _;obtain⟨hX,hY⟩:=hI.out.push (news:=l) Fr.refl hD hH;have ho:=zi hX;have hp:=zi (hK.out.trans' hY);clear hD hH hX hY
      go_wp2_with fail
      go_roundg (gk - 1)
      case measure=>omega
      case rel=>exact⟨i+1,by simp,by omega,by omega,by rw[Hfl.out];exact ho,hp⟩
   obtain rfl:i=vs.length:=by omega
   have hJ:decide ((vs.length:Int)<vs.length)=false:=by simp
   rw[List.take_length]at hI
   go_wp2_with fail
   go_ret;exact⟨_,rfl,hI.out,(Fr.refl (M:=NoB)).trans hK.out (fun _ _ h => .inr h)⟩
end
end Go.Proofs.YtffggpplnjibgaaGreatDoor
