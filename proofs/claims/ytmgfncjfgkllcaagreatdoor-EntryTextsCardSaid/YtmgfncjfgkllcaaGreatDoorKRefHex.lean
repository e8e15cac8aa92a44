/-
 Arrays of bytes compared;signatures compared;ranges of cells put side by side.
-/
import Derived.Test.YtmgfncjfgkllcaaGreatDoorKB64
import Derived.Test.YtmgfncjfgkllcaaGreatDoorKTyped
import Derived.Stop.BytesEq
import Derived.Test.YtmgfncjfgkllcaaGreatDoorKOwn
import Derived.Test.YtmgfncjfgkllcaaGreatDoorKSpecB64
import Derived.Test.YtmgfncjfgkllcaaGreatDoorKUnhex
import Derived.OrdersHeld
import Derived.Deep.RegionHeld3
import Derived.Deep.LoopGhost
open Go.Lib renaming byteCells→zb
open List renaming length_cons→zo,length_append→zq
open Go.Value renaming int→zy
open Go.IntKind renaming u8→z6
namespace Go.Proofs.YtmgfncjfgkllcaaGreatDoor
set_option linter.unusedVariables false
set_option linter.unusedSimpArgs false
set_option linter.unusedSectionVars false
section
open Go.RowKit
variable [OldK]
theorem zbm (l:Bs):zb l=l.map Extern.Stop.cell:=rfl
theorem zdf (w:World):(sizeOf 5).run Tryz.prog w = .ok 1 w:=by kernel_rfl
theorem qh:Tryz.prog.underlying 25=some (.array 32 5):=by kernel_rfl
theorem zct:Tryz.prog.underlying 113=some (.array 64 5):=by kernel_rfl
theorem zaf:(Tryz.prog.info? 25).map (·.size)=some 32:=by kernel_rfl
theorem zfg:(Tryz.prog.info? 113).map (·.size)=some 64:=by kernel_rfl
theorem zod (a b:Bs)(ha:a.length=32)(hb:b.length=32)(w:World) :
 (Op.equalIn 10000 25 (.agg (zb a).toArray) (.agg (zb b).toArray)).run Tryz.prog w = .ok (a==b) w:=by
 have:=run_equalIn_bytes (P:=Tryz.prog) w 9998 25 5 32 qh Tryz.underlying5 zdf a b ha hb;rw[zbm,zbm,this]
theorem zue (a b:Bs)(ha:a.length=32)(hb:b.length=32)(w:World) :
 (Op.equalIn 10000 23 (.agg (zb a).toArray) (.agg (zb b).toArray)).run Tryz.prog w = .ok (a==b) w:=by
 have:=run_equalIn_bytes (P:=Tryz.prog) w 9998 23 5 32 jv Tryz.underlying5 zdf a b ha hb;rw[zbm,zbm,this]
theorem zqc:(zb jc).toArray=#[zy z6 0,zy z6 0,zy z6 0,zy z6 0,zy z6 0,zy z6 0,zy z6 0,zy z6 0,zy z6 0,zy z6 0,zy z6 0,zy z6 0,zy z6 0,zy z6 0,zy z6 0,zy z6 0,zy z6 0,zy z6 0,zy z6 0,zy z6 0,zy z6 0,zy z6 0,zy z6 0,zy z6 0,zy z6 0,zy z6 0,zy z6 0,zy z6 0,zy z6 0,zy z6 0,zy z6 0,zy z6 0]:=rfl
theorem zv8 (a:Bs)(ha:a.length=32)(w:World) :
 (Op.equalIn 10000 25 (.agg (zb a).toArray) (.agg #[zy z6 0,zy z6 0,zy z6 0,zy z6 0,zy z6 0,zy z6 0,zy z6 0,zy z6 0,zy z6 0,zy z6 0,zy z6 0,zy z6 0,zy z6 0,zy z6 0,zy z6 0,zy z6 0,zy z6 0,zy z6 0,zy z6 0,zy z6 0,zy z6 0,zy z6 0,zy z6 0,zy z6 0,zy z6 0,zy z6 0,zy z6 0,zy z6 0,zy z6 0,zy z6 0,zy z6 0,zy z6 0])).run Tryz.prog w = .ok (a==jc) w:=by
 rw[← zqc];exact zod a jc ha rfl w
theorem qj {w:World} {b o:Nat} {xs ys:List Value}:w.rangeAt b o (xs++ys)↔w.rangeAt b o xs∧w.rangeAt b (o+xs.length) ys:=by
 constructor
 ·intro h;refine⟨fun j v hv=>h j v ?_,fun j v hv=>?_⟩
  ·have hj:j<xs.length:=(List.getElem?_eq_some_iff.1 hv).1;rw[List.getElem?_append_left hj];exact hv
  have:=h (xs.length+j) v (by rw[List.getElem?_append_right (by omega)];simpa using hv)
  rwa [← Nat.add_assoc]at this
 rintro⟨h1,h2⟩ j v hv;rcases Nat.lt_or_ge j xs.length with hj | hj
 ·rw[List.getElem?_append_left hj]at hv;exact h1 j v hv
 rw[List.getElem?_append_right hj]at hv;have:=h2 _ v hv
 rwa [show o+xs.length+(j - xs.length)=o+j by omega]at this
theorem zhf {w:World}{b o:Nat}{v:Value}:w.rangeAt b o [v]↔w.cell? ⟨b,o,none⟩=some v:=by
 constructor
 ·intro h;exact h 0 v rfl
 intro h j x hx;obtain⟨h1,rfl⟩:=List.getElem?_eq_some_iff.1 hx;obtain rfl:j=0:=by simpa using h1
 exact h
theorem zim {w w':World}{b o:Nat}{cs:List Value}(h:w.rangeAt b o cs)(hb:w'.heap[b]? = w.heap[b]?):w'.rangeAt b o cs:=by
 intro j x hx;have:=h j x hx;simp only[World.cell?]at this ⊢;rw[hb];exact this
theorem zo6 {w w':World}{b o n:Nat}(h:w.there b o n)(hb:w'.heap[b]? = w.heap[b]?):w'.there b o n:=by
 intro j hj;have:=h j hj;simp only[World.cell?,World.frozen?]at this ⊢;rw[hb];exact this
theorem Fr.cell {M:Nat→Obj→Prop}{w w':World}{b o:Nat}{v:Value}(hF:Fr M w w')(h:w.cell? ⟨b,o,none⟩=some v)(hM:∀ ob,¬ M b ob:=by exact fun _ h=>h):w'.cell? ⟨b,o,none⟩=some v:=by
 have hb:=World.block_lt_of_cell? w _ h;obtain⟨ob,hB⟩:∃ ob,w.heap[b]? = some ob:=⟨_,Array.getElem?_eq_getElem hb⟩;have hA:=hF.block _ _ hB (hM _);simp only[World.cell?,hB]at h;simp only[World.cell?,hA];exact h
theorem j5 {fn:Func}{p:Tmp}{ty:TypeId}(h:fn.results=#[.cell p ty])(tmps:Array Value)(P:Program)(w:World) :
 (results fn tmps).run P w=((asAddr (tmps.getD p undef)).run P w).andThen fun a w₁=>(loadVar ty a).run P w₁:=by
 simp only[results,h];simp[Sem.run_bind,Result.andThen]
theorem j4 {P:Program} {ops:Array Oper} {rest:List Oper} {op:Oper} {a:Act} {w:World} {Q:Exit→Act→World→Prop} (ty:TypeId) (x:Operand) (ho:op.op = .load ty x)
 (b o:Nat) (hx:a.eval x = .pointer (some ⟨b,o,none⟩)) (cs:List Value) (d:TypeDesc) (hc:w.rangeAt b o cs)
 (hu:P.underlying ty=some d) (hd:d.isRow=true) (hi:(P.info? ty).map (·.size)=some cs.length) (hw:Region.wanted op (yielded ops a.tmps)=true)
 (h:wpList P ops Q rest (a.put op.dst (.agg cs.toArray)) w):wpList P ops Q (op :: rest) a w :=
 wpList_step fun _ hK=>by
  rw[if_pos hw];exact wp_load_mid ty x ho b o hx cs d hc hu hd hi (hK _ _ h)
end
section
open Go.RowKit
variable [OldK]
theorem zaw {w:World}{b:Nat}(xs ys zs vs:List Value)(h:w.rangeAt b 0 (xs++(ys++zs)))(hl:vs.length=ys.length):(w.setCells b xs.length vs).rangeAt b 0 (xs++(vs++zs)):=by
 rw[qj,qj]at h ⊢;obtain⟨h1,h2,h3⟩:=h;rw[Nat.zero_add]at h2 h3 ⊢;have h2':=h2;refine⟨World.rangeAt_setCells_apart h1 _ _ _ (.inr (.inl (by omega))),fun j v hv=>?_,?_⟩
 ·have hj:j<vs.length:=(List.getElem?_eq_some_iff.1 hv).1;rw[World.cell?_setCells_in b vs _ w (fun i hi=>h2.isSome i (by omega)) j hj,← hv,List.getElem?_eq_getElem hj]
 rw[hl];exact World.rangeAt_setCells_apart h3 _ _ _ (.inr (.inr (by omega)))
theorem zaq {w:World}{b o n:Nat}(h:w.there b o n)(b' o':Nat)(v:Value):(w.setCell ⟨b',o',none⟩ v).there b o n:=World.there_setCells h b' o' [v]
section
variable {e:En} {pv sv:Value} {w:World} {b:Nat}
theorem jd (l:Bs):(zb l).length=l.length:=by simp[zb]
theorem En.parts (h:e.ok)(hw:w.rangeAt b 0 (e.cells pv sv)):w.cell? ⟨b,0,none⟩=some (.int .i64 e.kind)∧w.rangeAt b 1 (zb e.digest)∧w.cell? ⟨b,33,none⟩=some (.string ⟨e.typ.toArray⟩)∧w.cell? ⟨b,34,none⟩=some pv ∧
 w.cell? ⟨b,35,none⟩=some (.int .i64 e.op)∧w.cell? ⟨b,36,none⟩=some (.string ⟨e.ident.toArray⟩)∧w.rangeAt b 37 (zb e.key)∧w.cell? ⟨b,69,none⟩=some sv:=by
 obtain⟨h1,h2,-⟩:=h;unfold En.cells at hw;rw[qj,qj,qj,qj,zhf,zhf]at hw;simp only[jd,h1,h2,zo,List.length_nil,Nat.zero_add,Nat.reduceAdd]at hw;obtain⟨a,b1,c,d,e1⟩:=hw;exact⟨a,b1,c 0 _ rfl,c 1 _ rfl,c 2 _ rfl,c 3 _ rfl,d,e1⟩
theorem En.setDigest (h:e.ok)(hw:w.rangeAt b 0 (e.cells pv sv))(d:Bs)(hd:d.length=32):(w.setCells b 1 (zb d)).rangeAt b 0 (En.cells { e with digest:=d } pv sv):=by
 have:=zaw [.int .i64 e.kind] (zb e.digest) _ (zb d) hw (by rw[jd,jd,h.1,hd]);exact this
theorem En.setTyp (h:e.ok)(hw:w.rangeAt b 0 (e.cells pv sv))(t:Bs):(w.setCell ⟨b,33,none⟩ (.string ⟨t.toArray⟩)).rangeAt b 0 (En.cells { e with typ:=t } pv sv):=by
 have:=zaw (w:=w) (b:=b) (.int .i64 e.kind :: zb e.digest) [.string ⟨e.typ.toArray⟩] ([pv,.int .i64 e.op,.string ⟨e.ident.toArray⟩]++(zb e.key++[sv])) [.string ⟨t.toArray⟩] (by simpa[En.cells] using hw) rfl;simp only[zo,jd,h.1,Nat.reduceAdd]at this;simpa[En.cells,World.setCells] using this
theorem En.setPay (h:e.ok)(hw:w.rangeAt b 0 (e.cells pv sv))(v:Value)(p:Bs):(w.setCell ⟨b,34,none⟩ v).rangeAt b 0 (En.cells { e with payload:=p } v sv):=by
 have:=zaw (w:=w) (b:=b) (.int .i64 e.kind :: (zb e.digest++[.string ⟨e.typ.toArray⟩])) [pv] ([.int .i64 e.op,.string ⟨e.ident.toArray⟩]++(zb e.key++[sv])) [v] (by simpa[En.cells] using hw) rfl;simp only[zo,zq,List.length_nil,jd,h.1,Nat.reduceAdd]at this;simpa[En.cells,World.setCells] using this
theorem En.setOp (h:e.ok)(hw:w.rangeAt b 0 (e.cells pv sv))(k:Int):(w.setCell ⟨b,35,none⟩ (.int .i64 k)).rangeAt b 0 (En.cells { e with op:=k } pv sv):=by
 have:=zaw (w:=w) (b:=b) (.int .i64 e.kind :: (zb e.digest++[.string ⟨e.typ.toArray⟩,pv])) [.int .i64 e.op] ([.string ⟨e.ident.toArray⟩]++(zb e.key++[sv])) [.int .i64 k] (by simpa[En.cells] using hw) rfl;simp only[zo,zq,List.length_nil,jd,h.1,Nat.reduceAdd]at this;simpa[En.cells,World.setCells] using this
theorem En.setIdent (h:e.ok)(hw:w.rangeAt b 0 (e.cells pv sv))(t:Bs):(w.setCell ⟨b,36,none⟩ (.string ⟨t.toArray⟩)).rangeAt b 0 (En.cells { e with ident:=t } pv sv):=by
 have:=zaw (w:=w) (b:=b) (.int .i64 e.kind :: (zb e.digest++[.string ⟨e.typ.toArray⟩,pv,.int .i64 e.op])) [.string ⟨e.ident.toArray⟩] (zb e.key++[sv]) [.string ⟨t.toArray⟩] (by simpa[En.cells] using hw) rfl;simp only[zo,zq,List.length_nil,jd,h.1,Nat.reduceAdd]at this;simpa[En.cells,World.setCells] using this
theorem En.setKey (h:e.ok)(hw:w.rangeAt b 0 (e.cells pv sv))(d:Bs)(hd:d.length=32):(w.setCells b 37 (zb d)).rangeAt b 0 (En.cells { e with key:=d } pv sv):=by
 have:=zaw (w:=w) (b:=b) (.int .i64 e.kind :: (zb e.digest++[.string ⟨e.typ.toArray⟩,pv,.int .i64 e.op,.string ⟨e.ident.toArray⟩])) (zb e.key) [sv] (zb d) (by simpa[En.cells] using hw) (by rw[jd,jd,h.2.1,hd]);simp only[zo,zq,List.length_nil,jd,h.1,Nat.reduceAdd]at this;simpa[En.cells,World.setCells] using this
theorem En.setSigs (h:e.ok)(hw:w.rangeAt b 0 (e.cells pv sv))(v:Value)(l:List Sg):(w.setCell ⟨b,69,none⟩ v).rangeAt b 0 (En.cells { e with sigs:=l } pv v):=by
 have:=zaw (w:=w) (b:=b) (.int .i64 e.kind :: (zb e.digest++([.string ⟨e.typ.toArray⟩,pv,.int .i64 e.op,.string ⟨e.ident.toArray⟩]++zb e.key))) [sv] [] [v] (by simpa[En.cells] using hw) rfl;simp only[zo,zq,List.length_nil,jd,h.1,h.2.1,Nat.reduceAdd]at this;simpa[En.cells,World.setCells] using this
end
theorem zay (l:Bs):∀ v∈zb l,v.oneCell'=true:=by
 intro v hv;unfold zb at hv;rw[List.mem_map]at hv;obtain⟨x,_,rfl⟩:=hv;rfl
theorem En.one {e:En}{pv sv:Value}(hp:pv.oneCell'=true)(hs:sv.oneCell'=true):(e.cells pv sv).toArray.all (·.oneCell')=true:=by
 refine all_oneCell_toArray (fun v hv=>?_);unfold En.cells at hv;simp only[List.mem_append,List.mem_cons,List.not_mem_nil,or_false]at hv;rcases hv with rfl | hv | (rfl | rfl | rfl | rfl) | hv | rfl
 all_goals first | rfl | exact zay _ _ hv | assumption
end
section
open Go.RowKit
variable [OldK]
theorem zcr {P:Program}{o:Oper}{a:Act}{w:World}{K:Act→World→Prop}{Q:Exit→Act→World→Prop}
 (s x:Operand) (t:TypeId) (hop:o.op=Op.call { callee:=Callee.builtin Builtin.append,args:=#[s,x],argTypes:=#[t,t] })
 (base:Nat) (e:TypeId) (i:TypeInfo) (z:Value) (size bytes:Nat) (ht:P.underlying t=some (.slice e)) (hi:P.info? e=some i) (hz:i.zero=some z)
 (hsize:i.size=size) (hby:i.bytes=bytes) (hzs:z.cells.size=size) (hsz:0<size)
 (v:Value) (n:Nat) (xs:List Value) (hs:a.eval s=v) (hown:w.ownsRow base e size v n xs)
 (ad:Addr) (m c:Nat) (news:List Value) (hx:a.eval x = .slice (some ad) m c) (hl:news.length=m * size) (hnews:∀ j u,news[j]? = some u→w.cell? (ad.add j)=some u) (h1:∀ u∈news,u.oneCell'=true)
 (h63:n+m≤maxLen) (hbytes:(n+m) * bytes≤140737488355328) (hbase:base≤w.heap.size)
 (hK:∀ v' w',w'.ownsRow base e size v' (n+m) (xs++news)→w.grownBy w' v.ownBlock→K (a.put o.dst v') w') :
 Oper.wp P o a w K Q:=by
 obtain⟨v',w',hr,ho,hA,_⟩:=zdj (P:=P) w base t o.type e i z size bytes ht hi hz hsize hby hzs hsz v n xs hown ad m c news hl hnews h1 h63 hbytes hbase;unfold Oper.wp execOp;simp only[hop,resolve,invoke,builtin,Sem.run_bind,Sem.run_pure,Result.andThen_ok,List.map_toArray,List.map_cons,List.map_nil,hs,hx,hr];exact hK v' w' ho hA
end
end Go.Proofs.YtmgfncjfgkllcaaGreatDoor
