/-
 Arrays of bytes compared;signatures compared;ranges of cells put side by side.
-/
import Derived.Test.YtffggpplnjibgaaGreatDoorKB64
import Derived.Test.YtffggpplnjibgaaGreatDoorKTyped
import Derived.Stop.BytesEq
import Derived.Test.YtffggpplnjibgaaGreatDoorKRowG
import Derived.Test.YtffggpplnjibgaaGreatDoorKRefNamed
import Derived.Test.YtffggpplnjibgaaGreatDoorKUnhex
import Derived.OrdersHeld
import Derived.Deep.RegionHeld3
import Derived.Deep.LoopGhost
import Derived.Test.YtffggpplnjibgaaGreatDoorKShelf
open Go.Lib renaming hid→za,byteCells→zb
open Go.Proofs.Tryz renaming prog→ze
open List renaming length_cons→zo,length_append→zq
open Go.Value renaming int→zy
open Go.IntKind renaming u8→z6
namespace Go.Proofs.YtffggpplnjibgaaGreatDoor
set_option linter.unusedVariables false
set_option linter.unusedSimpArgs false
set_option linter.unusedSectionVars false
set_option maxRecDepth 100000
set_option maxHeartbeats 2000000
section
open Go.RowKit
variable [OldK]
theorem zbo (l:Bs):zb l=l.map Extern.Stop.cell:=rfl
theorem zdf (w:World):(sizeOf 5).run ze w = .ok 1 w:=by kernel_rfl
theorem qd:Tryz.prog.underlying 25=some (.array 32 5):=by kernel_rfl
theorem zbp:Tryz.prog.underlying 30=some (.array 64 5):=by kernel_rfl
theorem zad:(Tryz.prog.info? 25).map (·.size)=some 32:=by kernel_rfl
theorem zfc:(Tryz.prog.info? 30).map (·.size)=some 64:=by kernel_rfl
theorem zn5 (a b:Bs)(ha:a.length=32)(hb:b.length=32)(w:World) :
 (Op.equalIn 10000 25 (.agg (zb a).toArray) (.agg (zb b).toArray)).run ze w = .ok (a==b) w:=by
 have:=run_equalIn_bytes (P:=ze) w 9998 25 5 32 qd Tryz.underlying5 zdf a b ha hb;rw[zbo,zbo,this]
theorem zua (a b:Bs)(ha:a.length=32)(hb:b.length=32)(w:World) :
 (Op.equalIn 10000 23 (.agg (zb a).toArray) (.agg (zb b).toArray)).run ze w = .ok (a==b) w:=by
 have:=run_equalIn_bytes (P:=ze) w 9998 23 5 32 jv Tryz.underlying5 zdf a b ha hb;rw[zbo,zbo,this]
theorem zp7:(zb jb).toArray=#[zy z6 0,zy z6 0,zy z6 0,zy z6 0,zy z6 0,zy z6 0,zy z6 0,zy z6 0,zy z6 0,zy z6 0,zy z6 0,zy z6 0,zy z6 0,zy z6 0,zy z6 0,zy z6 0,zy z6 0,zy z6 0,zy z6 0,zy z6 0,zy z6 0,zy z6 0,zy z6 0,zy z6 0,zy z6 0,zy z6 0,zy z6 0,zy z6 0,zy z6 0,zy z6 0,zy z6 0,zy z6 0]:=rfl
theorem zv5 (a:Bs)(ha:a.length=32)(w:World) :
 (Op.equalIn 10000 25 (.agg (zb a).toArray) (.agg #[zy z6 0,zy z6 0,zy z6 0,zy z6 0,zy z6 0,zy z6 0,zy z6 0,zy z6 0,zy z6 0,zy z6 0,zy z6 0,zy z6 0,zy z6 0,zy z6 0,zy z6 0,zy z6 0,zy z6 0,zy z6 0,zy z6 0,zy z6 0,zy z6 0,zy z6 0,zy z6 0,zy z6 0,zy z6 0,zy z6 0,zy z6 0,zy z6 0,zy z6 0,zy z6 0,zy z6 0,zy z6 0])).run ze w = .ok (a==jb) w:=by
 rw[← zp7];exact zn5 a jb ha rfl w
theorem qk {w:World} {b o:Nat} {xs ys:List Value}:w.rangeAt b o (xs++ys)↔w.rangeAt b o xs∧w.rangeAt b (o+xs.length) ys:=by
 constructor
 ·intro h;refine⟨fun j v hv=>h j v ?_,fun j v hv=>?_⟩
  ·have hj:j<xs.length:=(List.getElem?_eq_some_iff.1 hv).1;rw[List.getElem?_append_left hj];exact hv
  have:=h (xs.length+j) v (by rw[List.getElem?_append_right (by omega)];simpa using hv)
  rwa [← Nat.add_assoc]at this
 rintro⟨h1,h2⟩ j v hv;rcases Nat.lt_or_ge j xs.length with hj | hj
 ·rw[List.getElem?_append_left hj]at hv;exact h1 j v hv
 rw[List.getElem?_append_right hj]at hv;have:=h2 _ v hv
 rwa [show o+xs.length+(j - xs.length)=o+j by omega]at this
theorem zha {w:World}{b o:Nat}{v:Value}:w.rangeAt b o [v]↔w.cell? ⟨b,o,none⟩=some v:=by
 constructor
 ·intro h;exact h 0 v rfl
 intro h j x hx;obtain⟨h1,rfl⟩:=List.getElem?_eq_some_iff.1 hx;obtain rfl:j=0:=by simpa using h1
 exact h
theorem zii {w w':World}{b o:Nat}{cs:List Value}(h:w.rangeAt b o cs)(hb:w'.heap[b]? = w.heap[b]?):w'.rangeAt b o cs:=by
 intro j x hx;have:=h j x hx;simp only[World.cell?]at this ⊢;rw[hb];exact this
theorem zoy {w w':World}{b o n:Nat}(h:w.there b o n)(hb:w'.heap[b]? = w.heap[b]?):w'.there b o n:=by
 intro j hj;have:=h j hj;simp only[World.cell?,World.frozen?]at this ⊢;rw[hb];exact this
theorem Fr.cell {M:Nat→Obj→Prop}{w w':World}{b o:Nat}{v:Value}(hF:Fr M w w')(h:w.cell? ⟨b,o,none⟩=some v)(hM:∀ ob,¬ M b ob:=by exact fun _ h=>h):w'.cell? ⟨b,o,none⟩=some v:=by
 have hb:=World.block_lt_of_cell? w _ h;obtain⟨ob,hB⟩:∃ ob,w.heap[b]? = some ob:=⟨_,Array.getElem?_eq_getElem hb⟩;have hA:=hF.block _ _ hB (hM _);simp only[World.cell?,hB]at h;simp only[World.cell?,hA];exact h
theorem j6 {fn:Func}{p:Tmp}{ty:TypeId}(h:fn.results=#[.cell p ty])(tmps:Array Value)(P:Program)(w:World) :
 (results fn tmps).run P w=((asAddr (tmps.getD p undef)).run P w).andThen fun a w₁=>(loadVar ty a).run P w₁:=by
 simp only[results,h];simp[Sem.run_bind,Result.andThen]
theorem j4 {P:Program} {ops:Array Oper} {rest:List Oper} {op:Oper} {a:Act} {w:World} {Q:Exit→Act→World→Prop} (ty:TypeId) (x:Operand) (ho:op.op = .load ty x)
 (b o:Nat) (hx:a.eval x = .pointer (some ⟨b,o,none⟩)) (cs:List Value) (d:TypeDesc) (hc:w.rangeAt b o cs)
 (hu:P.underlying ty=some d) (hd:d.isRow=true) (hi:(P.info? ty).map (·.size)=some cs.length) (hw:Region.wanted op (yielded ops a.tmps)=true)
 (h:wpList P ops Q rest (a.put op.dst (.agg cs.toArray)) w):wpList P ops Q (op :: rest) a w :=
 wpList_step fun _ hK=>by
  rw[if_pos hw];exact wp_load_mid ty x ho b o hx cs d hc hu hd hi (hK _ _ h)
end
section
open Go.RowKit
variable [OldK]
theorem zau {w:World}{b:Nat}(xs ys zs vs:List Value)(h:w.rangeAt b 0 (xs++(ys++zs)))(hl:vs.length=ys.length):(w.setCells b xs.length vs).rangeAt b 0 (xs++(vs++zs)):=by
 rw[qk,qk]at h ⊢;obtain⟨h1,h2,h3⟩:=h;rw[Nat.zero_add]at h2 h3 ⊢;have h2':=h2;refine⟨World.rangeAt_setCells_apart h1 _ _ _ (.inr (.inl (by omega))),fun j v hv=>?_,?_⟩
 ·have hj:j<vs.length:=(List.getElem?_eq_some_iff.1 hv).1;rw[World.cell?_setCells_in b vs _ w (fun i hi=>h2.isSome i (by omega)) j hj,← hv,List.getElem?_eq_getElem hj]
 rw[hl];exact World.rangeAt_setCells_apart h3 _ _ _ (.inr (.inr (by omega)))
theorem zao {w:World}{b o n:Nat}(h:w.there b o n)(b' o':Nat)(v:Value):(w.setCell ⟨b',o',none⟩ v).there b o n:=World.there_setCells h b' o' [v]
section
variable {e:En} {pv sv:Value} {w:World} {b:Nat}
theorem jd (l:Bs):(zb l).length=l.length:=by simp[zb]
theorem En.parts (h:e.ok)(hw:w.rangeAt b 0 (e.cells pv sv)):w.cell? ⟨b,0,none⟩=some (.int .i64 e.kind)∧w.rangeAt b 1 (zb e.digest)∧w.cell? ⟨b,33,none⟩=some (.string ⟨e.typ.toArray⟩)∧w.cell? ⟨b,34,none⟩=some pv ∧
 w.cell? ⟨b,35,none⟩=some (.int .i64 e.op)∧w.cell? ⟨b,36,none⟩=some (.string ⟨e.ident.toArray⟩)∧w.rangeAt b 37 (zb e.key)∧w.cell? ⟨b,69,none⟩=some sv:=by
 obtain⟨h1,h2,-⟩:=h;unfold En.cells at hw;rw[qk,qk,qk,qk,zha,zha]at hw;simp only[jd,h1,h2,zo,List.length_nil,Nat.zero_add,Nat.reduceAdd]at hw;obtain⟨a,b1,c,d,e1⟩:=hw;exact⟨a,b1,c 0 _ rfl,c 1 _ rfl,c 2 _ rfl,c 3 _ rfl,d,e1⟩
theorem En.setDigest (h:e.ok)(hw:w.rangeAt b 0 (e.cells pv sv))(d:Bs)(hd:d.length=32):(w.setCells b 1 (zb d)).rangeAt b 0 (En.cells { e with digest:=d } pv sv):=by
 have:=zau [.int .i64 e.kind] (zb e.digest) _ (zb d) hw (by rw[jd,jd,h.1,hd]);exact this
theorem En.setTyp (h:e.ok)(hw:w.rangeAt b 0 (e.cells pv sv))(t:Bs):(w.setCell ⟨b,33,none⟩ (.string ⟨t.toArray⟩)).rangeAt b 0 (En.cells { e with typ:=t } pv sv):=by
 have:=zau (w:=w) (b:=b) (.int .i64 e.kind :: zb e.digest) [.string ⟨e.typ.toArray⟩] ([pv,.int .i64 e.op,.string ⟨e.ident.toArray⟩]++(zb e.key++[sv])) [.string ⟨t.toArray⟩] (by simpa[En.cells] using hw) rfl;simp only[zo,jd,h.1,Nat.reduceAdd]at this;simpa[En.cells,World.setCells] using this
theorem En.setPay (h:e.ok)(hw:w.rangeAt b 0 (e.cells pv sv))(v:Value)(p:Bs):(w.setCell ⟨b,34,none⟩ v).rangeAt b 0 (En.cells { e with payload:=p } v sv):=by
 have:=zau (w:=w) (b:=b) (.int .i64 e.kind :: (zb e.digest++[.string ⟨e.typ.toArray⟩])) [pv] ([.int .i64 e.op,.string ⟨e.ident.toArray⟩]++(zb e.key++[sv])) [v] (by simpa[En.cells] using hw) rfl;simp only[zo,zq,List.length_nil,jd,h.1,Nat.reduceAdd]at this;simpa[En.cells,World.setCells] using this
theorem En.setOp (h:e.ok)(hw:w.rangeAt b 0 (e.cells pv sv))(k:Int):(w.setCell ⟨b,35,none⟩ (.int .i64 k)).rangeAt b 0 (En.cells { e with op:=k } pv sv):=by
 have:=zau (w:=w) (b:=b) (.int .i64 e.kind :: (zb e.digest++[.string ⟨e.typ.toArray⟩,pv])) [.int .i64 e.op] ([.string ⟨e.ident.toArray⟩]++(zb e.key++[sv])) [.int .i64 k] (by simpa[En.cells] using hw) rfl;simp only[zo,zq,List.length_nil,jd,h.1,Nat.reduceAdd]at this;simpa[En.cells,World.setCells] using this
theorem En.setIdent (h:e.ok)(hw:w.rangeAt b 0 (e.cells pv sv))(t:Bs):(w.setCell ⟨b,36,none⟩ (.string ⟨t.toArray⟩)).rangeAt b 0 (En.cells { e with ident:=t } pv sv):=by
 have:=zau (w:=w) (b:=b) (.int .i64 e.kind :: (zb e.digest++[.string ⟨e.typ.toArray⟩,pv,.int .i64 e.op])) [.string ⟨e.ident.toArray⟩] (zb e.key++[sv]) [.string ⟨t.toArray⟩] (by simpa[En.cells] using hw) rfl;simp only[zo,zq,List.length_nil,jd,h.1,Nat.reduceAdd]at this;simpa[En.cells,World.setCells] using this
theorem En.setKey (h:e.ok)(hw:w.rangeAt b 0 (e.cells pv sv))(d:Bs)(hd:d.length=32):(w.setCells b 37 (zb d)).rangeAt b 0 (En.cells { e with key:=d } pv sv):=by
 have:=zau (w:=w) (b:=b) (.int .i64 e.kind :: (zb e.digest++[.string ⟨e.typ.toArray⟩,pv,.int .i64 e.op,.string ⟨e.ident.toArray⟩])) (zb e.key) [sv] (zb d) (by simpa[En.cells] using hw) (by rw[jd,jd,h.2.1,hd]);simp only[zo,zq,List.length_nil,jd,h.1,Nat.reduceAdd]at this;simpa[En.cells,World.setCells] using this
theorem En.setSigs (h:e.ok)(hw:w.rangeAt b 0 (e.cells pv sv))(v:Value)(l:List Sg):(w.setCell ⟨b,69,none⟩ v).rangeAt b 0 (En.cells { e with sigs:=l } pv v):=by
 have:=zau (w:=w) (b:=b) (.int .i64 e.kind :: (zb e.digest++([.string ⟨e.typ.toArray⟩,pv,.int .i64 e.op,.string ⟨e.ident.toArray⟩]++zb e.key))) [sv] [] [v] (by simpa[En.cells] using hw) rfl;simp only[zo,zq,List.length_nil,jd,h.1,h.2.1,Nat.reduceAdd]at this;simpa[En.cells,World.setCells] using this
end
theorem zax (l:Bs):∀ v∈zb l,v.oneCell'=true:=by
 intro v hv;unfold zb at hv;rw[List.mem_map]at hv;obtain⟨x,_,rfl⟩:=hv;rfl
theorem En.one {e:En}{pv sv:Value}(hp:pv.oneCell'=true)(hs:sv.oneCell'=true):(e.cells pv sv).toArray.all (·.oneCell')=true:=by
 refine all_oneCell_toArray (fun v hv=>?_);unfold En.cells at hv;simp only[List.mem_append,List.mem_cons,List.not_mem_nil,or_false]at hv;rcases hv with rfl | hv | (rfl | rfl | rfl | rfl) | hv | rfl
 all_goals first | rfl | exact zax _ _ hv | assumption
end
section
open Go.RowKit
variable [OldK]
theorem znv {k:Nat}(hk:k<16):∀ h,(ByteArray.mk #[48,49,50,51,52,53,54,55,56,57,97,98,99,100,101,102])[k]'h=sgn hexes k:=by
 have:k=0∨k=1∨k=2∨k=3∨k=4∨k=5∨k=6∨k=7∨k=8∨k=9∨k=10∨k=11∨k=12∨k=13∨k=14∨k=15:=by omega
 rcases this with rfl | rfl | rfl | rfl | rfl | rfl | rfl | rfl | rfl | rfl | rfl | rfl | rfl | rfl | rfl | rfl
 all_goals exact fun _=>rfl
theorem zbk {P:Program}{o:Oper}{a:Act}{w:World}{K:Act→World→Prop}{Q:Exit→Act→World→Prop}
 (s x:Operand) (t:TypeId) (hop:o.op=Op.call { callee:=Callee.builtin Builtin.append,args:=#[s,x],argTypes:=#[t,t] })
 (base:Nat) (e:TypeId) (i:TypeInfo) (z:Value) (size bytes:Nat) (ht:P.underlying t=some (.slice e)) (hi:P.info? e=some i) (hz:i.zero=some z)
 (hsize:i.size=size) (hby:i.bytes=bytes) (hzs:z.cells.size=size) (hsz:0<size)
 (v:Value) (n:Nat) (xs:List Value) (hs:a.eval s=v) (hown:w.ownsRow base e size v n xs)
 (ad:Addr) (m c:Nat) (news:List Value) (hx:a.eval x = .slice (some ad) m c) (hl:news.length=m * size) (hnews:∀ j u,news[j]? = some u→w.cell? (ad.add j)=some u) (h1:∀ u∈news,u.oneCell'=true)
 (h63:n+m≤maxLen) (hbytes:(n+m) * bytes≤140737488355328) (hbase:base≤w.heap.size)
 (hK:∀ v' w',w'.ownsRow base e size v' (n+m) (xs++news)→w.grownBy w' v.ownBlock→K (a.put o.dst v') w') :
 Oper.wp P o a w K Q:=by
 obtain⟨v',w',hr,ho,hA,_⟩:=zdi (P:=P) w base t o.type e i z size bytes ht hi hz hsize hby hzs hsz v n xs hown ad m c news hl hnews h1 h63 hbytes hbase;unfold Oper.wp execOp;simp only[hop,resolve,invoke,builtin,Sem.run_bind,Sem.run_pure,Result.andThen_ok,List.map_toArray,List.map_cons,List.map_nil,hs,hx,hr];exact hK v' w' ho hA
theorem zte (S:Nat→Prop) (l:Bs) (v:Value) (w:World) (hv:SB S l v w) (hlen:l.length≤1000000) :
 Calls ze 106 #[v] w fun e w'=>e = .returned (.string ⟨(zcz l).toArray⟩)∧Fr NoB w w':=by
 obtain⟨a,c,rfl⟩:=hv.form;obtain⟨G,hG⟩:∃ G,zcz l=G:=⟨_,rfl⟩;rw[hG];have HG:Hid (([]:Bs)++zcz (l.drop 0)=G):=za (by simpa using hG);have Hv:=za hv;have hU:OB w.heap.size [] (.slice none 0 0) w:=⟨rfl,.inl ⟨rfl,rfl⟩⟩;have hh:=za hU;obtain⟨i0,hb,hY,hX,hW⟩:=info_parts zb2;clear hG hv hU;go_enter Tryz.func106,Tryz.ntmps106
 go_wp2_with fail
 go_loopg [4,5] (l.length+1) (fun g vo vi wr=>∃ (i:Nat) (out:Bs),vi = .int .i64 i∧i≤l.length∧i+g=l.length+1∧out.length=2 * i∧Hid (OB w.heap.size out vo wr)∧Hid (Fr NoB w wr)∧Hid (out++zcz (l.drop i)=G))
 case atStart=>exact⟨0,[],rfl,by omega,by omega,rfl,hh,za Fr.refl,HG⟩
 case round =>
  obtain⟨i,out,rfl,hi,hgk,hD,HO,HF,HS⟩:=hrel;rcases Nat.lt_or_ge i l.length with hlt | hge
  ·obtain ⟨c',hJ⟩:∃ c',l[i]? = some c':=⟨_,List.getElem?_eq_getElem hlt⟩;have hP:=Hv.out.fr HF.out (fun _ _ _ _ h=>h);obtain⟨b,o,hf,hQ,k1⟩:=hP.at hJ;obtain⟨rfl,rfl⟩:a=some ⟨b,o,none⟩∧c=hf:=by simpa using hQ
   obtain⟨b',o',hL,e1,-,-,hbw,-⟩:=Hv.out.cellsAt (by intro h;rw[h]at hlt;simp at hlt);obtain⟨⟨rfl,rfl⟩,rfl⟩:(b=b'∧o=o')∧c=hL:=by simpa using e1
   have hS:=HS.out;rw[zen hJ,zcz]at hS;obtain⟨q1,hI⟩:∃ q1,c'.toNat / 16=q1:=⟨_,rfl⟩;obtain⟨q2,hH⟩:∃ q2,c'.toNat % 16=q2:=⟨_,rfl⟩;have hc8:c'.toNat<256:=c'.toNat_lt;have ha:q1<16:=by omega
   have hZ:q2<16:=by omega
   have hw1:(c'.toNat:Int) / 16=(q1:Int):=by omega
   have hw1t:(c'.toNat:Int).tdiv 16=(q1:Int):=by rw[← hI];rfl
   have hw2:(c'.toNat:Int).tmod 16=(q2:Int):=by rw[← hH];rfl
   have hw3:IntKind.u8.wrap (q1:Int)=q1:=by simp[IntKind.wrap,IntKind.signed,IntKind.bits];omega
   have hw4:IntKind.u8.wrap (q2:Int)=q2:=by simp[IntKind.wrap,IntKind.signed,IntKind.bits];omega
   have hw5:(q1:Int)<16:=by omega
   have hw6:(q2:Int)<16:=by omega
   rw[hI,hH]at hS;have hd:=znv ha;have hc:=znv hZ;obtain⟨x1,hO⟩:∃ x,sgn hexes q1=x:=⟨_,rfl⟩;obtain⟨x2,hN⟩:∃ x,sgn hexes q2=x:=⟨_,rfl⟩;rw[hO]at hS hd;rw[hN]at hS hc;have hM:=za hS;have hwB:=HF.out.size;have hlti:(i:Int)<l.length:=by omega
   have K1:=za k1;obtain⟨ao,co,hF⟩:=HO.out.form;subst hF;have hE:=za hD;clear hD e1 hI hH hO hN hS HS hP hQ hJ k1
   go_upto_region 6 with(fail)
   refine wp_region_held_drew (S:=fun V=>V.cell? ⟨b,o+i,none⟩=some (.int .u8 c'.toNat)) (by kernel_rfl) (by simpa using K1.out) (fun hA=>?_);simp only[qV]
   iterate 15
    refine qt (v:=?_) rfl (Or.inl ⟨by rfl,?_⟩) hA ?_;rotate_left
    ·intro W he
     try simp only[qQ]
     go_simp
     try rw[if_neg (by omega)]
     try with_reducible rfl
    try simp only[Act.put,qP]
   refine qr (i:=15) (by kernel_rfl) rfl (fun K hK=>?_)
   try simp only[qQ]
   go_simp;refine hK.out _ _ (by first | exact Fr.cell ((Fr.refl (M:=NoB)).alloc _) hA | exact Fr.cell ((Fr.refl (M:=NoB)).alloc _).drew (by simpa using hA)) (fun hA=>?_);clear hK K
   try simp only[Act.put,qP]
   refine qr (i:=16) (by kernel_rfl) rfl (fun K hK=>?_)
   try simp only[qQ]
   rw[if_pos (by rfl)];refine zbk (.tmp 12) (.tmp 27) 24 (by rfl) w.heap.size 5 i0 (zy z6 0) 1 1 Tryz.underlying24 hb hY hX hW rfl (by decide) (.slice ao out.length co) out.length (zb out) (by rfl) (by exact HO.out.alloc (.cells #[.int .u8 x1.toNat,.int .u8 x2.toNat] 5)) ⟨wr.heap.size,0,none⟩ 2 2 [.int .u8 x1.toNat,.int .u8 x2.toNat] (by rfl) rfl (by exact zcs wr 5 [.int .u8 x1.toNat,.int .u8 x2.toNat] _ rfl) (by simp[Value.oneCell']) (by have:=hE.out;unfold maxLen;omega) (by have:=hE.out;omega) (by simp;omega) ?_;intro v' w2 hB hC;refine hK.out _ _ (Fr.cell (HO.out.push (news:=[x1,x2]) (Fr.refl.alloc (.cells #[.int .u8 x1.toNat,.int .u8 x2.toNat] 5)).drew hB hC).2 K1.out (fun _ h=>by omega)) (fun hA=>?_);clear hK K
   try simp only[Act.put,qP]
   obtain⟨hR,hV⟩:=HO.out.push (news:=[x1,x2]) (Fr.refl.alloc (.cells #[.int .u8 x1.toNat,.int .u8 x2.toNat] 5)).drew hB hC;have hg:=za hR;have hj:=za (HF.out.trans hV (fun _ _ h => .inr h));clear hB hC hR hV;refine qt (v:=?_) rfl (Or.inl ⟨by rfl,?_⟩) hA ?_;rotate_left
   ·intro W he
    try simp only[qQ]
    go_simp
    try rw[if_neg (by omega)]
    try with_reducible rfl
   try simp only[Act.put,qP]
   refine wpAnyH_done (by kernel_rfl) ?_ _;clear hA
   go_wp2_with fail
   go_roundg (gk - 1)
   case measure=>omega
   case rel=>exact⟨i+1,out++[x1,x2],by simp,by omega,by omega,by have:=hE.out;simp;omega,hg,hj,by have:=hM.out;simpa using za this⟩
  obtain rfl:i=l.length:=by omega
  have hS:=HS.out;simp only[List.drop_length,zcz,List.append_nil]at hS;have hM:=za hS;have HT:=za (HO.out.sb.text);obtain⟨ao,co,hF⟩:=HO.out.form;subst hF;have hT:=HT.out;have hE:=za hD;clear hS HS hD
  go_wp2_with fail
  go_ret;exact⟨by rw[hM.out]<;>rfl,HF.out⟩
end
section
open Go.RowKit Go.Shelf Go.Sort
variable [OldK]
theorem zlk:(Tryz.prog.info? 5).map (fun i=>(i.zero,i.size,i.bytes))=some (some (zy z6 0),1,1):=by kernel_rfl
def flat (vs:List (Value × Bs)):Bs:=vs.flatMap fun x=>x.2
end
end Go.Proofs.YtffggpplnjibgaaGreatDoor
