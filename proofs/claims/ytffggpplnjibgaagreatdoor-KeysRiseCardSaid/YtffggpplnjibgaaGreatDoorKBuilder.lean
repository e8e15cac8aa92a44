/-
 What the writing methods of strings.Builder do to a builder that the program itself has made,over this seat's translation.
-/
import Derived.Test.YtffggpplnjibgaaGreatDoorKSeen
import Derived.Test.YtffggpplnjibgaaGreatDoorKShelf
import Derived.Lib.FrozenHead2
open Go.Lib renaming byteCells→zj,encodeRune→zk
namespace Go.Proofs.YtffggpplnjibgaaGreatDoor
set_option linter.unusedVariables false
set_option linter.unusedSimpArgs false
set_option linter.unusedSectionVars false
set_option maxRecDepth 100000
set_option maxHeartbeats 400000
open Go.RowKit

def MB (B b:Nat):Nat→Obj→Prop:=fun k o=>B≤k∧(k=b∨OfTy 5 o)
def Bld (B b:Nat) (l:List UInt8) (w:World):Prop:=Lib.IsBuilder 197 5 B b (zj l) w
theorem Fr.ofOwn {w w':World} {B:Nat} {e:TypeId} {size:Nat} {v:Value} {n:Nat} {xs:List Value} (h:w.ownsRow B e size v n xs) (hg:w.grownBy w' v.ownBlock) :
 Fr (fun k o=>B≤k∧OfTy e o) w w' :=
 ⟨hg.os,hg.tape,hg.output,hg.size,fun k o hk hn=>by
  rw[hg.block k (jq hk) ?_];exact hk;intro e1;rcases h.2 with⟨rfl,_⟩ | ⟨g,cap,cur,rfl,hB,hgg,_⟩
  ·simp[Value.ownBlock]at e1
  simp only[Value.ownBlock,Option.some.injEq]at e1;subst e1;rw[hgg]at hk
  exact hn ⟨hB,_,_,(Option.some.inj hk).symm⟩⟩
theorem Bld.lt {B b:Nat}{l:List UInt8}{w:World}(h:Bld B b l w):b<w.heap.size:=by
 rcases h with h | h<;>exact h.lt
theorem Bld.base {B b:Nat}{l:List UInt8}{w:World}(h:Bld B b l w):B≤b:=by
 rcases h with h | h<;>exact h.1
theorem Bld.fresh (w:World):Bld w.heap.size w.heap.size [] (w.alloc (.cells #[.pointer none,.slice none 0 0] 197)):=Lib.fresh_isBuilder _ _ _
theorem Bld.ty {B b:Nat}{l:List UInt8}{w:World}(h:Bld B b l w):∃ o,w.heap[b]? = some o∧OfTy 197 o:=by
 rcases h with⟨_,v,hb,_⟩ | ⟨_,v,hb,_⟩<;>exact⟨_,hb,_,_,rfl⟩
theorem Bld.fr {M:Nat→Obj→Prop} {B b:Nat} {l:List UInt8} {w w':World} (h:Bld B b l w) (hF:Fr M w w')
 (hM:∀ k o,w.heap[k]? = some o→B≤k→(k=b∨OfTy 5 o)→¬ M k o):Bld B b l w':=by
 have go:∀ p,Lib.BuilderAt 197 5 B b p (zj l) w→Lib.BuilderAt 197 5 B b p (zj l) w':=by
  rintro p ⟨hB,v,hb,hA,hC⟩;refine⟨hB,v,hF.block _ _ hb (hM _ _ hb hB (.inl rfl)),⟨hA.1,?_⟩,hC⟩;rcases hA.2 with h1 | ⟨g,cap,cur,rfl,hbg,hg,rest⟩
  ·exact .inl h1
  exact .inr ⟨g,cap,cur,rfl,hbg,hF.block _ _ hg (hM _ _ hg hbg (.inr ⟨_,_,rfl⟩)),rest⟩
 exact h.imp (go _) (go _)
theorem zca:(Tryz.prog.info? 197).map (·.size)=some 2:=by kernel_rfl
theorem zeq:liesAt Tryz.prog Tryz.prog.depth 197 (2 / Tryz.prog.cellsOf 197) 0 197 1=true:=by kernel_rfl
theorem zdy:(Tryz.prog.info? 5).map (fun i=>(i.zero,i.size,i.bytes))=some (some (.int .u8 0),1,1):=by kernel_rfl
theorem zfw (B b:Nat) (bs:List Value) (w:World) (h:Lib.IsBuilder 197 5 B b bs w) :
 Calls Tryz.prog 207 #[.pointer (some ⟨b,0,none⟩)] w fun e w'=>e = .returned (.tuple #[])∧Lib.BuilderAt 197 5 B b (.pointer (some ⟨b,0,none⟩)) bs w'∧Fr (MB B b) w w':=by
 rcases h with h | h
 ·have c0:=h.cell0;have f0:=h.frozen0;have hA:=h.shape;go_enter Tryz.func207,Tryz.ntmps207;obtain⟨j,hj,hB⟩:=Option.map_eq_some_iff.1 zca
  go_wp2
  rw[Lib.run_to_unsafe w ⟨b,0,none⟩ Tryz.underlying195 Tryz.underlying279 hj (by rw[hB];decide) hA (Nat.zero_lt_succ 1)];simp only[Result.andThen];rw[Oper.upon_value]
  go_wp2
  rw[run_callFunc_extern Tryz.func248 (by kernel_rfl) (by kernel_rfl) (by kernel_rfl) (e:=Extern.AbiNoEscape.same) (by kernel_rfl)];rw[Lib.run_noEscape];simp only[Result.andThen];rw[Oper.upon_value]
  go_wp2
  rw[Lib.run_from_unsafe w ⟨b,0,none⟩ Tryz.underlying279 Tryz.underlying195 hj hA zeq];simp only[Result.andThen];rw[Oper.upon_value]
  go_wp2
  go_end0
  exact⟨rfl,h.used _,Fr.refl.setCell _ _ (fun _ _=>⟨h.1,.inl rfl⟩)⟩
 have c0:=h.cell0;go_enter Tryz.func207,Tryz.ntmps207;obtain⟨j,hj,_⟩:=Option.map_eq_some_iff.1 zca
 go_wp2
 rw[Lib.run_neq_ptr_same w _ Tryz.underlying195 hj]
 go_wp2
 go_end0
 exact⟨rfl,h,Fr.refl⟩
theorem ze5 (B b:Nat) (l:List UInt8) (c:UInt8) (w:World) (h:Bld B b l w) (hlen:l.length+1≤140737488355328) :
 Calls Tryz.prog 205 #[.pointer (some ⟨b,0,none⟩),.int .u8 c.toNat] w fun e w'=>e = .returned .nilIface∧Bld B b (l++[c]) w'∧Fr (MB B b) w w':=by
 obtain⟨i0,hi,hJ,hI,hH⟩:=info_parts zdy;go_enter Tryz.func205,Tryz.ntmps205
 go_wp2_with fail
 refine(zfw B b _ _ h).mono ?_;rintro e w1 ⟨rfl,h1,hN⟩;have hBb:=h1.1;obtain⟨hB,v,hE,hD,hK⟩:=h1;have c0:w1.cell? ⟨b,0,none⟩=some (.pointer (some ⟨b,0,none⟩)):=by rw[Lib.cell_of_heap hE];rfl
 have c1:w1.cell? ⟨b,1,none⟩=some v:=by rw[Lib.cell_of_heap hE];rfl
 have hL:b<w1.heap.size:=jq hE
 go_wp2_with(at_builtin;refine wpList_append_own _ rfl _ _ 24 rfl B 5 i0 (.int .u8 0) 1 1 Tryz.underlying24 hi hJ hI hH rfl (by decide) _ _ _ rfl (hD.alloc _) ⟨w1.heap.size,0,none⟩ 1 1 [.int .u8 c.toNat] rfl rfl ?c1 ?c2 ?c3 ?c4 ?c5 ?_)
 case c1=>exact cell_one_new _ _ _
 case c2=>intro u hu;simp at hu;subst hu;rfl
 case c3=>unfold maxLen;rw[Lib.byteCells_length];omega
 case c4=>rw[Lib.byteCells_length];omega
 case c5=>simp;omega
 intro v' w2 hA hC _;have hM:Fr (MB B b) w w2:=(hN.alloc (.cells #[.int .u8 c.toNat] 5)).trans (Fr.ofOwn (hD.alloc _) hC) (fun k o hk => .inl ⟨hk.1,.inr hk.2⟩)
 have hF:w2.heap[b]? = some (.cells #[.pointer (some ⟨b,0,none⟩),v] 197 (0,0)):=by
  rw[hC.block b (by simp;omega) (fun e=>hK e.symm),Lib.alloc_old w1 _ b hL];exact hE
 have d1:w2.cell? ⟨b,1,none⟩=some v:=by rw[Lib.cell_of_heap hF];rfl
 have f1:w2.frozen? ⟨b,1,none⟩=false:=Lib.frozen_of_heap hF 1
 obtain ⟨ao,n',hG,rfl⟩:∃ ao n' hG,v' = .slice ao n' hG:=by
  rcases hA.2 with⟨hv,_⟩ | ⟨g,hG,cur,hv,_⟩
  ·exact⟨_,_,_,hv⟩
  exact⟨_,_,_,hv⟩
 go_wp2
 go_ret;refine⟨rfl,.inr ?_,hM.setCell _ _ (fun _ _=>⟨hB,.inl rfl⟩)⟩;have hx:zj (l++[c])=zj l++[.int .u8 c.toNat]:=by rw[Lib.byteCells_append];rfl
 rw[hx];exact Lib.BuilderAt.put hB hF (by simpa using hA) (by decide)
theorem zff (r:Int) (h0 : -2147483648≤r) (h1:r≤2147483647):Lib.runeCells r=zj (zk r):=by
 unfold Lib.runeCells zj zk;rw[List.map_map];apply List.map_congr_left;intro x hx
 have hx':0≤x∧x<256:=by
  unfold Lib.encodeRuneZ at hx;split at hx
  ·simp at hx;omega
  split at hx
  ·simp at hx;omega
  split at hx
  ·simp at hx;omega
  split at hx
  ·simp at hx;omega
  simp at hx;omega
 simp;omega
theorem ze4 (B b:Nat) (l:List UInt8) (r:Int) (h0 : -2147483648≤r) (h1:r≤2147483647) (w:World) (h:Bld B b l w) (hlen:l.length+4≤140737488355328) :
 Calls Tryz.prog 204 #[.pointer (some ⟨b,0,none⟩),.int .i32 r] w fun e w'=>e = .returned (.tuple #[.int .i64 (zk r).length,.nilIface])∧Bld B b (l++zk r) w'∧Fr (MB B b) w w':=by
 have hI:=Lib.hid (zff r h0 h1);go_enter Tryz.func204,Tryz.ntmps204
 go_wp2_with fail
 refine(zfw B b _ _ h).mono ?_;rintro e w1 ⟨rfl,hK,hP⟩;have hBb:=hK.1;obtain⟨hB,v,hE,hA,hM⟩:=hK;have c0:w1.cell? ⟨b,0,none⟩=some (.pointer (some ⟨b,0,none⟩)):=by rw[Lib.cell_of_heap hE];rfl
 have hN:b<w1.heap.size:=jq hE
 obtain ⟨ao,hH,hv⟩:∃ ao hH,v = .slice ao (zj l).length hH:=by
  rcases hA.2 with⟨hv,h0'⟩ | ⟨g,hH,cur,hv,_⟩
  ·exact⟨_,_,hv.trans (by rw[h0'])⟩
  exact⟨_,_,hv⟩
 have c1:w1.cell? ⟨b,1,none⟩=some (.slice ao (zj l).length hH):=by rw[Lib.cell_of_heap hE,hv];rfl
 have Hv:=Lib.hid hv;clear hv
 go_wp2_with fail
 rw[← Hv.out];refine(Go.Proofs.Tryz.utf8_AppendRune_plain B v _ _ r h0 h1 _ hA (by rw[Lib.byteCells_length];omega) (by omega)).mono ?_;rintro e w2 ⟨v',rfl,hC,o,hD⟩;have hO:Fr (MB B b) w w2:=(hP.alloc o).trans (Fr.ofOwn (hA.alloc _) hD) (fun k o hk => .inl ⟨hk.1,.inr hk.2⟩)
 have hF:w2.heap[b]? = some (.cells #[.pointer (some ⟨b,0,none⟩),v] 197 (0,0)):=by
  rw[hD.block b (by simp;omega) (fun e=>hM e.symm),Lib.alloc_old w1 _ b hN];exact hE
 have d0:w2.cell? ⟨b,0,none⟩=some (.pointer (some ⟨b,0,none⟩)):=by rw[Lib.cell_of_heap hF];rfl
 have d1:w2.cell? ⟨b,1,none⟩=some v:=by rw[Lib.cell_of_heap hF];rfl
 have f1:w2.frozen? ⟨b,1,none⟩=false:=Lib.frozen_of_heap hF 1
 obtain ⟨hL,hG,rfl⟩:∃ hL hG,v' = .slice hL ((zj l).length+(Lib.runeCells r).length) hG:=by
  rcases hC.2 with⟨hv,h0'⟩ | ⟨g,hH,cur,hv,_⟩
  ·exact⟨_,_,hv.trans (by rw[h0'])⟩
  exact⟨_,_,hv⟩
 have hJ:(zj l).length=l.length:=Lib.byteCells_length l
 have hL2:(Lib.runeCells r).length≤4:=by
  rw[hI.out,Lib.byteCells_length];unfold zk;rw[List.length_map];unfold Lib.encodeRuneZ;repeat' split
  all_goals simp
 generalize hq:(zj l).length=q at *;generalize hp:(Lib.runeCells r).length=p at *;have Hq:=Lib.hid hq;have Hp:=Lib.hid hp;have HL:=Lib.hid hJ;have hQ:=Lib.hid hF;clear hq hp hJ hA h hE hF;have hql:q≤140737488355328:=by have:=HL.out;omega
 go_wp2
 go_ret2;have hq:=Hq.out;have hp:=Hp.out;have hx:((q:Int)+p - q)=((zk r).length:Int):=by rw[← hp,hI.out,Lib.byteCells_length];omega
 refine⟨by simp[hx],.inr ?_,hO.setCell _ _ (fun _ _=>⟨hB,.inl rfl⟩)⟩;rw[Lib.byteCells_append,← hI.out];refine Lib.BuilderAt.put hB hQ.out (by rw[List.length_append,hq,hp];exact hC) (by decide)
theorem zgs (B b:Nat)(l:List UInt8)(w:World)(h:Bld B b l w) :
 Calls Tryz.prog 151 #[.pointer (some ⟨b,0,none⟩)] w fun e w'=>e = .returned (.string ⟨l.toArray⟩)∧Fr (MB B b) w w':=by
 refine(Go.Proofs.Tryz.Builder_String_any_k B b l w (Lib.IsBuilderF.of h) (Nat.le_trans h.base (Nat.le_of_lt h.lt))).mono ?_;rintro e w' ⟨rfl,_,hb,ho⟩;refine⟨rfl,hb.os,hb.tape,hb.output,hb.size,fun k o hk hn=>?_⟩;rcases Nat.lt_or_ge k B with h1 | h1
 ·rw[hb.block k h1];exact hk
 refine ho k o hk (fun e=>hn ⟨h1,.inl (by simpa using e)⟩) (fun c fz e=>hn ⟨h1,.inr ⟨c,fz,e⟩⟩)
end Go.Proofs.YtffggpplnjibgaaGreatDoor
