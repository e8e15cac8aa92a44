/-
 Small facts for the walks of chapter 17's laws.
-/
import Derived.Test.YtcddlemkimbkcaaGreatDoorKAlive17
import Derived.Test.YtcddlemkimbkcaaGreatDoorKReadCame
import Derived.Test.YtcddlemkimbkcaaGreatDoorKRefWas
import Derived.Test.YtcddlemkimbkcaaGreatDoorKNum
open Go.Lib renaming hid→za,byteCells→zb
open Go.Proofs.Tryz renaming prog→ze
open Go.World renaming size_alloc→zf,rangeAt_setCells_same→zg
open Go renaming heap_alloc_new→zh,wpList_load_mid→zi
open List renaming size_toArray→zn
open Go.Value renaming int→zy
open Go.IntKind renaming u8→z6
namespace Go.Proofs.YtcddlemkimbkcaaGreatDoor
set_option linter.unusedVariables false
set_option linter.unusedSimpArgs false
set_option linter.unusedSectionVars false
set_option maxRecDepth 100000
set_option maxHeartbeats 2000000
section
open Go.RowKit Go.Shelf
variable [OldK]
theorem CameV.size {c:CameV}(h:c.e.ok):c.cells.length=71:=by simp[CameV.cells,En.size h]
theorem CameV.one {c:CameV}(hp:c.pv.oneCell'=true)(hs:c.sv.oneCell'=true):c.cells.toArray.all (·.oneCell')=true:=by
 refine all_oneCell_toArray (fun v hv=>?_);unfold CameV.cells at hv;rcases List.mem_append.1 hv with h | h
 ·have:=En.one (e:=c.e) hp hs;rw[List.all_toArray,List.all_eq_true]at this;exact this v h
 obtain rfl:v = .int .i64 c.pos:=by simpa using h
 rfl
end
section
open Go.RowKit Go.Shelf
variable [OldK]
theorem zhl {w:World}{base s n k:Nat}{e:TypeId}{v:Value}{xs:List Value}(h:w.ownsRow base e s v n xs)(hk:some k=v.ownBlock):base≤k∧∃ o,w.heap[k]? = some o∧OfTy e o:=by
 rcases h.2 with⟨rfl,-⟩ | ⟨g,cap,cur,rfl,h1,h2,-⟩
 ·cases hk
 obtain rfl:k=g:=by simpa[Value.ownBlock] using hk
 exact⟨h1,_,h2,_,_,rfl⟩
theorem zd5 {w:World}{base e s n:Nat}{v:Value}{xs:List Value}(h:w.ownsRow base e s v n xs):(v = .slice none 0 0∧n=0)∨∃ g cap,v = .slice (some ⟨g,0,none⟩) n cap∧base≤g∧g<w.heap.size∧n≤cap∧cap≤maxLen:=by
 rcases h.2 with h | ⟨g,cap,cur,h1,h2,h3,h4,h5,-⟩
 ·exact .inl h
 exact .inr ⟨g,cap,h1,h2,jq h3,h4,h5⟩
theorem OfTy.one {e e':TypeId}{o:Obj}(h:OfTy e o)(h':OfTy e' o):e=e':=by
 obtain⟨c,f,rfl⟩:=h;obtain⟨c',f',h'⟩:=h'
 injection h' with _ h' _
theorem zne {base s m:Nat}{w w':World}{e:TypeId}{v:Value}{xs:List Value}(h:w.ownsRow base e s v m xs)(hF:Fr NoB w w'):w'.ownsRow base e s v m xs:=zaj h hF (fun _ _ _ _ h=>h)
theorem zpr {base s m:Nat}{w0 w w':World}{e:TypeId}{v:Value}{xs:List Value}(h:w.ownsRow base e s v m xs)(hb:w0.heap.size≤base)(hF:Fr NoB w0 w)(hg:w.grownBy w' v.ownBlock):Fr NoB w0 w' :=
 hF.trans (Fr.ofGrown hg) (fun k _ hm => .inr (by have:=(zhl h (k:=k) hm).1;omega))
end
section
open Go.RowKit Go.Shelf
variable [OldK]
theorem zlx:(Tryz.prog.info? 24).map (fun i=>(i.zero,i.size,i.bytes))=some (some (.agg #[zy z6 0,zy z6 0,zy z6 0,zy z6 0,zy z6 0,zy z6 0,zy z6 0,zy z6 0,zy z6 0,zy z6 0,zy z6 0,zy z6 0,zy z6 0,zy z6 0,zy z6 0,zy z6 0,zy z6 0,zy z6 0,zy z6 0,zy z6 0,zy z6 0,zy z6 0,zy z6 0,zy z6 0,zy z6 0,zy z6 0,zy z6 0,zy z6 0,zy z6 0,zy z6 0,zy z6 0,zy z6 0]),32,32):=by kernel_rfl
def zwh (ks:List (Bs × Bool)):List Value:=ks.flatMap (fun x=>zb x.1)
theorem zu1 (ks:List (Bs × Bool)) (hk:∀ x∈ks,x.1.length=32):∀ i x,ks[i]? = some x→∀ j v,(zb x.1)[j]? = some v→(zwh ks)[i * 32+j]? = some v:=by
 induction ks with
 | nil=>intro i x hi;cases hi
 | cons y l ih =>
   intro i x hi j v hv;have hy:(zb y.1).length=32:=by rw[ja];exact hk y (by simp)
   unfold zwh;rw[List.flatMap_cons];cases i with
   | zero =>
     obtain rfl:y=x:=by simpa using hi
     rw [Nat.zero_mul,Nat.zero_add,List.getElem?_append_left (by
      have:=(List.getElem?_eq_some_iff.1 hv).1
      exact this)]
     exact hv
   | succ i =>
     rw[List.getElem?_append_right (by rw[hy];omega),hy,show(i+1) * 32+j - 32=i * 32+j by omega];exact ih (fun c hc=>hk c (by simp[hc])) i x (by simpa using hi) j v hv
theorem zuh {w:World}{base g n cap m:Nat}{ks:List (Bs × Bool)}(h:w.ownsRow base 24 32 (.slice (some ⟨g,0,none⟩) n cap) m (zwh ks))(hk:∀ x∈ks,x.1.length=32)(i:Nat)(x:Bs × Bool)(hi:ks[i]? = some x):w.rangeAt g (i * 32) (zb x.1):=by
 intro j v hv;have:=h.cells (g:=g) rfl (i * 32+j) v (zu1 ks hk i x hi j v hv);rw[Addr.add_lit]at this;rw[Nat.zero_add]at this;exact this
end
section
open Go.RowKit Go.Shelf
variable [OldK]
def zrq (m:List Cm) (s:Sg):Bs × Bool:=if s.id≠[] then zad m s.id else if zbm m s.key=true then (jo,false) else (s.key,true)
theorem Tied.keyOf {t:Tb}{m:List Cm}(h:Tied t m)(s:Sg):zgk t s=if (zrq m s).2=true then ((zrq m s).1,0) else (jo,8):=by
 unfold zgk zrq;by_cases hi:s.id≠[]
 ·rw[if_pos hi,if_pos hi];have hb:=h.bound s.id;unfold Tb.bound at hb;rw[← hb]
 rw[if_neg hi,if_neg hi];have hs:=h.spent s.key;by_cases h2:t.life s.key=2
 ·rw[if_pos h2,if_pos (hs.1 h2)];rfl
 rw[if_neg h2,if_neg (fun e=>h2 (hs.2 e))];rfl
theorem zsi {m:List CameV}(h:∀ c∈m,c.e.ok){s:Sg}(hs:s.ok):(zrq (m.map CameV.cm) s).1.length=32:=by
 unfold zrq;split
 ·exact zc8 h _
 split
 ·rfl
 exact hs.1
theorem zsc (m:List CameV) (v:Value) (s:Sg) (w:World) (h:CRow m v w) (hs:s.ok) :
 Calls ze 123 #[v,.agg s.cells] w fun e w'=>e = .returned (.tuple #[.agg (zb (zrq (m.map CameV.cm) s).1).toArray,.bool (zrq (m.map CameV.cm) s).2])∧Fr NoB w w':=by
 have hF:Fr NoB w ((w.alloc (.cells s.cells 54)).alloc (.cells #[zy z6 0,zy z6 0,zy z6 0,zy z6 0,zy z6 0,zy z6 0,zy z6 0,zy z6 0,zy z6 0,zy z6 0,zy z6 0,zy z6 0,zy z6 0,zy z6 0,zy z6 0,zy z6 0,zy z6 0,zy z6 0,zy z6 0,zy z6 0,zy z6 0,zy z6 0,zy z6 0,zy z6 0,zy z6 0,zy z6 0,zy z6 0,zy z6 0,zy z6 0,zy z6 0,zy z6 0,zy z6 0] 24)):=(Fr.refl.alloc _).alloc _;have hk:Fr NoB (w.alloc (.cells s.cells 54)) ((w.alloc (.cells s.cells 54)).alloc (.cells #[zy z6 0,zy z6 0,zy z6 0,zy z6 0,zy z6 0,zy z6 0,zy z6 0,zy z6 0,zy z6 0,zy z6 0,zy z6 0,zy z6 0,zy z6 0,zy z6 0,zy z6 0,zy z6 0,zy z6 0,zy z6 0,zy z6 0,zy z6 0,zy z6 0,zy z6 0,zy z6 0,zy z6 0,zy z6 0,zy z6 0,zy z6 0,zy z6 0,zy z6 0,zy z6 0,zy z6 0,zy z6 0] 24)):=Fr.refl.alloc _;have hR:((w.alloc (.cells s.cells 54)).alloc (.cells #[zy z6 0,zy z6 0,zy z6 0,zy z6 0,zy z6 0,zy z6 0,zy z6 0,zy z6 0,zy z6 0,zy z6 0,zy z6 0,zy z6 0,zy z6 0,zy z6 0,zy z6 0,zy z6 0,zy z6 0,zy z6 0,zy z6 0,zy z6 0,zy z6 0,zy z6 0,zy z6 0,zy z6 0,zy z6 0,zy z6 0,zy z6 0,zy z6 0,zy z6 0,zy z6 0,zy z6 0,zy z6 0] 24)).rangeAt w.heap.size 0 s.cells.toList:=je (jg (zh w (.cells s.cells 54))) hk (by rw[zf];omega) (fun _ h=>h)
 have hU:((w.alloc (.cells s.cells 54)).alloc (.cells #[zy z6 0,zy z6 0,zy z6 0,zy z6 0,zy z6 0,zy z6 0,zy z6 0,zy z6 0,zy z6 0,zy z6 0,zy z6 0,zy z6 0,zy z6 0,zy z6 0,zy z6 0,zy z6 0,zy z6 0,zy z6 0,zy z6 0,zy z6 0,zy z6 0,zy z6 0,zy z6 0,zy z6 0,zy z6 0,zy z6 0,zy z6 0,zy z6 0,zy z6 0,zy z6 0,zy z6 0,zy z6 0] 24)).there (w.heap.size+1) 0 32:=by
  have h1:=jr (zh (w.alloc (.cells s.cells 54)) (.cells #[zy z6 0,zy z6 0,zy z6 0,zy z6 0,zy z6 0,zy z6 0,zy z6 0,zy z6 0,zy z6 0,zy z6 0,zy z6 0,zy z6 0,zy z6 0,zy z6 0,zy z6 0,zy z6 0,zy z6 0,zy z6 0,zy z6 0,zy z6 0,zy z6 0,zy z6 0,zy z6 0,zy z6 0,zy z6 0,zy z6 0,zy z6 0,zy z6 0,zy z6 0,zy z6 0,zy z6 0,zy z6 0] 24)) (Nat.le_refl 32);rw[zf]at h1;exact h1
 obtain⟨c0,hK⟩:=Sg.in_block hs hR;have hB:=fun V (hV:Fr NoB w V)=>zel m v s.id V (h.keep hV)
 have hA:=fun V (hV:Fr NoB w V)=>zis m v s.key V (h.keep hV) hs.1
 have hS:=zc8 h.ok s.id;obtain⟨R,hT⟩:∃ x,zrq (m.map CameV.cm) s=x:=⟨_,rfl⟩;rw[hT];unfold zrq at hT;obtain⟨⟨bk,bh⟩,hb⟩:∃ x,zad (m.map CameV.cm) s.id=x:=⟨_,rfl⟩;obtain⟨sp,hh⟩:∃ x,zbm (m.map CameV.cm) s.key=x:=⟨_,rfl⟩;simp only[hb]at hB;simp only[hh]at hA;rw[hb]at hS;rw[hb,hh]at hT;simp only at hS;obtain⟨C,hC⟩:∃ C,s.cells=C:=⟨_,rfl⟩;rw[hC]at hF hk hR hU c0 hK ⊢;have hD:=hs.1;obtain⟨hq,hH⟩:∃ x,s.id=x:=⟨_,rfl⟩;obtain⟨k2,ha⟩:∃ x,s.key=x:=⟨_,rfl⟩;rw[hH,ha]at hT;simp only[hH]at hB;simp only[ha]at hA;rw[hH]at c0;rw[ha]at hK hD;clear hC hH ha hb hh hs h hk hR;have hY:Hid ((Tryz.prog.info? 24).map (·.size)=some (zb bk).length):=za (by rw[jb,ja,hS]);have hM:Hid ((Tryz.prog.info? 24).map (·.size)=some (zb bk).toArray.size):=za (by rw[jb,zn,ja,hS]);have hZ:=za (all_oneCell_toArray (j0 bk));have hI:Hid ((Tryz.prog.info? 24).map (·.size)=some (zb k2).length):=za (by rw[jb,ja,hD]);have hL:Hid ((Tryz.prog.info? 24).map (·.size)=some (zb k2).toArray.size):=za (by rw[jb,zn,ja,hD]);have hX:=za (all_oneCell_toArray (j0 k2));have ho:Hid ((zb bk).toArray.size=32):=za (by rw[zn,ja,hS]);have hn:Hid ((zb k2).toArray.size=32):=za (by rw[zn,ja,hD]);obtain⟨K1,hd⟩:∃ x,zb bk=x:=⟨_,rfl⟩;obtain⟨K2,hc⟩:∃ x,zb k2=x:=⟨_,rfl⟩;rw[hd]at hY hM hZ ho;rw[hc]at hI hL hX hn hK;simp only[hd]at hB;simp only[hc]at hA;have hw:=za hd;have hu:=za hc;have hf:=za hT;have Hbound:=za hB;have Hspent:=za hA;have hE:=World.block_lt_of_cell? _ _ c0;have hG:w.heap.size+1<((w.alloc (.cells C 54)).alloc (.cells #[zy z6 0,zy z6 0,zy z6 0,zy z6 0,zy z6 0,zy z6 0,zy z6 0,zy z6 0,zy z6 0,zy z6 0,zy z6 0,zy z6 0,zy z6 0,zy z6 0,zy z6 0,zy z6 0,zy z6 0,zy z6 0,zy z6 0,zy z6 0,zy z6 0,zy z6 0,zy z6 0,zy z6 0,zy z6 0,zy z6 0,zy z6 0,zy z6 0,zy z6 0,zy z6 0,zy z6 0,zy z6 0] 24)).heap.size:=by rw[zf,zf];omega
 clear hT hB hA hd hc hD hS;go_enter Tryz.func123,Tryz.ntmps123
 go_upto_region 1 with(fail)
 change Code.wp _ _ _ _ ((w.alloc (.cells C 54)).alloc (.cells #[zy z6 0,zy z6 0,zy z6 0,zy z6 0,zy z6 0,zy z6 0,zy z6 0,zy z6 0,zy z6 0,zy z6 0,zy z6 0,zy z6 0,zy z6 0,zy z6 0,zy z6 0,zy z6 0,zy z6 0,zy z6 0,zy z6 0,zy z6 0,zy z6 0,zy z6 0,zy z6 0,zy z6 0,zy z6 0,zy z6 0,zy z6 0,zy z6 0,zy z6 0,zy z6 0,zy z6 0,zy z6 0] 24));obtain⟨W,hW⟩:∃ W,(w.alloc (.cells C 54)).alloc (.cells #[zy z6 0,zy z6 0,zy z6 0,zy z6 0,zy z6 0,zy z6 0,zy z6 0,zy z6 0,zy z6 0,zy z6 0,zy z6 0,zy z6 0,zy z6 0,zy z6 0,zy z6 0,zy z6 0,zy z6 0,zy z6 0,zy z6 0,zy z6 0,zy z6 0,zy z6 0,zy z6 0,zy z6 0,zy z6 0,zy z6 0,zy z6 0,zy z6 0,zy z6 0,zy z6 0,zy z6 0,zy z6 0] 24)=W:=⟨_,rfl⟩;rw[hW]at hF hU c0 hK hE hG ⊢;obtain⟨p,hi⟩:∃ p,w.heap.size=p:=⟨_,rfl⟩;rw[hi]at hU c0 hK hE hG ⊢;have Hpp:=za hi;clear hW hi;have HF:=za hF;have hl:=za hU;have HK:=za hK;have hr:=za hE;have hP:=za hG;clear hF hU hK hE hG;obtain⟨p2,hj⟩:∃ x,p+1=x:=⟨_,rfl⟩;rw[hj]at hl hP ⊢;have hO:=za hj;clear hj;cases hq with
 | nil =>
   have hp:Hid ((if sp=true then (jo,false) else (k2,true))=R):=za (by have:=hf.out;simpa using this);clear hf Hbound
   go_wp2_with(with_reducible refine zi rfl 24 _ rfl p 1 rfl K2 (.array 32 5) HK.out z7 rfl hI.out ?_)
   refine(Hspent.out _ HF.out).mono ?_;rintro r w2 ⟨rfl,hJ⟩;have he:=za (za3 hl.out hJ hP.out (fun _ h=>h));have ht:=za (je HK.out hJ hr.out (fun _ h=>h));have hg:=za hJ;clear hJ;cases sp with
   | true =>
     have hR:=hp.out.symm;simp only[if_true]at hR;have hN:Hid (w2.there p2 0 (#[zy z6 0,zy z6 0,zy z6 0,zy z6 0,zy z6 0,zy z6 0,zy z6 0,zy z6 0,zy z6 0,zy z6 0,zy z6 0,zy z6 0,zy z6 0,zy z6 0,zy z6 0,zy z6 0,zy z6 0,zy z6 0,zy z6 0,zy z6 0,zy z6 0,zy z6 0,zy z6 0,zy z6 0,zy z6 0,zy z6 0,zy z6 0,zy z6 0,zy z6 0,zy z6 0,zy z6 0,zy z6 0]:Array Value).size):=he
     go_wp2_with((with_reducible refine wpList_store_mid rfl 24 _ _ rfl p2 0 #[zy z6 0,zy z6 0,zy z6 0,zy z6 0,zy z6 0,zy z6 0,zy z6 0,zy z6 0,zy z6 0,zy z6 0,zy z6 0,zy z6 0,zy z6 0,zy z6 0,zy z6 0,zy z6 0,zy z6 0,zy z6 0,zy z6 0,zy z6 0,zy z6 0,zy z6 0,zy z6 0,zy z6 0,zy z6 0,zy z6 0,zy z6 0,zy z6 0,zy z6 0,zy z6 0,zy z6 0,zy z6 0] ?_ ?_ hN.out zvp zw3 ?_);rfl;rfl)
     have hQ:=run_loadVar_mid (P:=ze) _ p2 0 24 _ (.array 32 5) (zg w2 p2 0 (#[zy z6 0,zy z6 0,zy z6 0,zy z6 0,zy z6 0,zy z6 0,zy z6 0,zy z6 0,zy z6 0,zy z6 0,zy z6 0,zy z6 0,zy z6 0,zy z6 0,zy z6 0,zy z6 0,zy z6 0,zy z6 0,zy z6 0,zy z6 0,zy z6 0,zy z6 0,zy z6 0,zy z6 0,zy z6 0,zy z6 0,zy z6 0,zy z6 0,zy z6 0,zy z6 0,zy z6 0,zy z6 0]:Array Value).toList hN.out) z7 rfl zvp;refine bodyPost_ret (v := .tuple #[.agg #[zy z6 0,zy z6 0,zy z6 0,zy z6 0,zy z6 0,zy z6 0,zy z6 0,zy z6 0,zy z6 0,zy z6 0,zy z6 0,zy z6 0,zy z6 0,zy z6 0,zy z6 0,zy z6 0,zy z6 0,zy z6 0,zy z6 0,zy z6 0,zy z6 0,zy z6 0,zy z6 0,zy z6 0,zy z6 0,zy z6 0,zy z6 0,zy z6 0,zy z6 0,zy z6 0,zy z6 0,zy z6 0],.bool false]) ?_ rfl ⟨by rw[hR];rfl,(HF.out.trans' hg.out).trans (jd _ _ _ _) (fun k _ hm => .inr (by have:=Hpp.out;have:=hO.out;omega))⟩;rw[results_cell_tmp rfl]
     try simp only[Array.toArray_toList]at hQ
     simp[asAddr,Result.andThen,hQ]
   | false =>
     have hR:=hp.out.symm;simp only[Bool.false_eq_true,if_false]at hR;have hN:Hid (w2.there p2 0 K2.toArray.size):=za (by rw[hn.out];exact he.out)
     go_wp2_with (first
      | (with_reducible refine zi rfl 24 _ rfl p 1 rfl K2 (.array 32 5) ht.out z7 rfl hI.out ?_)
      | ((with_reducible refine wpList_store_mid rfl 24 _ _ rfl p2 0 K2.toArray ?_ ?_ hN.out hL.out hX.out ?_);rfl;rfl))
     have hQ:=run_loadVar_mid (P:=ze) _ p2 0 24 K2 (.array 32 5) (zg (w2) p2 0 K2 (by simpa using hN.out)) z7 rfl hI.out;refine bodyPost_ret (v := .tuple #[.agg (K2).toArray,.bool true]) ?_ rfl ⟨?_,(HF.out.trans' hg.out).trans (jd _ _ _ _) (fun k _ hm => .inr (by have:=Hpp.out;have:=hO.out;omega))⟩
     ·rw[results_cell_tmp rfl];simp[asAddr,Result.andThen,hQ]
     rw[hR];simp only[hu.out]
 | cons x0 xs =>
   have hR:R=(bk,bh):=by have:=hf.out;simpa using this.symm
   clear hf Hspent
   go_wp2_with fail
   refine(Hbound.out _ HF.out).mono ?_;rintro r w2 ⟨rfl,hJ⟩;have he:=za (za3 hl.out hJ hP.out (fun _ h=>h));have hg:=za hJ;have hN:Hid (w2.there p2 0 K1.toArray.size):=za (by rw[ho.out];exact he.out);clear hJ
   go_wp2_with((with_reducible refine wpList_store_mid rfl 24 _ _ rfl p2 0 K1.toArray ?_ ?_ hN.out hM.out hZ.out ?_);rfl;rfl)
   have hQ:=run_loadVar_mid (P:=ze) _ p2 0 24 K1 (.array 32 5) (zg (w2) p2 0 K1 (by simpa using hN.out)) z7 rfl hY.out;refine bodyPost_ret (v := .tuple #[.agg (K1).toArray,.bool bh]) ?_ rfl ⟨?_,(HF.out.trans' hg.out).trans (jd _ _ _ _) (fun k _ hm => .inr (by have:=Hpp.out;have:=hO.out;omega))⟩
   ·rw[results_cell_tmp rfl];simp[asAddr,Result.andThen,hQ]
   rw[hR];simp only[hw.out]
end
section
open Go.RowKit Go.Shelf
variable [OldK]
theorem zio {tv:Value} {t:Tb} (m:List CameV) (v:Value) (s:Sg) (w:World) (h:TL tv t w) (hm:CRow m v w) (ht:Tied t (m.map CameV.cm)) (hs:s.ok) (hi:s.id.length≤maxLen) :
 Calls ze 76 #[tv,v,.agg s.cells] w fun e w'=>e = .returned (.bool true)∧Fr NoB w w':=by
 have hF:Fr NoB w (w.alloc (.cells s.cells 54)):=Fr.refl.alloc _;have hR:=jg (zh w (.cells s.cells 54));have ho:w.heap.size<(w.alloc (.cells s.cells 54)).heap.size:=by rw[zf];omega
 have hA:=fun V (hV:Fr NoB w V)=>zxd s V (h.keep hV) hs hi
 have hN:=fun V (hV:Fr NoB w V)=>zsc m v s V (hm.keep hV) hs
 have hf:=ht.keyOf s;have hO:=zsi hm.ok hs;obtain⟨⟨rk,rb⟩,hn⟩:∃ x,zrq (m.map CameV.cm) s=x:=⟨_,rfl⟩;rw[hn]at hf hO;simp only[hn]at hN;simp only at hf hO;simp only[hf]at hA;have hz:(Tryz.prog.info? 54).map (·.size)=some s.cells.toList.length:=by rw[jy,Array.length_toList,Sg.size hs]
 have h1:Value.agg s.cells = .agg s.cells.toList.toArray:=by simp
 obtain⟨C,hC⟩:∃ C,s.cells.toList=C:=⟨_,rfl⟩;have hp:s.cells=C.toArray:=by rw[← hC]
 rw[hC]at hR hz;rw[hp]at hF hR ho ⊢;simp only[hp]at hA hN;obtain⟨dS,hy,h0⟩:=zai;have hh:=za hy;have hk:=za h0;have hH:=ja rk;rw[hO]at hH;have hS:=all_oneCell_toArray (j0 rk);have hB:=fun V=>zdi rk rk hO hO V
 simp only[beq_self_eq_true]at hB;obtain⟨KC,hT⟩:∃ x,zb rk=x:=⟨_,rfl⟩;have HKC:=za hT;have Hrl:=za hO;have HF:=za hF;have HR:=za hR;have HZ:=za hz;have hU:=za ho;have HM:=za hm;clear hF hR hz ho hf hO hn hC hp h1 hy h0 h hm ht hs hi;cases rb with
 | true =>
   simp only[if_true,hT,show zgf 0 = .nilIface from rfl]at hA;simp only[hT]at hN hH hS hB;have Hkz:Hid ((Tryz.prog.info? 24).map (·.size)=some KC.length):=za (by rw[jb,hH]);have hM:Hid ((Tryz.prog.info? 24).map (·.size)=some KC.toArray.size):=za (by rw[jb,zn,hH]);have hL:Hid ((#[zy z6 0,zy z6 0,zy z6 0,zy z6 0,zy z6 0,zy z6 0,zy z6 0,zy z6 0,zy z6 0,zy z6 0,zy z6 0,zy z6 0,zy z6 0,zy z6 0,zy z6 0,zy z6 0,zy z6 0,zy z6 0,zy z6 0,zy z6 0,zy z6 0,zy z6 0,zy z6 0,zy z6 0,zy z6 0,zy z6 0,zy z6 0,zy z6 0,zy z6 0,zy z6 0,zy z6 0,zy z6 0]:Array Value).size=KC.toArray.size):=za (by rw[show KC.toArray.size=32 by rw[zn,hH]];rfl);have hj:=za hS;have Hkey:=za hA;have Hrk:=za hN;have Heqi:=za hB;clear hA hN hH hS hT hB;go_enter Tryz.func76,Tryz.ntmps76
   go_upto_region 1 with(fail)
   change Code.wp _ _ _ _ (w.alloc (.cells C.toArray 54));obtain⟨W,hW⟩:∃ W,w.alloc (.cells C.toArray 54)=W:=⟨_,rfl⟩;rw[hW]at HF HR hU ⊢;obtain⟨p,ha⟩:∃ p,w.heap.size=p:=⟨_,rfl⟩;rw[ha]at HR hU ⊢;clear hW ha
   go_wp2_with(with_reducible refine zi rfl 54 _ rfl p 0 rfl C dS HR.out hh.out hk.out HZ.out ?_)
   refine(Hkey.out _ HF.out).mono ?_;rintro r w2 ⟨rfl,hc⟩;have hK:=hc.alloc (.cells KC.toArray 24);have hG:=jg (zh w2 (.cells KC.toArray 24));rw[List.toList_toArray]at hG;have hI:w2.heap.size<(w2.alloc (.cells KC.toArray 24)).heap.size:=by rw[zf];omega
   go_upto_region 2 with((with_reducible refine jh (w:=w2) rfl 24 _ _ rfl _ KC.toArray w2.heap.size rfl ?_ ?_ hM.out hL.out hj.out ?_);rfl;rfl)
   change Code.wp _ _ _ _ (w2.alloc (.cells KC.toArray 24));obtain⟨w3,hY⟩:∃ V,w2.alloc (.cells KC.toArray 24)=V:=⟨_,rfl⟩;rw[hY]at hK hG hI ⊢;obtain⟨q3,hE⟩:∃ x,w2.heap.size=x:=⟨_,rfl⟩;rw[hE]at hG hI ⊢;have hu:=za (je HR.out hK hU.out (fun _ h=>h));have hw:=za hG;have Hqw:=za hI;have hd:=za (HF.out.trans' hK);clear hc hK hG hI hY hE
   go_wp2_with(with_reducible refine zi rfl 54 _ rfl p 0 rfl C dS hu.out hh.out hk.out HZ.out ?_)
   refine(Hrk.out _ hd.out).mono ?_;rintro r w4 ⟨rfl,hb⟩;have hJ:=hb.alloc (.cells KC.toArray 24);have hZ:=jg (zh w4 (.cells KC.toArray 24));rw[List.toList_toArray]at hZ
   go_upto_region 3 with((with_reducible refine jh (w:=w4) rfl 24 _ _ rfl _ KC.toArray w4.heap.size rfl ?_ ?_ hM.out hL.out hj.out ?_);rfl;rfl)
   change Code.wp _ _ _ _ (w4.alloc (.cells KC.toArray 24));obtain⟨w5,hX⟩:∃ V,w4.alloc (.cells KC.toArray 24)=V:=⟨_,rfl⟩;rw[hX]at hJ hZ ⊢;obtain⟨q5,hD⟩:∃ x,w4.heap.size=x:=⟨_,rfl⟩;rw[hD]at hZ ⊢;have hQ:=za (je hw.out hJ Hqw.out (fun _ h=>h));have h3:=za hZ;have hx:=za (hd.out.trans' hJ);have hB:=Heqi.out w5;clear hb hJ hZ hX hD
   go_wp2_with (first
    | (with_reducible refine z8 24 _ rfl q3 0 rfl KC (.array 32 5) hQ.out z7 rfl Hkz.out rfl ?_)
    | (with_reducible refine z8 24 _ rfl q5 0 rfl KC (.array 32 5) h3.out z7 rfl Hkz.out rfl ?_))
   go_ret;exact⟨rfl,hx.out⟩
 | false =>
   simp only[Bool.false_eq_true,if_false,show zgf 8 = .iface 56 (.int .i64 8) from rfl]at hA;simp only[hT]at hN hH hS;obtain⟨ZC,hg⟩:∃ x,zb jo=x:=⟨_,rfl⟩;have he:ZC.length=32:=by rw[← hg,ja];rfl
   have hl:=all_oneCell_toArray (j0 jo);have hP:∀ V,(Op.equalIn 10000 24 (.agg ZC.toArray) (.agg #[zy z6 0,zy z6 0,zy z6 0,zy z6 0,zy z6 0,zy z6 0,zy z6 0,zy z6 0,zy z6 0,zy z6 0,zy z6 0,zy z6 0,zy z6 0,zy z6 0,zy z6 0,zy z6 0,zy z6 0,zy z6 0,zy z6 0,zy z6 0,zy z6 0,zy z6 0,zy z6 0,zy z6 0,zy z6 0,zy z6 0,zy z6 0,zy z6 0,zy z6 0,zy z6 0,zy z6 0,zy z6 0])).run ze V = .ok true V:=fun V=>by rw[← hg];exact zjw jo rfl V
   simp only[hg]at hA hl;have hM:Hid ((Tryz.prog.info? 24).map (·.size)=some KC.toArray.size):=za (by rw[jb,zn,hH]);have hL:Hid ((#[zy z6 0,zy z6 0,zy z6 0,zy z6 0,zy z6 0,zy z6 0,zy z6 0,zy z6 0,zy z6 0,zy z6 0,zy z6 0,zy z6 0,zy z6 0,zy z6 0,zy z6 0,zy z6 0,zy z6 0,zy z6 0,zy z6 0,zy z6 0,zy z6 0,zy z6 0,zy z6 0,zy z6 0,zy z6 0,zy z6 0,zy z6 0,zy z6 0,zy z6 0,zy z6 0,zy z6 0,zy z6 0]:Array Value).size=KC.toArray.size):=za (by rw[show KC.toArray.size=32 by rw[zn,hH]];rfl);have hj:=za hS;have Hzz:Hid ((Tryz.prog.info? 24).map (·.size)=some ZC.length):=za (by rw[jb,he]);have hr:Hid ((Tryz.prog.info? 24).map (·.size)=some ZC.toArray.size):=za (by rw[jb,zn,he]);have hq:Hid ((#[zy z6 0,zy z6 0,zy z6 0,zy z6 0,zy z6 0,zy z6 0,zy z6 0,zy z6 0,zy z6 0,zy z6 0,zy z6 0,zy z6 0,zy z6 0,zy z6 0,zy z6 0,zy z6 0,zy z6 0,zy z6 0,zy z6 0,zy z6 0,zy z6 0,zy z6 0,zy z6 0,zy z6 0,zy z6 0,zy z6 0,zy z6 0,zy z6 0,zy z6 0,zy z6 0,zy z6 0,zy z6 0]:Array Value).size=ZC.toArray.size):=za (by rw[show ZC.toArray.size=32 by rw[zn,he]];rfl);have h2:=za hl;have Hkey:=za hA;have Hrk:=za hN;have Heqz:=za hP;have His:=za (fun V=>zu0 8 8 (by omega) V);simp only[show zgf 8 = .iface 56 (.int .i64 8) from rfl]at His;clear hA hN hH hS hT hB hP he hl hg;go_enter Tryz.func76,Tryz.ntmps76
   go_upto_region 1 with(fail)
   change Code.wp _ _ _ _ (w.alloc (.cells C.toArray 54));obtain⟨W,hW⟩:∃ W,w.alloc (.cells C.toArray 54)=W:=⟨_,rfl⟩;rw[hW]at HF HR hU ⊢;obtain⟨p,ha⟩:∃ p,w.heap.size=p:=⟨_,rfl⟩;rw[ha]at HR hU ⊢;clear hW ha
   go_wp2_with(with_reducible refine zi rfl 54 _ rfl p 0 rfl C dS HR.out hh.out hk.out HZ.out ?_)
   refine(Hkey.out _ HF.out).mono ?_;rintro r w2 ⟨rfl,hc⟩;have hK:=hc.alloc (.cells ZC.toArray 24);have hG:=jg (zh w2 (.cells ZC.toArray 24));rw[List.toList_toArray]at hG;have hI:w2.heap.size<(w2.alloc (.cells ZC.toArray 24)).heap.size:=by rw[zf];omega
   go_upto_region 2 with((with_reducible refine jh (w:=w2) rfl 24 _ _ rfl _ ZC.toArray w2.heap.size rfl ?_ ?_ hr.out hq.out h2.out ?_);rfl;rfl)
   change Code.wp _ _ _ _ (w2.alloc (.cells ZC.toArray 24));obtain⟨w3,hY⟩:∃ V,w2.alloc (.cells ZC.toArray 24)=V:=⟨_,rfl⟩;rw[hY]at hK hG hI ⊢;obtain⟨q3,hE⟩:∃ x,w2.heap.size=x:=⟨_,rfl⟩;rw[hE]at hG hI ⊢;have hu:=za (je HR.out hK hU.out (fun _ h=>h));have hw:=za hG;have Hqw:=za hI;have hd:=za (HF.out.trans' hK);clear hc hK hG hI hY hE
   go_wp2_with(with_reducible refine zi rfl 54 _ rfl p 0 rfl C dS hu.out hh.out hk.out HZ.out ?_)
   refine(Hrk.out _ hd.out).mono ?_;rintro r w4 ⟨rfl,hb⟩;have hJ:=hb.alloc (.cells KC.toArray 24)
   go_upto_region 3 with((with_reducible refine jh (w:=w4) rfl 24 _ _ rfl _ KC.toArray w4.heap.size rfl ?_ ?_ hM.out hL.out hj.out ?_);rfl;rfl)
   change Code.wp _ _ _ _ (w4.alloc (.cells KC.toArray 24));obtain⟨w5,hX⟩:∃ V,w4.alloc (.cells KC.toArray 24)=V:=⟨_,rfl⟩;rw[hX]at hJ ⊢;obtain⟨q5,hD⟩:∃ x,w4.heap.size=x:=⟨_,rfl⟩;rw[hD];have hQ:=za (je hw.out hJ Hqw.out (fun _ h=>h));have hx:=za (hd.out.trans' hJ);clear hb hJ hX hD
   go_wp2_with fail
   refine(His.out _).mono ?_;rintro r w6 ⟨rfl,rfl⟩;have hP:=Heqz.out w5
   go_wp2_with(with_reducible refine z8 24 _ rfl q3 0 rfl ZC (.array 32 5) hQ.out z7 rfl Hzz.out rfl ?_)
   go_ret;exact⟨rfl,hx.out⟩
end
section
open Go.ChangeShapes Go.WideShapes Go.ChangeAt Go.RowKit
def zw2:Value := .agg #[.int .i64 0,zy z6 0,zy z6 0,zy z6 0,zy z6 0,zy z6 0,zy z6 0,zy z6 0,zy z6 0,zy z6 0,zy z6 0,zy z6 0,zy z6 0,zy z6 0,zy z6 0,zy z6 0,zy z6 0,zy z6 0,zy z6 0,zy z6 0,zy z6 0,zy z6 0,zy z6 0,zy z6 0,zy z6 0,zy z6 0,zy z6 0,zy z6 0,zy z6 0,zy z6 0,zy z6 0,zy z6 0,zy z6 0,.string ⟨#[]⟩,.slice none 0 0,.int .i64 0,.string ⟨#[]⟩,zy z6 0,zy z6 0,zy z6 0,zy z6 0,zy z6 0,zy z6 0,zy z6 0,zy z6 0,zy z6 0,zy z6 0,zy z6 0,zy z6 0,zy z6 0,zy z6 0,zy z6 0,zy z6 0,zy z6 0,zy z6 0,zy z6 0,zy z6 0,zy z6 0,zy z6 0,zy z6 0,zy z6 0,zy z6 0,zy z6 0,zy z6 0,zy z6 0,zy z6 0,zy z6 0,zy z6 0,zy z6 0,.slice none 0 0]
def zw1:Value := .agg #[.string ⟨#[]⟩,zy z6 0,zy z6 0,zy z6 0,zy z6 0,zy z6 0,zy z6 0,zy z6 0,zy z6 0,zy z6 0,zy z6 0,zy z6 0,zy z6 0,zy z6 0,zy z6 0,zy z6 0,zy z6 0,zy z6 0,zy z6 0,zy z6 0,zy z6 0,zy z6 0,zy z6 0,zy z6 0,zy z6 0,zy z6 0,zy z6 0,zy z6 0,zy z6 0,zy z6 0,zy z6 0,zy z6 0,zy z6 0,zy z6 0,zy z6 0,zy z6 0,zy z6 0,zy z6 0,zy z6 0,zy z6 0,zy z6 0,zy z6 0,zy z6 0,zy z6 0,zy z6 0,zy z6 0,zy z6 0,zy z6 0,zy z6 0,zy z6 0,zy z6 0,zy z6 0,zy z6 0,zy z6 0,zy z6 0,zy z6 0,zy z6 0,zy z6 0,zy z6 0,zy z6 0,zy z6 0,zy z6 0,zy z6 0,zy z6 0,zy z6 0,zy z6 0,zy z6 0,zy z6 0,zy z6 0,zy z6 0,zy z6 0,zy z6 0,zy z6 0,zy z6 0,zy z6 0,zy z6 0,zy z6 0,zy z6 0,zy z6 0,zy z6 0,zy z6 0,zy z6 0,zy z6 0,zy z6 0,zy z6 0,zy z6 0,zy z6 0,zy z6 0,zy z6 0,zy z6 0,zy z6 0,zy z6 0,zy z6 0,zy z6 0,zy z6 0,zy z6 0,zy z6 0]
variable [OldK]
section
variable {H:Type} {enc:TypeId × Value→H} {w:World}
theorem zoq (hK:w.heap.size≤OldK.k){base:Nat}{v:Value}{d:DataW H}{p:List MemPlace}(hval:Value.okWide ze w .any base 39 v)(h:DataW.Trod enc ze w 0 (fun _=>true) true 39 v d p):∃ (e:En) (pv sv:Value),EnIn w e pv sv∧v = .agg (e.cells pv sv).toArray:=by
 obtain⟨cs,rfl,hsz⟩:=okWide_struct Tryz.underlying39 hval;obtain⟨fuel,hf⟩:=h;obtain⟨e,pv,sv,he,hc⟩:=zjj hK hf;exact⟨e,pv,sv,he,by rw[← hc];simp[Value.cells]⟩
theorem zse {base:Nat}{v:Value}{d:DataW H}{p:List MemPlace}(hval:Value.okWide ze w .any base 54 v)(h:DataW.Trod enc ze w 0 (fun _=>true) true 54 v d p):∃ s:Sg,s.ok∧v = .agg s.cells:=by
 obtain⟨cs,rfl,hsz⟩:=okWide_struct Tryz.underlying54 hval;obtain⟨fuel,hf⟩:=h;obtain⟨s,hs,hc⟩:=zho hf;exact⟨s,hs,by rw[show s.cells=s.cells.toList.toArray by simp,← hc];simp[Value.cells]⟩
end
end
end Go.Proofs.YtcddlemkimbkcaaGreatDoor
