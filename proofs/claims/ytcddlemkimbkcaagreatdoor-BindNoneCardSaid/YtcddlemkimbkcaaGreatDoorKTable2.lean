/-
 How a table of identities' keys (package bind) lies in memory.
-/
import Derived.Test.YtcddlemkimbkcaaGreatDoorKSpecBind
import Derived.Test.YtcddlemkimbkcaaGreatDoorKEnAt
import Derived.Test.YtcddlemkimbkcaaGreatDoorKSigEq
import Derived.WideKeyEntry
import Derived.Maps.AppendAt
import Derived.Great.Walk
open Go.Lib renaming hid→za,byteCells→zb
open Go.Proofs.Tryz renaming prog→ze
open Go.Value renaming int→zy
open Go.IntKind renaming u8→z6
namespace Go.Proofs.YtcddlemkimbkcaaGreatDoor
set_option linter.unusedVariables false
set_option linter.unusedSimpArgs false
set_option linter.unusedSectionVars false
set_option maxRecDepth 100000
set_option maxHeartbeats 2000000
section
open Go.RowKit
variable [OldK]
theorem zj1:laidOutB ze=true:=by kernel_rfl
theorem zlm:Tryz.prog.cellsOf 5=1:=by kernel_rfl
theorem zj2:Tryz.prog.cellsOf 24=32:=by kernel_rfl
def zf3:KeyB ze 9:=zvt Tryz.underlying9
def zsx:KeyB ze 24:=zwx (n:=32) zj1 z7 Tryz.underlying5 zlm zj2 (by kernel_rfl) (by kernel_rfl) (of_decide_eq_true (by kernel_rfl))
def Chg.cells (c:Chg):List Value:=[.int .i64 c.pos,.bool c.has]++zb c.key
def Chg.ok (c:Chg):Prop:=c.key.length=32
theorem Chg.size {c:Chg}(h:c.ok):c.cells.length=34:=by simp[Chg.cells,zb,h.symm▸(rfl:c.key.length=c.key.length),show c.key.length=32 from h]
theorem Chg.one (c:Chg):c.cells.toArray.all (·.oneCell')=true:=by
 refine all_oneCell_toArray (fun v hv=>?_);unfold Chg.cells at hv;simp only[List.mem_append,List.mem_cons,List.not_mem_nil,or_false]at hv;rcases hv with(rfl | rfl) | hv
 all_goals first | rfl | exact j0 _ _ hv
def zf4 (g:Bs→Option Value) (x:Bs):Value:=(g x).getD (.slice none 0 0)
structure TBL (base tb n bc bl:Nat) (t:Tb) (g lv:Bs→Option Value) (w:World):Prop where
 old:OldK.k≤base
 cells:w.heap[tb]? = some (.cells #[.map (some bc),.map (some bl)] 115 (0,0))
 low:base≤tb∧base≤bc∧base≤bl∧bc≠bl
 ch:MapB zf3 w bc n g
 li:MapB zsx w bl (2 * n) lv
 life:∀ k:Bs,k.length=32→(lv k).getD (.int .i64 0) = .int .i64 (t.life k)
 rows:∀ x:Bs,x.length≤maxLen→w.ownsRow base 117 34 (zf4 g x) (t.hist x).length ((t.hist x).flatMap Chg.cells)
 apart:∀ x y:Bs,x.length≤maxLen→y.length≤maxLen→x≠y→(zf4 g x).ownBlock=none∨(zf4 g x).ownBlock≠(zf4 g y).ownBlock
 few:∀ x,(t.hist x).length≤n
 keys:∀ x,∀ c∈t.hist x,c.ok
theorem zaj {M:Nat→Obj→Prop}{base e size n:Nat}{v:Value}{xs:List Value}{w w':World}(h:w.ownsRow base e size v n xs)(hF:Fr M w w')(hM:∀ k o,base≤k→OfTy e o→¬ M k o):w'.ownsRow base e size v n xs:=by
 refine⟨h.1,h.2.imp id ?_⟩;rintro⟨g,hB,hA,h1,h2,h3,h4⟩;exact⟨g,hB,hA,h1,h2,hF.block _ _ h3 (hM _ _ h2 ⟨_,_,rfl⟩),h4⟩
theorem MapB.fr {M:Nat→Obj→Prop}{k:TypeId}{K:KeyB ze k}{w w':World}{b n:Nat}{m:Bs→Option Value}(h:MapB K w b n m)(hF:Fr M w w')(hM:∀ o,¬ M b o):MapB K w' b n m:=by
 obtain⟨D,⟨es,hA,h0,h1⟩,h2⟩:=h;exact⟨D,⟨es,hA,hF.block _ _ h0 (hM _),h1⟩,h2⟩
theorem TBL.fr {M:Nat→Obj→Prop} {base tb n bc bl:Nat} {t:Tb} {g lv:Bs→Option Value} {w w':World} (h:TBL base tb n bc bl t g lv w) (hF:Fr M w w')
 (hM:∀ k o,(k=tb∨k=bc∨k=bl∨(base≤k∧OfTy 117 o))→¬ M k o):TBL base tb n bc bl t g lv w' :=
 ⟨h.old,hF.block _ _ h.cells (hM _ _ (.inl rfl)),h.low,h.ch.fr hF (fun o=>hM _ _ (.inr (.inl rfl))),h.li.fr hF (fun o=>hM _ _ (.inr (.inr (.inl rfl)))),h.life,
  fun x hx=>zaj (h.rows x hx) hF (fun k o hk ho=>hM _ _ (.inr (.inr (.inr ⟨hk,ho⟩)))),h.apart,h.few,h.keys⟩
theorem TBL.keep {base tb n bc bl:Nat}{t:Tb}{g lv:Bs→Option Value}{w w':World}(h:TBL base tb n bc bl t g lv w)(hF:Fr NoB w w'):TBL base tb n bc bl t g lv w':=h.fr hF (fun _ _ _ h=>h)
section
variable {base tb n bc bl:Nat} {t:Tb} {g lv:Bs→Option Value} {w:World}
theorem TBL.at (h:TBL base tb n bc bl t g lv w):w.cell? ⟨tb,0,none⟩=some (.map (some bc))∧w.cell? ⟨tb,1,none⟩=some (.map (some bl)):=by
 have hc:=h.cells;exact⟨by simp[World.cell?,hc],by simp[World.cell?,hc]⟩
theorem zbj (w:World):(zeroValue 110).run ze w = .ok (.slice none 0 0) w:=by kernel_rfl
theorem zjz (w:World):(zeroValue 119).run ze w = .ok (.int .i64 0) w:=by kernel_rfl
theorem TBL.lookC (h:TBL base tb n bc bl t g lv w){x:Bs}(hx:x.length≤maxLen):(Instr.lookup 112 (.map (some bc)) (.string ⟨x.toArray⟩) false).run ze w = .ok (zf4 g x) w :=
 h.ch.look (K:=zf3) Tryz.underlying112 (zbj w) hx
theorem TBL.lookL (h:TBL base tb n bc bl t g lv w){k:Bs}(hk:k.length=32):(Instr.lookup 113 (.map (some bl)) (.agg (zb k).toArray) false).run ze w = .ok (.int .i64 (t.life k)) w:=by
 rw[← h.life k hk];exact h.li.look (K:=zsx) Tryz.underlying113 (zjz w) hk
end
theorem j9:(Tryz.prog.info? 117).map (·.size)=some 34:=by kernel_rfl
theorem zdp:∃ d,Tryz.prog.underlying 117=some d∧d.isRow=true:=⟨_,Tryz.underlying117,rfl⟩
theorem zwd {base tb n bc bl:Nat} {t:Tb} {g lv:Bs→Option Value} (k:Bs) (w:World) (h:TBL base tb n bc bl t g lv w) (hk:k.length=32) :
 Calls ze 67 #[.pointer (some ⟨tb,0,none⟩),.agg (zb k).toArray] w fun e w'=>e = .returned (.int .i64 (t.life k))∧Fr NoB w w':=by
 have hA:=heap_alloc_new w (.cells (zb k).toArray 24);have hF:Fr NoB w (w.alloc (.cells (zb k).toArray 24)):=Fr.refl.alloc _;have hT:=h.keep hF;have hR:=jg hA;rw[List.toList_toArray]at hR;have hZ:(Tryz.prog.info? 24).map (·.size)=some (zb k).length:=by rw[jb,ja,hk]
 obtain⟨L,hL⟩:∃ L,t.life k=L:=⟨_,rfl⟩;obtain⟨t0,t1⟩:=hT.at;have hD:=(hT.keep Fr.refl.drew).lookL hk;rw[hL]at hD;rw[hL];obtain⟨C,hC⟩:∃ C,zb k=C:=⟨_,rfl⟩;rw[hC]at hR hF hZ hD t0 t1;rw[hC];clear hA h hT hk hL hC;go_enter Tryz.func67,Tryz.ntmps67
 go_upto_region 1 with(fail)
 change Code.wp _ _ _ _ (w.alloc (.cells C.toArray 24));obtain⟨W,hW⟩:∃ W,w.alloc (.cells C.toArray 24)=W:=⟨_,rfl⟩;rw[hW]at hR hF hD t0 t1 ⊢;obtain⟨p,hp⟩:∃ p,w.heap.size=p:=⟨_,rfl⟩;rw[hp]at hR ⊢;clear hW hp;have HR:=za hR;have HF:=za hF;have HZ:=za hZ;clear hR hF hZ
 go_upto_region 3 with(fail)
 refine wp_region_held_drew (S:=fun V=>V=W.drew) (by kernel_rfl) rfl (fun hB=>?_);simp only[qV]
 iterate 4
  refine qt (v:=?_) rfl (Or.inl ⟨by rfl,?_⟩) hB ?_;rotate_left
  ·intro W hE;obtain rfl:=hE
   try simp only[qQ]
   go_simp
   try rw[if_neg (by omega)]
   try with_reducible rfl
  try simp only[Act.put,qP]
 refine qi (i:=4) rfl (yieldsIf_load_mid (by rfl) 24 _ rfl p 0 rfl C (.array 32 5) (fun V h=>by rw[h];exact(World.rangeAt_drew _ _ _ _).2 HR.out) z7 rfl HZ.out) hB ?_
 try simp only[Act.put,qP]
 iterate 2
  refine qt (v:=?_) rfl (Or.inl ⟨by rfl,?_⟩) hB ?_;rotate_left
  ·intro W hE;obtain rfl:=hE
   try simp only[qQ]
   go_simp
   try rw[if_neg (by omega)]
   try with_reducible rfl
  try simp only[Act.put,qP]
 refine wpAnyH_done (by kernel_rfl) ?_ _;clear hB
 go_wp2_with fail
 go_ret;exact⟨rfl,HF.out.drew⟩
theorem zu2 (l:List Chg) (hk:∀ c∈l,c.ok):∀ i c,l[i]? = some c→∀ j v,c.cells[j]? = some v→(l.flatMap Chg.cells)[i * 34+j]? = some v:=by
 induction l with
 | nil=>intro i c hi;cases hi
 | cons x l ih =>
   intro i c hi j v hv;have hx:=Chg.size (hk x (by simp));rw[List.flatMap_cons];cases i with
   | zero =>
     obtain rfl:x=c:=by simpa using hi
     rw [Nat.zero_mul,Nat.zero_add,List.getElem?_append_left (by
      have:=(List.getElem?_eq_some_iff.1 hv).1
      exact this)]
     exact hv
   | succ i =>
     rw[List.getElem?_append_right (by rw[hx];omega),hx,show(i+1) * 34+j - 34=i * 34+j by omega];exact ih (fun c hc=>hk c (by simp[hc])) i c (by simpa using hi) j v hv
theorem zmb {w:World}{base g n cap:Nat}{l:List Chg}(h:w.ownsRow base 117 34 (.slice (some ⟨g,0,none⟩) n cap) l.length (l.flatMap Chg.cells))(hk:∀ c∈l,c.ok)(i:Nat)(c:Chg)(hi:l[i]? = some c):w.rangeAt g (i * 34) c.cells:=by
 intro j v hv;have:=h.cells (g:=g) rfl (i * 34+j) v (zu2 l hk i c hi j v hv);rw[Addr.add_lit]at this;rw[Nat.zero_add]at this;exact this
theorem zfi {w:World}{base n:Nat}{v:Value}{xs:List Value}(h:w.ownsRow base 117 34 v n xs):(v = .slice none 0 0∧n=0)∨∃ g cap,v = .slice (some ⟨g,0,none⟩) n cap∧base≤g∧g<w.heap.size∧n≤cap∧cap≤maxLen:=by
 rcases h.2 with h | ⟨g,cap,cur,h1,h2,h3,h4,h5,-⟩
 ·exact .inl h
 exact .inr ⟨g,cap,h1,h2,jq h3,h4,h5⟩
theorem ztu {base tb n bc bl:Nat} {t:Tb} {g lv:Bs→Option Value} (x:Bs) (w:World) (h:TBL base tb n bc bl t g lv w) (hx:x.length≤maxLen) :
 Calls ze 66 #[.pointer (some ⟨tb,0,none⟩),.string ⟨x.toArray⟩] w fun e w'=>e = .returned (.agg (t.last x).cells.toArray)∧Fr NoB w w':=by
 have hA:=heap_alloc_new w (.cells #[.int .i64 0,.bool false,zy z6 0,zy z6 0,zy z6 0,zy z6 0,zy z6 0,zy z6 0,zy z6 0,zy z6 0,zy z6 0,zy z6 0,zy z6 0,zy z6 0,zy z6 0,zy z6 0,zy z6 0,zy z6 0,zy z6 0,zy z6 0,zy z6 0,zy z6 0,zy z6 0,zy z6 0,zy z6 0,zy z6 0,zy z6 0,zy z6 0,zy z6 0,zy z6 0,zy z6 0,zy z6 0,zy z6 0,zy z6 0] 117);have hF:Fr NoB w (w.alloc (.cells #[.int .i64 0,.bool false,zy z6 0,zy z6 0,zy z6 0,zy z6 0,zy z6 0,zy z6 0,zy z6 0,zy z6 0,zy z6 0,zy z6 0,zy z6 0,zy z6 0,zy z6 0,zy z6 0,zy z6 0,zy z6 0,zy z6 0,zy z6 0,zy z6 0,zy z6 0,zy z6 0,zy z6 0,zy z6 0,zy z6 0,zy z6 0,zy z6 0,zy z6 0,zy z6 0,zy z6 0,zy z6 0,zy z6 0,zy z6 0] 117)):=Fr.refl.alloc _;have hT:=h.keep hF;obtain⟨t0,t1⟩:=hT.at;have hD:=hT.lookC hx;have hC:=hT.rows x hx;have hB:=hT.keys x;unfold Tb.last;obtain⟨l,hl⟩:∃ l,t.hist x=l:=⟨_,rfl⟩;obtain⟨V,hV⟩:∃ V,zf4 g x=V:=⟨_,rfl⟩;rw[hl]at hC hB;rw[hl];rw[hV]at hC hD;obtain⟨d,hu,hd⟩:=zdp;have hH:=jr hA (n:=34) (by show 34≤34;omega);have hJ:w.heap.size<(w.alloc (.cells #[.int .i64 0,.bool false,zy z6 0,zy z6 0,zy z6 0,zy z6 0,zy z6 0,zy z6 0,zy z6 0,zy z6 0,zy z6 0,zy z6 0,zy z6 0,zy z6 0,zy z6 0,zy z6 0,zy z6 0,zy z6 0,zy z6 0,zy z6 0,zy z6 0,zy z6 0,zy z6 0,zy z6 0,zy z6 0,zy z6 0,zy z6 0,zy z6 0,zy z6 0,zy z6 0,zy z6 0,zy z6 0,zy z6 0,zy z6 0] 117)).heap.size:=by rw[World.size_alloc];omega
 clear hT h hl hV hA;obtain⟨c,hc⟩:∃ c,lastC l=c:=⟨_,rfl⟩
 have hE:c.ok:=by
  rw[← hc];unfold lastC;cases hq:l.getLast? with
  | none=>rfl
  | some c=>exact hB c (List.mem_of_getLast? hq)
 rw[hc];have Hsz:=za (show(Tryz.prog.info? 117).map (·.size)=some c.cells.toArray.size by rw[j9,List.size_toArray,Chg.size hE]);have Hsl:=za (show(Tryz.prog.info? 117).map (·.size)=some c.cells.length by rw[j9,Chg.size hE]);have H1:=za (Chg.one c);have Hcl:Hid (c.cells.toArray.size=34):=za (by rw[List.size_toArray,Chg.size hE]);rw[← Hcl.out]at hH;have HT:=za hH;clear hH;have Hu:=za hu;have Hd:=za hd
 have hI:∀ (V:World) (p:Nat) (tm:Array Value),tm.getD 4 undef = .pointer (some ⟨p,0,none⟩)→V.rangeAt p 0 c.cells→(results Tryz.f66 tm).run ze V = .ok (.agg c.cells.toArray) V:=fun V p tm hL hr=>by
  rw[qg rfl,hL];have:=run_loadVar_mid (P:=ze) V p 0 117 c.cells d hr Hu.out Hd.out Hsl.out;simp[asAddr,Result.andThen,this]
 have Hres:=za hI;clear hu hd hI;rcases Nat.eq_zero_or_pos l.length with h0 | hpos
 ·obtain rfl:l=[]:=List.length_eq_zero_iff.1 h0;obtain rfl:Chg.zero=c:=hc
  obtain ⟨a,hG,rfl⟩:∃ a hG,V = .slice a 0 hG:=by
   rcases zfi hC with⟨rfl,-⟩ | ⟨g',hG,rfl,-⟩
   ·exact⟨_,_,rfl⟩
   exact⟨_,_,rfl⟩
  clear hC hB;go_enter Tryz.func66,Tryz.ntmps66
  go_upto_region 1 with(fail)
  change Code.wp _ _ _ _ (w.alloc (.cells #[.int .i64 0,.bool false,zy z6 0,zy z6 0,zy z6 0,zy z6 0,zy z6 0,zy z6 0,zy z6 0,zy z6 0,zy z6 0,zy z6 0,zy z6 0,zy z6 0,zy z6 0,zy z6 0,zy z6 0,zy z6 0,zy z6 0,zy z6 0,zy z6 0,zy z6 0,zy z6 0,zy z6 0,zy z6 0,zy z6 0,zy z6 0,zy z6 0,zy z6 0,zy z6 0,zy z6 0,zy z6 0,zy z6 0,zy z6 0] 117));obtain⟨W,hW⟩:∃ W,w.alloc (.cells #[.int .i64 0,.bool false,zy z6 0,zy z6 0,zy z6 0,zy z6 0,zy z6 0,zy z6 0,zy z6 0,zy z6 0,zy z6 0,zy z6 0,zy z6 0,zy z6 0,zy z6 0,zy z6 0,zy z6 0,zy z6 0,zy z6 0,zy z6 0,zy z6 0,zy z6 0,zy z6 0,zy z6 0,zy z6 0,zy z6 0,zy z6 0,zy z6 0,zy z6 0,zy z6 0,zy z6 0,zy z6 0,zy z6 0,zy z6 0] 117)=W:=⟨_,rfl⟩;rw[hW]at hF HT hD t0 t1 hJ ⊢;obtain⟨p,hp⟩:∃ p,w.heap.size=p:=⟨_,rfl⟩;rw[hp]at HT hJ ⊢;have Hp:=za hp;have HF:=za hF;clear hW hp hF
  go_wp2_with (first
   | ((with_reducible refine wpList_buildTo ?_ 117 _ rfl _ rfl Chg.zero.cells.toArray ?_ ?_);rfl;kernel_rfl)
   | (with_reducible refine wpList_store_mid rfl 117 _ _ rfl p 0 Chg.zero.cells.toArray rfl rfl HT.out Hsz.out H1.out ?_))
  refine bodyPost_ret (v := .agg Chg.zero.cells.toArray) ?_ rfl ⟨rfl,HF.out.trans (jd _ _ _ _) (fun k _ hm => .inr (by have:=Hp.out;omega))⟩;exact Hres.out _ p _ rfl (World.rangeAt_setCells_same W p 0 _ (by simpa using HT.out))
 obtain ⟨g',hG,rfl,-,hN,hM,hO⟩:∃ g' hG,V = .slice (some ⟨g',0,none⟩) l.length hG∧base≤g'∧g'<(w.alloc (.cells #[.int .i64 0,.bool false,zy z6 0,zy z6 0,zy z6 0,zy z6 0,zy z6 0,zy z6 0,zy z6 0,zy z6 0,zy z6 0,zy z6 0,zy z6 0,zy z6 0,zy z6 0,zy z6 0,zy z6 0,zy z6 0,zy z6 0,zy z6 0,zy z6 0,zy z6 0,zy z6 0,zy z6 0,zy z6 0,zy z6 0,zy z6 0,zy z6 0,zy z6 0,zy z6 0,zy z6 0,zy z6 0,zy z6 0,zy z6 0] 117)).heap.size∧l.length≤hG∧hG≤maxLen:=by
  rcases zfi hC with⟨-,h⟩ | h
  ·omega
  exact h
 have hK:l[l.length - 1]? = some c:=by
  rw[← List.getLast?_eq_getElem?];rw[← hc];unfold lastC;cases hq:l.getLast? with
  | none =>
    rw[List.getLast?_eq_none_iff]at hq;subst hq;simp at hpos
  | some c=>rfl
 have HR:=za (zmb hC hB _ _ hK);obtain⟨n,hn⟩:∃ n,l.length=n+1:=⟨l.length - 1,by omega⟩;rw[hn]at HR hM hD hpos;rw[Nat.add_sub_cancel]at HR;clear hC hB hc hE hK hpos hn;unfold maxLen at hO;have hnm:IntKind.i64.wrap (((n+1:Nat):Int) - 1)=(n:Int):=by rw[show((n+1:Nat):Int) - 1=(n:Int) by omega];rw[IntKind.wrap_i64];omega
 have hnlt:(n:Int)<((n+1:Nat):Int):=by omega
 go_enter Tryz.func66,Tryz.ntmps66
 go_upto_region 1 with(fail)
 change Code.wp _ _ _ _ (w.alloc (.cells #[.int .i64 0,.bool false,zy z6 0,zy z6 0,zy z6 0,zy z6 0,zy z6 0,zy z6 0,zy z6 0,zy z6 0,zy z6 0,zy z6 0,zy z6 0,zy z6 0,zy z6 0,zy z6 0,zy z6 0,zy z6 0,zy z6 0,zy z6 0,zy z6 0,zy z6 0,zy z6 0,zy z6 0,zy z6 0,zy z6 0,zy z6 0,zy z6 0,zy z6 0,zy z6 0,zy z6 0,zy z6 0,zy z6 0,zy z6 0] 117));obtain⟨W,hW⟩:∃ W,w.alloc (.cells #[.int .i64 0,.bool false,zy z6 0,zy z6 0,zy z6 0,zy z6 0,zy z6 0,zy z6 0,zy z6 0,zy z6 0,zy z6 0,zy z6 0,zy z6 0,zy z6 0,zy z6 0,zy z6 0,zy z6 0,zy z6 0,zy z6 0,zy z6 0,zy z6 0,zy z6 0,zy z6 0,zy z6 0,zy z6 0,zy z6 0,zy z6 0,zy z6 0,zy z6 0,zy z6 0,zy z6 0,zy z6 0,zy z6 0,zy z6 0] 117)=W:=⟨_,rfl⟩;rw[hW]at hF HT hD t0 t1 hJ hN HR ⊢;obtain⟨p,hp⟩:∃ p,w.heap.size=p:=⟨_,rfl⟩;rw[hp]at HT hJ ⊢;have Hp:=za hp;have HF:=za hF;clear hW hp hF;have hnz:(((n+1:Nat):Int)==0)=false:=by simp;omega
 go_wp2_with (first
  | (with_reducible refine wpList_load_mid rfl 117 _ rfl g' (n * 34) rfl c.cells d HR.out Hu.out Hd.out Hsl.out ?_)
  | (with_reducible refine wpList_store_mid rfl 117 _ _ rfl p 0 c.cells.toArray rfl rfl HT.out Hsz.out H1.out ?_))
 refine bodyPost_ret (v := .agg c.cells.toArray) ?_ rfl ⟨rfl,HF.out.trans (jd _ _ _ _) (fun k _ hm => .inr (by have:=Hp.out;omega))⟩;exact Hres.out _ p _ rfl (World.rangeAt_setCells_same W p 0 _ (by simpa using HT.out))
theorem TBL.lastok {base tb n bc bl:Nat}{t:Tb}{g lv:Bs→Option Value}{w:World}(h:TBL base tb n bc bl t g lv w)(x:Bs):(t.last x).ok:=by
 unfold Tb.last lastC;cases hq:(t.hist x).getLast? with
 | none=>rfl
 | some c=>exact h.keys x c (List.mem_of_getLast? hq)
structure TL (tv:Value) (t:Tb) (w:World):Prop where
 lastC:∀ (x:Bs) (V:World),Fr NoB w V→x.length≤maxLen→Calls ze 66 #[tv,.string ⟨x.toArray⟩] V fun e w'=>e = .returned (.agg (t.last x).cells.toArray)∧Fr NoB V w'
 lifeC:∀ (k:Bs) (V:World),Fr NoB w V→k.length=32→Calls ze 67 #[tv,.agg (zb k).toArray] V fun e w'=>e = .returned (.int .i64 (t.life k))∧Fr NoB V w'
 lastok:∀ x,(t.last x).ok
theorem TL.keep {tv:Value}{t:Tb}{w w':World}(h:TL tv t w)(hF:Fr NoB w w'):TL tv t w' :=
 ⟨fun x V hV=>h.lastC x V (hF.trans' hV),fun k V hV=>h.lifeC k V (hF.trans' hV),h.lastok⟩
theorem TBL.tl {base tb n bc bl:Nat}{t:Tb}{g lv:Bs→Option Value}{w:World}(h:TBL base tb n bc bl t g lv w):TL (.pointer (some ⟨tb,0,none⟩)) t w :=
 ⟨fun x V hV hx=>ztu x V (h.keep hV) hx,fun k V hV hk=>zwd k V (h.keep hV) hk,h.lastok⟩
structure TV (tv:Value) (t:Tb) (w:World):Prop extends TL tv t w where
 histC:∀ (x:Bs) (V:World),Fr NoB w V→x.length≤maxLen→Calls ze 65 #[tv,.string ⟨x.toArray⟩] V fun e w'=>∃ v',e = .returned v'∧w'.ownsRow V.heap.size 117 34 v' (t.hist x).length ((t.hist x).flatMap Chg.cells)∧Fr NoB V w'
 few:∀ x,(t.hist x).length≤1000000
 keys:∀ x,∀ c∈t.hist x,c.ok
theorem TV.keep {tv:Value}{t:Tb}{w w':World}(h:TV tv t w)(hF:Fr NoB w w'):TV tv t w' :=
 ⟨h.toTL.keep hF,fun x V hV=>h.histC x V (hF.trans' hV),h.few,h.keys⟩
end
section
variable [OldK]
section
open Go.ChangeShapes Go.WideShapes Go.MapKept Go.ChangeMaps
open Go.WideMaps (KeyLaw)
open Go.WideElems
variable {H:Type} {P:Program} {w:World} {t k e:TypeId} {R:Value→Option (DataW H × List MemPlace)} {b:Nat} {es:Array MapEntry} {clock:Nat}
end
section
variable {P:Program} {k t e:TypeId} {K:KeyB P k} {w:World} {b n:Nat} {M:Bs→Option Value}
theorem MapB.entry (h:MapB K w b n M) (hK:WideMaps.KeyLaw P k) (ht:P.underlying t=some (.map k e)) {z:Value} (hz:∀ u:World,(zeroValue e).run P u = .ok z u) (hn:n<maxLen) {x:Bs} (hx:K.dom x) :
 ∃ (v0:Value) (st:Nat) (w1:World),(Instr.mapEntry t (.map (some b)) (K.kv x)).run P w = .ok (.tuple #[v0,goInt st]) w1∧w.grownBy w1 (some b) ∧
  ∀ (w2:World) (v:Value),w1.grownBy w2 none→∃ w3,(Instr.entryStore t (.map (some b)) (goInt st) v).run P w2 = .ok () w3∧MapB K w3 b (n+1) (upd M x (some v))∧w2.grownBy w3 (some b):=by
 obtain⟨D,⟨es,hC,hb,F,hs,hD⟩,hd⟩:=h;have hM:b<w.heap.size:=(Array.getElem?_eq_some_iff.1 hb).1;obtain⟨v0,st,hG,hA,h1,-,h2⟩:=Go.WideElems.entry_then_store hK ht hz hb F (K.key x hx);have hH:w.grownBy (ChangeMaps.setBlock w b (.map hG hA)) (some b):=⟨rfl,rfl,rfl,by simp[ChangeMaps.setBlock],fun i _ hi=>ChangeMaps.heap_setBlock_other hb _ (fun e=>hi (by rw[e]))⟩;refine⟨v0,st,_,h1,hH,fun w2 v hJ=>?_⟩;have hN:=ChangeMaps.heap_setBlock_same hb (.map hG hA);have hF:w2.heap[b]? = some (.map hG hA):=(hJ.block b (Nat.lt_of_lt_of_le hM hH.size) (by simp)).trans hN;obtain⟨hQ,hB,h3,h4⟩:=h2 w2 v hF;have hm:MapB K w b n M:=⟨D,⟨es,hC,hb,F,hs,hD⟩,hd⟩;obtain⟨w',h5,⟨D',⟨es2,cl2,hE,hO,hI,hP⟩,hL⟩,-⟩:=hm.store ht hn hx v;rw[h4]at h5
 injection h5 with _ h5
 subst h5;rw[ChangeMaps.heap_setBlock_same hb]at hE
 injection hE with hE
 injection hE with e1 e2
 subst e1 e2;exact⟨_,h3,⟨D',⟨hQ,hB,ChangeMaps.heap_setBlock_same hF _,hO,hI,hP⟩,hL⟩,⟨rfl,rfl,rfl,by simp[ChangeMaps.setBlock],fun i _ hi=>ChangeMaps.heap_setBlock_other hF _ (fun e=>hi (by rw[e]))⟩⟩
end
end
section
open Go.RowKit
variable [OldK]
structure TBC (base tb n bc bl:Nat) (hist:Bs→List Chg) (g:Bs→Option Value) (w:World):Prop where
 old:OldK.k≤base
 cells:w.heap[tb]? = some (.cells #[.map (some bc),.map (some bl)] 115 (0,0))
 low:base≤tb∧base≤bc∧base≤bl∧bc≠bl
 ch:MapB zf3 w bc n g
 rows:∀ x:Bs,x.length≤maxLen→w.ownsRow base 117 34 (zf4 g x) (hist x).length ((hist x).flatMap Chg.cells)
 apart:∀ x y:Bs,x.length≤maxLen→y.length≤maxLen→x≠y→(zf4 g x).ownBlock=none∨(zf4 g x).ownBlock≠(zf4 g y).ownBlock
 few:∀ x,(hist x).length≤n
 keys:∀ x,∀ c∈hist x,c.ok
section
variable {base tb n bc bl:Nat} {t:Tb} {hist:Bs→List Chg} {g lv:Bs→Option Value} {w w':World}
theorem TBL.toC (h:TBL base tb n bc bl t g lv w):TBC base tb n bc bl t.hist g w:=⟨h.old,h.cells,h.low,h.ch,h.rows,h.apart,h.few,h.keys⟩
theorem TBC.toL (h:TBC base tb n bc bl hist g w){life:Bs→Int}(hl:MapB zsx w bl (2 * n) lv)(hk:∀ k:Bs,k.length=32→(lv k).getD (.int .i64 0) = .int .i64 (life k)):TBL base tb n bc bl ⟨hist,life⟩ g lv w :=
 ⟨h.old,h.cells,h.low,h.ch,hl,hk,h.rows,h.apart,h.few,h.keys⟩
theorem TBC.fr {M:Nat→Obj→Prop}(h:TBC base tb n bc bl hist g w)(hF:Fr M w w')
 (hM:∀ k o,(k=tb∨k=bc∨(base≤k∧OfTy 117 o))→w.heap[k]? = some o→¬ M k o):TBC base tb n bc bl hist g w':=by
 obtain⟨D,⟨es,hA,h0,h1⟩,h2⟩:=id h.ch;refine⟨h.old,hF.block _ _ h.cells (hM _ _ (.inl rfl) h.cells),h.low,⟨D,⟨es,hA,hF.block _ _ h0 (hM _ _ (.inr (.inl rfl)) h0),h1⟩,h2⟩,fun x hx=>?_,h.apart,h.few,h.keys⟩;have hr:=h.rows x hx;refine⟨hr.1,hr.2.imp id ?_⟩;rintro⟨g',hC,hB,e1,e2,e3,e4⟩;exact⟨g',hC,hB,e1,e2,hF.block _ _ e3 (hM _ _ (.inr (.inr ⟨e2,_,_,rfl⟩)) e3),e4⟩
theorem TBC.apartB {m:Nat}(h:TBC base tb n bc bl hist g w)(hl:MapB zsx w bl m lv):tb≠bl∧tb≠bc:=by
 obtain⟨D,⟨es,clock,h0,h1⟩,h2⟩:=id h.ch;obtain⟨D',⟨es',clock',hA,h1'⟩,h2'⟩:=id hl;have hc:=h.cells;constructor
 ·rintro rfl;rw[hc]at hA;cases hA
 rintro rfl;rw[hc]at h0;cases h0
theorem TBC.push (h:TBC base tb n bc bl hist g w) {x:Bs} (hx:x.length≤maxLen) {c:Chg} (hc:c.ok) {wA w1 w2:World} {v':Value} (hA:Fr NoB w wA)
 (hown:w1.ownsRow base 117 34 v' ((hist x).length+1) ((hist x).flatMap Chg.cells++c.cells)) (hg1:wA.grownBy w1 (zf4 g x).ownBlock) (hloc:v'.ownBlock=(zf4 g x).ownBlock∨v'.ownBlock=some wA.heap.size)
 (hm:MapB zf3 w2 bc (n+1) (upd g x (some v'))) (hg2:w1.grownBy w2 (some bc)):TBC base tb (n+1) bc bl (upd hist x (hist x++[c])) (upd g x (some v')) w2:=by
 obtain⟨D,⟨es,clock,h0,-⟩,-⟩:=id h.ch;have hK:=h.rows x hx;have hAb:=hA.size
 -- an old block but the slice's own stays
 have hC:∀ k o,w.heap[k]? = some o→some k≠(zf4 g x).ownBlock→k≠bc→w2.heap[k]? = some o:=fun k o hk h1 h2=>by
  have e1:=hA.block k o hk (fun h=>h);have e2:=(hg1.block k (jq e1) h1).trans e1;exact(hg2.block k (jq e2) (fun e=>h2 (Option.some.inj e))).trans e2
 have hD:∀ {v:Value} {m:Nat} {xs:List Value},w1.ownsRow base 117 34 v m xs→w2.ownsRow base 117 34 v m xs:=fun {v m xs} ho=>by
  refine⟨ho.1,ho.2.imp id ?_⟩;rintro⟨g',hI,hH,e1,e2,e3,e4⟩;refine⟨g',hI,hH,e1,e2,(hg2.block _ (jq e3) (fun e=>?_)).trans e3,e4⟩
  -- a row is no map
  obtain rfl:=Option.some.inj e;have hb:=hA.block _ _ h0 (fun h=>h)
  have hB:some g'≠(zf4 g x).ownBlock:=fun e5=>by
   rcases hK.2 with⟨e6,-⟩ | ⟨g6,cap6,cur6,e6,-,e7,-⟩
   ·rw[e6]at e5;cases e5
   rw[e6]at e5;obtain rfl:g'=g6:=by simpa[Value.ownBlock] using e5
   rw[h0]at e7;cases e7
  have hL:=(hg1.block _ (jq hb) hB).trans hb;rw[hL]at e3;cases e3
 have gx:zf4 (upd g x (some v')) x=v':=by unfold zf4;rw[za2];rfl
 have gy:∀ y,y≠x→zf4 (upd g x (some v')) y=zf4 g y:=fun y hy=>by unfold zf4;rw[qj _ _ hy]
 have hE:∀ y,y.length≤maxLen→y≠x→(zf4 g y).ownBlock=none∨(zf4 g y).ownBlock≠v'.ownBlock:=fun y hy hB=>by
  rcases hloc with e | e
  ·rw[e];exact h.apart y x hy hx hB
  rw[e];right;intro e2;rcases(h.rows y hy).2 with⟨e6,-⟩ | ⟨g6,cap6,cur6,e6,-,e7,-⟩
  ·rw[e6]at e2;cases e2
  rw[e6]at e2;have:=jq e7;have:g6=wA.heap.size:=by simpa[Value.ownBlock] using e2
  omega
 refine⟨h.old,hC _ _ h.cells (fun e=>?_) (fun e=>?_),h.low,hm,fun y hy=>?_,fun y z hy hz hB=>?_,fun y=>?_,fun y c' hG=>?_⟩
 ·rcases hK.2 with⟨e6,-⟩ | ⟨g6,cap6,cur6,e6,-,e7,-⟩
  ·rw[e6]at e;cases e
  rw[e6]at e;obtain rfl:tb=g6:=by simpa[Value.ownBlock] using e
  have:=h.cells;rw[e7]at this
  injection this with this
  injection this with _ this _
  revert this;decide
 ·subst e;have:=h.cells;rw[h0]at this;cases this
 ·by_cases he:y=x
  ·subst he;rw[gx,za2,List.length_append,List.flatMap_append];simpa using hD hown
  rw[gy y he,qj _ _ he];have hr:=h.rows y hy;refine⟨hr.1,hr.2.imp id ?_⟩;rintro⟨g',hI,hH,e1,e2,e3,e4⟩;refine⟨g',hI,hH,e1,e2,hC _ _ e3 (fun e=>?_) (fun e=>?_),e4⟩
  ·rcases h.apart y x hy hx he with h5 | h5
   ·rw[e1]at h5;cases h5
   exact h5 (by rw[e1,← e];rfl)
  subst e;rw[h0]at e3;cases e3
 ·by_cases hF:y=x
  ·subst hF;rw[gx,gy z (fun e=>hB e.symm)];rcases hE z hz (fun e=>hB e.symm) with h5 | h5
   ·right;rw[h5];rcases hown.2 with⟨-,e6⟩ | ⟨g6,cap6,cur6,e6,-⟩
    ·omega
    rw[e6];simp[Value.ownBlock]
   exact .inr h5.symm
  by_cases hJ:z=x
  ·subst hJ;rw[gx,gy y hF];exact hE y hy hF
  rw[gy y hF,gy z hJ];exact h.apart y z hy hz hB
 ·by_cases he:y=x
  ·subst he;rw[za2,List.length_append];have:=h.few y;simp;omega
  rw[qj _ _ he];have:=h.few y;omega
 by_cases he:y=x
 ·subst he;rw[za2]at hG;rcases List.mem_append.1 hG with h5 | h5
  ·exact h.keys y c' h5
  obtain rfl:c'=c:=by simpa using h5
  exact hc
 rw[qj _ _ he]at hG;exact h.keys y c' hG
end
theorem zag {P:Program}{o:Oper}{a:Act}{w:World}{K:Act→World→Prop}{Q:Exit→Act→World→Prop}(s x:Operand)(t:TypeId)
 (ho:o.op = .call { callee := .builtin .append,args:=#[s,x],argTypes:=#[t,t] })
 (base:Nat) (e:TypeId) (i:TypeInfo) (z:Value) (size bytes:Nat) (ht:P.underlying t=some (.slice e)) (hi:P.info? e=some i) (hz:i.zero=some z)
 (hsize:i.size=size) (hby:i.bytes=bytes) (hzs:z.cells.size=size) (hsz:0<size)
 (v:Value) (n:Nat) (xs:List Value) (hs:a.eval s=v) (hown:w.ownsRow base e size v n xs)
 (ad:Addr) (m c:Nat) (news:List Value) (hx:a.eval x = .slice (some ad) m c) (hl:news.length=m * size) (hnews:∀ j u,news[j]? = some u→w.cell? (ad.add j)=some u) (h1:∀ u∈news,u.oneCell'=true)
 (h63:n+m≤maxLen) (hbytes:(n+m) * bytes≤140737488355328) (hbase:base≤w.heap.size)
 (h:∀ v' w',w'.ownsRow base e size v' (n+m) (xs++news)→w.grownBy w' v.ownBlock→(v'.ownBlock=v.ownBlock∨v'.ownBlock=some w.heap.size)→K (a.put o.dst v') w') :
 Oper.wp P o a w K Q:=by
 obtain⟨v',w',hr,h2,h3,h4,h5⟩:=run_append_own_at (P:=P) w base t o.type e i z size bytes ht hi hz hsize hby hzs hsz v n xs hown ad m c news hl hnews h1 h63 hbytes hbase;unfold Oper.wp execOp;simp only[ho,resolve,invoke,builtin,Sem.run_bind,Sem.run_pure,Result.andThen_ok,List.map_toArray,List.map_cons,List.map_nil,hs,hx,hr];exact h v' w' h2 h3 h5
theorem qh {P:Program} {o:Oper} {a:Act} {w:World} {K:Act→World→Prop} {Q:Exit→Act→World→Prop} (t e:TypeId) (len:Nat) (parts:Array (Nat × Operand)) (ho:o.op = .buildSlice t len parts)
 (hu:P.underlying t=some (.slice e)) (cells:Array Value) (hf:P.builtSlice e len (parts.map fun(i,x)=>(i,a.eval x)).toList=some cells)
 (h:K (a.put o.dst (.slice (some ⟨w.heap.size,0,none⟩) len len)) (w.alloc (.cells cells e))):Oper.wp P o a w K Q:=by
 unfold Program.builtSlice at hf;cases hA:P.info? e with
 | none=>simp[hA]at hf
 | some ie =>
   simp only[hA]at hf;cases hz:ie.zero with
   | none=>simp[hz]at hf
   | some z =>
     simp only[hz]at hf;by_cases hc:len * ie.size > 2 ^ 24∨len * ie.size=0
     ·simp[hc]at hf
     rw[if_neg hc]at hf;unfold Oper.wp execOp;simp only[ho];rw[Sem.run_bind,run_buildSlice w t e len _ cells ie z hu hA hz (fun h'=>hc (Or.inl h')) (fun h'=>hc (Or.inr h')) hf];exact h
theorem zb7:(Tryz.prog.info? 117).map (fun i=>(i.zero,i.size,i.bytes))=some (some (.agg Chg.zero.cells.toArray),34,48):=by kernel_rfl
end
end Go.Proofs.YtcddlemkimbkcaaGreatDoor
