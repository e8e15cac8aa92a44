/-
 What a table says of places that are past (BindPast),as plain data.
-/
import Derived.Test.YtcddlemkimbkcaaGreatDoorKSpecBind
import Derived.Test.YtcddlemkimbkcaaGreatDoorKBackward
open Go.Lib renaming hid→za,byteCells→zb
open Go.World renaming size_alloc→zf
open Go renaming heap_alloc_new→zh
open List renaming size_toArray→zn,length_cons→zo
open Nat renaming le_refl→zt
open Go.Value renaming int→zy
open Go.IntKind renaming u8→z6
namespace Go.Proofs.YtcddlemkimbkcaaGreatDoor
set_option linter.unusedVariables false
set_option linter.unusedSimpArgs false
set_option linter.unusedSectionVars false
set_option maxRecDepth 100000
set_option maxHeartbeats 4000000
section
def pAt (l:List Chg) (p:Int):Bs × Bool:=match l.reverse.find? (fun c=>decide (c.pos≤p)) with | some c=>(c.key,c.has) | none=>(jo,false)
def Tb.bound (t:Tb) (n:Bs):Bs × Bool:=((t.last n).key,(t.last n).has)
end
section
open Go.RowKit Go.Shelf
variable [OldK]
attribute [local go_sem] Oper.semAt_some
def zca (l:List Chg):List (Nat × Chg):=(l.zipIdx 0).reverse.map (fun p=>(p.2,p.1))
theorem zdc (l:List Chg):(zca l).length=l.length:=by simp[zca]
theorem zqg (l:List Chg)(j:Nat)(x:Nat × Chg)(h:(zca l)[j]? = some x):x.1=l.length - 1 - j∧l[x.1]? = some x.2:=by
 have hj:j<l.length:=by rw[← zdc];exact(List.getElem?_eq_some_iff.1 h).1
 unfold zca at h;rw[List.getElem?_map,List.getElem?_reverse (by simpa using hj),List.length_zipIdx,List.getElem?_zipIdx]at h;rw[List.getElem?_eq_getElem (by omega)]at h;simp only[Option.map_some,Option.some.injEq]at h;subst h;simp only[Nat.zero_add];exact⟨trivial,List.getElem?_eq_getElem (by omega)⟩
theorem zgc (l:List Chg):(zca l).map (·.2)=l.reverse:=by
 unfold zca;rw[List.map_map];have:((fun x:Nat × Chg=>x.2) ∘ fun p:Chg × Nat=>(p.2,p.1))=fun p=>p.1:=rfl
 rw[this,List.map_reverse,List.zipIdx_map_fst]
theorem zsm {l:List Chg} {p:Int} {ini rest:List (Nat × Chg)} {x:Nat × Chg} (h:zca l=ini++x :: rest) (h1:∀ y∈ini,¬ y.2.pos≤p) (h2:x.2.pos≤p):pAt l p=(x.2.key,x.2.has):=by
 unfold pAt;rw[← zgc,h,List.map_append,List.find?_append]
 have:(ini.map (·.2)).find? (fun c=>decide (c.pos≤p))=none:=by
  rw[List.find?_eq_none];intro c hc;obtain⟨y,hy,rfl⟩:=List.mem_map.1 hc;simpa using h1 y hy
 rw[this];simp[h2]
theorem zmi {l:List Chg} {p:Int} (h1:∀ y∈zca l,¬ y.2.pos≤p):pAt l p=(jo,false):=by
 unfold pAt;rw[← zgc]
 have:((zca l).map (·.2)).find? (fun c=>decide (c.pos≤p))=none:=by
  rw[List.find?_eq_none];intro c hc;obtain⟨y,hy,rfl⟩:=List.mem_map.1 hc;simpa using h1 y hy
 rw[this]
def Chg.nrm (c:Chg):Chg:=if c.cells.length=34 then c else Chg.zero
theorem Chg.nrm_ok (c:Chg):c.nrm.ok:=by
 unfold Chg.nrm;split
 ·rename_i h
  simp only[Chg.cells,List.length_append,ja,zo,List.length_nil]at h;show c.key.length=32;omega
 rfl
theorem Chg.enc_nrm (c:Chg):c.enc=c.nrm.cells:=by
 unfold Chg.enc Chg.nrm;split
 ·rfl
 rfl
theorem Chg.nrm_eq {c:Chg}(h:c.ok):c.nrm=c:=if_pos (Chg.size h)
theorem zcy {b:Nat} {e:TypeId} {f:Nat × Nat}:∀ (vs:List Value) (o:Nat) (w:World) (cs:Array Value),w.heap[b]? = some (.cells cs e f)→∃ cs',(w.setCells b o vs).heap[b]? = some (.cells cs' e f)
 | [],_,_,_,h=>⟨_,h⟩
 | v :: r,o,w,cs,h=>by
   rw[World.setCells];exact zcy r (o+1) _ _ (jc v h)
theorem zfj {fn:Func}{p q:Tmp}{ty ty':TypeId}(h:fn.results=#[.cell p ty,.cell q ty'])(tmps:Array Value)(P:Program)(w:World) :
 (results fn tmps).run P w=((asAddr (tmps.getD p undef)).run P w).andThen fun a w₁=>((loadVar ty a).run P w₁).andThen fun v w₂=>((asAddr (tmps.getD q undef)).run P w₂).andThen fun b w₃=>((loadVar ty' b).run P w₃).andThen fun u w₄ => .ok (.tuple #[v,u]) w₄:=by
 simp only[results,h];simp[Sem.run_bind,Result.andThen]
theorem zf1 (w:World)(b:Nat)(x:Bool)(h:w.cell? ⟨b,0,none⟩=some (.bool x)):(loadVar 4 ⟨b,0,none⟩).run Tryz.prog w = .ok (.bool x) w:=by
 simp[go_sem,h]
def AtI (place:Int) (pre:List (Nat × Chg)):Prop:=∀ y∈pre,¬ (Chg.nrm y.2).pos≤place
def AtX (h:Nat) (place:Int) (pre:List (Nat × Chg)) (W:World):Prop:=∃ ini x,pre=ini++[x]∧AtI place ini∧(Chg.nrm (Prod.snd x)).pos≤place∧(∃ cs,W.heap[h+1]? = some (.cells cs 24 (0,0)))∧W.rangeAt (h+1) 0 (zb (Chg.nrm x.2).key)∧W.heap[h+1+1]? = some (.cells #[.bool (Chg.nrm x.2).has] 4 (0,0))
section
variable {F:Fence} {nF:Nat} {P:Program} {ops:Array Oper} {rest:List Oper} {op:Oper} {a:Act} {w:World} {Q:Exit→Act→World→Prop}
theorem zfa (hgd:op.guard=none)(ty:TypeId)(x y:Operand)(ho:op.op = .store ty x y)(b o:Nat)(cells:Array Value)
 (hx:a.eval x = .pointer (some ⟨b,o,none⟩)) (hy:a.eval y = .agg cells) (ht:w.there b o cells.size) (hi:(P.info? ty).map (·.size)=some cells.size) (h1:cells.all (·.oneCell')=true)
 (h:wpListIn F nF P ops Q rest (a.put op.dst undef) (w.setCells b o cells.toList)):wpListIn F nF P ops Q (op :: rest) a w:=by
 refine wpListIn_plain hgd fun K hK=>?_
 unfold Oper.wpIn;refine⟨by simp[Oper.about,ho],?_⟩;rw[Oper.semAt_plain F _ _ (by rw[ho];intro c hA;cases hA)];simp only[execOp,ho,hx,hy];rw[Sem.run_bind,run_storeAt_mid w b o ty cells ht hi h1];exact hK _ _ h
theorem zhb (hgd:op.guard=none)(ty:TypeId)(v:Value)(ho:op.op = .build ty #[])(hb:(Instr.build ty #[]).run P w = .ok v w)
 (h:wpListIn F nF P ops Q rest (a.put op.dst v) w):wpListIn F nF P ops Q (op :: rest) a w:=by
 refine wpListIn_plain hgd fun K hK=>?_
 unfold Oper.wpIn;refine⟨by simp[Oper.about,ho],?_⟩;rw[Oper.semAt_plain F _ _ (by rw[ho];intro c hA;cases hA)];simp only[execOp,ho];rw[Sem.run_bind,show(#[].map fun(x:Nat × Operand)=>(x.1,a.eval x.2))=#[] by simp,hb];exact hK _ _ h
end
theorem zvr:(Tryz.prog.info? 24).map (·.size)=some (#[zy z6 0,zy z6 0,zy z6 0,zy z6 0,zy z6 0,zy z6 0,zy z6 0,zy z6 0,zy z6 0,zy z6 0,zy z6 0,zy z6 0,zy z6 0,zy z6 0,zy z6 0,zy z6 0,zy z6 0,zy z6 0,zy z6 0,zy z6 0,zy z6 0,zy z6 0,zy z6 0,zy z6 0,zy z6 0,zy z6 0,zy z6 0,zy z6 0,zy z6 0,zy z6 0,zy z6 0,zy z6 0]:Array Value).size:=by kernel_rfl
theorem zw5:(#[zy z6 0,zy z6 0,zy z6 0,zy z6 0,zy z6 0,zy z6 0,zy z6 0,zy z6 0,zy z6 0,zy z6 0,zy z6 0,zy z6 0,zy z6 0,zy z6 0,zy z6 0,zy z6 0,zy z6 0,zy z6 0,zy z6 0,zy z6 0,zy z6 0,zy z6 0,zy z6 0,zy z6 0,zy z6 0,zy z6 0,zy z6 0,zy z6 0,zy z6 0,zy z6 0,zy z6 0,zy z6 0]:Array Value).all (·.oneCell')=true:=by kernel_rfl
theorem zxh {tv:Value} {t:Tb} (x:Bs) (place:Int) (w:World) (h:TV tv t w) (hx:x.length≤maxLen) :
 CallsIn Fence.wide 5 Tryz.prog 32 #[tv,.string ⟨x.toArray⟩,.int .i64 place] w fun e w'=>e = .returned (.tuple #[.agg (zb (pAt (t.hist x) place).1).toArray,.bool (pAt (t.hist x) place).2])∧Fr NoB w w':=by
 obtain⟨W0,hI⟩:∃ W0,((w.alloc (.cells #[.int .i64 place] 3)).alloc (.cells #[zy z6 0,zy z6 0,zy z6 0,zy z6 0,zy z6 0,zy z6 0,zy z6 0,zy z6 0,zy z6 0,zy z6 0,zy z6 0,zy z6 0,zy z6 0,zy z6 0,zy z6 0,zy z6 0,zy z6 0,zy z6 0,zy z6 0,zy z6 0,zy z6 0,zy z6 0,zy z6 0,zy z6 0,zy z6 0,zy z6 0,zy z6 0,zy z6 0,zy z6 0,zy z6 0,zy z6 0,zy z6 0] 24)).alloc (.cells #[.bool false] 4)=W0:=⟨_,rfl⟩;have AM:W0.heap.size=w.heap.size+3:=by rw[← hI];simp
 have AG:Fr NoB w W0:=by rw[← hI];exact((Fr.refl.alloc _).alloc _).alloc _
 have hL:Below w.heap.size w W0:=by rw[← hI];exact(((Below.refl _ w).alloc (zt _) _).alloc (by simp) _).alloc (by simp;try omega) _
 have AY:W0.heap[w.heap.size]? = some (.cells #[.int .i64 place] 3 (0,0)):=by
  rw[← hI];exact((Fr.refl (M:=NoB)).alloc _ |>.alloc _).block _ _ (zh w _) (fun h=>h)
 have AX:W0.heap[w.heap.size+1]? = some (.cells #[zy z6 0,zy z6 0,zy z6 0,zy z6 0,zy z6 0,zy z6 0,zy z6 0,zy z6 0,zy z6 0,zy z6 0,zy z6 0,zy z6 0,zy z6 0,zy z6 0,zy z6 0,zy z6 0,zy z6 0,zy z6 0,zy z6 0,zy z6 0,zy z6 0,zy z6 0,zy z6 0,zy z6 0,zy z6 0,zy z6 0,zy z6 0,zy z6 0,zy z6 0,zy z6 0,zy z6 0,zy z6 0] 24 (0,0)):=by
  rw[← hI];have:=zh (w.alloc (.cells #[.int .i64 place] 3)) (.cells #[zy z6 0,zy z6 0,zy z6 0,zy z6 0,zy z6 0,zy z6 0,zy z6 0,zy z6 0,zy z6 0,zy z6 0,zy z6 0,zy z6 0,zy z6 0,zy z6 0,zy z6 0,zy z6 0,zy z6 0,zy z6 0,zy z6 0,zy z6 0,zy z6 0,zy z6 0,zy z6 0,zy z6 0,zy z6 0,zy z6 0,zy z6 0,zy z6 0,zy z6 0,zy z6 0,zy z6 0,zy z6 0] 24);rw[zf]at this;exact((Fr.refl (M:=NoB)).alloc _).block _ _ this (fun h=>h)
 have AW:W0.heap[w.heap.size+2]? = some (.cells #[.bool false] 4 (0,0)):=by
  rw[← hI];have:=zh ((w.alloc (.cells #[.int .i64 place] 3)).alloc (.cells #[zy z6 0,zy z6 0,zy z6 0,zy z6 0,zy z6 0,zy z6 0,zy z6 0,zy z6 0,zy z6 0,zy z6 0,zy z6 0,zy z6 0,zy z6 0,zy z6 0,zy z6 0,zy z6 0,zy z6 0,zy z6 0,zy z6 0,zy z6 0,zy z6 0,zy z6 0,zy z6 0,zy z6 0,zy z6 0,zy z6 0,zy z6 0,zy z6 0,zy z6 0,zy z6 0,zy z6 0,zy z6 0] 24)) (.cells #[.bool false] 4);rw[zf,zf]at this;exact this
 have hT:=h.keep AG;have hF:=h.keys x;have hfew:(t.hist x).length≤1000000:=h.few x;have hG:=hT.histC x W0 Fr.refl hx;have Hhist:=za (callsIn_wide (n:=4) |>.2 hG);have Am:=za AG;have ho:=za hL;have Ai:=za AY;have Ah:=za AX;have Ag:=za AW;have Hkeys:=za hF;have Aj:=za hI;have Ay:=za AM;clear AG hL AY AX AW hT hF hI AM hG h;obtain⟨R,hR⟩:∃ R,pAt (t.hist x) place=R:=⟨_,rfl⟩;rw[hR];have HR:=za hR;clear hR;refine callsIn_of_wp_marks Tryz.func32 rfl trivial ?_ rfl;simp only[Tryz.ntmps32,zn,zo,List.length_nil,Nat.reduceAdd,Nat.reduceSub,Array.replicate_succ,Array.replicate_zero,List.push_toArray,List.append_toArray,List.nil_append,List.cons_append]
 gi_wp2_with fail
 rw[Aj.out];refine⟨trivial,?_⟩;refine Hhist.out.mono ?_;rintro e W1 ⟨v',rfl,h1,h2⟩
 have An:∃ sa cp,v' = .slice sa (t.hist x).length cp:=by
  rcases zfi h1 with⟨rfl,h0⟩ | ⟨gb,cap,rfl,-⟩
  ·rw[h0];exact⟨_,_,rfl⟩
  exact⟨_,_,rfl⟩
 obtain⟨sa,cp,rfl⟩:=An;have AV:=(callsIn_wide (n:=4)).2 (zo5 sa (t.hist x).length cp W1);have H1:=za h1;have H2:=za h2;have Hbw:=za AV;clear h1 h2 AV Hhist
 gi_wp2_with fail
 refine⟨trivial,?_⟩;refine Hbw.out.mono ?_;rintro e w' ⟨rfl,rfl⟩;obtain⟨W2,hi⟩:∃ W2,W1.alloc (.cells #[.slice sa (t.hist x).length cp] 110)=W2:=⟨_,rfl⟩;obtain⟨Bs,h6⟩:∃ B,W1.heap.size=B:=⟨_,rfl⟩;have hn:Fr NoB W0 W2:=by rw[← hi];exact H2.out.alloc _
 have Ao:W2.heap.size=Bs+1:=by rw[← hi,zf,h6]
 have Ap:=H2.out.size;rw[h6]at Ap;have hJ:Below w.heap.size w W2:=(Am.out.trans' hn).below (zt _) (fun _ _ _ h=>h.elim);have AT:=hn.block _ _ Ai.out (fun h=>h);have AS:=hn.block _ _ Ah.out (fun h=>h);have AR:=hn.block _ _ Ag.out (fun h=>h)
 have AQ:W2.cell? ⟨Bs,0,none⟩=some (.slice sa (t.hist x).length cp):=by
  have:=zh W1 (.cells #[.slice sa (t.hist x).length cp] 110);rw[hi,h6]at this;simp[World.cell?,this]
 have AK:(zca (t.hist x)).length=0∨∃ gb,sa=some ⟨gb,0,none⟩∧BkRow W2.heap.size gb (zca (t.hist x)).length (zca (t.hist x)) W2:=by
  rcases zfi H1.out with⟨-,h0⟩ | ⟨gb,cap,e1,e2,e3,-⟩
  ·exact .inl (by rw[zdc];exact h0)
  injection e1 with e1 e4 e5
  subst e1;refine .inr ⟨gb,rfl,by omega,fun j y hy=>?_⟩;obtain⟨a1,a2⟩:=zqg _ _ _ hy;rw[zdc];refine⟨a1,?_⟩;have hr:=zmb (n:=(t.hist x).length) (cap:=cp) H1.out Hkeys.out y.1 y.2 a2;rw[← hi];exact je hr ((Fr.refl (M:=NoB)).alloc _) e3 (fun _ h=>h)
 have ha:∀ y∈zca (t.hist x),y.2.ok:=fun y hy=>by
  refine Hkeys.out _ ?_;have:y.2∈(zca (t.hist x)).map (·.2):=List.mem_map_of_mem hy;rw[zgc]at this;simpa using this
 rw[← zdc (t.hist x)]at AQ
 gi_wp2_with fail
 have A0:=za AT;have Af:=za AS;have Ae:=za AR;have Hs0':=Ay.out;have hE:=za hJ;have Hxs:=za AK;have Hxok:=za ha;clear AT AS AR hJ ho Ai Ah Ag hn H1 H2 Am Aj hi h6
 refine wpIn_rangeFunc_ownH (w:=W2) rfl (by omega) (gf:=115) (lb:=#[.pointer (some ⟨Bs,0,none⟩)]) rfl trivial (enters_of Tryz.func115 (by kernel_rfl) rfl)
  (zo6 Fence.wide 4 trivial rfl (by omega) Bs W2.heap.size cp sa (zca (t.hist x)) (by rw[zdc];omega) ha W2 (by omega) (zt _) AQ AK)
  belowK_t (belowK_b (zt _)) (Below.refl _ _) (fun _=>rfl)
  (fun hM W=>AtI place hM∧Below W2.heap.size W2 W)
  (fun c hM W=>(c = .ret∧AtX w.heap.size place hM W)∧Below w.heap.size w W)
  (OwnFrom.and (ownFrom_pure _ (AtI place)) (ownFrom_below (zt _) (zt _)))
  (fun c s A B hZ hs hg hr=>by
    obtain⟨⟨hc,h9,x,e1,e2,e3,⟨cs,b1⟩,b2,b3⟩,hB⟩:=hs;have Ad:=qe (β:=Unit) _ _ _ _ () A B hZ b1 hg (fun r e=>(hr r e).2)
    exact⟨⟨hc,h9,x,e1,e2,e3,⟨cs,Ad⟩,zas b2 (Ad.trans b1.symm),qe (β:=Unit) _ _ _ _ () A B hZ b3 hg (fun r e=>(hr r e).2)⟩,ownFrom_below (β:=Unit) (n₀:=w.heap.size) (B:=W2.heap.size) (w₀:=w) (zt _) (by omega) () A B hZ hB hg hr⟩)
  ⟨(fun y h=>by cases h),Below.refl _ _⟩
  (fun(y:Nat × Chg) a' W=>∃ Bx,W2.heap.size≤Bx∧W.heap[Bx]? = some (.cells (Prod.snd y).enc.toArray 117 (0,0))∧a'={ tmps:=#[tv,.string ⟨x.toArray⟩,.int .i64 place,undef,undef,.pointer (some ⟨w.heap.size,0,none⟩),.pointer (some ⟨w.heap.size+1,0,none⟩),.pointer (some ⟨w.heap.size+1+1,0,none⟩),undef,.pointer (some ⟨Bx,0,none⟩),tv,.string ⟨x.toArray⟩,.slice sa (t.hist x).length cp,.func (.func 115) #[] #[.pointer (some ⟨Bs,0,none⟩)],.int .i64 ((y.1:Nat):Int),.agg (Prod.snd y).enc.toArray,undef,undef,undef,undef,undef,undef,undef,undef,undef],defers:=[] })
  (fun y a' s A B hZ hs hg hr=>by
    obtain⟨Bx,h1,h2,h3⟩:=hs
    exact⟨Bx,h1,qe (β:=Unit) _ _ _ _ () A B hZ h2 hg (fun r e=>(hr r e).2),h3⟩) ?assign ?body ?done ?stop
 case assign =>
  rintro l hM y W K ⟨hp,hB⟩ hK;have Hp:=za hp;have HB:=za hB;have HK:=za hK;have A2:=za (Chg.enc_one y.2);have Ax:Hid ((Tryz.prog.info? 117).map (·.size)=some y.2.enc.toArray.size):=za (by rw[j9,zn,Chg.enc_len]);have Aw:Hid (chgZ.size=y.2.enc.toArray.size):=za (by rw[show y.2.enc.toArray.size=34 by rw[zn,Chg.enc_len]];rfl);clear hp hB hK;unfold znq
  gi_wp2_with (refine zbf rfl 117 _ _ rfl chgZ y.2.enc.toArray rfl rfl Ax.out Aw.out A2.out ?_)
  exact HK.out _ _ ((KeepsOthers.alloc _ _).from _) ((Below.refl _ W).alloc HB.out.size _) ⟨Hp.out,HB.out.alloc HB.out.size _⟩ ⟨W.heap.size,HB.out.size,zh W _,rfl⟩
 case body =>
  rintro l hM y a' W hl ⟨r,hr⟩ ⟨hp,hB⟩ ⟨Bx,As,hu,rfl⟩ hlt;obtain⟨c,hc⟩:∃ c,y.2.nrm=c:=⟨_,rfl⟩;have he:c.ok:=by rw[← hc];exact Chg.nrm_ok _
  have AP:y.2.enc=c.cells:=by rw[Chg.enc_nrm,hc]
  rw[AP]at hu ⊢;have hq:=jg hu;rw[List.toList_toArray,zh4,range_append,range_append,zaf,zaf]at hq;obtain⟨q0,q1,q2⟩:=hq;simp only[zo,List.length_nil,Nat.zero_add,Nat.reduceAdd]at q1 q2;have AL:=(hB.block _ (by omega)).trans A0.out;have hN:=(hB.block _ (by omega)).trans Af.out;have hb:=(hB.block (w.heap.size+1+1) (by omega)).trans Ae.out;have p0:W.cell? ⟨w.heap.size,0,none⟩=some (.int .i64 place):=by simp[World.cell?,AL]
  have hd:(zb c.key).length=32:=by rw[ja];exact he
  have AE:=all_oneCell_toArray (j0 c.key);obtain⟨KC,hK⟩:∃ KC,zb c.key=KC:=⟨_,rfl⟩;rw[hK]at q2 hd AE;have HK:=za hK;have Hkz:Hid ((Tryz.prog.info? 24).map (·.size)=some KC.length):=za (by rw[jb,hd]);have AJ:Hid ((Tryz.prog.info? 24).map (·.size)=some KC.toArray.size):=za (by rw[jb,zn,hd]);have Az:=za AE;have HT:Hid (W.there (w.heap.size+1) 0 KC.toArray.size):=za (by rw[show KC.toArray.size=32 by rw[zn,hd]];exact jr hN (zt _));have Hp:=za hp;have HB:=za hB;have Av:=za hN;have Au:=za hb;have Hc:=za hc;have HQ:=za q2;have A1:=za (jq hu);have Ab:Bx≠w.heap.size+1∧Bx≠w.heap.size+1+1:=by omega
  have hY:=za Ab;obtain⟨ph,AB⟩:∃ b,c.has=b:=⟨_,rfl⟩;have Hph:=za AB;rw[AB]at q1;obtain⟨CC,Aa⟩:∃ C,c.cells.toArray=C:=⟨_,rfl⟩;rw[Aa];clear hp hB AL hN hb hu hl hr As hc q2 hd AE hK Ab AB Aa AP he;by_cases hQ:c.pos≤place
  ·have AD:decide (c.pos≤place)=true:=decide_eq_true hQ;have Hle:=za hQ;clear hQ
   gi_wp2_with fail
   refine zd1 (S:=fun V=>Hid (Fr (fun k _=>k=w.heap.size+1∨k=w.heap.size+1+1) W V)) (by kernel_rfl) (by kernel_rfl) (za Fr.refl.drew) (fun hA=>?_);simp only[qV];refine qt (v:=?_) rfl (Or.inl ⟨by rfl,?_⟩) hA ?_;rotate_left
   ·intro W AF;have h1:=Fr.cell AF.out q1 (fun _ h=>h.elim hY.out.1 hY.out.2)
    try simp only[qQ]
    go_simp
    try rw[if_neg (by omega)]
    try with_reducible rfl
   try simp only[Act.put,qP]
   refine qi (i:=1) rfl (yieldsIf_load_mid (by rfl) 24 _ rfl Bx 2 rfl KC (.array 32 5) (fun V h=>je HQ.out h.out A1.out (fun _ h=>h.elim hY.out.1 hY.out.2)) z7 rfl Hkz.out) hA ?_
   try simp only[Act.put,qP]
   iterate 2
    refine qt (v:=?_) rfl (Or.inl ⟨by rfl,?_⟩) hA ?_;rotate_left
    ·intro W AF;have h1:=Fr.cell AF.out q1 (fun _ h=>h.elim hY.out.1 hY.out.2)
     try simp only[qQ]
     go_simp
     try rw[if_neg (by omega)]
     try with_reducible rfl
    try simp only[Act.put,qP]
   refine qr (i:=4) (by kernel_rfl) rfl (fun K hK=>?_)
   try simp only[qQ]
   rw[if_pos (by rfl)];refine wp_store_mid 24 (.tmp 6) (.tmp 21) (by rfl) (w.heap.size+1) 0 KC.toArray (by rfl) (by rfl) HT.out AJ.out Az.out ?_;refine hK.out _ _ (za (hA.out.trans' ((jd (w.heap.size+1) _ _ _).mono (fun _ _ h => .inl h)))) (fun hA=>?_);clear hK K
   try simp only[Act.put,qP]
   obtain⟨h7,hU⟩:=zcy (b:=w.heap.size+1) KC.toArray.toList 0 W.drew _ Av.out;have hO:=World.rangeAt_setCells_same W.drew (w.heap.size+1) 0 KC.toArray.toList (by have:=HT.out;simpa using this);have hH:(W.drew.setCells (w.heap.size+1) 0 KC.toArray.toList).heap[w.heap.size+1+1]? = some (.cells #[.bool false] 4 (0,0)):=(jd (w.heap.size+1) KC.toArray.toList 0 W.drew).block _ _ Au.out (fun h=>by omega);obtain⟨W4,hh⟩:∃ V,W.drew.setCells (w.heap.size+1) 0 KC.toArray.toList=V:=⟨_,rfl⟩;rw[hh]at hU hO hH hA ⊢;rw[List.toList_toArray]at hO;have s0:W4.cell? ⟨w.heap.size+1+1,0,none⟩=some (.bool false):=by simp[World.cell?,hH]
   have sz:W4.frozen? ⟨w.heap.size+1+1,0,none⟩=false:=by simp[World.frozen?,hH]
   have hW:=za hU;have h8:=za hO;have hV:=za hH;clear hU hO hH hh;refine qr (i:=5) (by kernel_rfl) rfl (fun K hK=>?_)
   try simp only[qQ]
   go_simp
   skip
   refine hK.out _ _ (za (hA.out.setCell _ _ (fun _ _ => .inr rfl))) (fun hA=>?_);clear hK K
   try simp only[Act.put,qP]
   refine wpAnyH_done (by kernel_rfl) ?_ _;simp only[zic]
   gi_wp2_with fail
   have hj:=hA.out;have hsW:=HB.out.size;have AH:Below w.heap.size W (W4.setCell ⟨w.heap.size+1+1,0,none⟩ (.bool ph)):=hj.below (by have:=hE.out.size;omega) (fun k o hk hm=>by omega);have Ac:(W4.setCell ⟨w.heap.size+1+1,0,none⟩ (.bool ph)).heap[w.heap.size+1]? = some (.cells h7 24 (0,0)):=(Below.heap_setCell _ _ _ _ (by simp)).trans hW.out;refine⟨⟨hj.size,fun k o hk Ar _=>hj.block k o Ar (by omega)⟩,⟨rfl,by unfold AtX;refine⟨hM,y,rfl,Hp.out,by rw[Hc.out];exact Hle.out,⟨h7,Ac⟩,by rw[Hc.out,HK.out];exact zas h8.out (Ac.trans hW.out.symm),by rw[Hc.out,Hph.out];exact jc (o:=0) (.bool ph) hV.out⟩⟩,(hE.out.trans (HB.out.mono (by omega))).trans AH⟩
  have AD:decide (c.pos≤place)=false:=decide_eq_false hQ;have Hle:=za hQ;clear hQ
  gi_wp2
  exact⟨KeepsFrom.refl _ _,Below.refl _ _,⟨fun y' hy=>(List.mem_append.1 hy).elim (Hp.out y') (fun e=>by rw[List.mem_singleton.1 e,Hc.out];exact Int.not_le.2 Hle.out),by have h:=HB.out;rw[Ao]at h;exact h⟩⟩
 case done =>
  rintro D ys W hD rfl ⟨AN,hB⟩ hK;have hN:=(hB.block _ (by omega)).trans Af.out;have hb:=(hB.block (w.heap.size+1+1) (by omega)).trans Ae.out;have AC:R=(jo,false):=HR.out.symm.trans <| zmi (fun y hy=>by have:=AN y hy;rwa [Chg.nrm_eq (Hxok.out y hy)]at this)
  subst AC;have HT:Hid (W.there (w.heap.size+1) 0 (#[zy z6 0,zy z6 0,zy z6 0,zy z6 0,zy z6 0,zy z6 0,zy z6 0,zy z6 0,zy z6 0,zy z6 0,zy z6 0,zy z6 0,zy z6 0,zy z6 0,zy z6 0,zy z6 0,zy z6 0,zy z6 0,zy z6 0,zy z6 0,zy z6 0,zy z6 0,zy z6 0,zy z6 0,zy z6 0,zy z6 0,zy z6 0,zy z6 0,zy z6 0,zy z6 0,zy z6 0,zy z6 0]:Array Value).size):=za (jr hN (zt _));obtain⟨h7,hU⟩:=zcy (b:=w.heap.size+1) (#[zy z6 0,zy z6 0,zy z6 0,zy z6 0,zy z6 0,zy z6 0,zy z6 0,zy z6 0,zy z6 0,zy z6 0,zy z6 0,zy z6 0,zy z6 0,zy z6 0,zy z6 0,zy z6 0,zy z6 0,zy z6 0,zy z6 0,zy z6 0,zy z6 0,zy z6 0,zy z6 0,zy z6 0,zy z6 0,zy z6 0,zy z6 0,zy z6 0,zy z6 0,zy z6 0,zy z6 0,zy z6 0]:Array Value).toList 0 W _ hN;have hO:=World.rangeAt_setCells_same W (w.heap.size+1) 0 (#[zy z6 0,zy z6 0,zy z6 0,zy z6 0,zy z6 0,zy z6 0,zy z6 0,zy z6 0,zy z6 0,zy z6 0,zy z6 0,zy z6 0,zy z6 0,zy z6 0,zy z6 0,zy z6 0,zy z6 0,zy z6 0,zy z6 0,zy z6 0,zy z6 0,zy z6 0,zy z6 0,zy z6 0,zy z6 0,zy z6 0,zy z6 0,zy z6 0,zy z6 0,zy z6 0,zy z6 0,zy z6 0]:Array Value).toList HT.out;have h5:=jd (w.heap.size+1) (#[zy z6 0,zy z6 0,zy z6 0,zy z6 0,zy z6 0,zy z6 0,zy z6 0,zy z6 0,zy z6 0,zy z6 0,zy z6 0,zy z6 0,zy z6 0,zy z6 0,zy z6 0,zy z6 0,zy z6 0,zy z6 0,zy z6 0,zy z6 0,zy z6 0,zy z6 0,zy z6 0,zy z6 0,zy z6 0,zy z6 0,zy z6 0,zy z6 0,zy z6 0,zy z6 0,zy z6 0,zy z6 0]:Array Value).toList 0 W;have hH:=h5.block _ _ hb (fun h=>by omega);have AZ:=h5.block _ _ hK (fun h=>by omega);have hW:=za hU;have h8:=za hO;have hV:=za hH;have Ak:=za AZ;have Al:=za h5;have HB:=za hB;clear AN hB hK hN hb hU hO hH AZ h5;have AU:(Instr.build 24 #[]).run Tryz.prog W = .ok (.agg #[zy z6 0,zy z6 0,zy z6 0,zy z6 0,zy z6 0,zy z6 0,zy z6 0,zy z6 0,zy z6 0,zy z6 0,zy z6 0,zy z6 0,zy z6 0,zy z6 0,zy z6 0,zy z6 0,zy z6 0,zy z6 0,zy z6 0,zy z6 0,zy z6 0,zy z6 0,zy z6 0,zy z6 0,zy z6 0,zy z6 0,zy z6 0,zy z6 0,zy z6 0,zy z6 0,zy z6 0,zy z6 0]) W:=run_build W 24 _ _ (by kernel_rfl)
  rename_i Q0 K0 hK0
  simp only[Exit.inBlock,Exit.then];refine hK0 _ _ (wpIn_seq (wpIn_region_lit (zhb rfl 24 (.agg #[zy z6 0,zy z6 0,zy z6 0,zy z6 0,zy z6 0,zy z6 0,zy z6 0,zy z6 0,zy z6 0,zy z6 0,zy z6 0,zy z6 0,zy z6 0,zy z6 0,zy z6 0,zy z6 0,zy z6 0,zy z6 0,zy z6 0,zy z6 0,zy z6 0,zy z6 0,zy z6 0,zy z6 0,zy z6 0,zy z6 0,zy z6 0,zy z6 0,zy z6 0,zy z6 0,zy z6 0,zy z6 0]) rfl AU ?_)));refine zfa rfl 24 (.tmp 6) (.tmp 24) rfl (w.heap.size+1) 0 #[zy z6 0,zy z6 0,zy z6 0,zy z6 0,zy z6 0,zy z6 0,zy z6 0,zy z6 0,zy z6 0,zy z6 0,zy z6 0,zy z6 0,zy z6 0,zy z6 0,zy z6 0,zy z6 0,zy z6 0,zy z6 0,zy z6 0,zy z6 0,zy z6 0,zy z6 0,zy z6 0,zy z6 0,zy z6 0,zy z6 0,zy z6 0,zy z6 0,zy z6 0,zy z6 0,zy z6 0,zy z6 0] ?_ ?_ HT.out zvr zw5 ?_
  ·rfl
  ·rfl
  simp only[Act.put,List.setIfInBounds_toArray,List.set_cons_zero,List.set_cons_succ,List.getElem_toArray,List.getElem_cons_zero,List.getElem_cons_succ];obtain⟨W4,hh⟩:∃ V,W.setCells (w.heap.size+1) 0 (#[zy z6 0,zy z6 0,zy z6 0,zy z6 0,zy z6 0,zy z6 0,zy z6 0,zy z6 0,zy z6 0,zy z6 0,zy z6 0,zy z6 0,zy z6 0,zy z6 0,zy z6 0,zy z6 0,zy z6 0,zy z6 0,zy z6 0,zy z6 0,zy z6 0,zy z6 0,zy z6 0,zy z6 0,zy z6 0,zy z6 0,zy z6 0,zy z6 0,zy z6 0,zy z6 0,zy z6 0,zy z6 0]:Array Value).toList=V:=⟨_,rfl⟩;rw[hh]at hW h8 hV Ak Al ⊢;clear hh HT AU;have s0:W4.cell? ⟨w.heap.size+1+1,0,none⟩=some (.bool false):=by have:=hV.out;simp[World.cell?,this]
  have sz:W4.frozen? ⟨w.heap.size+1+1,0,none⟩=false:=by have:=hV.out;simp[World.frozen?,this]
  gi_wp2_with fail
  obtain⟨W5,hf⟩:∃ V,W4.setCell ⟨w.heap.size+1+1,0,none⟩ (.bool false)=V:=⟨_,rfl⟩;have At:W5.heap[w.heap.size+1+1]? = some (.cells #[.bool false] 4 (0,0)):=by rw[← hf];exact jc (o:=0) (.bool false) hV.out
  have AI:W5.heap[w.heap.size+1]? = some (.cells h7 24 (0,0)):=by rw[← hf];exact(Below.heap_setCell _ _ _ _ (by simp)).trans hW.out
  have Aq:=zas h8.out (AI.trans hW.out.symm);have h4:W5.heap[D]? = some (.deferred (some [])):=by rw[← hf];exact(Below.heap_setCell _ _ _ _ (by simp;omega)).trans Ak.out
  have hj:Fr (fun k _=>k=w.heap.size+1∨k=w.heap.size+1+1) W W5:=by rw[← hf];exact(Al.out.mono (fun _ _ h => .inl h)).setCell _ _ (fun _ _ => .inr rfl)
  rw[hf];have AH:Below w.heap.size W W5:=hj.below (by have:=HB.out.size;have:=hE.out.size;omega) (fun k o hk hm=>by omega);have hw:Below w.heap.size w (W5.putObj D (.deferred none)):=((hE.out.trans (HB.out.mono (by omega))).trans AH).trans (belowK_b (w:=W2) (by omega) W5 D _ _ hD h4 rfl rfl);have m1:=qe (β:=Unit) _ _ _ _ () _ _ _ AI (grownBy_putObj' W5 D (.deferred none)) (fun r e=>by cases e;exact⟨_,h4,rfl⟩);have m2:=qe (β:=Unit) _ _ _ _ () _ _ _ At (grownBy_putObj' W5 D (.deferred none)) (fun r e=>by cases e;exact⟨_,h4,rfl⟩);have u0:(W5.putObj D (.deferred none)).cell? ⟨w.heap.size+1+1,0,none⟩=some (.bool false):=by simp[World.cell?,m2]
  have hS:=run_loadVar_mid (P:=Tryz.prog) _ (w.heap.size+1) 0 24 _ (.array 32 5) (zas Aq (m1.trans AI.symm)) z7 rfl zvr;have hP:=zf1 _ _ _ u0;refine⟨by simp,.inl ⟨_,_,rfl,run_takeDeferred h4,?_⟩⟩;refine⟨.tuple #[.agg #[zy z6 0,zy z6 0,zy z6 0,zy z6 0,zy z6 0,zy z6 0,zy z6 0,zy z6 0,zy z6 0,zy z6 0,zy z6 0,zy z6 0,zy z6 0,zy z6 0,zy z6 0,zy z6 0,zy z6 0,zy z6 0,zy z6 0,zy z6 0,zy z6 0,zy z6 0,zy z6 0,zy z6 0,zy z6 0,zy z6 0,zy z6 0,zy z6 0,zy z6 0,zy z6 0,zy z6 0,zy z6 0],.bool false],?_,rfl,Fr.ofBelow hw⟩;rw[zfj rfl];simp[asAddr,Result.andThen,hS,hP]
 case stop =>
  rintro D c hM W hD AA ⟨⟨rfl,hX⟩,hB⟩ hK;unfold AtX at hX;obtain⟨h9,y,e1,e2,e3,⟨cs,b1⟩,b2,b3⟩:=hX;obtain⟨rest,hC⟩:=AA;rw[e1,List.append_assoc,List.singleton_append]at hC;have AO:∀ z∈h9,z∈zca (t.hist x):=fun z hz=>by rw[← hC];simp[hz]
  have ht:=Hxok.out y (by rw[← hC];simp);have AC:R=(y.2.key,y.2.has):=HR.out.symm.trans (zsm hC.symm (fun z hz=>by have:=e2 z hz;rwa [Chg.nrm_eq (Hxok.out z (AO z hz))]at this) (by rwa [Chg.nrm_eq ht]at e3));rw[Chg.nrm_eq ht]at b2 b3;subst AC;have hw:Below w.heap.size w (W.putObj D (.deferred none)):=hB.trans (belowK_b (w:=W2) (by omega) W D _ _ hD hK rfl rfl);have m1:=qe (β:=Unit) _ _ _ _ () _ _ _ b1 (grownBy_putObj' W D (.deferred none)) (fun r e=>by cases e;exact⟨_,hK,rfl⟩);have m2:=qe (β:=Unit) _ _ _ _ () _ _ _ b3 (grownBy_putObj' W D (.deferred none)) (fun r e=>by cases e;exact⟨_,hK,rfl⟩);have u0:(W.putObj D (.deferred none)).cell? ⟨w.heap.size+1+1,0,none⟩=some (.bool y.2.has):=by simp[World.cell?,m2]
  have hS:=run_loadVar_mid (P:=Tryz.prog) _ (w.heap.size+1) 0 24 (zb y.2.key) (.array 32 5) (zas b2 (m1.trans b1.symm)) z7 rfl (by rw[jb,ja];exact congrArg some (show 32=y.2.key.length from ht.symm));have HK:=za hK;have Hbp:=za hw;have Hld:=za hS;clear hK hw hS m1 m2 b1 b2 b3 e2 e3 hB AO hC ht
  gi_wp2
  refine⟨by simp,.inl ⟨_,_,rfl,run_takeDeferred HK.out,?_⟩⟩;refine⟨.tuple #[.agg (zb y.2.key).toArray,.bool y.2.has],?_,rfl,Fr.ofBelow Hbp.out⟩;have hS:=Hld.out;have hP:=zf1 _ _ _ u0;rw[zfj rfl];simp[asAddr,Result.andThen,hS,hP]
theorem zx5 {tv:Value}{t:Tb}(x:Bs)(place:Int)(w:World)(h:TV tv t w)(hx:x.length≤maxLen) :
 Calls Tryz.prog 32 #[tv,.string ⟨x.toArray⟩,.int .i64 place] w fun e w'=>e = .returned (.tuple #[.agg (zb (pAt (t.hist x) place).1).toArray,.bool (pAt (t.hist x) place).2])∧Fr NoB w w' :=
 callsIn_wide.1 (zxh x place w h hx)
end
end Go.Proofs.YtcddlemkimbkcaaGreatDoor
