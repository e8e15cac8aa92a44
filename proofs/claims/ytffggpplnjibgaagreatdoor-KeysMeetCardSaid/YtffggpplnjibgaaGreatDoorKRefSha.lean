/-
 The reference's short digest is the program's.
-/
import Derived.Test.YtffggpplnjibgaaGreatDoorKRefShaA
import Derived.Test.YtffggpplnjibgaaGreatDoorKShaShort
open Go.Lib renaming hid→zi,byteCells→zj
open Go.World renaming size_alloc→zm
open Go renaming heap_alloc_new→zo
open Go.IntKind renaming wrap_i64→zt,u8→jg
open List renaming size_toArray→zw,length_append→zy
open Nat renaming le_refl→ja
open Or renaming inl→jc
open Go.Value renaming int→jf
namespace Go.Proofs.YtffggpplnjibgaaGreatDoor
set_option linter.unusedVariables false
set_option linter.unusedSimpArgs false
set_option linter.unusedSectionVars false
set_option maxRecDepth 100000
set_option maxHeartbeats 8000000
open Go.RowKit Go.Shelf
section
variable {P:Program} {ops:Array Oper} {Q:Exit→Act→World→Prop} {md:Region.Mode} {S:World→Prop} {z:Nat}
theorem qiA {i:Nat}{oi:Oper}{v:Value}{fuel:Nat}{listed:Array Bool}{a:Act}{w:World}(hi:ops[i]? = some oi)(hy:YieldsIf P ops S oi v a)(hS:S w)
 (h:wpAnyH P md ops Q S fuel (listed.setIfInBounds i true) (a.put oi.dst v) w) (hs:Region.noSelect ops=true:=by as_aux_lemma=>kernel_rfl) (hf:Region.free md ops listed i=true:=by as_aux_lemma=>kernel_rfl) (hr:(Region.ready md ops listed).contains i=true:=by as_aux_lemma=>kernel_rfl)
 (hQ:∀ c a w,Q (.panic c) (a.put oi.dst v) w→Q (.panic c) a w:=by exact fun _ _ _ h=>h):wpAnyH P md ops Q S (fuel+1) listed a w :=
 wpAnyH_take hi hs hf hr hQ hy hS h
theorem qtA {l:List Bool}{oi:Oper}{v:Value}{fuel:Nat}{a:Act}{w:World}(hi:opN l ops.toList=some oi)(hy:YieldsIf P ops S oi v a)(hS:S w)
 (h:wpAnyH P md ops Q S fuel (mk1 l).toArray (a.put oi.dst v) w) (hs:Region.noSelect ops=true:=by as_aux_lemma=>kernel_rfl) (hf:Region.free md ops l.toArray (nx l)=true:=by as_aux_lemma=>kernel_rfl) (hr:(Region.ready md ops l.toArray).contains (nx l)=true:=by as_aux_lemma=>kernel_rfl)
 (hQ:∀ c a w,Q (.panic c) (a.put oi.dst v) w→Q (.panic c) a w:=by exact fun _ _ _ h=>h):wpAnyH P md ops Q S (fuel+1) l.toArray a w :=
 wpAnyH_take (by rw[← Array.getElem?_toList];exact ziq l _ _ hi) hs hf hr hQ hy hS (by rw[qS,zle];exact h)
theorem zm6 {i:Nat}{oi:Oper}{v:Value}{fuel:Nat}{listed:Array Bool}{a:Act}{w:World}(hi:ops[i]? = some oi)(hy:YieldsIf P ops S oi v a)(hS:S w)
 (h:zbm P md ops Q S z fuel (listed.setIfInBounds i true) (a.put oi.dst v) w) (hz:zo5 md ops z i=true:=by as_aux_lemma=>kernel_rfl) (hs:Region.noSelect ops=true:=by as_aux_lemma=>kernel_rfl) (hf:Region.free md ops listed i=true:=by as_aux_lemma=>kernel_rfl) (hr:(Region.ready md ops listed).contains i=true:=by as_aux_lemma=>kernel_rfl)
 (hQ:∀ c a w,Q (.panic c) (a.put oi.dst v) w→Q (.panic c) a w:=by exact fun _ _ _ h=>h):zbm P md ops Q S z (fuel+1) listed a w :=
 zor hi hz (Region.noSelect_spec hs) hQ fuel _ a w (Region.free_spec hi hf) (by simpa using hr) hy hS h
theorem zxo {l:List Bool}{oi:Oper}{v:Value}{fuel:Nat}{a:Act}{w:World}(hi:opN l ops.toList=some oi)(hy:YieldsIf P ops S oi v a)(hS:S w)
 (h:zbm P md ops Q S z fuel (mk1 l).toArray (a.put oi.dst v) w) (hz:zo5 md ops z (nx l)=true:=by as_aux_lemma=>kernel_rfl) (hs:Region.noSelect ops=true:=by as_aux_lemma=>kernel_rfl) (hf:Region.free md ops l.toArray (nx l)=true:=by as_aux_lemma=>kernel_rfl) (hr:(Region.ready md ops l.toArray).contains (nx l)=true:=by as_aux_lemma=>kernel_rfl)
 (hQ:∀ c a w,Q (.panic c) (a.put oi.dst v) w→Q (.panic c) a w:=by exact fun _ _ _ h=>h):zbm P md ops Q S z (fuel+1) l.toArray a w :=
 zor (by rw[← Array.getElem?_toList];exact ziq l _ _ hi) hz (Region.noSelect_spec hs) hQ fuel _ a w (Region.free_spec (by rw[← Array.getElem?_toList];exact ziq l _ _ hi) hf) (by simpa using hr) hy hS (by rw[qS,zle];exact h)
end
variable [OldK]
theorem zpm (w:World):Calls Tryz.prog 125 #[] w fun e w'=>e = .returned (.slice (some ⟨w.heap.size,0,none⟩) 80 80)∧w'=w.alloc (.cells zs3 165):=by
 go_enter Tryz.func125,Tryz.ntmps125
 go_wp2_with((with_reducible refine Great.wpList_buildSliceTo ?_ 163 165 80 _ rfl w.heap.size rfl _ rfl zgt zs3 ?_ ?_);rfl;kernel_rfl)
 go_ret;exact⟨rfl,rfl⟩
theorem zpo (w:World):Calls Tryz.prog 124 #[] w fun e w'=>e = .returned (.slice (some ⟨w.heap.size,0,none⟩) 8 8)∧w'=w.alloc (.cells rtC 165):=by
 go_enter Tryz.func124,Tryz.ntmps124
 go_wp2_with((with_reducible refine Great.wpList_buildSliceTo ?_ 163 165 8 _ rfl w.heap.size rfl _ rfl zgt rtC ?_ ?_);rfl;kernel_rfl)
 go_ret;exact⟨rfl,rfl⟩
def W32 (T:TypeId) (b:Nat) (xs:List Nat) (w:World):Prop:=w.heap[b]? = some (.cells (zc3 xs).toArray T (0,0))
section
variable {T:TypeId} {b:Nat} {xs:List Nat} {w w':World}
theorem W32.cell (h:W32 T b xs w){i:Nat}(hi:i<xs.length):w.cell? ⟨b,i,none⟩=some (.int .u32 (xs.getD i 0:Nat)):=by
 unfold W32 at h;simp only[World.cell?,h,zc3,Option.isSome_none,Bool.false_eq_true,if_false];rw[List.getElem?_toArray,List.getElem?_map,List.getElem?_eq_getElem hi,List.getD_eq_getElem?_getD,List.getElem?_eq_getElem hi];rfl
theorem W32.froz (h:W32 T b xs w)(i:Nat):w.frozen? ⟨b,i,none⟩=false:=by
 unfold W32 at h;simp[World.frozen?,h]
theorem W32.set (h:W32 T b xs w){i x:Nat}{v:Value}(hv:v = .int .u32 (x:Nat)):W32 T b (xs.set i x) (w.setCell ⟨b,i,none⟩ v):=by
 unfold W32 at h ⊢;rw[jh _ h,hv]
 congr 2
 rw[List.setIfInBounds_toArray]
 congr 1
 unfold zc3;rw[List.map_set]
theorem W32.fr {M:Nat→Obj→Prop}(h:W32 T b xs w)(hF:Fr M w w')(hM:∀ o,¬ M b o):W32 T b xs w':=hF.block _ _ h (hM _)
end
theorem zg4 (b:Nat) (T:TypeId) (f:Nat × Nat):∀ (vs pre:List Value) (rest:List Value) (w:World),vs.length=rest.length→w.heap[b]? = some (.cells (pre++rest).toArray T f)→(w.setCells b pre.length vs).heap[b]? = some (.cells (pre++vs).toArray T f)
 | [],pre,rest,w,hl,h=>by
   have:rest=[]:=List.length_eq_zero_iff.1 hl.symm;subst this;exact h
 | v :: vs,pre,[],w,hl,h=>by simp at hl
 | v :: vs,pre,r :: rest,w,hl,h=>by
   rw[World.setCells];have h2:=jh (o:=pre.length) v h
   have h3:((pre++r :: rest).toArray.setIfInBounds pre.length v)=((pre++[v])++rest).toArray:=by
    rw[List.setIfInBounds_toArray,List.set_append_right _ _ (ja _),Nat.sub_self,List.set_cons_zero,List.append_assoc];rfl
   rw[h3]at h2;have h4:=zg4 b T f vs (pre++[v]) rest _ (by simpa using hl) h2;rw[zy,List.append_assoc]at h4;exact h4
theorem W32.setAll {T:TypeId}{b:Nat}{xs ys:List Nat}{w:World}(h:W32 T b xs w)(hl:ys.length=xs.length):W32 T b ys (w.setCells b 0 (zc3 ys)) :=
 zg4 b T (0,0) (zc3 ys) [] (zc3 xs) w (by simp[zc3,hl]) h
theorem zn7 (l:List Nat):((zc3 l).toArray.all (·.oneCell'))=true:=all_oneCell_toArray (fun v hv=>by
 unfold zc3 at hv;obtain⟨x,-,rfl⟩:=List.mem_map.1 hv
 rfl)
def h1 (i:Nat):List Nat:=wk0.list.take i++List.replicate (8 - i) 0
theorem zx2 (i:Nat)(hi:i≤8):(h1 i).length=8:=by
 unfold h1;have h:wk0.list.length=8:=rfl;rw[zy,List.length_take,List.length_replicate,h];omega
theorem zwv (i:Nat)(hi:i<8):(h1 i).set i (wk0.list.getD i 0)=h1 (i+1):=by
 match i,hi with
 | 0,_=>rfl
 | 1,_=>rfl
 | 2,_=>rfl
 | 3,_=>rfl
 | 4,_=>rfl
 | 5,_=>rfl
 | 6,_=>rfl
 | 7,_=>rfl
 | n+8,h=>omega
theorem zxi (i:Nat)(hi:i<8):∃ r:Nat,rtC[i]? = some (.int .u64 (r:Nat))∧r<18446744073709551616∧r / 4294967296=wk0.list.getD i 0:=by
 match i,hi with
 | 0,_=>exact⟨_,rfl,by decide,by decide⟩
 | 1,_=>exact⟨_,rfl,by decide,by decide⟩
 | 2,_=>exact⟨_,rfl,by decide,by decide⟩
 | 3,_=>exact⟨_,rfl,by decide,by decide⟩
 | 4,_=>exact⟨_,rfl,by decide,by decide⟩
 | 5,_=>exact⟨_,rfl,by decide,by decide⟩
 | 6,_=>exact⟨_,rfl,by decide,by decide⟩
 | 7,_=>exact⟨_,rfl,by decide,by decide⟩
 | n+8,h=>omega
theorem zxb (t:Nat)(h:t<64):zs3[t]? = some (.int .u64 ((kTab.getD t 0:Nat):Int))∧kTab.getD t 0 / 4294967296=kShort.getD t 0:=by
 obtain⟨h1,-,h3⟩:=zqp t h;refine⟨h1,?_⟩;have h4:=congrArg (fun l=>l.getD t 0) h3;have h5:(kShort.take t).length=t:=by rw[List.length_take,zdy];omega
 simp only[List.getD_eq_getElem?_getD]at h4 ⊢;rw[List.getElem?_take,if_pos (by omega),List.getElem?_append_right (by omega),h5,Nat.sub_self]at h4;exact h4.symm
def hA (s z:Wk) (i:Nat):List Nat:=(s.add z).list.take i++s.list.drop i
theorem zxz (s z:Wk)(i:Nat)(hi:i≤8):(hA s z i).length=8:=by
 unfold hA;have h1:(s.add z).list.length=8:=rfl;have h2:s.list.length=8:=rfl;rw[zy,List.length_take,List.length_drop,h1,h2];omega
theorem zx0 (s z:Wk)(i:Nat)(hi:i<8):(hA s z i).getD i 0=s.list.getD i 0:=by
 match i,hi with
 | 0,_=>rfl
 | 1,_=>rfl
 | 2,_=>rfl
 | 3,_=>rfl
 | 4,_=>rfl
 | 5,_=>rfl
 | 6,_=>rfl
 | 7,_=>rfl
 | n+8,h=>omega
theorem zwu (s z:Wk)(i:Nat)(hi:i<8):(hA s z i).set i ((s.list.getD i 0+z.list.getD i 0) % 4294967296)=hA s z (i+1):=by
 match i,hi with
 | 0,_=>rfl
 | 1,_=>rfl
 | 2,_=>rfl
 | 3,_=>rfl
 | 4,_=>rfl
 | 5,_=>rfl
 | 6,_=>rfl
 | 7,_=>rfl
 | n+8,h=>omega
theorem zx1 (s z:Wk):hA s z 8=(s.add z).list:=rfl
theorem zv1 (R:Wk)(i:Nat)(hi:i<32):(R.list.flatMap zco).getD i 0=UInt8.ofNat (R.list.getD (i / 4) 0 / 2 ^ (8 * (3 - i % 4))):=by
 match i,hi with
 | 0,_=>exact rfl
 | 1,_=>exact rfl
 | 2,_=>exact rfl
 | 3,_=>exact congrArg UInt8.ofNat (Nat.div_one _).symm
 | 4,_=>exact rfl
 | 5,_=>exact rfl
 | 6,_=>exact rfl
 | 7,_=>exact congrArg UInt8.ofNat (Nat.div_one _).symm
 | 8,_=>exact rfl
 | 9,_=>exact rfl
 | 10,_=>exact rfl
 | 11,_=>exact congrArg UInt8.ofNat (Nat.div_one _).symm
 | 12,_=>exact rfl
 | 13,_=>exact rfl
 | 14,_=>exact rfl
 | 15,_=>exact congrArg UInt8.ofNat (Nat.div_one _).symm
 | 16,_=>exact rfl
 | 17,_=>exact rfl
 | 18,_=>exact rfl
 | 19,_=>exact congrArg UInt8.ofNat (Nat.div_one _).symm
 | 20,_=>exact rfl
 | 21,_=>exact rfl
 | 22,_=>exact rfl
 | 23,_=>exact congrArg UInt8.ofNat (Nat.div_one _).symm
 | 24,_=>exact rfl
 | 25,_=>exact rfl
 | 26,_=>exact rfl
 | 27,_=>exact congrArg UInt8.ofNat (Nat.div_one _).symm
 | 28,_=>exact rfl
 | 29,_=>exact rfl
 | 30,_=>exact rfl
 | 31,_=>exact congrArg UInt8.ofNat (Nat.div_one _).symm
 | n+32,h=>omega
def stJ (m:Nat) (PD:Bs) (j:Nat):Wk:=((za9 64 m PD).take j).foldl (zbf kShort) wk0
theorem zsf (ks:List Nat):∀ (l:List Bs) (s:Wk),s.lt→(l.foldl (zbf ks) s).lt
 | [],_,h=>h
 | p :: l,s,h=>zsf ks l _ (by unfold zbf;exact Wk.add_lt _ _)
theorem zxd (m:Nat)(PD:Bs)(j:Nat):(stJ m PD j).lt:=zsf kShort _ _ zux
theorem ztd (m:Nat)(PD:Bs)(j:Nat)(hj:j<m):stJ m PD (j+1)=zbf kShort (stJ m PD j) ((PD.drop (j * 64)).take 64):=by
 unfold stJ;rw[List.take_add_one,ze8 64 m PD j hj,List.foldl_append];rfl
theorem zid (w:List Nat) (n:Nat):∀ m,n≤m→∀ t,t<w.length+n→(zcv w m).getD t 0=(zcv w n).getD t 0:=by
 intro m h
 induction m with
 | zero =>
   intro t ht;obtain rfl:n=0:=by omega
   rfl
 | succ m ih =>
   intro t ht;rcases Nat.eq_or_lt_of_le h with rfl | h
   ·rfl
   rw[← ih (by omega) t ht];simp only[zcv,List.getD_eq_getElem?_getD];rw[List.getElem?_append_left (by rw[zf6];omega)]
def zt4 (WS:List Nat) (t:Nat):Nat:=(((zjd 3 (WS.getD (t - 2) 0)+WS.getD (t - 7) 0) % 4294967296+zjd 2 (WS.getD (t - 15) 0)) % 4294967296+WS.getD (t - 16) 0) % 4294967296
theorem zph (w:List Nat)(hw:w.length=16)(m t:Nat)(h1:16≤t)(h2:t<16+m):(zcv w m).getD t 0=zt4 (zcv w m) t:=by
 unfold zt4;have e:∀ i,i<t→(zcv w m).getD i 0=(zcv w (t - 16)).getD i 0:=fun i hi=>zid w (t - 16) m (by omega) i (by omega)
 rw[e (t - 2) (by omega),e (t - 7) (by omega),e (t - 15) (by omega),e (t - 16) (by omega)];rw[zid w (t - 16+1) m (by omega) t (by omega)];have hl:(zcv w (t - 16)).length=t:=by rw[zf6];omega
 simp only[zcv];rw[List.getD_eq_getElem?_getD,List.getElem?_append_right (by omega),hl,Nat.sub_self];unfold znf;rw[hl];rfl
def wsT (WS:List Nat) (t:Nat):List Nat:=WS.take t++List.replicate (64 - t) 0
theorem zqg {WS:List Nat}(h:WS.length=64){t:Nat}(ht:t≤64):(wsT WS t).length=64:=by
 unfold wsT;rw[zy,List.length_take,List.length_replicate];omega
theorem zqf {WS:List Nat} (h:WS.length=64) {t:Nat} (ht:t<64):(wsT WS t).set t (WS.getD t 0)=wsT WS (t+1):=by
 unfold wsT;obtain⟨r,hr⟩:∃ r,64 - t=r+1:=⟨63 - t,by omega⟩
 rw [List.set_append_right _ _ (by rw[List.length_take];omega),List.length_take,show t - min t WS.length=0 by omega,hr,List.replicate_succ,List.set_cons_zero,show 64 - (t+1)=r by omega,
  List.take_add_one,List.getElem?_eq_getElem (by omega),List.getD_eq_getElem?_getD,List.getElem?_eq_getElem (by omega),List.append_assoc]
 rfl
theorem zvj {WS:List Nat}(h:WS.length=64){t i:Nat}(hi:i<t)(ht:t≤64):(wsT WS t).getD i 0=WS.getD i 0:=by
 unfold wsT;rw[List.getD_eq_getElem?_getD,List.getElem?_append_left (by rw[List.length_take];omega),List.getElem?_take,if_pos hi,List.getD_eq_getElem?_getD]
theorem zs6 {WS:List Nat}(h:WS.length=64){t:Nat}(ht:t<64):(wsT WS t).set t 0=wsT WS t:=by
 unfold wsT;obtain⟨r,hr⟩:∃ r,64 - t=r+1:=⟨63 - t,by omega⟩;rw[List.set_append_right _ _ (by rw[List.length_take];omega),List.length_take,show t - min t WS.length=0 by omega,hr,List.replicate_succ,List.set_cons_zero]
def zw5:Array Value:=(zc3 (List.replicate 64 0)).toArray
theorem zqh (x b:Nat)(hb:b<256):(x * 256 % 4294967296+b) % 4294967296=(x * 256 % 4294967296 ||| b):=by
 obtain⟨h1,h2⟩:=zvk x b hb;rw[← h1,Nat.mod_eq_of_lt h2]
theorem zmx (c:Bs)(b:UInt8):za0 (c++[b])=(za0 c * 256 % 4294967296 ||| b.toNat):=by
 unfold za0;rw[List.foldl_append];rfl
theorem zpn (S:Nat→Prop) (l:Bs) (v:Value) (w:World) (hv:SB S l v w) (hnil:∀ n c,v = .slice none n c→c=0) (hlen:l.length≤500000) :
 Calls Tryz.prog 67 #[v] w fun e w'=>e = .returned (.agg (zj (zak l)).toArray)∧Fr NoB w w':=by
 have HP:=zi (fun V (h:Fr NoB w V)=>zm0 S l v V (hv.fr h (fun _ _ _ _ h=>h)) hnil (by omega));obtain⟨m,hm⟩:∃ m,(l.length+72) / 64=m:=⟨_,rfl⟩;have h9:(zqd l).length=64 * m:=by rw[zoe,hm]
 have BO:zak l=((za9 64 m (zqd l)).foldl (zbf kShort) wk0).list.flatMap zco:=by unfold zak zrm;rw[hm]
 obtain⟨PD,CO⟩:∃ P,zqd l=P:=⟨_,rfl⟩;rw[CO]at HP h9 BO;rw[BO];have hm2:m≤10000:=by omega
 have B9:1≤m:=by omega
 obtain⟨R,hR⟩:∃ R,(za9 64 m PD).foldl (zbf kShort) wk0=R:=⟨_,rfl⟩;rw[hR];obtain⟨PR,BQ⟩:∃ x,R.list.flatMap zco=x:=⟨_,rfl⟩;rw[BQ];have Co:=zi BQ;have HR:=zi hR;clear BQ hv hnil CO BO hR hm hlen;go_enter Tryz.func67,Tryz.ntmps67
 go_upto_region 2 with(fail)
 obtain⟨W0,h8⟩:∃ z,(w.alloc (.cells #[jf jg 0,jf jg 0,jf jg 0,jf jg 0,jf jg 0,jf jg 0,jf jg 0,jf jg 0,jf jg 0,jf jg 0,jf jg 0,jf jg 0,jf jg 0,jf jg 0,jf jg 0,jf jg 0,jf jg 0,jf jg 0,jf jg 0,jf jg 0,jf jg 0,jf jg 0,jf jg 0,jf jg 0,jf jg 0,jf jg 0,jf jg 0,jf jg 0,jf jg 0,jf jg 0,jf jg 0,jf jg 0] 23)).alloc (.cells wkZ 160)=z:=⟨_,rfl⟩;have BZ:W0.heap[w.heap.size]? = some (.cells #[jf jg 0,jf jg 0,jf jg 0,jf jg 0,jf jg 0,jf jg 0,jf jg 0,jf jg 0,jf jg 0,jf jg 0,jf jg 0,jf jg 0,jf jg 0,jf jg 0,jf jg 0,jf jg 0,jf jg 0,jf jg 0,jf jg 0,jf jg 0,jf jg 0,jf jg 0,jf jg 0,jf jg 0,jf jg 0,jf jg 0,jf jg 0,jf jg 0,jf jg 0,jf jg 0,jf jg 0,jf jg 0] 23 (0,0)):=by rw[← h8];exact(Fr.refl (M:=NoB)).alloc (w:=w.alloc (.cells #[jf jg 0,jf jg 0,jf jg 0,jf jg 0,jf jg 0,jf jg 0,jf jg 0,jf jg 0,jf jg 0,jf jg 0,jf jg 0,jf jg 0,jf jg 0,jf jg 0,jf jg 0,jf jg 0,jf jg 0,jf jg 0,jf jg 0,jf jg 0,jf jg 0,jf jg 0,jf jg 0,jf jg 0,jf jg 0,jf jg 0,jf jg 0,jf jg 0,jf jg 0,jf jg 0,jf jg 0,jf jg 0] 23)) _ |>.block _ _ (zo w _) (fun h=>h)
 have hW:W32 160 (w.heap.size+1) (h1 0) W0:=by
  have h:=zo (w.alloc (.cells #[jf jg 0,jf jg 0,jf jg 0,jf jg 0,jf jg 0,jf jg 0,jf jg 0,jf jg 0,jf jg 0,jf jg 0,jf jg 0,jf jg 0,jf jg 0,jf jg 0,jf jg 0,jf jg 0,jf jg 0,jf jg 0,jf jg 0,jf jg 0,jf jg 0,jf jg 0,jf jg 0,jf jg 0,jf jg 0,jf jg 0,jf jg 0,jf jg 0,jf jg 0,jf jg 0,jf jg 0,jf jg 0] 23)) (.cells wkZ 160);rw[zm,h8]at h;exact h
 have CR:Fr NoB w W0:=by rw[← h8];exact(Fr.refl.alloc _).alloc _
 have AJ:W0.heap.size=w.heap.size+2:=by rw[← h8,zm,zm]
 change Code.wp _ _ _ _ ((w.alloc (.cells #[jf jg 0,jf jg 0,jf jg 0,jf jg 0,jf jg 0,jf jg 0,jf jg 0,jf jg 0,jf jg 0,jf jg 0,jf jg 0,jf jg 0,jf jg 0,jf jg 0,jf jg 0,jf jg 0,jf jg 0,jf jg 0,jf jg 0,jf jg 0,jf jg 0,jf jg 0,jf jg 0,jf jg 0,jf jg 0,jf jg 0,jf jg 0,jf jg 0,jf jg 0,jf jg 0,jf jg 0,jf jg 0] 23)).alloc (.cells wkZ 160));rw[h8];obtain⟨q,hq⟩:∃ q,w.heap.size=q:=⟨_,rfl⟩;rw[hq]at BZ hW AJ ⊢;have Hq:=zi hq;have C7:=zi BZ;have C1:=zi CR;clear h8 hq BZ CR
 go_wp2_with fail
 refine(zpo W0).mono ?_;rintro e w1 ⟨rfl,rfl⟩;rw[AJ];have At:=zo W0 (.cells rtC 165);rw[AJ]at At;obtain⟨w1,Ak⟩:∃ z,W0.alloc (.cells rtC 165)=z:=⟨_,rfl⟩;have hg:Fr NoB W0 w1:=by rw[← Ak];exact Fr.refl.alloc _
 have Am:w1.heap.size=q+3:=by rw[← Ak,zm,AJ]
 rw[Ak]at At ⊢;have Cn:=zi At;have C0:=zi hg;clear At Ak hg
 go_wp2_with fail
 refine(zpm w1).mono ?_;rintro e w2 ⟨rfl,rfl⟩;rw[Am];have As:=zo w1 (.cells zs3 165);rw[Am]at As;obtain⟨w2,Aj⟩:∃ z,w1.alloc (.cells zs3 165)=z:=⟨_,rfl⟩;have BU:Fr NoB w1 w2:=by rw[← Aj];exact Fr.refl.alloc _
 have Br:w2.heap.size=q+4:=by rw[← Aj,zm,Am]
 rw[Aj]at As ⊢;have Ci:=zi As;have Cl:=zi (BU.block _ _ Cn.out (fun h=>h));have hh:=C0.out.trans' BU;have Cw:=zi (hW.fr hh (fun _ h=>h));have C6:=zi (hh.block _ _ C7.out (fun h=>h));have Cz:=zi (C1.out.trans' hh);have Db:=zi Br;clear Aj As BU hh Cn C0 C1 C7 hW AJ Am Br
 go_wp2_with fail
 go_loopg [6] 9 (fun gf vi wr=>∃ i:Nat,vi = .int .i64 i∧i≤8∧i+gf=9∧Hid (W32 160 (q+1) (h1 i) wr)∧Hid (Fr (fun k _=>k=q+1) w2 wr))
 case atStart=>exact⟨0,rfl,by omega,by omega,Cw,zi Fr.refl⟩
 case round =>
  obtain⟨i,rfl,hi,BC,hp,hG⟩:=hrel;by_cases AM:i<8
  ·have hD:decide ((i:Int)<8)=true:=decide_eq_true (by omega);have AN:(i:Int)<8:=by omega
   obtain⟨r,hr,hr64,DI⟩:=zxi i AM;have x0:wr.cell? ⟨q+2,i,none⟩=some (.int .u64 (r:Nat)):=Fr.cell hG.out (by simp only[World.cell?,Cl.out,Option.isSome_none,Bool.false_eq_true,if_false];exact hr) (fun _ h=>by simp at h);have x1:=hp.out.cell (i:=i) (by rw[zx2 i hi];exact AM);have f1:=hp.out.froz i
   have hI:∀ v,v=Value.int .u32 (wk0.list.getD i 0:Nat)→W32 160 (q+1) (h1 (i+1)) (wr.setCell ⟨q+1,i,none⟩ v):=fun v hv=>by
    have h:=hp.out.set (i:=i) hv
    rwa [zwv i AM]at h
   have Hst:=zi hI;clear hr hI
   go_wp2_with fail
   go_roundg (gk - 1)
   case measure=>omega
   case rel=>exact⟨i+1,by simp,by omega,by omega,zi (Hst.out _ (by rw[← DI,Int.natCast_ediv];rfl)),zi (hG.out.setCell _ _ (fun _ _=>rfl))⟩
  obtain rfl:i=8:=by omega
  have hD:decide (((8:Nat):Int)<8)=false:=rfl;have DH:w2.heap.size≤wr.heap.size:=hG.out.size;have BT:Fr NoB w wr:=Cz.out.trans hG.out (fun k _ hm => .inr (by have:=Hq.out;omega));have B0:=HP.out wr BT;have Ch:=zi (hG.out.block _ _ Ci.out (by simp));have C5:=zi (hG.out.block _ _ C6.out (by simp));have Hpd:=zi B0;have Cx:=zi BT;have Cv:Hid (W32 160 (q+1) wk0.list wr):=hp;have DJ:q+4≤wr.heap.size:=by have:=Db.out;omega
  clear B0 BT HP hG Cw hp Ci C6 Cl Cz
  go_wp2_with fail
  refine Hpd.out.mono ?_;rintro e w4 ⟨⟨v',rfl,hO⟩,AA⟩;obtain⟨ga,gc,rfl⟩:=hO.form
  obtain ⟨pg,DK,DP,hJ⟩:∃ g,ga=some ⟨g,0,none⟩∧wr.heap.size≤g∧∀ (j:Nat) (x:UInt8),PD[j]? = some x→w4.cell? ⟨g,j,none⟩=some (.int .u8 x.toNat):=by
   rcases hO.2 with⟨h,h2⟩ | ⟨g,cap,cur,h,h2,-⟩
   ·have:=B9;omega
   obtain⟨rfl,-,rfl⟩:ga=some ⟨g,0,none⟩∧PD.length=PD.length∧gc=cap:=by simpa using h
   refine⟨g,rfl,h2,fun j x hx=>?_⟩;have h3:=hO.cells (g:=g) rfl j (.int .u8 x.toNat) (by unfold zj;rw[List.getElem?_map,hx];rfl)
   rwa [Addr.add_lit,Nat.zero_add]at h3
  subst DK;have hgw:pg<w4.heap.size:=World.block_lt_of_cell? _ _ (hJ 0 PD[0] (List.getElem?_eq_getElem (by omega)));have Df:=zi (AA.block _ _ Ch.out (fun h=>h));have Dp:=zi (AA.block _ _ C5.out (fun h=>h));have Cu:=zi (Cv.out.fr AA (fun _ h=>h));have Dm:=zi (Cx.out.trans' AA);have hq5:q+4≤w4.heap.size:=by have:=AA.size;omega
  have Hpc:=zi hJ;have hpq:q+4≤pg:=by omega
  have A5:=zi h9;clear hO AA Ch C5 Cv Cx Hpd hJ DP h9 DJ DH B9
  go_wp2_with fail
  go_loopg [8] (m+1) (fun gf va wr=>∃ j A:Nat,va = .int .i64 (A:Nat)∧Hid (A=64 * j)∧j≤m∧j+gf=m+1∧Hid (W32 160 (q+1) (stJ m PD j).list wr)∧Hid (Fr (fun k _=>k=q+1) w4 wr))
  case atStart=>exact⟨0,0,rfl,zi rfl,by omega,by omega,Cu,zi Fr.refl⟩
  case round =>
   clear Cu;obtain⟨j,A,rfl,HA,hj,hjg,Ag,AD⟩:=hrel;obtain⟨DV,BE⟩:∃ x,x=gk:=⟨_,rfl⟩;subst BE;by_cases AM:j<m
   ·have hD:decide ((A:Int)<PD.length)=true:=decide_eq_true (by rw[A5.out,HA.out];omega);have DS:(A:Int)<PD.length:=of_decide_eq_true hD;have hA6:A≤640000:=by have:=HA.out;omega
    obtain⟨sj,Al⟩:∃ s,stJ m PD j=s:=⟨_,rfl⟩;rw[Al]at Ag;have Hsj:=zi Al;have AI:sj.lt:=by rw[← Al];exact zxd m PD j
    have Hsl:=zi AI;obtain⟨wo,DD⟩:∃ z:World,z=wr:=⟨_,rfl⟩;subst DD;obtain⟨PC,Au⟩:∃ c,(PD.drop (j * 64)).take 64=c:=⟨_,rfl⟩;have AV:PC.length=64:=by rw[← Au,List.length_take,List.length_drop,A5.out];omega
    have B6:∀ (i:Nat) (x:UInt8),PC[i]? = some x→w4.cell? ⟨pg,A+i,none⟩=some (.int .u8 x.toNat):=fun i x hx=>by
     rw[← Au,List.getElem?_take]at hx;split at hx
     ·rw[List.getElem?_drop]at hx;have:=Hpc.out _ _ hx
      rwa [show j * 64+i=A+i by rw[HA.out,Nat.mul_comm]]at this
     cases hx
    obtain⟨WS,h7⟩:∃ s,zcv ((za9 4 16 PC).map za0) 48=s:=⟨_,rfl⟩;have he:((za9 4 16 PC).map za0).length=16:=by rw[List.length_map,zdv]
    have CI:WS.length=64:=by rw[← h7,zf6,he]
    have CH:∀ x∈WS,x<4294967296:=by
     rw[← h7];refine zkf _ ?_ 48;intro x hx;obtain⟨c,-,rfl⟩:=List.mem_map.1 hx;exact zh4 c
    have CK:∀ t,t<16→WS.getD t 0=za0 ((PC.drop (t * 4)).take 4):=fun t ht=>by
     rw[← h7,zid _ 0 48 (by omega) t (by rw[he];omega)];show((za9 4 16 PC).map za0).getD t 0=_;rw[List.getD_eq_getElem?_getD,List.getElem?_map,ze8 4 16 PC t ht];rfl
    have CJ:∀ t,16≤t→t<64→WS.getD t 0=zt4 WS t:=fun t h1 h2=>by
     rw[← h7];exact zph _ he 48 t h1 (by omega)
    have Cc:=zi (And.intro Au h7);have Dd:=zi CK;have Dc:=zi CJ;have Af:=zi CH;have hl:=zi CI;have Hpp:=zi B6;have Bg:=zi AV;clear Al AI Au AV B6 h7 he CI CH CK CJ
    go_wp2_with fail
    change Code.wp _ _ _ _ (wo.alloc (.cells zw5 174));have BY:W32 174 wo.heap.size (wsT WS 0) (wo.alloc (.cells zw5 174)):=zo wo (.cells zw5 174);have hf:Fr NoB wo (wo.alloc (.cells zw5 174)):=Fr.refl.alloc _;have hu:(wo.alloc (.cells zw5 174)).heap.size=wo.heap.size+1:=zm _ _;obtain⟨W5,BH⟩:∃ z,wo.alloc (.cells zw5 174)=z:=⟨_,rfl⟩;obtain⟨bw,Ap⟩:∃ z,wo.heap.size=z:=⟨_,rfl⟩;have hbw4:w4.heap.size≤bw:=by rw[← Ap];exact AD.out.size
    rw[BH,Ap]at BY hu;rw[BH]at hf ⊢;rw[Ap];have Bi:Hid (Fr (fun k _=>k=q+1) w4 W5):=zi (AD.out.trans hf (fun _ _ h=>h.elim));have Di:=zi (Ag.out.fr hf (fun _ h=>h));have C4:=zi BY;have Hso:=zi hu;clear BY hf hu BH Ap AD Ag
    go_loopg [10] 65 (fun gf vt wr=>∃ t:Nat,vt = .int .i64 t∧t≤64∧t+gf=65∧Hid (W32 174 bw (wsT WS t) wr)∧Hid (Fr (fun k _=>k=bw) W5 wr))
    case atStart=>exact⟨0,rfl,by omega,by omega,C4,zi Fr.refl⟩
    case round =>
     clear C4;obtain⟨t,rfl,ht,DG,Ah,hP⟩:=hrel;by_cases hE:t<64
     ·have hD:decide ((t:Int)<64)=true:=decide_eq_true (by omega);have AH:(t:Int)<64:=by omega
      by_cases BA:t<16
      ·have DT:decide ((t:Int)<16)=true:=decide_eq_true (by omega);have Ba:(t:Int)<16:=by omega
       obtain⟨DU,BD⟩:∃ x,x=gk:=⟨_,rfl⟩;subst BD;obtain⟨WT,DR⟩:∃ z:World,z=wr:=⟨_,rfl⟩;subst DR
       go_wp2_with fail
       go_loopg [11] 5 (fun gf vi wr=>∃ i:Nat,vi = .int .i64 i∧i≤4∧i+gf=5∧Hid (W32 174 bw ((wsT WS t).set t (za0 ((PC.drop (t * 4)).take i))) wr)∧Hid (Fr (fun k _=>k=bw) W5 wr))
       case atStart=>exact⟨0,rfl,by omega,by omega,zi (by rw[List.take_zero];show W32 _ bw ((wsT WS t).set t 0) _;rw[zs6 hl.out hE];exact Ah.out),hP⟩
       case round =>
        obtain⟨i,rfl,hi,BC,C2,hG⟩:=hrel;have hlen:=zqg hl.out ht;by_cases hi4:i<4
        ·have hD:decide ((i:Int)<4)=true:=decide_eq_true (by omega);have hi4i:(i:Int)<4:=by omega
         obtain⟨b,hb⟩:∃ b,PC[t * 4+i]? = some b:=⟨_,List.getElem?_eq_getElem (by rw[Bg.out];omega)⟩;have x0:=Hpp.out _ _ hb;have x0:=Fr.cell Bi.out x0 (fun _ h=>by omega);have x0:=Fr.cell hG.out x0 (fun h=>by omega);obtain⟨B1,Ay⟩:∃ z,4 * t=z:=⟨_,rfl⟩;obtain⟨B2,Ax⟩:∃ z,A+B1=z:=⟨_,rfl⟩;obtain⟨B3,Aw⟩:∃ z,B2+i=z:=⟨_,rfl⟩
         have x0:wr.drew.cell? ⟨pg,B3,none⟩=some (.int .u8 b.toNat):=by
          have h:=Fr.cell (Fr.refl (M:=NoB) (w:=wr)).drew x0
          rwa [show A+(t * 4+i)=B3 by omega]at h
         have e1:IntKind.i64.wrap (4 * (t:Int))=(B1:Int):=by rw[zt];omega
         have e2:IntKind.i64.wrap ((A:Int)+(B1:Int))=(B2:Int):=by rw[zt];omega
         have e3:IntKind.i64.wrap ((B2:Int)+(i:Int))=(B3:Int):=by rw[zt];omega
         have hB3l:(B3:Int)<PD.length:=by rw[A5.out];have:=HA.out;omega
         have hT:=C2.out.fr (Fr.refl (M:=NoB)).drew (fun _ h=>h);obtain⟨X,hX⟩:∃ x,za0 ((PC.drop (t * 4)).take i)=x:=⟨_,rfl⟩;rw[hX]at hT;have c0:=hT.cell (i:=t) (by rw[List.length_set,hlen];exact hE);rw[show((wsT WS t).set t X).getD t 0=X by rw[List.getD_eq_getElem?_getD,List.getElem?_set_self (by rw[hlen];exact hE)];rfl]at c0;have f0:=hT.froz t;obtain⟨Y,hY⟩:∃ y,X * 256 % 4294967296=y:=⟨_,rfl⟩;obtain⟨Z,hZ⟩:∃ y,(Y+b.toNat) % 4294967296=y:=⟨_,rfl⟩;have e4:IntKind.u32.wrap ((X:Int) * 256)=(Y:Int):=by rw[IntKind.wrap_u32'];omega
         have e5:IntKind.u32.wrap ((Y:Int)+(b.toNat:Int))=(Z:Int):=(zi7 hZ).1;have e6:((Y:Int)+(b.toNat:Int)) % 4294967296=(Z:Int):=(zi7 hZ).2;have e7:(b.toNat:Int) % 4294967296=(b.toNat:Int):=by have:=b.toNat_lt;omega
         have hI:W32 174 bw ((wsT WS t).set t (za0 ((PC.drop (t * 4)).take (i+1)))) (wr.drew.setCell ⟨bw,t,none⟩ (.int .u32 (Z:Nat))):=by
          have h:=hT.set (i:=t) (x:=Z) rfl;rw[List.set_set]at h;rw[List.take_add_one,List.getElem?_drop,hb];rw[show(some b).toList=[b] from rfl,zmx,hX,← zqh X b.toNat b.toNat_lt,hY,hZ];exact h
         have Hst:=zi hI;clear hI hT hX hb Ay Ax Aw hY hZ
         go_upto_region 20 with(fail)
         refine zam (S:=fun V=>Hid (V.cell? ⟨bw,t,none⟩=some (.int .u32 (X:Nat))∧V.cell? ⟨pg,B3,none⟩=some (.int .u8 b.toNat))) 17 (by kernel_rfl) (zi ⟨c0,x0⟩) (fun hB=>?_);simp only[qV]
         iterate 17
          refine zxo (v:=?_) rfl (jc ⟨by rfl,?_⟩) hB ?_;rotate_left
          ·intro W hC;obtain⟨z0,z1⟩:=hC.out
           try simp only[qQ]
           go_simp
           try rw[if_neg (by omega)]
           try with_reducible rfl
          try simp only[Act.put,qP]
         refine qzD (by as_aux_lemma=>kernel_rfl) rfl (fun K hK=>?_)
         try simp only[qQ]
         go_simp;refine hK.out _ _ ?_;clear hK K
         try simp only[Act.put,qP]
         refine zd2 (by kernel_rfl) ?_ _;simp only[zbl];clear hB
         go_wp2_with fail
         go_roundg (gk - 1)
         case measure=>omega
         case rel=>exact⟨i+1,by simp,by omega,by omega,zi (by have h:=Hst.out;rw[← e6]at h;exact h),zi (hG.out.drew.setCell _ _ (fun _ _=>rfl))⟩
        obtain rfl:i=4:=by omega
        have hD:decide (((4:Nat):Int)<4)=false:=rfl;have Do:Hid (W32 174 bw (wsT WS (t+1)) wr):=zi (by rw[← zqf hl.out hE,Dd.out t BA];exact C2.out)
        go_wp2_with fail
        go_roundg (DU - 1)
        case measure=>omega
        case rel=>exact⟨t+1,by simp,by omega,by omega,Do,hG⟩
      have DT:decide ((t:Int)<16)=false:=decide_eq_false (by omega);have Ba:¬ (t:Int)<16:=by omega
      have hlen:=zqg hl.out ht;have hS:=fun i (hi:i<t)=>(by have h:=Ah.out.cell (i:=i) (by rw[hlen];omega);rw[zvj hl.out hi ht]at h;exact h:wr.cell? ⟨bw,i,none⟩=some (.int .u32 (WS.getD i 0:Nat)))
      have hF:=Dc.out t (by omega) hE;unfold zt4 at hF;obtain⟨n2,An⟩:∃ z,t - 2=z:=⟨_,rfl⟩;obtain⟨n7,B8⟩:∃ z,t - 7=z:=⟨_,rfl⟩;obtain⟨hn,AL⟩:∃ z,t - 15=z:=⟨_,rfl⟩;obtain⟨hd,AK⟩:∃ z,t - 16=z:=⟨_,rfl⟩;rw[An,B8,AL,AK]at hF;have c2:=hS n2 (by omega);have c7:=hS n7 (by omega);have DY:=hS hn (by omega);have CW:=hS hd (by omega);have l2:=zcm Af.out n2;have l7:=zcm Af.out n7;have AE:=zcm Af.out hn;have DA:=zcm Af.out hd;obtain⟨x,hx⟩:∃ z,WS.getD n2 0=z:=⟨_,rfl⟩;obtain⟨y,hy⟩:∃ z,WS.getD hn 0=z:=⟨_,rfl⟩;obtain⟨a7,CG⟩:∃ z,WS.getD n7 0=z:=⟨_,rfl⟩;obtain⟨CX,AQ⟩:∃ z,WS.getD hd 0=z:=⟨_,rfl⟩;rw[hx]at c2 l2 hF;rw[hy]at DY AE hF;rw[CG]at c7 l7 hF;rw[AQ]at CW DA hF;have p3:zjd 3 x=(zdn x 17 ^^^ zdn x 19) ^^^ (x / 1024):=rfl;have p2:zjd 2 y=(zdn y 7 ^^^ zdn y 18) ^^^ (y / 8):=rfl;rw[p3,p2]at hF;have g1:=zbj (n:=17) l2;have g2:=zbj (n:=19) l2;have g3:=zbj (n:=7) AE;have g4:=zbj (n:=18) AE;have Ae:=zi (fun V=>zdm x 17 V l2 (by decide));have Ad:=zi (fun V=>zdm x 19 V l2 (by decide));have Ac:=zi (fun V=>zdm y 7 V AE (by decide));have Ab:=zi (fun V=>zdm y 18 V AE (by decide));obtain⟨r1,Bz⟩:∃ z,zdn x 17=z:=⟨_,rfl⟩;obtain⟨r2,By⟩:∃ z,zdn x 19=z:=⟨_,rfl⟩;obtain⟨r3,Bw⟩:∃ z,zdn y 7=z:=⟨_,rfl⟩;obtain⟨r4,Bv⟩:∃ z,zdn y 18=z:=⟨_,rfl⟩;rw[Bz]at hF g1 Ae;rw[By]at hF g2 Ad;rw[Bw]at hF g3 Ac;rw[Bv]at hF g4 Ab;have s1:x / 1024<4294967296:=by omega
      have s2:y / 8<4294967296:=by omega
      have f1:=zqe _ _ g1 g2;have f2:=zqe _ _ (show r1 ^^^ r2<4294967296 from Nat.xor_lt_two_pow (n:=32) g1 g2) s1;have f3:=zqe _ _ g3 g4;have f4:=zqe _ _ (show r3 ^^^ r4<4294967296 from Nat.xor_lt_two_pow (n:=32) g3 g4) s2;have d1:(x:Int) / 1024=((x / 1024:Nat):Int):=by omega
      have d2:(y:Int) / 8=((y / 8:Nat):Int):=by omega
      obtain⟨S1,CM⟩:∃ z,x / 1024=z:=⟨_,rfl⟩;obtain⟨S2,CL⟩:∃ z,y / 8=z:=⟨_,rfl⟩;rw[CM]at hF f2 d1;rw[CL]at hF f4 d2;obtain⟨X1,AU⟩:∃ z,r1 ^^^ r2=z:=⟨_,rfl⟩;obtain⟨X3,AS⟩:∃ z,r3 ^^^ r4=z:=⟨_,rfl⟩;rw[AU]at hF f1 f2;rw[AS]at hF f3 f4;obtain⟨X2,AT⟩:∃ z,X1 ^^^ S1=z:=⟨_,rfl⟩;obtain⟨X4,AR⟩:∃ z,X3 ^^^ S2=z:=⟨_,rfl⟩;rw[AT]at hF f2;rw[AR]at hF f4;obtain⟨A1,hW⟩:∃ z,(X2+a7) % 4294967296=z:=⟨_,rfl⟩;rw[hW]at hF;obtain⟨A2,AB⟩:∃ z,(A1+X4) % 4294967296=z:=⟨_,rfl⟩;rw[AB]at hF;obtain⟨A3,h4⟩:∃ z,(A2+CX) % 4294967296=z:=⟨_,rfl⟩;rw[h4]at hF;have k1:=(zi7 hW).1;have k2:=(zi7 AB).1;have k3:=(zi7 h4).1;have k4:=(zi7 h4).2;have i2:(t:Int) - 2=(n2:Int):=by omega
      have i7:(t:Int) - 7=(n7:Int):=by omega
      have i15:(t:Int) - 15=(hn:Int):=by omega
      have i16:(t:Int) - 16=(hd:Int):=by omega
      have j2:IntKind.i64.wrap (n2:Int)=(n2:Int):=by rw[zt];omega
      have qi2:(n2:Int)<64:=by omega
      have j7:IntKind.i64.wrap (n7:Int)=(n7:Int):=by rw[zt];omega
      have qi7:(n7:Int)<64:=by omega
      have j15:IntKind.i64.wrap (hn:Int)=(hn:Int):=by rw[zt];omega
      have qi15:(hn:Int)<64:=by omega
      have j16:IntKind.i64.wrap (hd:Int)=(hd:Int):=by rw[zt];omega
      have qi16:(hd:Int)<64:=by omega
      have q2:n2<64:=by omega
      have q7:n7<64:=by omega
      have q15:hn<64:=by omega
      have q16:hd<64:=by omega
      have hT:=Ah.out.fr (Fr.refl (M:=NoB)).drew (fun _ h=>h);have ct:=hT.cell (i:=t) (by rw[hlen];exact hE);have ft:=hT.froz t
      have hI:W32 174 bw (wsT WS (t+1)) (wr.drew.setCell ⟨bw,t,none⟩ (.int .u32 (A3:Nat))):=by
       have h:=hT.set (i:=t) (x:=A3) rfl;rw[← hF,zqf hl.out hE]at h;rw[← hF];exact h
      have Hst:=zi hI;have DX:=Fr.cell (Fr.refl (M:=NoB) (w:=wr)).drew c7;have Bb:=Fr.cell (Fr.refl (M:=NoB) (w:=wr)).drew CW;clear hS hF An B8 AL AK hx hy CG AQ p3 p2 g1 g2 g3 g4 Bz By Bw Bv s1 s2 CM CL AU AT AS AR hW AB h4 hT hI hlen
      go_upto_region 23 with(fail)
      refine zam (S:=fun V=>V.cell? ⟨bw,n7,none⟩=some (.int .u32 (a7:Nat))∧V.cell? ⟨bw,hd,none⟩=some (.int .u32 (CX:Nat))) 29 (by kernel_rfl) ⟨DX,Bb⟩ (fun hB=>?_);simp only[qV]
      iterate 2
       refine zxo (v:=?_) rfl (jc ⟨by rfl,?_⟩) hB ?_;rotate_left
       ·intro W hC;obtain⟨z0,z1⟩:=hC
        try simp only[qQ]
        go_simp
        try rw[if_neg (by omega)]
        try with_reducible rfl
       try simp only[Act.put,qP]
      refine zm6 (i:=3) (v:=?_) rfl (jc ⟨by rfl,?_⟩) hB ?_;rotate_left
      ·intro W hC;obtain⟨z0,z1⟩:=hC
       try simp only[qQ]
       go_simp
       try rw[if_neg (by omega)]
       try with_reducible rfl
      try simp only[Act.put,qP]
      refine zm6 (i:=6) (v:=?_) rfl (jc ⟨by rfl,?_⟩) hB ?_;rotate_left
      ·intro W hC;obtain⟨z0,z1⟩:=hC
       try simp only[qQ]
       go_simp
       try rw[if_neg (by omega)]
       try with_reducible rfl
      try simp only[Act.put,qP]
      refine zm6 (i:=7) (v:=?_) rfl (jc ⟨by rfl,?_⟩) hB ?_;rotate_left
      ·intro W hC;obtain⟨z0,z1⟩:=hC
       try simp only[qQ]
       go_simp
       try rw[if_neg (by omega)]
       try with_reducible rfl
      try simp only[Act.put,qP]
      refine zm6 (i:=9) (v:=?_) rfl (jc ⟨by rfl,?_⟩) hB ?_;rotate_left
      ·intro W hC;obtain⟨z0,z1⟩:=hC
       try simp only[qQ]
       go_simp
       try rw[if_neg (by omega)]
       try with_reducible rfl
      try simp only[Act.put,qP]
      refine zm6 (i:=10) (v:=?_) rfl (jc ⟨by rfl,?_⟩) hB ?_;rotate_left
      ·intro W hC;obtain⟨z0,z1⟩:=hC
       try simp only[qQ]
       go_simp
       try rw[if_neg (by omega)]
       try with_reducible rfl
      try simp only[Act.put,qP]
      refine zm6 (i:=11) (v:=?_) rfl (jc ⟨by rfl,?_⟩) hB ?_;rotate_left
      ·intro W hC;obtain⟨z0,z1⟩:=hC
       try simp only[qQ]
       go_simp
       try rw[if_neg (by omega)]
       try with_reducible rfl
      try simp only[Act.put,qP]
      refine zm6 (i:=12) (v:=?_) rfl (jc ⟨by rfl,?_⟩) hB ?_;rotate_left
      ·intro W hC;obtain⟨z0,z1⟩:=hC
       try simp only[qQ]
       go_simp
       try rw[if_neg (by omega)]
       try with_reducible rfl
      try simp only[Act.put,qP]
      refine zm6 (i:=14) (v:=?_) rfl (jc ⟨by rfl,?_⟩) hB ?_;rotate_left
      ·intro W hC;obtain⟨z0,z1⟩:=hC
       try simp only[qQ]
       go_simp
       try rw[if_neg (by omega)]
       try with_reducible rfl
      try simp only[Act.put,qP]
      refine zm6 (i:=16) (v:=?_) rfl (jc ⟨by rfl,?_⟩) hB ?_;rotate_left
      ·intro W hC;obtain⟨z0,z1⟩:=hC
       try simp only[qQ]
       go_simp
       try rw[if_neg (by omega)]
       try with_reducible rfl
      try simp only[Act.put,qP]
      refine zm6 (i:=19) (v:=?_) rfl (jc ⟨by rfl,?_⟩) hB ?_;rotate_left
      ·intro W hC;obtain⟨z0,z1⟩:=hC
       try simp only[qQ]
       go_simp
       try rw[if_neg (by omega)]
       try with_reducible rfl
      try simp only[Act.put,qP]
      refine zm6 (i:=20) (v:=?_) rfl (jc ⟨by rfl,?_⟩) hB ?_;rotate_left
      ·intro W hC;obtain⟨z0,z1⟩:=hC
       try simp only[qQ]
       go_simp
       try rw[if_neg (by omega)]
       try with_reducible rfl
      try simp only[Act.put,qP]
      refine zm6 (i:=23) (v:=?_) rfl (jc ⟨by rfl,?_⟩) hB ?_;rotate_left
      ·intro W hC;obtain⟨z0,z1⟩:=hC
       try simp only[qQ]
       go_simp
       try rw[if_neg (by omega)]
       try with_reducible rfl
      try simp only[Act.put,qP]
      refine zm6 (i:=24) (v:=?_) rfl (jc ⟨by rfl,?_⟩) hB ?_;rotate_left
      ·intro W hC;obtain⟨z0,z1⟩:=hC
       try simp only[qQ]
       go_simp
       try rw[if_neg (by omega)]
       try with_reducible rfl
      try simp only[Act.put,qP]
      refine zm6 (i:=25) (v:=?_) rfl (jc ⟨by rfl,?_⟩) hB ?_;rotate_left
      ·intro W hC;obtain⟨z0,z1⟩:=hC
       try simp only[qQ]
       go_simp
       try rw[if_neg (by omega)]
       try with_reducible rfl
      try simp only[Act.put,qP]
      refine zm6 (i:=26) (v:=?_) rfl (jc ⟨by rfl,?_⟩) hB ?_;rotate_left
      ·intro W hC;obtain⟨z0,z1⟩:=hC
       try simp only[qQ]
       go_simp
       try rw[if_neg (by omega)]
       try with_reducible rfl
      try simp only[Act.put,qP]
      refine qrD (i:=2) (by as_aux_lemma=>kernel_rfl) rfl (fun K hK=>?_)
      try simp only[qQ]
      go_simp;refine(Ae.out _).mono ?_;rintro r w2 ⟨rfl,rfl⟩;refine hK.out _ _ hB (fun hB=>?_);clear hK K
      try simp only[Act.put,qP]
      refine qrD (i:=4) (by as_aux_lemma=>kernel_rfl) rfl (fun K hK=>?_)
      try simp only[qQ]
      go_simp;refine(Ad.out _).mono ?_;rintro r w2 ⟨rfl,rfl⟩;refine hK.out _ _ hB (fun hB=>?_);clear hK K
      try simp only[Act.put,qP]
      iterate 3
       refine zxo (v:=?_) rfl (jc ⟨by rfl,?_⟩) hB ?_;rotate_left
       ·intro W hC;obtain⟨z0,z1⟩:=hC
        try simp only[qQ]
        go_simp
        try rw[if_neg (by omega)]
        try with_reducible rfl
       try simp only[Act.put,qP]
      refine qrD (i:=15) (by as_aux_lemma=>kernel_rfl) rfl (fun K hK=>?_)
      try simp only[qQ]
      go_simp;refine(Ac.out _).mono ?_;rintro r w2 ⟨rfl,rfl⟩;refine hK.out _ _ hB (fun hB=>?_);clear hK K
      try simp only[Act.put,qP]
      refine qrD (i:=17) (by as_aux_lemma=>kernel_rfl) rfl (fun K hK=>?_)
      try simp only[qQ]
      go_simp;refine(Ab.out _).mono ?_;rintro r w2 ⟨rfl,rfl⟩;refine hK.out _ _ hB (fun hB=>?_);clear hK K
      try simp only[Act.put,qP]
      iterate 5
       refine zxo (v:=?_) rfl (jc ⟨by rfl,?_⟩) hB ?_;rotate_left
       ·intro W hC;obtain⟨z0,z1⟩:=hC
        try simp only[qQ]
        go_simp
        try rw[if_neg (by omega)]
        try with_reducible rfl
       try simp only[Act.put,qP]
      refine qzD (by as_aux_lemma=>kernel_rfl) rfl (fun K hK=>?_)
      try simp only[qQ]
      go_simp;refine hK.out _ _ ?_;clear hK K
      try simp only[Act.put,qP]
      refine zd2 (by kernel_rfl) ?_ _;simp only[zbl];clear hB
      go_wp2_with fail
      go_roundg (gk - 1)
      case measure=>omega
      case rel=>exact⟨t+1,by simp,by omega,by omega,Hst,zi (hP.out.drew.setCell _ _ (fun _ _=>rfl))⟩
     obtain rfl:t=64:=by omega
     have hD:decide (((64:Nat):Int)<64)=false:=rfl
     have AX:W32 174 bw WS wr:=by
      have h:=Ah.out;unfold wsT at h;rw[List.take_of_length_le (by rw[hl.out];exact ja _),Nat.sub_self,List.replicate_zero,List.append_nil]at h;exact h
     have BS:=Di.out.fr hP.out (fun _ h=>by omega);have Bu:wr.rangeAt (q+1) 0 (zc3 sj.list):=by simpa using j8 BS
     have Ai:=zi AX;have Ct:=zi BS;have Bf:=zi Bu;have Bp:Tryz.prog.underlying 160=some (.array 8 159):=Tryz.underlying160;have Bo:(Tryz.prog.info? 160).map (·.size)=some (zc3 sj.list).length:=by kernel_rfl
     have AG:(Tryz.prog.info? 160).map (·.size)=some (zc3 sj.list).toArray.size:=by kernel_rfl
     have CU:((zc3 sj.list).toArray.all (·.oneCell'))=true:=zn7 _;have Bm:wkZ.size=(zc3 sj.list).toArray.size:=rfl;have Da:=zi Bp;have Bd:=zi Bo;have Aa:=zi AG;have C9:=zi CU;have Hzz:=zi Bm;obtain⟨w6,A9⟩:∃ z:World,z=wr:=⟨_,rfl⟩;subst A9;have A9:bw<w6.heap.size:=by have h:=hP.out.size;have h2:=Hso.out;omega
     obtain⟨C8,BX⟩:∃ c,zc3 sj.list=c:=⟨_,rfl⟩;rw[BX]at Bf Bd Aa C9 Hzz;have Dn:=zi BX;clear AX BS Bu Bp Bo AG CU Bm Ah BX
     go_upto_region 25 with(first
      | ((with_reducible refine wpList_load_mid ?_ 160 _ rfl (q+1) 0 ?_ C8 (.array 8 159) Bf.out Da.out ?_ Bd.out ?_);rfl;rfl;rfl)
      | (refine qc (w:=w6) rfl 160 _ _ rfl wkZ C8.toArray w6.heap.size rfl rfl rfl Aa.out Hzz.out C9.out ?_))
     have BJ:W32 160 w6.heap.size sj.list (w6.alloc (.cells C8.toArray 160)):=by
      have h:=zo w6 (.cells C8.toArray 160);rw[← Dn.out]at h ⊢;exact h
     have AW:Fr NoB w6 (w6.alloc (.cells C8.toArray 160)):=Fr.refl.alloc _;have BB:(w6.alloc (.cells C8.toArray 160)).heap.size=w6.heap.size+1:=zm _ _;obtain⟨w7,A8⟩:∃ z,w6.alloc (.cells C8.toArray 160)=z:=⟨_,rfl⟩;obtain⟨bv,BG⟩:∃ z,w6.heap.size=z:=⟨_,rfl⟩;rw[A8,BG]at BJ BB;rw[A8]at AW ⊢;rw[BG]at A9 ⊢;have Cf:=zi BJ;have Cs:=zi (Ct.out.fr AW (fun _ h=>h));have C3:=zi (Ai.out.fr AW (fun _ h=>h));have hz:Fr (fun k _=>k=q+1) w4 w7:=(Bi.out.trans hP.out (fun k _ hm => .inr (by omega))).trans AW (fun _ _ h=>h.elim);have Cg:=zi (hz.block _ _ Df.out (by simp));have Cy:=zi hz;have Hsa:=zi BB;obtain⟨RR,CN⟩:∃ r,zf7 sj kShort WS=r:=⟨_,rfl⟩;have Ck:=zi CN;clear BJ AW BB A8 BG hz hP Bi Ai Ct Bf Bd Hzz Hpp CN
     go_wp2_with fail
     go_loopg [15] 65 (fun gf vt wr=>∃ (t:Nat) (z:Wk),vt = .int .i64 t∧t≤64∧t+gf=65∧Hid z.lt∧Hid (zf7 z (kShort.drop t) (WS.drop t)=RR)∧Hid (W32 160 bv z.list wr)∧Hid (Fr (fun k _=>k=bv) w7 wr))
     case atStart=>exact⟨0,sj,rfl,by omega,by omega,Hsl,Ck,Cf,zi Fr.refl⟩
     case round =>
      clear Cf;obtain⟨t,z,rfl,ht,DG,HZ,A4,Cd,hP⟩:=hrel;by_cases hE:t<64
      ·have hD:decide ((t:Int)<64)=true:=decide_eq_true (by omega);have AH:(t:Int)<64:=by omega
       have ht80i:(t:Int)<80:=by omega
       have CE:kShort.drop t=kShort.getD t 0 :: kShort.drop (t+1):=zgl (by rw[zdy];exact hE);have CD:WS.drop t=WS.getD t 0 :: WS.drop (t+1):=zgl (by rw[hl.out];exact hE);have hw:=A4.out;rw[CE,CD]at hw;have DO:=zcm zlz t;have DC:=zcm Af.out t;have Ao:=zxb t hE;obtain⟨kk,CC⟩:∃ x,kTab.getD t 0=x:=⟨_,rfl⟩;obtain⟨k,hk⟩:∃ x,kShort.getD t 0=x:=⟨_,rfl⟩;obtain⟨x,hx⟩:∃ x,WS.getD t 0=x:=⟨_,rfl⟩;rw[hk]at hw DO;rw[CC,hk]at Ao;rw[hx]at hw DC;have hw:zf7 (z.step k x) (kShort.drop (t+1)) (WS.drop (t+1))=RR:=hw
       have tc:wr.drew.cell? ⟨q+3,t,none⟩=some (.int .u64 (kk:Nat)):=by
        have h:=hP.out.block _ _ Cg.out (by show ¬ (q+3=bv);omega);have h2:=(Fr.refl (M:=NoB) (w:=wr)).drew.block _ _ h (fun h=>h);simp only[World.cell?,h2,Option.isSome_none,Bool.false_eq_true,if_false];exact Ao.1
       have xc:wr.drew.cell? ⟨bw,t,none⟩=some (.int .u32 (x:Nat)):=by
        have h:=((C3.out.fr hP.out (fun _ h=>by omega)).fr (Fr.refl (M:=NoB)).drew (fun _ h=>h)).cell (i:=t) (by rw[hl.out];exact hE)
        rwa [hx]at h
       have Cj:=zi hw;have AF:=HZ.out;have Cb:=zi (Wk.step_lt AF k x);have hN:=Cd.out;obtain⟨za,zb,zc,zd,ze,zf,zg,zh⟩:=z;obtain⟨ga,gb,AY,gd,ge,Az,gg,gh⟩:=AF;simp only at ga gb AY gd ge Az gg gh;have y0:wr.cell? ⟨bv,0,none⟩=some (.int .u32 (za:Nat)):=hN.cell (i:=0) (by show 0<8;decide);have y1:wr.cell? ⟨bv,1,none⟩=some (.int .u32 (zb:Nat)):=hN.cell (i:=1) (by show 1<8;decide);have y2:wr.cell? ⟨bv,2,none⟩=some (.int .u32 (zc:Nat)):=hN.cell (i:=2) (by show 2<8;decide);have y3:wr.cell? ⟨bv,3,none⟩=some (.int .u32 (zd:Nat)):=hN.cell (i:=3) (by show 3<8;decide);have y4:wr.cell? ⟨bv,4,none⟩=some (.int .u32 (ze:Nat)):=hN.cell (i:=4) (by show 4<8;decide);have y5:wr.cell? ⟨bv,5,none⟩=some (.int .u32 (zf:Nat)):=hN.cell (i:=5) (by show 5<8;decide);have y6:wr.cell? ⟨bv,6,none⟩=some (.int .u32 (zg:Nat)):=hN.cell (i:=6) (by show 6<8;decide);have y7:wr.cell? ⟨bv,7,none⟩=some (.int .u32 (zh:Nat)):=hN.cell (i:=7) (by show 7<8;decide);have hg:∀ (b o:Nat) v,wr.cell? ⟨b,o,none⟩=some v→wr.drew.cell? ⟨b,o,none⟩=some v:=fun b o v h=>Fr.cell (Fr.refl (M:=NoB) (w:=wr)).drew h
       have z1:=hg _ _ _ y1;have z2:=hg _ _ _ y2;have z5:=hg _ _ _ y5;have z6:=hg _ _ _ y6;have z7:=hg _ _ _ y7;have p1:=zbj (n:=6) ge;have p2:=zbj (n:=11) ge;have p3:=zbj (n:=25) ge;have p4:=zbj (n:=2) ga;have p5:=zbj (n:=13) ga;have p6:=zbj (n:=22) ga;have hL:Wk.step ⟨za,zb,zc,zd,ze,zf,zg,zh⟩ k x=⟨(zke ⟨za,zb,zc,zd,ze,zf,zg,zh⟩ k x+zpe ⟨za,zb,zc,zd,ze,zf,zg,zh⟩) % 4294967296,za,zb,zc,(zd+zke ⟨za,zb,zc,zd,ze,zf,zg,zh⟩ k x) % 4294967296,ze,zf,zg⟩:=rfl;have hU:zke ⟨za,zb,zc,zd,ze,zf,zg,zh⟩ k x=((((zh+((zdn ze 6 ^^^ zdn ze 11) ^^^ zdn ze 25)) % 4294967296+(ze &&& zf ||| (4294967295 - ze) &&& zg)) % 4294967296+k) % 4294967296+x) % 4294967296:=rfl;have hV:zpe ⟨za,zb,zc,zd,ze,zf,zg,zh⟩=(((zdn za 2 ^^^ zdn za 13) ^^^ zdn za 22)+(za &&& zb ||| za &&& zc ||| zb &&& zc)) % 4294967296:=rfl;have Ae:=zi (fun V=>zdm ze 6 V ge (by decide));have Ad:=zi (fun V=>zdm ze 11 V ge (by decide));have Ac:=zi (fun V=>zdm ze 25 V ge (by decide));have Ab:=zi (fun V=>zdm za 2 V ga (by decide));have Ca:=zi (fun V=>zdm za 13 V ga (by decide));have CZ:=zi (fun V=>zdm za 22 V ga (by decide));obtain⟨r1,e1⟩:∃ r,zdn ze 6=r:=⟨_,rfl⟩;obtain⟨r2,e2⟩:∃ r,zdn ze 11=r:=⟨_,rfl⟩;obtain⟨r3,e3⟩:∃ r,zdn ze 25=r:=⟨_,rfl⟩;obtain⟨r4,e4⟩:∃ r,zdn za 2=r:=⟨_,rfl⟩;obtain⟨r5,e5⟩:∃ r,zdn za 13=r:=⟨_,rfl⟩;obtain⟨r6,e6⟩:∃ r,zdn za 22=r:=⟨_,rfl⟩;rw[e1]at Ae p1 hU;rw[e2]at Ad p2 hU;rw[e3]at Ac p3 hU;rw[e4]at Ab p4 hV;rw[e5]at Ca p5 hV;rw[e6]at CZ p6 hV;have f1:=zqe _ _ p1 p2;have f2:=zqe _ _ (show r1 ^^^ r2<4294967296 from Nat.xor_lt_two_pow (n:=32) p1 p2) p3;have f3:=zqe _ _ p4 p5;have f4:=zqe _ _ (show r4 ^^^ r5<4294967296 from Nat.xor_lt_two_pow (n:=32) p4 p5) p6;have DN:((4294967295:Int) - (ze:Int))=((4294967295 - ze:Nat):Int):=by omega
       have An:IntKind.u32.wrap ((4294967295 - ze:Nat):Int)=((4294967295 - ze:Nat):Int):=by rw[IntKind.wrap_u32'];omega
       have DL:((4294967295 - ze:Nat):Int) % 4294967296=((4294967295 - ze:Nat):Int):=by omega
       have l1:ze &&& zf<4294967296:=Nat.and_lt_two_pow (n:=32) _ Az;have l2:(4294967295 - ze) &&& zg<4294967296:=Nat.and_lt_two_pow (n:=32) _ gg;have f5:=u32_and_nat ze zf ge Az;have f6:=u32_and_nat (4294967295 - ze) zg (by omega) gg;have h6:=zyv ge Az gg;have hM:(ze &&& zf ||| (4294967295 - ze) &&& zg)<4294967296:=Nat.or_lt_two_pow (n:=32) l1 l2;have f7:=u32_and_nat za zb ga gb;have f8:=u32_and_nat za zc ga AY;have f9:=u32_and_nat zb zc gb AY;have l4:za &&& zb<4294967296:=Nat.and_lt_two_pow (n:=32) _ gb;have l5:za &&& zc<4294967296:=Nat.and_lt_two_pow (n:=32) _ AY;have l6:zb &&& zc<4294967296:=Nat.and_lt_two_pow (n:=32) _ AY;have A0:=u32_or_nat _ _ l4 l5;have AC:=u32_or_nat _ _ (show za &&& zb ||| za &&& zc<4294967296 from Nat.or_lt_two_pow (n:=32) l4 l5) l6;obtain⟨ne,B7⟩:∃ y,4294967295 - ze=y:=⟨_,rfl⟩;rw[B7]at DN An DL f6 h6 hM hU;obtain⟨A1,hW⟩:∃ y,ze &&& zf=y:=⟨_,rfl⟩;rw[hW]at f5 h6 hM hU;obtain⟨A2,AB⟩:∃ y,ne &&& zg=y:=⟨_,rfl⟩;rw[AB]at f6 h6 hM hU;obtain⟨A3,h4⟩:∃ y,A1 ||| A2=y:=⟨_,rfl⟩
       rw[h4]at h6 hM hU;have AP:=zi7 (show(A1+A2) % 4294967296=A3 by rw[h6];exact Nat.mod_eq_of_lt hM);obtain⟨B1,Ay⟩:∃ y,za &&& zb=y:=⟨_,rfl⟩;obtain⟨B2,Ax⟩:∃ y,za &&& zc=y:=⟨_,rfl⟩;obtain⟨B3,Aw⟩:∃ y,zb &&& zc=y:=⟨_,rfl⟩;rw[Ay]at f7 A0 AC hV;rw[Ax]at f8 A0 AC hV;rw[Aw]at f9 AC hV;obtain⟨B4,CT⟩:∃ y,B1 ||| B2=y:=⟨_,rfl⟩
       rw[CT]at A0 AC hV;obtain⟨B5,CS⟩:∃ y,B4 ||| B3=y:=⟨_,rfl⟩
       rw[CS]at AC hV;obtain⟨X1,AU⟩:∃ y,r1 ^^^ r2=y:=⟨_,rfl⟩;rw[AU]at f1 f2 hU;obtain⟨X2,AT⟩:∃ y,X1 ^^^ r3=y:=⟨_,rfl⟩;rw[AT]at f2 hU;obtain⟨X3,AS⟩:∃ y,r4 ^^^ r5=y:=⟨_,rfl⟩;rw[AS]at f3 f4 hV;obtain⟨X4,AR⟩:∃ y,X3 ^^^ r6=y:=⟨_,rfl⟩;rw[AR]at f4 hV;obtain⟨U1,BN⟩:∃ y,(zh+X2) % 4294967296=y:=⟨_,rfl⟩;rw[BN]at hU;obtain⟨U2,BM⟩:∃ y,(U1+A3) % 4294967296=y:=⟨_,rfl⟩;rw[BM]at hU;obtain⟨U3,BL⟩:∃ y,(U2+k) % 4294967296=y:=⟨_,rfl⟩;rw[BL]at hU;obtain⟨U4,BK⟩:∃ y,(U3+x) % 4294967296=y:=⟨_,rfl⟩;rw[BK]at hU;obtain⟨V4,BI⟩:∃ y,(X4+B5) % 4294967296=y:=⟨_,rfl⟩;rw[BI]at hV;rw[hU,hV]at hL;obtain⟨E1,BW⟩:∃ y,(U4+V4) % 4294967296=y:=⟨_,rfl⟩;obtain⟨E2,BV⟩:∃ y,(zd+U4) % 4294967296=y:=⟨_,rfl⟩;rw[BW,BV]at hL;rw[hL]at Cj Cb;have t0:=AP.1;have t1:=(zi7 BN).1;have t2:=(zi7 BM).1;have t3:=(zi7 BL).1;have t4:=(zi7 BK).1;have t5:=(zi7 BI).1;have T6:=zi (zi7 BW);have T7:=zi (zi7 BV);have hkd:(kk:Int) / 4294967296=(k:Int):=by have:=Ao.2;omega
       have hkm:(k:Int) % 4294967296=(k:Int):=by omega
       have hkw:IntKind.u32.wrap (k:Int)=(k:Int):=by rw[IntKind.wrap_u32'];omega
       have Ce:=zi hN;clear hN hg CE CD hw Ao CC hk hx hU hV hL e1 e2 e3 e4 e5 e6 p1 p2 p3 p4 p5 p6 l1 l2 l4 l5 l6 h6 hM AP B7 hW AB h4 Ay Ax Aw CT CS AU AT AS AR BN BM BL BK BI BW BV HZ A4
       go_upto_region 30 with(fail)
       refine wp_region_held_drew (S:=fun V=>V=wr.drew) (by kernel_rfl) rfl (fun hB=>?_);simp only[qV]
       iterate 3
        refine qtA (v:=?_) rfl (jc ⟨by rfl,?_⟩) hB ?_;rotate_left
        ·intro W hC;obtain rfl:=hC
         try simp only[qQ]
         go_simp
         try rw[if_neg (by omega)]
         try with_reducible rfl
        try simp only[Act.put,qP]
       refine qiA (i:=4) (v:=?_) rfl (jc ⟨by rfl,?_⟩) hB ?_;rotate_left
       ·intro W hC;obtain rfl:=hC
        try simp only[qQ]
        go_simp
        try rw[if_neg (by omega)]
        try with_reducible rfl
       try simp only[Act.put,qP]
       refine qiA (i:=7) (v:=?_) rfl (jc ⟨by rfl,?_⟩) hB ?_;rotate_left
       ·intro W hC;obtain rfl:=hC
        try simp only[qQ]
        go_simp
        try rw[if_neg (by omega)]
        try with_reducible rfl
       try simp only[Act.put,qP]
       refine qiA (i:=11) (v:=?_) rfl (jc ⟨by rfl,?_⟩) hB ?_;rotate_left
       ·intro W hC;obtain rfl:=hC
        try simp only[qQ]
        go_simp
        try rw[if_neg (by omega)]
        try with_reducible rfl
       try simp only[Act.put,qP]
       refine qiA (i:=12) (v:=?_) rfl (jc ⟨by rfl,?_⟩) hB ?_;rotate_left
       ·intro W hC;obtain rfl:=hC
        try simp only[qQ]
        go_simp
        try rw[if_neg (by omega)]
        try with_reducible rfl
       try simp only[Act.put,qP]
       refine qiA (i:=13) (v:=?_) rfl (jc ⟨by rfl,?_⟩) hB ?_;rotate_left
       ·intro W hC;obtain rfl:=hC
        try simp only[qQ]
        go_simp
        try rw[if_neg (by omega)]
        try with_reducible rfl
       try simp only[Act.put,qP]
       refine qiA (i:=14) (v:=?_) rfl (jc ⟨by rfl,?_⟩) hB ?_;rotate_left
       ·intro W hC;obtain rfl:=hC
        try simp only[qQ]
        go_simp
        try rw[if_neg (by omega)]
        try with_reducible rfl
       try simp only[Act.put,qP]
       refine qiA (i:=15) (v:=?_) rfl (jc ⟨by rfl,?_⟩) hB ?_;rotate_left
       ·intro W hC;obtain rfl:=hC
        try simp only[qQ]
        go_simp
        try rw[if_neg (by omega)]
        try with_reducible rfl
       try simp only[Act.put,qP]
       refine qiA (i:=16) (v:=?_) rfl (jc ⟨by rfl,?_⟩) hB ?_;rotate_left
       ·intro W hC;obtain rfl:=hC
        try simp only[qQ]
        go_simp
        try rw[if_neg (by omega)]
        try with_reducible rfl
       try simp only[Act.put,qP]
       refine qiA (i:=17) (v:=?_) rfl (jc ⟨by rfl,?_⟩) hB ?_;rotate_left
       ·intro W hC;obtain rfl:=hC
        try simp only[qQ]
        go_simp
        try rw[if_neg (by omega)]
        try with_reducible rfl
       try simp only[Act.put,qP]
       refine qiA (i:=18) (v:=?_) rfl (jc ⟨by rfl,?_⟩) hB ?_;rotate_left
       ·intro W hC;obtain rfl:=hC
        try simp only[qQ]
        go_simp
        try rw[if_neg (by omega)]
        try with_reducible rfl
       try simp only[Act.put,qP]
       refine qiA (i:=19) (v:=?_) rfl (jc ⟨by rfl,?_⟩) hB ?_;rotate_left
       ·intro W hC;obtain rfl:=hC
        try simp only[qQ]
        go_simp
        try rw[if_neg (by omega)]
        try with_reducible rfl
       try simp only[Act.put,qP]
       refine qiA (i:=20) (v:=?_) rfl (jc ⟨by rfl,?_⟩) hB ?_;rotate_left
       ·intro W hC;obtain rfl:=hC
        try simp only[qQ]
        go_simp
        try rw[if_neg (by omega)]
        try with_reducible rfl
       try simp only[Act.put,qP]
       refine qiA (i:=22) (v:=?_) rfl (jc ⟨by rfl,?_⟩) hB ?_;rotate_left
       ·intro W hC;obtain rfl:=hC
        try simp only[qQ]
        go_simp
        try rw[if_neg (by omega)]
        try with_reducible rfl
       try simp only[Act.put,qP]
       refine qiA (i:=23) (v:=?_) rfl (jc ⟨by rfl,?_⟩) hB ?_;rotate_left
       ·intro W hC;obtain rfl:=hC
        try simp only[qQ]
        go_simp
        try rw[if_neg (by omega)]
        try with_reducible rfl
       try simp only[Act.put,qP]
       refine qiA (i:=24) (v:=?_) rfl (jc ⟨by rfl,?_⟩) hB ?_;rotate_left
       ·intro W hC;obtain rfl:=hC
        try simp only[qQ]
        go_simp
        try rw[if_neg (by omega)]
        try with_reducible rfl
       try simp only[Act.put,qP]
       refine qiA (i:=25) (v:=?_) rfl (jc ⟨by rfl,?_⟩) hB ?_;rotate_left
       ·intro W hC;obtain rfl:=hC
        try simp only[qQ]
        go_simp
        try rw[if_neg (by omega)]
        try with_reducible rfl
       try simp only[Act.put,qP]
       refine qiA (i:=26) (v:=?_) rfl (jc ⟨by rfl,?_⟩) hB ?_;rotate_left
       ·intro W hC;obtain rfl:=hC
        try simp only[qQ]
        go_simp
        try rw[if_neg (by omega)]
        try with_reducible rfl
       try simp only[Act.put,qP]
       refine qiA (i:=27) (v:=?_) rfl (jc ⟨by rfl,?_⟩) hB ?_;rotate_left
       ·intro W hC;obtain rfl:=hC
        try simp only[qQ]
        go_simp
        try rw[if_neg (by omega)]
        try with_reducible rfl
       try simp only[Act.put,qP]
       refine qiA (i:=29) (v:=?_) rfl (jc ⟨by rfl,?_⟩) hB ?_;rotate_left
       ·intro W hC;obtain rfl:=hC
        try simp only[qQ]
        go_simp
        try rw[if_neg (by omega)]
        try with_reducible rfl
       try simp only[Act.put,qP]
       refine qiA (i:=30) (v:=?_) rfl (jc ⟨by rfl,?_⟩) hB ?_;rotate_left
       ·intro W hC;obtain rfl:=hC
        try simp only[qQ]
        go_simp
        try rw[if_neg (by omega)]
        try with_reducible rfl
       try simp only[Act.put,qP]
       refine qiA (i:=31) (v:=?_) rfl (jc ⟨by rfl,?_⟩) hB ?_;rotate_left
       ·intro W hC;obtain rfl:=hC
        try simp only[qQ]
        go_simp
        try rw[if_neg (by omega)]
        try with_reducible rfl
       try simp only[Act.put,qP]
       refine qr (i:=3) (by as_aux_lemma=>kernel_rfl) rfl (fun K hK=>?_)
       try simp only[qQ]
       go_simp;refine(Ae.out _).mono ?_;rintro r w2 ⟨rfl,rfl⟩;refine hK.out _ _ hB (fun hB=>?_);clear hK K
       try simp only[Act.put,qP]
       refine qr (i:=5) (by as_aux_lemma=>kernel_rfl) rfl (fun K hK=>?_)
       try simp only[qQ]
       go_simp;refine(Ad.out _).mono ?_;rintro r w2 ⟨rfl,rfl⟩;refine hK.out _ _ hB (fun hB=>?_);clear hK K
       try simp only[Act.put,qP]
       refine qtA (v:=?_) rfl (jc ⟨by rfl,?_⟩) hB ?_;rotate_left
       ·intro W hC;obtain rfl:=hC
        try simp only[qQ]
        go_simp
        try rw[if_neg (by omega)]
        try with_reducible rfl
       try simp only[Act.put,qP]
       refine qr (i:=8) (by as_aux_lemma=>kernel_rfl) rfl (fun K hK=>?_)
       try simp only[qQ]
       go_simp;refine(Ac.out _).mono ?_;rintro r w2 ⟨rfl,rfl⟩;refine hK.out _ _ hB (fun hB=>?_);clear hK K
       try simp only[Act.put,qP]
       iterate 6
        refine qtA (v:=?_) rfl (jc ⟨by rfl,?_⟩) hB ?_;rotate_left
        ·intro W hC;obtain rfl:=hC
         try simp only[qQ]
         go_simp
         try rw[if_neg (by omega)]
         try with_reducible rfl
        try simp only[Act.put,qP]
       refine wpAnyH_done (by kernel_rfl) ?_ _;clear hB;have v1:=Fr.cell (Fr.refl (M:=NoB) (w:=wr.drew)).drew z1;have v2:=Fr.cell (Fr.refl (M:=NoB) (w:=wr.drew)).drew z2
       go_upto_region 31 with(fail)
       refine wp_region_held_drew (S:=fun V=>V=wr.drew.drew) (by kernel_rfl) rfl (fun hB=>?_);simp only[qV];refine qtA (v:=?_) rfl (jc ⟨by rfl,?_⟩) hB ?_;rotate_left
       ·intro W hC;obtain rfl:=hC
        try simp only[qQ]
        go_simp
        try rw[if_neg (by omega)]
        try with_reducible rfl
       try simp only[Act.put,qP]
       refine qiA (i:=2) (v:=?_) rfl (jc ⟨by rfl,?_⟩) hB ?_;rotate_left
       ·intro W hC;obtain rfl:=hC
        try simp only[qQ]
        go_simp
        try rw[if_neg (by omega)]
        try with_reducible rfl
       try simp only[Act.put,qP]
       refine qiA (i:=5) (v:=?_) rfl (jc ⟨by rfl,?_⟩) hB ?_;rotate_left
       ·intro W hC;obtain rfl:=hC
        try simp only[qQ]
        go_simp
        try rw[if_neg (by omega)]
        try with_reducible rfl
       try simp only[Act.put,qP]
       refine qiA (i:=8) (v:=?_) rfl (jc ⟨by rfl,?_⟩) hB ?_;rotate_left
       ·intro W hC;obtain rfl:=hC
        try simp only[qQ]
        go_simp
        try rw[if_neg (by omega)]
        try with_reducible rfl
       try simp only[Act.put,qP]
       refine qiA (i:=9) (v:=?_) rfl (jc ⟨by rfl,?_⟩) hB ?_;rotate_left
       ·intro W hC;obtain rfl:=hC
        try simp only[qQ]
        go_simp
        try rw[if_neg (by omega)]
        try with_reducible rfl
       try simp only[Act.put,qP]
       refine qiA (i:=10) (v:=?_) rfl (jc ⟨by rfl,?_⟩) hB ?_;rotate_left
       ·intro W hC;obtain rfl:=hC
        try simp only[qQ]
        go_simp
        try rw[if_neg (by omega)]
        try with_reducible rfl
       try simp only[Act.put,qP]
       refine qiA (i:=11) (v:=?_) rfl (jc ⟨by rfl,?_⟩) hB ?_;rotate_left
       ·intro W hC;obtain rfl:=hC
        try simp only[qQ]
        go_simp
        try rw[if_neg (by omega)]
        try with_reducible rfl
       try simp only[Act.put,qP]
       refine qiA (i:=12) (v:=?_) rfl (jc ⟨by rfl,?_⟩) hB ?_;rotate_left
       ·intro W hC;obtain rfl:=hC
        try simp only[qQ]
        go_simp
        try rw[if_neg (by omega)]
        try with_reducible rfl
       try simp only[Act.put,qP]
       refine qiA (i:=13) (v:=?_) rfl (jc ⟨by rfl,?_⟩) hB ?_;rotate_left
       ·intro W hC;obtain rfl:=hC
        try simp only[qQ]
        go_simp
        try rw[if_neg (by omega)]
        try with_reducible rfl
       try simp only[Act.put,qP]
       refine qiA (i:=14) (v:=?_) rfl (jc ⟨by rfl,?_⟩) hB ?_;rotate_left
       ·intro W hC;obtain rfl:=hC
        try simp only[qQ]
        go_simp
        try rw[if_neg (by omega)]
        try with_reducible rfl
       try simp only[Act.put,qP]
       refine qiA (i:=15) (v:=?_) rfl (jc ⟨by rfl,?_⟩) hB ?_;rotate_left
       ·intro W hC;obtain rfl:=hC
        try simp only[qQ]
        go_simp
        try rw[if_neg (by omega)]
        try with_reducible rfl
       try simp only[Act.put,qP]
       refine qiA (i:=16) (v:=?_) rfl (jc ⟨by rfl,?_⟩) hB ?_;rotate_left
       ·intro W hC;obtain rfl:=hC
        try simp only[qQ]
        go_simp
        try rw[if_neg (by omega)]
        try with_reducible rfl
       try simp only[Act.put,qP]
       refine qiA (i:=17) (v:=?_) rfl (jc ⟨by rfl,?_⟩) hB ?_;rotate_left
       ·intro W hC;obtain rfl:=hC
        try simp only[qQ]
        go_simp
        try rw[if_neg (by omega)]
        try with_reducible rfl
       try simp only[Act.put,qP]
       refine qiA (i:=18) (v:=?_) rfl (jc ⟨by rfl,?_⟩) hB ?_;rotate_left
       ·intro W hC;obtain rfl:=hC
        try simp only[qQ]
        go_simp
        try rw[if_neg (by omega)]
        try with_reducible rfl
       try simp only[Act.put,qP]
       refine qiA (i:=19) (v:=?_) rfl (jc ⟨by rfl,?_⟩) hB ?_;rotate_left
       ·intro W hC;obtain rfl:=hC
        try simp only[qQ]
        go_simp
        try rw[if_neg (by omega)]
        try with_reducible rfl
       try simp only[Act.put,qP]
       refine qiA (i:=20) (v:=?_) rfl (jc ⟨by rfl,?_⟩) hB ?_;rotate_left
       ·intro W hC;obtain rfl:=hC
        try simp only[qQ]
        go_simp
        try rw[if_neg (by omega)]
        try with_reducible rfl
       try simp only[Act.put,qP]
       refine qiA (i:=21) (v:=?_) rfl (jc ⟨by rfl,?_⟩) hB ?_;rotate_left
       ·intro W hC;obtain rfl:=hC
        try simp only[qQ]
        go_simp
        try rw[if_neg (by omega)]
        try with_reducible rfl
       try simp only[Act.put,qP]
       refine qiA (i:=22) (v:=?_) rfl (jc ⟨by rfl,?_⟩) hB ?_;rotate_left
       ·intro W hC;obtain rfl:=hC
        try simp only[qQ]
        go_simp
        try rw[if_neg (by omega)]
        try with_reducible rfl
       try simp only[Act.put,qP]
       refine qr (i:=1) (by as_aux_lemma=>kernel_rfl) rfl (fun K hK=>?_)
       try simp only[qQ]
       go_simp;refine(Ab.out _).mono ?_;rintro r w2 ⟨rfl,rfl⟩;refine hK.out _ _ hB (fun hB=>?_);clear hK K
       try simp only[Act.put,qP]
       refine qr (i:=3) (by as_aux_lemma=>kernel_rfl) rfl (fun K hK=>?_)
       try simp only[qQ]
       go_simp;refine(Ca.out _).mono ?_;rintro r w2 ⟨rfl,rfl⟩;refine hK.out _ _ hB (fun hB=>?_);clear hK K
       try simp only[Act.put,qP]
       refine qtA (v:=?_) rfl (jc ⟨by rfl,?_⟩) hB ?_;rotate_left
       ·intro W hC;obtain rfl:=hC
        try simp only[qQ]
        go_simp
        try rw[if_neg (by omega)]
        try with_reducible rfl
       try simp only[Act.put,qP]
       refine qr (i:=6) (by as_aux_lemma=>kernel_rfl) rfl (fun K hK=>?_)
       try simp only[qQ]
       go_simp;refine(CZ.out _).mono ?_;rintro r w2 ⟨rfl,rfl⟩;refine hK.out _ _ hB (fun hB=>?_);clear hK K
       try simp only[Act.put,qP]
       iterate 3
        refine qtA (v:=?_) rfl (jc ⟨by rfl,?_⟩) hB ?_;rotate_left
        ·intro W hC;obtain rfl:=hC
         try simp only[qQ]
         go_simp
         try rw[if_neg (by omega)]
         try with_reducible rfl
        try simp only[Act.put,qP]
       refine wpAnyH_done (by kernel_rfl) ?_ _;clear hB;have t6:=T6.out.1;have t7:=T7.out.1
       have h5:wr.drew.drew.there bv 0 (zc3 [E1,za,zb,zc,E2,ze,zf,zg]).toArray.size:=fun j hj=>by
        have Ar:=(Ce.out.fr (Fr.refl (M:=NoB)).drew (fun _ h=>h)).fr (Fr.refl (M:=NoB)).drew (fun _ h=>h);have hc:=Ar.cell (i:=j) hj;rw[Nat.zero_add];exact⟨by rw[hc];rfl,Ar.froz j⟩
       have Hth:=zi h5;have Bc:Hid ((Tryz.prog.info? 160).map (·.size)=some (zc3 [E1,za,zb,zc,E2,ze,zf,zg]).toArray.size):=zi (by kernel_rfl);have Bl:=zi (zn7 [E1,za,zb,zc,E2,ze,zf,zg])
       have De:Hid (W32 160 bv [E1,za,zb,zc,E2,ze,zf,zg] (wr.drew.drew.setCells bv 0 (zc3 [E1,za,zb,zc,E2,ze,zf,zg]))):=zi (by
        have Ar:=(Ce.out.fr (Fr.refl (M:=NoB)).drew (fun _ h=>h)).fr (Fr.refl (M:=NoB)).drew (fun _ h=>h)
        exact Ar.setAll (ys:=[E1,za,zb,zc,E2,ze,zf,zg]) rfl)
       clear h5 t0 t1 t2 t3 t4 t5 tc xc z1 z2 z5 z6 z7 v1 v2 f1 f2 f3 f4 f5 f6 f7 f8 f9 A0 AC
       go_wp2_with (first
        | ((with_reducible refine wpList_buildTo ?_ 160 _ rfl _ rfl (zc3 [E1,za,zb,zc,E2,ze,zf,zg]).toArray ?_ ?_);rfl;kernel_rfl)
        | ((with_reducible refine wpList_store_mid ?_ 160 _ _ rfl bv 0 (zc3 [E1,za,zb,zc,E2,ze,zf,zg]).toArray ?_ ?_ Hth.out Bc.out Bl.out ?_);rfl;rfl;rfl))
       go_roundg (gk - 1)
       case measure=>omega
       case rel=>exact⟨t+1,⟨E1,za,zb,zc,E2,ze,zf,zg⟩,by simp,by omega,by omega,Cb,Cj,De,zi ((hP.out.drew.drew).trans' (jr bv _ 0 _))⟩
      obtain rfl:t=64:=by omega
      have hD:decide (((64:Nat):Int)<64)=false:=rfl
      have Bn:z=RR:=by
       have h:=A4.out;rw[List.drop_of_length_le (by rw[zdy];exact ja _)]at h;exact h
      obtain⟨w8,DF⟩:∃ x:World,x=wr:=⟨_,rfl⟩;subst DF;have Cr:Hid (W32 160 (q+1) (hA sj z 0) w8):=zi (Cs.out.fr hP.out (fun _ h=>by omega));have DZ:=zi Bn;have Dl:Hid (Fr (fun k _=>k=q+1) w4 w8):=zi (Cy.out.trans hP.out (fun k _ hm => .inr (by omega)));clear Bn A4 Cs C3 Cg Cy hP
      go_wp2_with fail
      go_loopg [20] 9 (fun gf vi wr=>∃ i:Nat,vi = .int .i64 i∧i≤8∧i+gf=9∧Hid (W32 160 (q+1) (hA sj z i) wr)∧Hid (Fr (fun k _=>k=q+1) w8 wr))
      case atStart=>exact⟨0,rfl,by omega,by omega,Cr,zi Fr.refl⟩
      case round =>
       clear Cr;obtain⟨i,rfl,hi,BC,hp,hG⟩:=hrel;by_cases AN:i<8
       ·have hD:decide ((i:Int)<8)=true:=decide_eq_true (by omega);have hi8i:(i:Int)<8:=by omega
        have Av:=hp.out.fr (Fr.refl (M:=NoB)).drew (fun _ h=>h);have hN:=(Cd.out.fr hG.out (fun _ h=>by omega)).fr (Fr.refl (M:=NoB)).drew (fun _ h=>h);have ch:=Av.cell (i:=i) (by rw[zxz sj z i hi];exact AN);have cv:=hN.cell (i:=i) (by show i<8;exact AN);have fh:=Av.froz i;rw[zx0 sj z i AN]at ch;have hI:=Av.set (i:=i) (x:=(sj.list.getD i 0+z.list.getD i 0) % 4294967296) rfl;rw[zwu sj z i AN]at hI;obtain⟨hx,AZ⟩:∃ x,sj.list.getD i 0=x:=⟨_,rfl⟩;obtain⟨vx,CV⟩:∃ x,z.list.getD i 0=x:=⟨_,rfl⟩;rw[AZ]at ch hI;rw[CV]at cv hI;obtain⟨sx,ho⟩:∃ x,(hx+vx) % 4294967296=x:=⟨_,rfl⟩;rw[ho]at hI;have k1:=(zi7 ho).1;have k2:=(zi7 ho).2;have Hst:=zi hI;clear Av hN hI AZ CV ho
        go_upto_region 36 with(fail)
        refine zam (S:=fun V=>V.cell? ⟨q+1,i,none⟩=some (.int .u32 (hx:Nat))∧V.cell? ⟨bv,i,none⟩=some (.int .u32 (vx:Nat))) 9 (by kernel_rfl) ⟨ch,cv⟩ (fun hB=>?_);simp only[qV]
        iterate 9
         refine zxo (v:=?_) rfl (jc ⟨by rfl,?_⟩) hB ?_;rotate_left
         ·intro W hC;obtain⟨z0,z1⟩:=hC
          try simp only[qQ]
          go_simp
          try rw[if_neg (by omega)]
          try with_reducible rfl
         try simp only[Act.put,qP]
        refine qzD (by as_aux_lemma=>kernel_rfl) rfl (fun K hK=>?_)
        try simp only[qQ]
        go_simp;refine hK.out _ _ ?_;clear hK K
        try simp only[Act.put,qP]
        refine zd2 (by kernel_rfl) ?_ _;simp only[zbl];clear hB
        go_wp2_with fail
        go_roundg (gk - 1)
        case measure=>omega
        case rel=>exact⟨i+1,by simp,by omega,by omega,Hst,zi (hG.out.drew.setCell _ _ (fun _ _=>rfl))⟩
       obtain rfl:i=8:=by omega
       have hD:decide (((8:Nat):Int)<8)=false:=rfl
       have Bq:stJ m PD (j+1)=sj.add z:=by
        rw[ztd m PD j AM,Hsj.out,Cc.out.1];unfold zbf;rw[Cc.out.2,Ck.out,DZ.out]
       have Dh:Hid (W32 160 (q+1) (stJ m PD (j+1)).list wr):=zi (by rw[Bq];have h:=hp.out;rwa [zx1]at h);have Dj:Hid (Fr (fun k _=>k=q+1) w4 wr):=zi (Dl.out.trans' hG.out);clear Bq
       go_wp2_with fail
       go_roundg (DV - 1)
       case measure=>omega
       case rel=>exact⟨j+1,A+64,by simp,zi (by have:=HA.out;omega),by omega,by omega,Dh,Dj⟩
   obtain rfl:j=m:=by omega
   have hD:decide ((A:Int)<PD.length)=false:=decide_eq_false (by rw[A5.out,HA.out];omega);have DS:¬ (A:Int)<PD.length:=of_decide_eq_false hD
   have CP:W32 160 (q+1) R.list wr:=by
    have h:=Ag.out;unfold stJ at h;rw[List.take_of_length_le (by rw[zdv];exact ja _),HR.out]at h;exact h
   obtain⟨w9,DE⟩:∃ x:World,x=wr:=⟨_,rfl⟩;subst DE;have Cq:=zi CP;clear CP Ag
   go_upto_region 38 with(fail)
   have BR:=zo w9 (.cells #[jf jg 0,jf jg 0,jf jg 0,jf jg 0,jf jg 0,jf jg 0,jf jg 0,jf jg 0,jf jg 0,jf jg 0,jf jg 0,jf jg 0,jf jg 0,jf jg 0,jf jg 0,jf jg 0,jf jg 0,jf jg 0,jf jg 0,jf jg 0,jf jg 0,jf jg 0,jf jg 0,jf jg 0,jf jg 0,jf jg 0,jf jg 0,jf jg 0,jf jg 0,jf jg 0,jf jg 0,jf jg 0] 23);have hf:Fr NoB w9 (w9.alloc (.cells #[jf jg 0,jf jg 0,jf jg 0,jf jg 0,jf jg 0,jf jg 0,jf jg 0,jf jg 0,jf jg 0,jf jg 0,jf jg 0,jf jg 0,jf jg 0,jf jg 0,jf jg 0,jf jg 0,jf jg 0,jf jg 0,jf jg 0,jf jg 0,jf jg 0,jf jg 0,jf jg 0,jf jg 0,jf jg 0,jf jg 0,jf jg 0,jf jg 0,jf jg 0,jf jg 0,jf jg 0,jf jg 0] 23)):=Fr.refl.alloc _;have hu:(w9.alloc (.cells #[jf jg 0,jf jg 0,jf jg 0,jf jg 0,jf jg 0,jf jg 0,jf jg 0,jf jg 0,jf jg 0,jf jg 0,jf jg 0,jf jg 0,jf jg 0,jf jg 0,jf jg 0,jf jg 0,jf jg 0,jf jg 0,jf jg 0,jf jg 0,jf jg 0,jf jg 0,jf jg 0,jf jg 0,jf jg 0,jf jg 0,jf jg 0,jf jg 0,jf jg 0,jf jg 0,jf jg 0,jf jg 0] 23)).heap.size=w9.heap.size+1:=zm _ _;obtain⟨A7,hs⟩:∃ z,w9.alloc (.cells #[jf jg 0,jf jg 0,jf jg 0,jf jg 0,jf jg 0,jf jg 0,jf jg 0,jf jg 0,jf jg 0,jf jg 0,jf jg 0,jf jg 0,jf jg 0,jf jg 0,jf jg 0,jf jg 0,jf jg 0,jf jg 0,jf jg 0,jf jg 0,jf jg 0,jf jg 0,jf jg 0,jf jg 0,jf jg 0,jf jg 0,jf jg 0,jf jg 0,jf jg 0,jf jg 0,jf jg 0,jf jg 0] 23)=z:=⟨_,rfl⟩;obtain⟨bo,Aq⟩:∃ z,w9.heap.size=z:=⟨_,rfl⟩;have hbo4:w4.heap.size≤bo:=by rw[← Aq];exact AD.out.size
   rw[hs,Aq]at BR hu;rw[hs]at hf ⊢;rw[Aq];have h0:Fr (fun k _=>k=q+1) w4 A7:=AD.out.trans hf (fun _ _ h=>h.elim);have Bh:=zi (Cq.out.fr hf (fun _ h=>h));have Bk:=zi (h0.block _ _ Dp.out (by simp));have BP:=fun i hi=>zv1 R i hi
   have h9:PR.length=32:=by rw[← Co.out];rfl
   rw[Co.out]at BP;have Cp:Hid (A7.heap[bo]? = some (.cells (zj (PR.take 0++List.replicate (32 - 0) 0)).toArray 23 (0,0))):=zi BR;have Dg:=zi BP;have hH:=zi h9;have Bj:=zi h0;have Hso:=zi hu;clear BR hf hu hs Aq AD Cq BP h9 h0
   go_wp2_with fail
   go_loopg [22] 33 (fun gf vi wr=>∃ i:Nat,vi = .int .i64 i∧i≤32∧i+gf=33∧Hid (wr.heap[bo]? = some (.cells (zj (PR.take i++List.replicate (32 - i) 0)).toArray 23 (0,0)))∧Hid (Fr (fun k _=>k=bo) A7 wr))
   case atStart=>exact⟨0,rfl,by omega,by omega,Cp,zi Fr.refl⟩
   case round =>
    clear Cp;obtain⟨i,rfl,hi,BC,A6,hG⟩:=hrel;by_cases hQ:i<32
    ·have hD:decide ((i:Int)<32)=true:=decide_eq_true (by omega);have hi32i:(i:Int)<32:=by omega
     have AO:=Dg.out i hQ;obtain⟨a,ha⟩:∃ a,i / 4=a:=⟨_,rfl⟩;obtain⟨b,hb⟩:∃ b,i % 4=b:=⟨_,rfl⟩;obtain⟨c,hc⟩:∃ c,3 - b=c:=⟨_,rfl⟩;obtain⟨d8,CF⟩:∃ x,8 * c=x:=⟨_,rfl⟩;rw[ha,hb,hc,CF]at AO;have DQ:a<8:=by omega
     have hb4:b<4:=by omega
     have hd24:d8≤24:=by omega
     have i1:(i:Int) / 4=(a:Int):=by omega
     have i2:(i:Int) % 4=(b:Int):=by omega
     have i3:(3:Int) - (b:Int)=(c:Int):=by omega
     have i4:(8:Int) * (c:Int)=(d8:Int):=by omega
     have i5:IntKind.i64.wrap (c:Int)=(c:Int):=by rw[zt];omega
     have i6:IntKind.i64.wrap (d8:Int)=(d8:Int):=by rw[zt];omega
     have i7:IntKind.u64.wrap (d8:Int)=(d8:Int):=by rw[IntKind.wrap_u64];omega
     have i8:(d8:Int) % 18446744073709551616=(d8:Int):=by omega
     have ha8i:(a:Int)<8:=by omega
     have DW:=(Bh.out.fr hG.out (fun _ h=>by omega)).cell (i:=a) DQ;obtain⟨hx,AZ⟩:∃ x,R.list.getD a 0=x:=⟨_,rfl⟩;rw[AZ]at DW AO;obtain⟨sx,ho⟩:∃ x,hx / 2 ^ d8=x:=⟨_,rfl⟩;rw[ho]at AO;have i9:(hx:Int) / 2 ^ d8=(sx:Int):=by rw[← ho,Int.natCast_ediv,Int.natCast_pow];rfl
     have BF:PR.getD i 0=UInt8.ofNat sx:=AO;have DB:((UInt8.ofNat sx).toNat:Int)=(sx:Int) % 256:=by simp only[UInt8.toNat_ofNat'];omega
     have fo:wr.frozen? ⟨bo,i,none⟩=false:=by simp[World.frozen?,A6.out]
     have CA:(PR.take i++List.replicate (32 - i) (0:UInt8)).length=32:=by rw[zy,List.length_take,List.length_replicate,hH.out];omega
     obtain ⟨ov,co⟩:∃ ov,wr.cell? ⟨bo,i,none⟩=some ov:=by
      simp only[World.cell?,A6.out,Option.isSome_none,Bool.false_eq_true,if_false];exact⟨_,Array.getElem?_eq_getElem (by rw[zw,jm,CA];exact hQ)⟩
     have hI:∀ v,v=Value.int .u8 ((sx:Int) % 256)→(wr.setCell ⟨bo,i,none⟩ v).heap[bo]? = some (.cells (zj (PR.take (i+1)++List.replicate (32 - (i+1)) 0)).toArray 23 (0,0)):=fun v hv=>by
      rw[jh _ A6.out]
      congr 2
      rw[List.setIfInBounds_toArray]
      congr 1
      obtain⟨r,hr⟩:∃ r,32 - i=r+1:=⟨31 - i,by omega⟩;rw[hv,← DB,hr,List.replicate_succ,show 32 - (i+1)=r by omega,List.take_add_one,List.getElem?_eq_getElem (by rw[hH.out];exact hQ)];rw[List.getD_eq_getElem?_getD,List.getElem?_eq_getElem (by rw[hH.out];exact hQ)]at BF;rw[show PR[i]'(by rw[hH.out];exact hQ)=UInt8.ofNat sx from BF];unfold zj;rw[List.map_append,List.map_append,List.set_append_right _ _ (by rw[List.length_map,List.length_take];omega),List.length_map,List.length_take,hH.out,show i - min i 32=0 by omega,List.map_cons,List.set_cons_zero,List.map_append,List.append_assoc];rfl
     have Hst:=zi hI;clear hI AO BF ha hb hc CF AZ ho CA
     go_wp2_with fail
     go_roundg (gk - 1)
     case measure=>omega
     case rel=>exact⟨i+1,by simp,by omega,by omega,zi (Hst.out _ rfl),zi (hG.out.setCell _ _ (fun _ _=>rfl))⟩
    obtain rfl:i=32:=by omega
    have hD:decide (((32:Nat):Int)<32)=false:=rfl
    have hO:wr.heap[bo]? = some (.cells (zj PR).toArray 23 (0,0)):=by
     have h:=A6.out;rw[Nat.sub_self,List.replicate_zero,List.append_nil,List.take_of_length_le (by rw[hH.out];exact ja _)]at h;exact h
    have Bt:wr.rangeAt bo 0 (zj PR):=by simpa using j8 hO
    have hA:=hG.out.block _ _ Bk.out (by show ¬ (q=bo);omega);have h5:=qa hA (n:=(zj PR).toArray.size) (by rw[zw,jm,hH.out];exact ja _);have Hrg:=zi Bt;have Hth:=zi h5;have CY:Hid ((Tryz.prog.info? 23).map (·.size)=some (zj PR).length):=zi (by rw[j3,jm,hH.out]);have Be:Hid ((Tryz.prog.info? 23).map (·.size)=some (zj PR).toArray.size):=zi (by rw[j3,zw,jm,hH.out]);have H1:=zi (all_oneCell_toArray (qv PR));have CQ:Fr NoB w wr:=(Dm.out.trans Bj.out (fun k _ hm => .inr (by have:=Hq.out;omega))).trans hG.out (fun k _ hm => .inr (by have:=Hq.out;omega));have Dk:=zi (CQ.trans (jr q (zj PR) 0 wr) (fun k _ hm => .inr (by have:=Hq.out;omega)));have CB:=run_loadVar_mid (P:=Tryz.prog) (wr.setCells q 0 (zj PR)) q 0 23 (zj PR) (.array 32 5) (World.rangeAt_setCells_same wr q 0 (zj PR) (by simpa using h5)) ji rfl CY.out;have Hld:=zi CB;clear hO Bt hA h5 CQ CB
    go_wp2_with (first
     | ((with_reducible refine wpList_load_mid ?_ 23 _ rfl bo 0 ?_ (zj PR) (.array 32 5) Hrg.out ji ?_ CY.out ?_);rfl;rfl;rfl)
     | ((with_reducible refine wpList_store_mid ?_ 23 _ _ rfl q 0 (zj PR).toArray ?_ ?_ Hth.out Be.out H1.out ?_);rfl;rfl;rfl))
    refine bodyPost_ret (v := .agg (zj PR).toArray) ?_ rfl ⟨rfl,Dk.out⟩;rw[qu rfl];show((asAddr (.pointer (some ⟨q,0,none⟩))).run _ (wr.setCells q 0 (zj PR))).andThen _=_;simp[asAddr,Result.andThen,Hld.out]
end Go.Proofs.YtffggpplnjibgaaGreatDoor
