/-
 Slices of texts: how they lie;sorted and compacted.
-/
import Derived.Test.YtffggpplnjibgaaGreatDoorKOwn
import Derived.Test.YtffggpplnjibgaaGreatDoorKShelf
import Derived.Test.YtffggpplnjibgaaGreatDoorKRefTyped
import Derived.Test.YtffggpplnjibgaaGreatDoorKKeysIs
import Derived.BigQuiet
open Go.Lib renaming hid→zi
namespace Go.Proofs.YtffggpplnjibgaaGreatDoor
set_option linter.unusedVariables false
set_option linter.unusedSimpArgs false
set_option linter.unusedSectionVars false
set_option maxRecDepth 100000
set_option maxHeartbeats 1000000
section
open Go.RowKit Go.Sort
variable [OldK]
def zd3 (l:List Bs):List Value:=l.map (fun s => .string ⟨s.toArray⟩)
def OS (B:Nat) (l:List Bs) (v:Value) (w:World):Prop:=w.ownsRow B 9 1 v l.length (zd3 l)
theorem OS.fr {M:Nat→Obj→Prop}{B:Nat}{l:List Bs}{v:Value}{w w':World}(h:OS B l v w)(hF:Fr M w w')(hM:∀ k o,B≤k→OfTy 9 o→¬ M k o):OS B l v w' :=
 zc0 h hF (fun k o _ hk ht=>hM k o hk ht)
theorem OS.form {B:Nat}{l:List Bs}{v:Value}{w:World}(h:OS B l v w):∃ a c,v = .slice a l.length c:=zaw h
theorem OS.nil (B:Nat)(w:World):OS B [] (.slice none 0 0) w:=⟨rfl,.inl ⟨rfl,rfl⟩⟩
theorem OS.push {B:Nat}{l:List Bs}{x:Bs}{v v':Value}{w W w2:World}(h:OS B l v w)(hW:Fr NoB w W)(hown:w2.ownsRow B 9 1 v' (l.length+1) (zd3 l++[.string ⟨x.toArray⟩]))(hg:W.grownBy w2 v.ownBlock) :
 OS B (l++[x]) v' w2∧Fr (fun k _=>B≤k) w w2:=by
 constructor
 ·unfold OS;rw[List.length_append,show zd3 (l++[x])=zd3 l++[.string ⟨x.toArray⟩] by simp[zd3]];exact hown
 exact(hW.mono (fun _ _ h=>h.elim)).trans (Fr.ofGrown hg) (fun k o hm => .inl (zcj h k hm.symm).1)
theorem OS.holds {B:Nat} {l:List Bs} {v:Value} {w:World} (h:OS B l v w) (hne:l≠[]):∃ g cap,v = .slice (some ⟨g,0,none⟩) l.length cap∧B≤g∧g<w.heap.size∧l.length≤cap∧Holds encStr w g 0 l.toArray:=by
 rcases h.2 with⟨rfl,h0⟩ | ⟨g,cap,cur,rfl,hb,hg,hn,hcm,hcs,htake⟩
 ·exact absurd (List.length_eq_zero_iff.1 h0) hne
 refine⟨g,cap,rfl,hb,ju hg,hn,fun j hj=>?_⟩;have hB:j<l.length:=by simpa using hj
 have h1:(cur.toList.take (l.length * 1))[j]? = some (.string ⟨l[j].toArray⟩):=by
  rw[htake];simp[zd3,hB]
 rw[List.getElem?_take,if_pos (by omega),Array.getElem?_toList]at h1;refine⟨?_,by simp[World.frozen?,hg]⟩;simp only[World.cell?,hg,Nat.zero_add,h1];have e:l.toArray[j]! = l[j]:=by simp[hB]
 rw[e];rfl
def SS (S:Nat→Prop) (l:List Bs) (v:Value) (w:World):Prop:=∃ a cap,v = .slice a l.length cap∧l.length≤cap ∧
 ((l=[]∧a=none)∨∃ b o,a=some ⟨b,o,none⟩∧S b∧b<w.heap.size∧∀ i s,l[i]? = some s→w.cell? ⟨b,o+i,none⟩=some (.string ⟨s.toArray⟩)∧w.frozen? ⟨b,o+i,none⟩=false)
theorem zlp (w:World)(g off:Nat)(d:Array Bs)(n:Nat)(os:Array Obj):Fr (fun k _=>k=g) w (Sort.grow (putRow encStr (Sort.ahead w n) g off d) os):=by
 refine⟨rfl,rfl,rfl,?_,fun k o hk hn=>?_⟩
 ·show w.heap.size≤((putRow encStr (Sort.ahead w n) g off d).heap++os).size;rw[Array.size_append,Sort.size_putRow];exact Nat.le_add_right _ _
 have hB:=ju hk;show((putRow encStr (Sort.ahead w n) g off d).heap++os)[k]? = some o;rw[Array.getElem?_append_left (by rw[Sort.size_putRow];exact hB)];show(w.heap.modify g _)[k]? = some o;rw[Array.getElem?_modify,if_neg (fun e=>hn e.symm)];exact hk
def SH (B:Nat) (l:List Bs) (v:Value) (w:World):Prop:=∃ g cap,v = .slice (some ⟨g,0,none⟩) l.length cap∧B≤g∧g<w.heap.size∧l.length≤cap∧Holds encStr w g 0 l.toArray
theorem OS.sh {B:Nat}{l:List Bs}{v:Value}{w:World}(h:OS B l v w)(hne:l≠[]):SH B l v w:=by
 obtain⟨g,hB,h⟩:=h.holds hne;exact⟨g,hB,h⟩
def zf3 (l:List Bs):List Bs:=l.mergeSort (fun x y=>decide (x≤y))
theorem zcd (l:List Bs):(zf3 l).length=l.length:=List.length_mergeSort _
theorem zib {B:Nat}{l:List Bs}{v:Value}{w:World}(h:SH B l v w)(hl:l.length≤1000000) :
 Calls Tryz.prog 57 #[v] w fun e w'=>e = .returned (.tuple #[])∧SH B (zf3 l) v w'∧Fr (fun k _=>B≤k) w w':=by
 obtain⟨g,hC,rfl,hB,hg,hc,hH⟩:=h;refine(Tryz.slices_Sort_string g 0 hC l w hH hg (by omega)).mono ?_;rintro e w' ⟨rfl,n,os,rfl⟩;refine⟨rfl,⟨g,hC,by rw[zcd],hB,?_,by rw[zcd];exact hc,?_⟩,(zlp w g 0 _ n os).mono (fun k o hm=>by subst hm;exact hB)⟩
 ·rw[Sort.size_grow,Sort.size_putRow];show g<w.heap.size+_;omega
 refine Sort.holds_grow _ _ _ _ _ _ (by rw[Sort.size_putRow];exact hg) ?_;exact Sort.holds_putRow encStr (Sort.ahead w n) g 0 l.toArray _ hH (by simp)
theorem zj2 (l:List Bs):(Lib.compact l).length≤l.length:=by
 unfold Lib.compact Lib.compactUpTo;rw[List.length_map];exact Nat.le_trans (List.length_filter_le _ _) (by simp)
theorem zd1 {B:Nat} {l:List Bs} {v:Value} {w:World} (h:SH B l v w) (hl:l.length≤1000000) :
 Calls Tryz.prog 58 #[v] w fun e w'=>(∃ v',e = .returned v'∧SS (fun k=>B≤k) (Lib.compact l) v' w')∧Fr (fun k _=>B≤k) w w':=by
 obtain⟨g,hD,rfl,hB,hg,hc,hH⟩:=h;refine(Tryz.slices_Compact_string g 0 hD l w hH (by omega) hc).mono ?_;rintro e w' ⟨rfl,q,rfl⟩;have hle:=zj2 l;refine⟨⟨_,rfl,_,_,rfl,by omega,.inr ⟨g,0,rfl,hB,by rw[Sort.size_putRow];exact hg,fun i s hi=>?_⟩⟩,?_⟩
 ·have hC:i<(Lib.compact l).length:=by
   rcases Nat.lt_or_ge i (Lib.compact l).length with h | h
   ·exact h
   rw[List.getElem?_eq_none h]at hi;simp at hi
  have hh:=Sort.holds_putRow encStr (Sort.ahead w q) g 0 l.toArray (Lib.compact l++List.replicate (l.length - (Lib.compact l).length) []).toArray hH (by simp;omega) i (by simp;omega);refine⟨?_,hh.2⟩;rw[hh.1]
  congr 1
  have hj:i<(Lib.compact l++List.replicate (l.length - (Lib.compact l).length) []).length:=by simp;omega
  have:(Lib.compact l++List.replicate (l.length - (Lib.compact l).length) ([]:Bs)).toArray[i]! = s:=by
   have e1:(Lib.compact l++List.replicate (l.length - (Lib.compact l).length) ([]:Bs)).toArray[i]? = some s:=by
    rw[List.getElem?_toArray,List.getElem?_append_left hC];exact hi
   rw[getElem!_def,e1]
  rw[this]
 have:=zlp w g 0 (Lib.compact l++List.replicate (l.length - (Lib.compact l).length) []).toArray q #[];rw[Sort.grow_empty]at this;exact this.mono (fun k o hm=>by subst hm;exact hB)
end
section
open Go.RowKit Go.Sort
variable [OldK]
def qs (s:Sg):Bs:=if s.id=[] then zhw++zat s.key else sId++s.id
theorem zr5 (s:Sg) (w:World) (hok:s.ok) (hlen:s.id.length≤1000000) :
 Calls Tryz.prog 53 #[.agg s.cells] w fun e w'=>e = .returned (.string ⟨(qs s).toArray⟩)∧Fr NoB w w':=by
 have hR:(w.alloc (.cells s.cells 40)).rangeAt w.heap.size 0 s.cells.toList:=j8 (heap_alloc_new w (.cells s.cells 40));have hF:=(Fr.refl (M:=NoB)).alloc (w:=w) (.cells s.cells 40);have hW:w.heap.size<(w.alloc (.cells s.cells 40)).heap.size:=by rw[World.size_alloc];omega
 rw[Sg.list,qb,qb,zcy]at hR;obtain⟨c0,cK,-⟩:=hR;obtain⟨R,hC⟩:∃ R,qs s=R:=⟨_,rfl⟩;rw[hC];have hD:=hok.1;obtain⟨cs,hE⟩:∃ cs,s.cells=cs:=⟨_,rfl⟩;rw[hE]at c0 cK hF hW ⊢;clear hE hok;obtain⟨id,hB,sig⟩:=s;simp only at c0 cK hD hlen;go_enter Tryz.func53,Tryz.ntmps53
 go_upto_region 1 with(fail)
 change Code.wp _ _ _ _ (w.alloc (.cells cs 40));obtain⟨W,hG⟩:∃ W,w.alloc (.cells cs 40)=W:=⟨_,rfl⟩;rw[hG]at c0 cK hF hW ⊢;obtain⟨p,hp⟩:∃ p,w.heap.size=p:=⟨_,rfl⟩;rw[hp]at c0 cK hW;rw[hp];clear hG hp;have HF:=zi hF;cases id with
 | cons c r =>
   have hJ:(c :: r:Bs).isEmpty=false:=rfl;have HR:Hid (sId++(c :: r)=R):=zi (by rw[← hC];rfl);obtain⟨l,hl⟩:∃ l,(c :: r:Bs)=l:=⟨_,rfl⟩;rw[hl]at c0 hJ hlen HR;have HI:=zi (fun V=>zit l V (by omega));clear hl hC hF cK
   go_wp2_with fail
   refine(HI.out _).mono ?_;rintro e w1 ⟨rfl,rfl⟩
   go_wp2_with fail
   go_ret;exact⟨by rw[HR.out]<;>rfl,HF.out⟩
 | nil =>
   have HR:Hid (zhw++zat hB=R):=zi (by rw[← hC];rfl);have HI:=zi (fun V=>zvb hB V hD);have hI:W.rangeAt p 1 (Lib.byteCells hB):=cK;have HK:=zi hI;have HZ:=zi (show(Tryz.prog.info? 25).map (·.size)=some (Lib.byteCells hB).length by rw[q8,jm,hD]);clear hC hF cK hI hD
   go_wp2_with((with_reducible refine wpList_load_mid ?_ 25 _ rfl p 1 ?_ (Lib.byteCells hB) (.array 32 5) HK.out jo ?_ HZ.out ?_);rfl;rfl;rfl)
   refine(HI.out _).mono ?_;rintro e w1 ⟨rfl,hH⟩;have hK:=zi (HF.out.trans' hH);clear hH
   go_wp2_with fail
   go_ret;exact⟨by rw[HR.out]<;>rfl,hK.out⟩
theorem zmr:(Tryz.prog.info? 9).map (fun i=>(i.zero,i.size,i.bytes))=some (some (.string ⟨#[]⟩),1,16):=by kernel_rfl
end
section
open Go.RowKit Go.Sort
variable [OldK]
theorem SS.fr {S:Nat→Prop}{M:Nat→Obj→Prop}{l:List Bs}{v:Value}{w w':World}(h:SS S l v w)(hF:Fr M w w')(hM:∀ k o,S k→¬ M k o):SS S l v w':=by
 obtain⟨a,c,hv,hc,h | ⟨b,o,ha,hS,hb,hr⟩⟩:=h
 ·exact⟨a,c,hv,hc,.inl h⟩
 obtain⟨ob,hC⟩:∃ ob,w.heap[b]? = some ob:=⟨_,Array.getElem?_eq_getElem hb⟩;have hB:=hF.block _ _ hC (hM _ _ hS);refine⟨a,c,hv,hc,.inr ⟨b,o,ha,hS,ju hB,fun i s hi=>?_⟩⟩;have:=hr i s hi;simp only[World.cell?,World.frozen?,hC]at this;simp only[World.cell?,World.frozen?,hB];exact this
theorem SS.mono {S S':Nat→Prop}{l:List Bs}{v:Value}{w:World}(h:SS S l v w)(hS:∀ k,S k→S' k):SS S' l v w:=by
 obtain⟨a,c,hv,hc,h | ⟨b,o,ha,hb,hr⟩⟩:=h
 ·exact⟨a,c,hv,hc,.inl h⟩
 exact⟨a,c,hv,hc,.inr ⟨b,o,ha,hS _ hb,hr⟩⟩
theorem SS.form {S:Nat→Prop}{l:List Bs}{v:Value}{w:World}(h:SS S l v w):∃ a c,v = .slice a l.length c∧l.length≤c:=by
 obtain⟨a,c,hv,hc,-⟩:=h;exact⟨a,c,hv,hc⟩
theorem SS.at {S:Nat→Prop}{l:List Bs}{a:Option Addr}{n c:Nat}{w:World}(h:SS S l (.slice a n c) w){i:Nat}{s:Bs}(hi:l[i]? = some s):∃ b o,a=some ⟨b,o,none⟩∧S b∧b<w.heap.size∧w.cell? ⟨b,o+i,none⟩=some (.string ⟨s.toArray⟩):=by
 obtain⟨a',c',hv,hc,h | ⟨b,o,ha,hS,hb,hr⟩⟩:=h
 ·rw[h.1]at hi;cases hi
 cases hv;exact⟨b,o,ha,hS,hb,(hr i s hi).1⟩
end
end Go.Proofs.YtffggpplnjibgaaGreatDoor
