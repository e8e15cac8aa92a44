/-
 The walk of the reference's Hex.
-/
import Derived.Test.YtffggpplnjibgaaGreatDoorKOwn
import Derived.Test.YtffggpplnjibgaaGreatDoorKSpecEntry
import Derived.Test.YtffggpplnjibgaaGreatDoorKUnhex
import Derived.Test.YtffggpplnjibgaaGreatDoorKConcat
import Derived.OrdersHeld
import Derived.Deep.RegionHeld3
import Derived.Deep.LoopGhost
import Derived.Test.YtffggpplnjibgaaGreatDoorKShelf
import Derived.BigQuiet
open Go.Lib renaming hid→zi
namespace Go.Proofs.YtffggpplnjibgaaGreatDoor
set_option linter.unusedVariables false
set_option linter.unusedSimpArgs false
set_option linter.unusedSectionVars false
set_option maxRecDepth 100000
set_option maxHeartbeats 1000000
section
open Go.RowKit
variable [OldK]
end
section
open Go.RowKit Go.Sort
variable [OldK]
def zcv (l:List Bs):List Value:=l.map (fun s => .string ⟨s.toArray⟩)
def OS (B:Nat) (l:List Bs) (v:Value) (w:World):Prop:=w.ownsRow B 9 1 v l.length (zcv l)
theorem OS.fr {M:Nat→Obj→Prop}{B:Nat}{l:List Bs}{v:Value}{w w':World}(h:OS B l v w)(hF:Fr M w w')(hM:∀ k o,B≤k→OfTy 9 o→¬ M k o):OS B l v w' :=
 zfk h hF (fun k o _ hk ht=>hM k o hk ht)
theorem OS.form {B:Nat}{l:List Bs}{v:Value}{w:World}(h:OS B l v w):∃ a c,v = .slice a l.length c:=zal h
theorem OS.nil (B:Nat)(w:World):OS B [] (.slice none 0 0) w:=⟨rfl,.inl ⟨rfl,rfl⟩⟩
theorem OS.push {B:Nat}{l:List Bs}{x:Bs}{v v':Value}{w W w2:World}(h:OS B l v w)(hW:Fr NoB w W)(hown:w2.ownsRow B 9 1 v' (l.length+1) (zcv l++[.string ⟨x.toArray⟩]))(hg:W.grownBy w2 v.ownBlock) :
 OS B (l++[x]) v' w2∧Fr (fun k _=>B≤k) w w2:=by
 constructor
 ·unfold OS;rw[List.length_append,show zcv (l++[x])=zcv l++[.string ⟨x.toArray⟩] by simp[zcv]];exact hown
 exact(hW.mono (fun _ _ h=>h.elim)).trans (Fr.ofGrown hg) (fun k o hm => .inl (zcn h k hm.symm).1)
theorem OS.holds {B:Nat} {l:List Bs} {v:Value} {w:World} (h:OS B l v w) (hne:l≠[]):∃ g cap,v = .slice (some ⟨g,0,none⟩) l.length cap∧B≤g∧g<w.heap.size∧l.length≤cap∧Holds encStr w g 0 l.toArray:=by
 rcases h.2 with⟨rfl,h0⟩ | ⟨g,cap,cur,rfl,hb,hg,hn,hcm,hcs,htake⟩
 ·exact absurd (List.length_eq_zero_iff.1 h0) hne
 refine⟨g,cap,rfl,hb,jq hg,hn,fun j hj=>?_⟩;have hA:j<l.length:=by simpa using hj
 have h1:(cur.toList.take (l.length * 1))[j]? = some (.string ⟨l[j].toArray⟩):=by
  rw[htake];simp[zcv,hA]
 rw[List.getElem?_take,if_pos (by omega),Array.getElem?_toList]at h1;refine⟨?_,by simp[World.frozen?,hg]⟩;simp only[World.cell?,hg,Nat.zero_add,h1];have e:l.toArray[j]! = l[j]:=by simp[hA]
 rw[e];rfl
def SS (S:Nat→Prop) (l:List Bs) (v:Value) (w:World):Prop:=∃ a cap,v = .slice a l.length cap∧l.length≤cap ∧
 ((l=[]∧a=none)∨∃ b o,a=some ⟨b,o,none⟩∧S b∧b<w.heap.size∧∀ i s,l[i]? = some s→w.cell? ⟨b,o+i,none⟩=some (.string ⟨s.toArray⟩)∧w.frozen? ⟨b,o+i,none⟩=false)
theorem zho (w:World)(g off:Nat)(d:Array Bs)(n:Nat)(os:Array Obj):Fr (fun k _=>k=g) w (Sort.grow (putRow encStr (Sort.ahead w n) g off d) os):=by
 refine⟨rfl,rfl,rfl,?_,fun k o hk hn=>?_⟩
 ·show w.heap.size≤((putRow encStr (Sort.ahead w n) g off d).heap++os).size;rw[Array.size_append,Sort.size_putRow];exact Nat.le_add_right _ _
 have hA:=jq hk;show((putRow encStr (Sort.ahead w n) g off d).heap++os)[k]? = some o;rw[Array.getElem?_append_left (by rw[Sort.size_putRow];exact hA)];show(w.heap.modify g _)[k]? = some o;rw[Array.getElem?_modify,if_neg (fun e=>hn e.symm)];exact hk
def SH (B:Nat) (l:List Bs) (v:Value) (w:World):Prop:=∃ g cap,v = .slice (some ⟨g,0,none⟩) l.length cap∧B≤g∧g<w.heap.size∧l.length≤cap∧Holds encStr w g 0 l.toArray
theorem OS.sh {B:Nat}{l:List Bs}{v:Value}{w:World}(h:OS B l v w)(hne:l≠[]):SH B l v w:=by
 obtain⟨g,hA,h⟩:=h.holds hne;exact⟨g,hA,h⟩
def zd4 (l:List Bs):List Bs:=l.mergeSort (fun x y=>decide (x≤y))
theorem zaq (l:List Bs):(zd4 l).length=l.length:=List.length_mergeSort _
theorem zfd {B:Nat}{l:List Bs}{v:Value}{w:World}(h:SH B l v w)(hl:l.length≤1000000) :
 Calls Tryz.prog 57 #[v] w fun e w'=>e = .returned (.tuple #[])∧SH B (zd4 l) v w'∧Fr (fun k _=>B≤k) w w':=by
 obtain⟨g,hA,rfl,hB,hg,hc,hH⟩:=h;refine(Tryz.slices_Sort_string g 0 hA l w hH hg (by omega)).mono ?_;rintro e w' ⟨rfl,n,os,rfl⟩;refine⟨rfl,⟨g,hA,by rw[zaq],hB,?_,by rw[zaq];exact hc,?_⟩,(zho w g 0 _ n os).mono (fun k o hm=>by subst hm;exact hB)⟩
 ·rw[Sort.size_grow,Sort.size_putRow];show g<w.heap.size+_;omega
 refine Sort.holds_grow _ _ _ _ _ _ (by rw[Sort.size_putRow];exact hg) ?_;exact Sort.holds_putRow encStr (Sort.ahead w n) g 0 l.toArray _ hH (by simp)
theorem zgk (l:List Bs):(Lib.compact l).length≤l.length:=by
 unfold Lib.compact Lib.compactUpTo;rw[List.length_map];exact Nat.le_trans (List.length_filter_le _ _) (by simp)
theorem zbw {B:Nat} {l:List Bs} {v:Value} {w:World} (h:SH B l v w) (hl:l.length≤1000000) :
 Calls Tryz.prog 58 #[v] w fun e w'=>(∃ v',e = .returned v'∧SS (fun k=>B≤k) (Lib.compact l) v' w')∧Fr (fun k _=>B≤k) w w':=by
 obtain⟨g,hC,rfl,hB,hg,hc,hH⟩:=h;refine(Tryz.slices_Compact_string g 0 hC l w hH (by omega) hc).mono ?_;rintro e w' ⟨rfl,q,rfl⟩;have hle:=zgk l;refine⟨⟨_,rfl,_,_,rfl,by omega,.inr ⟨g,0,rfl,hB,by rw[Sort.size_putRow];exact hg,fun i s hi=>?_⟩⟩,?_⟩
 ·have hA:i<(Lib.compact l).length:=by
   rcases Nat.lt_or_ge i (Lib.compact l).length with h | h
   ·exact h
   rw[List.getElem?_eq_none h]at hi;simp at hi
  have hh:=Sort.holds_putRow encStr (Sort.ahead w q) g 0 l.toArray (Lib.compact l++List.replicate (l.length - (Lib.compact l).length) []).toArray hH (by simp;omega) i (by simp;omega);refine⟨?_,hh.2⟩;rw[hh.1]
  congr 1
  have hj:i<(Lib.compact l++List.replicate (l.length - (Lib.compact l).length) []).length:=by simp;omega
  have:(Lib.compact l++List.replicate (l.length - (Lib.compact l).length) ([]:Bs)).toArray[i]! = s:=by
   have e1:(Lib.compact l++List.replicate (l.length - (Lib.compact l).length) ([]:Bs)).toArray[i]? = some s:=by
    rw[List.getElem?_toArray,List.getElem?_append_left hA];exact hi
   rw[getElem!_def,e1]
  rw[this]
 have:=zho w g 0 (Lib.compact l++List.replicate (l.length - (Lib.compact l).length) []).toArray q #[];rw[Sort.grow_empty]at this;exact this.mono (fun k o hm=>by subst hm;exact hB)
end
section
open Go.RowKit Go.Sort
variable [OldK]
theorem SS.fr {S:Nat→Prop}{M:Nat→Obj→Prop}{l:List Bs}{v:Value}{w w':World}(h:SS S l v w)(hF:Fr M w w')(hM:∀ k o,S k→¬ M k o):SS S l v w':=by
 obtain⟨a,c,hv,hc,h | ⟨b,o,ha,hS,hb,hr⟩⟩:=h
 ·exact⟨a,c,hv,hc,.inl h⟩
 obtain⟨ob,hB⟩:∃ ob,w.heap[b]? = some ob:=⟨_,Array.getElem?_eq_getElem hb⟩;have hA:=hF.block _ _ hB (hM _ _ hS);refine⟨a,c,hv,hc,.inr ⟨b,o,ha,hS,jq hA,fun i s hi=>?_⟩⟩;have:=hr i s hi;simp only[World.cell?,World.frozen?,hB]at this;simp only[World.cell?,World.frozen?,hA];exact this
theorem SS.mono {S S':Nat→Prop}{l:List Bs}{v:Value}{w:World}(h:SS S l v w)(hS:∀ k,S k→S' k):SS S' l v w:=by
 obtain⟨a,c,hv,hc,h | ⟨b,o,ha,hb,hr⟩⟩:=h
 ·exact⟨a,c,hv,hc,.inl h⟩
 exact⟨a,c,hv,hc,.inr ⟨b,o,ha,hS _ hb,hr⟩⟩
theorem SS.form {S:Nat→Prop}{l:List Bs}{v:Value}{w:World}(h:SS S l v w):∃ a c,v = .slice a l.length c∧l.length≤c:=by
 obtain⟨a,c,hv,hc,-⟩:=h;exact⟨a,c,hv,hc⟩
theorem SS.at {S:Nat→Prop}{l:List Bs}{a:Option Addr}{n c:Nat}{w:World}(h:SS S l (.slice a n c) w){i:Nat}{s:Bs}(hi:l[i]? = some s):∃ b o,a=some ⟨b,o,none⟩∧S b∧b<w.heap.size∧w.cell? ⟨b,o+i,none⟩=some (.string ⟨s.toArray⟩):=by
 obtain⟨a',c',hv,hc,h | ⟨b,o,ha,hS,hb,hr⟩⟩:=h
 ·rw[h.1]at hi;cases hi
 cases hv;exact⟨b,o,ha,hS,hb,(hr i s hi).1⟩
theorem zmz {l m:List Bs}(hl:l.length=m.length){i:Nat}(h:i<l.length):(l.drop i==m.drop i)=(l[i]==m[i]'(by omega)&&(l.drop (i+1)==m.drop (i+1))):=by
 rw[List.drop_eq_getElem_cons h,List.drop_eq_getElem_cons (show i<m.length by omega)];rfl
theorem zlg (S S':Nat→Prop) (l m:List Bs) (v u:Value) (w:World) (hv:SS S l v w) (hu:SS S' m u w) (hl:l.length≤1000000) (hm:m.length≤1000000) :
 Calls Tryz.prog 18 #[v,u] w fun e w'=>e = .returned (.bool (l==m))∧Fr NoB w w':=by
 obtain⟨a,c,rfl,-⟩:=hv.form;obtain⟨b,d,rfl,-⟩:=hu.form;have Hv:=zi hv;have Hu:=zi hu;obtain⟨R,hR⟩:∃ R,(l==m)=R:=⟨_,rfl⟩;rw[hR];clear hv hu;by_cases hA:l.length=m.length
 ·have hq:((l.length:Int) != (m.length:Int))=false:=by rw[hA];simp
  have HR:=zi hR;have Hlm:=zi hA;clear hR hA;go_enter Tryz.func18,Tryz.ntmps18
  go_wp2_with fail
  go_loopg [13] (l.length+1) (fun gf vi wr=>∃ i:Nat,vi = .int .i64 i∧i≤l.length∧i+gf=l.length+1∧Hid (Fr NoB w wr)∧Hid ((l.drop i==m.drop i)=R))
  case atStart=>exact⟨0,rfl,by omega,by omega,zi Fr.refl,zi (by rw[List.drop_zero,List.drop_zero];exact HR.out)⟩
  case round =>
   obtain⟨i,rfl,hi,hig,HF,HG⟩:=hrel;by_cases hD:i<l.length
   ·have hC:decide ((i:Int)<l.length)=true:=decide_eq_true (by omega);have hil:(i:Int)<l.length:=by omega
    have him:(i:Int)<m.length:=by have:=Hlm.out;omega
    have hF:i<m.length:=by have:=Hlm.out;omega
    obtain⟨bg,o,rfl,-,hb,hc⟩:=Hv.out.at (List.getElem?_eq_getElem hD);obtain⟨bh,o',rfl,-,hb',hE⟩:=Hu.out.at (List.getElem?_eq_getElem hF);have x1:=Fr.cell HF.out hc;have x2:=Fr.cell HF.out hE;have hG:=HG.out;rw[zmz Hlm.out hD]at hG;obtain⟨s,hs⟩:∃ s,l[i]=s:=⟨_,rfl⟩;obtain⟨t,ht⟩:∃ s,m[i]=s:=⟨_,rfl⟩;rw[hs]at x1 hG;rw[ht]at x2 hG;obtain⟨q,hq⟩:∃ q,(s==t)=q:=⟨_,rfl⟩;rw[hq]at hG;have hB:=zi hG;clear hc hE hG hs ht HG;cases q with
    | false =>
      go_wp2_with fail
      go_quiet (fail)
      go_wp2_with fail
      go_ret;exact⟨ju (by have h:=hB.out;rw[← h];rfl),HF.out.trans' (ze3 _ _)⟩
    | true =>
      go_wp2_with fail
      go_quiet (fail)
      go_wp2_with fail
      go_roundg (gk - 1)
      case measure=>omega
      case rel=>exact⟨i+1,by simp,by omega,by omega,zi (HF.out.trans' (ze3 _ _)),zi (by have h:=hB.out;simpa using h)⟩
   obtain rfl:i=l.length:=by omega
   have hC:decide ((l.length:Int)<l.length)=false:=by simp
   have hB:Hid (R=true):=zi (by have h:=HG.out;rw[List.drop_length,show l.length=m.length from Hlm.out,List.drop_length]at h;rw[← h];rfl);clear HG
   go_wp2_with fail
   go_ret;exact⟨ju hB.out.symm,HF.out⟩
 have hq:((l.length:Int) != (m.length:Int))=true:=by simp;omega
 have HR:Hid (R=false):=zi (by
  rw[← hR];rw[beq_eq_false_iff_ne]
  exact fun h=>hA (congrArg List.length h))
 clear hR;go_enter Tryz.func18,Tryz.ntmps18
 go_wp2_with fail
 go_ret;exact⟨ju HR.out.symm,Fr.refl⟩
end
end Go.Proofs.YtffggpplnjibgaaGreatDoor
