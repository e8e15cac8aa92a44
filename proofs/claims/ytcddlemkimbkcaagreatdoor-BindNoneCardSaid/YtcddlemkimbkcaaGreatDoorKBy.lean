/-
 The walks of slices.Collect,SortFunc,SortedFunc at one or two signatures;EqualFunc;bind.by.
-/
import Derived.Test.YtcddlemkimbkcaaGreatDoorKSeq
import Derived.Test.YtcddlemkimbkcaaGreatDoorKShelf
open Go.Lib renaming hid→za
open Go.Proofs.Tryz renaming prog→ze
open Go renaming wpList_load_mid→zi
namespace Go.Proofs.YtcddlemkimbkcaaGreatDoor
set_option linter.unusedVariables false
set_option linter.unusedSimpArgs false
set_option linter.unusedSectionVars false
set_option maxRecDepth 100000
set_option maxHeartbeats 4000000
section
open Go.RowKit Go.Shelf
variable [OldK]
theorem zre (Bs gb cap:Nat)(xs:List Sg)(hll:xs.length≤100)(hok:∀ x∈xs,x.ok)(w:World)(hBs:Bs<w.heap.size)
 (hB0:w.cell? ⟨Bs,0,none⟩=some (.slice (some ⟨gb,0,none⟩) xs.length cap)) (hr:SgRow w.heap.size gb xs w) :
 Calls ze 168 #[.func (.func 170) #[] #[.pointer (some ⟨Bs,0,none⟩)]] w fun e W'=>∃ v,e = .returned v∧W'.ownsRow w.heap.size 54 97 v xs.length (zdr xs)∧Fr NoB w W':=by
 have hc:=za (callsIn_wide.1 (zli Bs w.heap.size gb cap xs hll hok w hBs rfl hB0 hr));clear hr hB0;go_enter Tryz.func168,Tryz.ntmps168
 go_wp2_with fail
 refine hc.out.mono ?_;rintro e w1 ⟨v,rfl,ho,hF⟩;have Ho:=za ho;have HF:=za hF;clear ho hF
 go_wp2_with fail
 go_ret;exact⟨_,rfl,Ho.out,HF.out⟩
theorem zl9 (ad:Option Addr)(c:Nat)(w:World) :
 Calls ze 169 #[.slice ad 1 c,.func (.func 119) #[] #[]] w fun e w'=>e = .returned (.tuple #[])∧Fr NoB w w':=by
 have hb:=za (fun V=>Tryz.bits_Len 1 V (by decide) (by decide));have hp:=za (fun hA V=>zv4 ad c hA V);have hw1:IntKind.u64.wrap 1=1:=by decide
 go_enter Tryz.func169,Tryz.ntmps169
 go_wp2_with fail
 refine(hb.out _).mono ?_;rintro e w1 ⟨rfl,rfl⟩
 go_wp2_with fail
 refine(hp.out _ _).mono ?_;rintro e w1 ⟨rfl,hF⟩;have HF:=za hF;clear hF
 go_wp2_with fail
 go_end0
 exact⟨rfl,HF.out⟩
theorem zl8 (a b:Sg)(gb c:Nat)(w:World)(ha:a.ok2)(hb:b.ok2)(h:SR2 gb a b w)(hg:gb<w.heap.size)(hc:2≤c) :
 Calls ze 169 #[.slice (some ⟨gb,0,none⟩) 2 c,.func (.func 119) #[] #[]] w fun e w'=>e = .returned (.tuple #[])∧SRs gb a b w'∧Fr (fun k _=>k=gb) w w':=by
 have hB:=za (fun V=>Tryz.bits_Len 2 V (by decide) (by decide));have hp:=za (fun hA=>zv3 a b gb c hA w ha hb h hg hc);have hw1:IntKind.u64.wrap 2=2:=by decide
 clear h;go_enter Tryz.func169,Tryz.ntmps169
 go_wp2_with fail
 refine(hB.out _).mono ?_;rintro e w1 ⟨rfl,rfl⟩
 go_wp2_with fail
 refine(hp.out _).mono ?_;rintro e w1 ⟨rfl,hS,hF⟩;have HF:=za hF;have HS:=za hS;clear hF hS
 go_wp2_with fail
 go_end0
 exact⟨rfl,HS.out,HF.out⟩
theorem jh {P:Program}{ops:Array Oper}{rest:List Oper}{op:Oper}{a:Act}{w:World}{Q:Exit→Act→World→Prop}(hgd:op.guard=none)(ty:TypeId)(x y:Operand)(ho:op.op = .store ty x y)(c c':Array Value)(N:Nat)(hN:w.heap.size=N)
 (hx:a.eval x = .pointer (some ⟨N,0,none⟩)) (hy:a.eval y = .agg c') (hi:(P.info? ty).map (·.size)=some c'.size) (hs:c.size=c'.size) (h1:c'.all (·.oneCell')=true)
 (h:wpList P ops Q rest (a.put op.dst undef) (w.alloc (.cells c' ty))):wpList P ops Q (op :: rest) a (w.alloc (.cells c ty)):=by
 subst hN;refine wpList_plain hgd fun K hK=>?_
 unfold Oper.wp execOp;simp only[ho,hx,hy];rw[Sem.run_bind,run_storeAt_new w ty c c' hi hs h1];exact hK _ _ h
theorem zv6 {w:World} {B g c:Nat} {a b:Sg} (ha:a.ok) (hb:b.ok) (h:w.ownsRow B 54 97 (.slice (some ⟨g,0,none⟩) 2 c) 2 (zdr [a,b])):SR2 g a b w∧g<w.heap.size∧2≤c:=by
 have hx:zdr [a,b]=a.cells.toList++b.cells.toList:=by simp[zdr,Sg.enc_ok ha,Sg.enc_ok hb]
 have la:a.cells.toList.length=97:=by rw[Array.length_toList,Sg.size ha]
 have lb:b.cells.toList.length=97:=by rw[Array.length_toList,Sg.size hb]
 have hA:w.rangeAt g 0 (a.cells.toList++b.cells.toList):=by
  intro j v hv;have:=h.cells (g:=g) rfl j v (by rw[hx];exact hv)
  rwa [Addr.add_lit]at this
 obtain⟨h1,h2⟩:=range_append.1 hA;rw[la]at h2;rcases h.2 with⟨e1,-⟩ | ⟨g',cp,cur,e1,e2,e3,e4,e5,e6,-⟩
 ·cases e1
 cases e1;exact⟨⟨h1,h2,jr e3 (by rw[e6];omega)⟩,jq e3,e4⟩
def oks (l:List Sg):Prop:=∀ x∈l,x.ok2
theorem zka (Bs gb cap:Nat) (xs:List Sg) (hl:(∃ a,xs=[a])∨∃ a b,xs=[a,b]) (hok:oks xs) (w:World) (hBs:Bs<w.heap.size)
 (hB0:w.cell? ⟨Bs,0,none⟩=some (.slice (some ⟨gb,0,none⟩) xs.length cap)) (hr:SgRow w.heap.size gb xs w) :
 Calls ze 121 #[.func (.func 170) #[] #[.pointer (some ⟨Bs,0,none⟩)],.func (.func 119) #[] #[]] w fun e W'=>∃ v,e = .returned v∧GS (fun _=>True) (zhi xs) v W'∧Fr NoB w W':=by
 have hc:=za (zre Bs gb cap xs (by rcases hl with⟨a,rfl⟩ | ⟨a,b,rfl⟩<;>simp) (fun x hx=>(hok x hx).1) w hBs hB0 hr);clear hr hB0;rcases hl with⟨a,rfl⟩ | ⟨a,b,rfl⟩
 ·have ha:=hok a (by simp);go_enter Tryz.func121,Tryz.ntmps121
  go_wp2_with fail
  refine hc.out.mono ?_;rintro e w1 ⟨v,rfl,ho,hF⟩;rcases ho.2 with⟨-,h0⟩ | ⟨g,cp,cur,rfl,e2,e3,e4,-⟩
  ·simp at h0
  have hs:=za (fun V=>zl9 (some ⟨g,0,none⟩) cp V)
  have hR:w1.rangeAt g 0 a.cells.toList:=by
   intro j x hx;have:=ho.cells (g:=g) rfl j x (by simpa[zdr,Sg.enc_ok ha.1] using hx)
   rwa [Addr.add_lit]at this
  have HR:=za hR;have HF:=za hF;have hg:=jq e3;have hE:1≤cp:=e4;clear ho e2 e3 e4 hR hF
  go_wp2_with fail
  refine(hs.out _).mono ?_;rintro e w2 ⟨rfl,hB⟩;have hA:=za hB;clear hB
  go_wp2_with fail
  go_ret;refine⟨_,rfl,⟨_,cp,rfl,hE,.inr ⟨g,0,rfl,trivial,Nat.lt_of_lt_of_le hg hA.out.size,fun i hi=>?_⟩⟩,HF.out.trans' hA.out⟩;obtain rfl:i=0:=by simp[zhi]at hi;exact hi
  exact je HR.out hA.out hg (fun _ h=>h)
 have ha:=hok a (by simp);have hb:=hok b (by simp);go_enter Tryz.func121,Tryz.ntmps121
 go_wp2_with fail
 refine hc.out.mono ?_;rintro e w1 ⟨v,rfl,ho,hF⟩;rcases ho.2 with⟨-,h0⟩ | ⟨g,cp,cur,rfl,e2,e3,e4,-⟩
 ·simp at h0
 obtain⟨h1,h2,h3⟩:=zv6 ha.1 hb.1 ho;have hs:=za (zl8 a b g cp w1 ha hb h1 h2 h3);have HF:=za hF;clear ho e3 e4 h1 hF
 go_wp2_with fail
 refine hs.out.mono ?_;rintro e w2 ⟨rfl,hD,hB⟩;have hA:=za hB;obtain⟨x,y,hC,hS⟩:=hD.sort;have HS:=za hS;have Hxy:=za hC;clear hB hD hS hC
 go_wp2_with fail
 go_ret;rw[Hxy.out];refine⟨_,rfl,⟨_,cp,rfl,h3,.inr ⟨g,0,rfl,trivial,Nat.lt_of_lt_of_le h2 hA.out.size,fun i hi=>?_⟩⟩,HF.out.trans hA.out (fun k _ hm => .inr (by have h5:k=g:=hm;omega))⟩
 match i,hi with
 | 0,_=>exact HS.out.one
 | 1,_=>exact HS.out.two
theorem zip:∀ (l m:List Sg),l.length≠m.length→zbh l m=false
 | [],[],h=>absurd rfl h
 | [],_ :: _,_=>rfl
 | _ :: _,[],_=>rfl
 | a :: l,b :: m,h=>by
   rw[zbh,zip l m (by intro h2;exact h (by simp[h2])),Bool.and_false]
end
section
open Go.RowKit Go.Shelf
variable [OldK]
theorem zgv (a1 a2:Option Addr)(n m c1 c2:Nat)(w:World)(h:n≠m) :
 Calls ze 120 #[.slice a1 n c1,.slice a2 m c2,.func (.func 117) #[] #[]] w fun e w'=>e = .returned (.bool false)∧Fr NoB w w':=by
 have hb:((n:Int) != (m:Int))=true:=by simp;omega
 have hb2:(n != m)=true:=by simpa using h
 clear h;go_enter Tryz.func120,Tryz.ntmps120
 go_wp2_with fail
 go_ret;exact⟨rfl,Fr.refl⟩
theorem zft (a1 a2:Option Addr) (c1 c2:Nat) (w:World) :
 Calls ze 120 #[.slice a1 0 c1,.slice a2 0 c2,.func (.func 117) #[] #[]] w fun e w'=>e = .returned (.bool true)∧Fr NoB w w':=by
 go_enter Tryz.func120,Tryz.ntmps120
 go_wp2_with fail
 go_loopg [17] 0 (fun g vi wr=>vi = .int .i64 0∧w=wr)
 case atStart=>exact⟨rfl,rfl⟩
 case round =>
  obtain⟨rfl,rfl⟩:=hrel
  go_wp2_with fail
  go_ret;exact⟨rfl,Fr.refl⟩
theorem zih (l m:List Sg) (b1 o1 c1 b2 o2 c2:Nat) (w:World) (hlm:l.length=m.length) (hl:l.length≤1000) (hok1:oks l) (hok2:oks m) (hb1:b1<w.heap.size) (hb2:b2<w.heap.size)
 (hr1:∀ i (hi:i<l.length),w.rangeAt b1 (o1+i * 97) l[i].cells.toList) (hr2:∀ i (hi:i<m.length),w.rangeAt b2 (o2+i * 97) m[i].cells.toList) :
 Calls ze 120 #[.slice (some ⟨b1,o1,none⟩) l.length c1,.slice (some ⟨b2,o2,none⟩) m.length c2,.func (.func 117) #[] #[]] w fun e w'=>e = .returned (.bool (zbh l m))∧Fr NoB w w':=by
 obtain⟨n,hn⟩:∃ n,l.length=n:=⟨_,rfl⟩;rw[← hlm,hn];obtain⟨d,hu,hd⟩:=zai;have Hu:=za hu;have Hd:=za hd;have heg:∀ hD W,(callFunc 117 hD).run ze W = .ok (.enter 117 hD) W:=fun hD w=>by simp[go_sem]
 obtain⟨R,hR⟩:∃ R,zbh l m=R:=⟨_,rfl⟩;rw[hR];have HR:=za hR;have hg:=za hr1;have hf:=za hr2;have Hn:=za hn;have Hlm:=za hlm;have hn1000:n≤1000:=by omega
 clear hu hd hR hr1 hr2 hn hlm hl;go_enter Tryz.func120,Tryz.ntmps120
 go_wp2_with fail
 go_loopg [17] (n+1) (fun g vi wr=>∃ i:Nat,vi = .int .i64 i∧i≤n∧i+g=n+1∧Hid (Fr NoB w wr)∧Hid (zbh (l.drop i) (m.drop i)=R))
 case atStart=>exact⟨0,rfl,by omega,by omega,za Fr.refl,HR⟩
 case round =>
  obtain⟨i,rfl,hi,hgk,HF,HS⟩:=hrel;rcases Nat.lt_or_ge i n with hlt | hge
  ·have hM:i<l.length:=by rw[Hn.out];exact hlt
   have hP:i<m.length:=by rw[← Hlm.out];exact hM
   have hS:=HS.out;rw[List.drop_eq_getElem_cons hM,List.drop_eq_getElem_cons hP,zbh]at hS;have hO:=hok1 _ (List.getElem_mem hM);have hN:=hok2 _ (List.getElem_mem hP);have hU:=je (hg.out i hM) HF.out hb1 (fun _ h=>h);have hT:=je (hf.out i hP) HF.out hb2 (fun _ h=>h);obtain⟨x,hx⟩:∃ x,l[i]=x:=⟨_,rfl⟩;obtain⟨y,hy⟩:∃ y,m[i]=y:=⟨_,rfl⟩;rw[hx]at hS hO hU;rw[hy]at hS hN hT;have hA:=fun V=>zvx x y V hO hN
   obtain⟨bs,hQ⟩:∃ b,(jm x==jm y)=b:=⟨_,rfl⟩;rw[hQ]at hS;simp only[hQ]at hA;have lx:x.cells.size=97:=Sg.size hO.1;have ly:y.cells.size=97:=Sg.size hN.1;have hJ:Hid ((Tryz.prog.info? 54).map (·.size)=some x.cells.size):=za (by rw[jy,lx]);have hC:Hid ((Tryz.prog.info? 54).map (·.size)=some x.cells.toList.length):=za (by rw[jy,Array.length_toList,lx]);have hI:Hid ((Tryz.prog.info? 54).map (·.size)=some y.cells.size):=za (by rw[jy,ly]);have hB:Hid ((Tryz.prog.info? 54).map (·.size)=some y.cells.toList.length):=za (by rw[jy,Array.length_toList,ly]);have hZ:=za (Sg.one x);have hY:=za (Sg.one y);have hX:sgZ.size=x.cells.size:=by rw[lx];rfl
   have hW:sgZ.size=y.cells.size:=by rw[ly];rfl
   have hF:((wr.alloc (.cells x.cells 54)).alloc (.cells y.cells 54)).rangeAt wr.heap.size 0 x.cells.toList:=World.rangeAt_alloc (jg (heap_alloc_new wr (.cells x.cells 54))) _
   have hE:((wr.alloc (.cells x.cells 54)).alloc (.cells y.cells 54)).rangeAt (wr.heap.size+1) 0 y.cells.toList:=by
    have:=jg (heap_alloc_new (wr.alloc (.cells x.cells 54)) (.cells y.cells 54));rw[World.size_alloc]at this;exact this
   have hG:(wr.alloc (.cells x.cells 54)).rangeAt b2 (o2+i * 97) y.cells.toList:=World.rangeAt_alloc hT _;have ha:=za hS;have hc:=za hU;have hb:=za hG;have hL:=za hF;have hK:=za hE;have Hzx:=za hX;have Hzy:=za hW;have Hsame:=za hA;have he:=za ((HF.out.alloc (.cells x.cells 54)).alloc (.cells y.cells 54));clear hS hU hT hG hF hE lx ly hX hW hA hx hy hQ HS;cases bs with
   | false =>
     go_wp2_with (first
      | (with_reducible refine zi rfl 54 _ rfl b1 (o1+i * 97) rfl x.cells.toList d hc.out Hu.out Hd.out hC.out ?_)
      | (with_reducible refine zi rfl 54 _ rfl b2 (o2+i * 97) rfl y.cells.toList d hb.out Hu.out Hd.out hB.out ?_)
      | (with_reducible refine zi rfl 54 _ rfl wr.heap.size 0 rfl x.cells.toList d hL.out Hu.out Hd.out hC.out ?_)
      | (with_reducible refine zi rfl 54 _ rfl (wr.heap.size+1) 0 rfl y.cells.toList d hK.out Hu.out Hd.out hB.out ?_)
      | (refine jh (w:=wr) rfl 54 _ _ rfl sgZ x.cells wr.heap.size rfl rfl rfl hJ.out Hzx.out hZ.out ?_)
      | (refine jh (w:=wr.alloc (.cells x.cells 54)) rfl 54 _ _ rfl sgZ y.cells (wr.heap.size+1) (World.size_alloc _ _) rfl rfl hI.out Hzy.out hY.out ?_))
     refine(Hsame.out _).mono ?_;rintro e w7 ⟨rfl,hH⟩;have hV:=za (he.out.trans' hH);clear hH
     go_wp2_with fail
     go_ret;exact⟨by have h5:=ha.out;simp only[Bool.false_and]at h5;subst h5;rfl,hV.out⟩
   | true =>
     go_wp2_with (first
      | (with_reducible refine zi rfl 54 _ rfl b1 (o1+i * 97) rfl x.cells.toList d hc.out Hu.out Hd.out hC.out ?_)
      | (with_reducible refine zi rfl 54 _ rfl b2 (o2+i * 97) rfl y.cells.toList d hb.out Hu.out Hd.out hB.out ?_)
      | (with_reducible refine zi rfl 54 _ rfl wr.heap.size 0 rfl x.cells.toList d hL.out Hu.out Hd.out hC.out ?_)
      | (with_reducible refine zi rfl 54 _ rfl (wr.heap.size+1) 0 rfl y.cells.toList d hK.out Hu.out Hd.out hB.out ?_)
      | (refine jh (w:=wr) rfl 54 _ _ rfl sgZ x.cells wr.heap.size rfl rfl rfl hJ.out Hzx.out hZ.out ?_)
      | (refine jh (w:=wr.alloc (.cells x.cells 54)) rfl 54 _ _ rfl sgZ y.cells (wr.heap.size+1) (World.size_alloc _ _) rfl rfl hI.out Hzy.out hY.out ?_))
     refine(Hsame.out _).mono ?_;rintro e w7 ⟨rfl,hH⟩;have hV:=za (he.out.trans' hH);clear hH
     go_wp2_with fail
     have hh:Hid (zbh (l.drop (i+1)) (m.drop (i+1))=R):=za (by have h5:=ha.out;simpa only [Bool.true_and] using h5)
     go_roundg (gk - 1)
     case measure=>omega
     case rel=>exact⟨i+1,by simp,by omega,by omega,hV,hh⟩
  obtain rfl:i=n:=by omega
  have hR:=HS.out;rw[List.drop_eq_nil_of_le (by rw[Hn.out];exact Nat.le_refl _),List.drop_eq_nil_of_le (by rw[← Hlm.out,Hn.out];exact Nat.le_refl _)]at hR;have hj:Hid (true=R):=za hR;clear hR
  go_wp2_with fail
  go_ret;exact⟨jf hj.out,HF.out⟩
theorem zmx {S S':Nat→Prop} {l m:List Sg} {v u:Value} {w:World} (hv:GS S l v w) (hu:GS S' m u w) (hl:l.length≤1000) (hok1:oks l) (hok2:oks m) :
 Calls ze 120 #[v,u,.func (.func 117) #[] #[]] w fun e w'=>e = .returned (.bool (zbh l m))∧Fr NoB w w':=by
 obtain⟨a1,c1,rfl,hc1,h1⟩:=hv;obtain⟨a2,c2,rfl,hc2,h2⟩:=hu;by_cases hA:l.length=m.length
 ·rcases h1 with rfl | ⟨b1,o1,rfl,hS1,hb1,hr1⟩
  ·obtain rfl:m=[]:=List.length_eq_zero_iff.1 hA.symm;exact zft a1 a2 c1 c2 w
  rcases h2 with rfl | ⟨b2,o2,rfl,hS2,hb2,hr2⟩
  ·obtain rfl:l=[]:=List.length_eq_zero_iff.1 hA;exact zft _ a2 c1 c2 w
  exact zih l m b1 o1 c1 b2 o2 c2 w hA hl hok1 hok2 hb1 hb2 hr1 hr2
 rw[zip l m hA];exact zgv a1 a2 _ _ c1 c2 w hA
end
end Go.Proofs.YtcddlemkimbkcaaGreatDoor
