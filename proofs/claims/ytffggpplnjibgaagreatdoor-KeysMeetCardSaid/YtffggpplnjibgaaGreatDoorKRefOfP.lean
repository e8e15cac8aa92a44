/-
 An entry's keys,as plain data: they are keys,they rise,and they don't hang on the bytes of its signatures.
-/
import Derived.Test.YtffggpplnjibgaaGreatDoorKKeysOfK
import Derived.Sort.Walk0
import Derived.Test.YtffggpplnjibgaaGreatDoorKTextsEq
import Derived.Deep.LoopGhost
import Derived.Test.YtffggpplnjibgaaGreatDoorKRefSubj
import Derived.Test.YtffggpplnjibgaaGreatDoorKLarge16
import Derived.Test.YtffggpplnjibgaaGreatDoorKSpecPlay
open Go.Lib renaming hid→zi
open List renaming length_append→zy
namespace Go.Proofs.YtffggpplnjibgaaGreatDoor
set_option linter.unusedVariables false
set_option linter.unusedSimpArgs false
set_option linter.unusedSectionVars false
set_option maxRecDepth 100000
set_option maxHeartbeats 4000000
section
open Go
variable [OldK]
theorem leT (x y z:Bs)(h:x≤y)(g:y≤z):x≤z:=List.le_trans h g
theorem zte (l:List Bs):(zf3 l).Pairwise (· ≤ ·):=by
 have:=List.pairwise_mergeSort (le:=fun x y:Bs=>decide (x≤y)) (fun a b c h1 h2=>by simpa using leT a b c (by simpa using h1) (by simpa using h2)) (fun a b=>by simpa using List.le_total a b) l;exact this.imp (fun h=>by simpa using h)
theorem zla (l:List Bs)(x:Bs):x∈zf3 l↔x∈l:=List.mem_mergeSort
theorem znz (l:List Bs)(x:Bs)(h:x∈Lib.compact l):x∈l:=by
 unfold Lib.compact Lib.compactUpTo at h;obtain⟨i,hi,rfl⟩:=List.mem_map.1 h;obtain⟨hi,-⟩:=List.mem_filter.1 hi;have hi:i<l.length:=List.mem_range.1 hi;have:l.toArray[i]! = l[i]:=by simp[hi]
 rw[this];exact List.getElem_mem hi
theorem zqa (l:List Bs) (h:l.Pairwise (· ≤ ·)):(Lib.compact l).Pairwise (fun x y=>Op.bytesLess x y=true):=by
 unfold Lib.compact Lib.compactUpTo;rw[List.pairwise_map];have h1:((List.range l.length).filter (Lib.keeps l.toArray)).Pairwise (· < ·):=List.pairwise_lt_range.filter _;refine(List.pairwise_iff_forall_sublist.2 (fun {i j} hs=>?_));have hij:=List.pairwise_iff_forall_sublist.1 h1 hs;have hj:j∈(List.range l.length).filter (Lib.keeps l.toArray):=hs.subset (by simp);obtain⟨hj,hk⟩:=List.mem_filter.1 hj;have hj:j<l.length:=List.mem_range.1 hj;have e1:l.toArray[i]! = l[i]:=by simp[show i<l.length by omega]
 have e2:l.toArray[j]! = l[j]:=by simp[hj]
 have e3:l.toArray[j - 1]! = l[j - 1]:=by simp[show j - 1<l.length by omega]
 rw[e1,e2]
 have hB:l[j]≠l[j - 1]:=fun he=>by
  rw[Lib.keeps_neg (by omega) (by rw[e2,e3];exact he)]at hk;exact Bool.noConfusion hk
 rw[List.pairwise_iff_getElem]at h
 have a1:l[i]≤l[j - 1]:=by
  rcases Nat.lt_or_ge i (j - 1) with g | g
  ·exact h _ _ _ _ g
  have:i=j - 1:=by omega
  subst this;exact List.le_refl _
 have a2:l[j - 1]≤l[j]:=h _ _ _ _ (by omega);rw[Go.Proofs.bytesLess_eq];have a3:l[i]≤l[j]:=leT _ _ _ a1 a2;refine decide_eq_true ?_;refine Classical.byContradiction fun hn=>?_
 have a4:l[j]≤l[i]:=List.not_lt.1 hn;have a5:l[i]=l[j]:=List.le_antisymm a3 a4;apply hB;exact List.le_antisymm (by rw[← a5];exact a1) a2
theorem zls {sub:Bs→Bool}{e:En}(h:zau sub e=true):zju sub e=true∧zb0 e.sigs=true∧zp5 (zav e) (zdz e.kind e.sigs)=true:=by
 unfold zau at h;simp only[Bool.and_eq_true]at h;exact h
theorem zr6 (e:En):(zfv e).length≤17:=by
 unfold zfv;split
 ·simp
 split
 ·rw[zy,List.length_map];cases hs:zar e.payload with
  | none=>simp
  | some l=>have:=(zd4 hs).1;simp;omega
 split
 ·simp
 split
 ·split<;>simp
 simp
theorem zjw {e:En} (h:zau zjs e=true):(zb1 e).length≤25:=by
 unfold zb1;have h1:=zj2 (zf3 (e.sigs.map qs++zfv e));rw[zcd,zy,List.length_map]at h1;have h2:=zr6 e
 have h3:e.sigs.length≤8:=by
  obtain⟨-,h2,-⟩:=zls h;unfold zb0 at h2;simp only[Bool.and_eq_true,decide_eq_true_eq]at h2;exact h2.2.2
 omega
def Sg.put (g:Bs) (s:Sg):Sg:={ s with sig:=g }
def En.put (g:Bs) (e:En):En:={ e with sigs:=e.sigs.map (Sg.put g) }
end
section
open Go.RowKit Go.Sort
variable [OldK]
def za6 (s:Bs):Bool→List Bs→List Bs
 | d,[]=>if d then [] else [s]
 | d,x :: r=>(if !d && !(Op.bytesLess x s) then [s] else [])++((if x==s then [] else [x])++za6 s (d || !(Op.bytesLess x s)) r)
def zc8 (l:List Bs) (s:Bs):List Bs:=za6 s false l
theorem zlj (s:Bs):∀ (l:List Bs),(za6 s true l).length≤l.length
 | []=>by simp[za6]
 | x :: r=>by
   have ih:=zlj s r;simp only[za6,zy,Bool.true_or,Bool.not_true,Bool.false_and,Bool.false_eq_true,if_false,List.length_nil,List.length_cons];split<;>simp<;>omega
theorem zlk (s:Bs):∀ (l:List Bs),(za6 s false l).length≤l.length+1
 | []=>by simp[za6]
 | x :: r=>by
   have ih:=zlk s r;have ih2:=zlj s r;simp only[za6,zy,List.length_cons,Bool.false_or,Bool.not_false,Bool.true_and];cases Op.bytesLess x s<;>cases(x==s)<;>simp<;>omega
theorem OS.ss {B:Nat} {l:List Bs} {v:Value} {w:World} (h:OS B l v w):SS (fun k=>B≤k) l v w:=by
 rcases h.2 with⟨rfl,h0⟩ | ⟨g,cap,cur,rfl,hb,hg,hn,hcm,hcs,htake⟩
 ·have:l=[]:=List.length_eq_zero_iff.1 h0;subst this;exact⟨none,0,rfl,Nat.le_refl _,.inl ⟨rfl,rfl⟩⟩
 refine⟨some ⟨g,0,none⟩,cap,rfl,hn,.inr ⟨g,0,rfl,hb,ju hg,fun i s hi=>⟨?_,by simp[World.frozen?,hg]⟩⟩⟩;have hil:i<l.length:=(List.getElem?_eq_some_iff.1 hi).1
 have h1:(cur.toList.take (l.length * 1))[i]? = some (.string ⟨s.toArray⟩):=by
  rw[htake];simp[zd3,hi]
 rw[List.getElem?_take,if_pos (by omega)]at h1;simp only[World.cell?,hg,Nat.zero_add,Option.isSome_none,Bool.false_eq_true,if_false];rw[← Array.getElem?_toList];exact h1
theorem zkz:(Tryz.prog.info? 9).map (fun i=>(i.zero,i.size,i.bytes))=some (some (.string ⟨#[]⟩),1,16):=by kernel_rfl
theorem zg7 (S:Nat→Prop) (l:List Bs) (s:Bs) (v:Value) (w:World) (hv:SS S l v w) (hl:l.length≤1000000) :
 Calls Tryz.prog 64 #[v,.string ⟨s.toArray⟩] w fun e w'=>(∃ v',e = .returned v'∧OS w.heap.size (zc8 l s) v' w')∧Fr NoB w w':=by
 obtain⟨i0,hO,hN,hM,hL⟩:=info_parts zkz;obtain⟨a,c,rfl,-⟩:=hv.form;have Hv:=zi hv;obtain⟨R,hR⟩:∃ R,zc8 l s=R:=⟨_,rfl⟩;rw[hR];have HR:Hid ([]++za6 s false (l.drop 0)=R):=zi (by rw[List.drop_zero];exact hR);have hZ:=zi (OS.nil w.heap.size w);clear hv hR;go_enter Tryz.func64,Tryz.ntmps64
 go_wp2_with fail
 go_loopg [5,6,7] (l.length+1) (fun gf vo vd vi wr=>∃ (i:Nat) (O:List Bs) (d:Bool),vi = .int .i64 i∧vd = .bool d∧i≤l.length∧i+gf=l.length+1∧Hid (O.length≤2 * i+2)∧Hid (OS w.heap.size O vo wr)∧Hid (Fr (fun k _=>w.heap.size≤k) w wr)∧Hid (O++za6 s d (l.drop i)=R))
 case atStart=>exact⟨0,[],false,rfl,rfl,by omega,by omega,zi (by simp),hZ,zi Fr.refl,HR⟩
 case round =>
  clear hZ HR;obtain⟨i,O,d,rfl,rfl,hi,hig,hD,HO,HF,HG⟩:=hrel;obtain⟨ao,co,ha⟩:=HO.out.form;subst ha;by_cases hX:i<l.length
  ·have hQ:decide ((i:Int)<l.length)=true:=decide_eq_true (by omega);have hil:(i:Int)<l.length:=by omega
   obtain⟨b,o,rfl,-,hb,hc⟩:=Hv.out.at (List.getElem?_eq_getElem hX);have x1:=Fr.cell HF.out hc (fun h=>by have:=World.block_lt_of_cell? _ _ hc;simp only at this;omega);have hG:=HG.out;rw[List.drop_eq_getElem_cons hX,za6]at hG;obtain⟨x,hx⟩:∃ x,l[i]=x:=⟨_,rfl⟩;rw[hx]at x1 hG hc;have HG:=zi hG;have Hc:=zi hc;have hbw:b<w.heap.size:=hb;have hU:=hD;have hD:Hid (O.length≤2 * i+3):=zi (by have:=hD.out;omega);clear hc hG hx;cases d with
   | true =>
     have HG:Hid (O++((if (x==s)=true then [] else [x])++za6 s true (l.drop (i+1)))=R):=zi (by have h:=HG.out;simpa using h);obtain⟨hq,hK⟩:∃ q,(x==s)=q:=⟨_,rfl⟩;cases hq with
     | true =>
       have hJ:Hid (O++za6 s true (l.drop (i+1))=R):=zi (by have h:=HG.out;rw[hK]at h;simpa using h);clear HG
       go_wp2_with fail
       go_roundg (gk - 1)
       case measure=>omega
       case rel=>exact⟨i+1,O,_,by simp,rfl,by omega,by omega,zi (by have:=hD.out;omega),HO,HF,hJ⟩
     | false =>
       have hJ:Hid ((O++[x])++za6 s true (l.drop (i+1))=R):=zi (by have h:=HG.out;rw[hK]at h;simpa using h);clear HG
       go_wp2_with(at_builtin;refine wpList_append_own _ rfl _ _ 33 rfl w.heap.size 9 i0 (.string ⟨#[]⟩) 1 16 Tryz.underlying33 hO hN hM hL rfl (by decide) _ _ _ rfl (HO.out.alloc _) ⟨_,0,none⟩ 1 1 [.string ⟨(x).toArray⟩] rfl rfl ?q1 ?q2 ?q3 ?q4 ?q5 ?_)
       case q1=>exact q6 _ _ _ _ rfl
       case q2=>simp[Value.oneCell']
       case q3=>have:=hD.out;unfold maxLen;omega
       case q4=>have:=hD.out;omega
       case q5=>have:=HF.out.size;simp;omega
       intro v' w9 hB hC _;obtain⟨hF,hH⟩:=HO.out.push (x:=x) (Fr.refl.alloc _) hB hC;have hI:Hid (OS w.heap.size (O++[x]) v' w9):=zi hF;have hE:=zi (HF.out.trans' hH);clear hB hC hF hH
       go_wp2_with fail
       go_roundg (gk - 1)
       case measure=>omega
       case rel=>exact⟨i+1,O++[x],_,by simp,rfl,by omega,by omega,zi (by have:=hD.out;simp;omega),hI,hE,hJ⟩
   | false =>
     obtain⟨b2,hY⟩:∃ b,Op.bytesLess x s=b:=⟨_,rfl⟩;cases b2 with
     | true =>
       have HG:Hid (O++((if (x==s)=true then [] else [x])++za6 s false (l.drop (i+1)))=R):=zi (by have h:=HG.out;rw[hY]at h;simpa using h);obtain⟨hq,hK⟩:∃ q,(x==s)=q:=⟨_,rfl⟩;cases hq with
       | true =>
         have hJ:Hid (O++za6 s false (l.drop (i+1))=R):=zi (by have h:=HG.out;rw[hK]at h;simpa using h);clear HG
         go_wp2_with fail
         go_roundg (gk - 1)
         case measure=>omega
         case rel=>exact⟨i+1,O,_,by simp,rfl,by omega,by omega,zi (by have:=hD.out;omega),HO,HF,hJ⟩
       | false =>
         have hJ:Hid ((O++[x])++za6 s false (l.drop (i+1))=R):=zi (by have h:=HG.out;rw[hK]at h;simpa using h);clear HG
         go_wp2_with(at_builtin;refine wpList_append_own _ rfl _ _ 33 rfl w.heap.size 9 i0 (.string ⟨#[]⟩) 1 16 Tryz.underlying33 hO hN hM hL rfl (by decide) _ _ _ rfl (HO.out.alloc _) ⟨_,0,none⟩ 1 1 [.string ⟨(x).toArray⟩] rfl rfl ?q1 ?q2 ?q3 ?q4 ?q5 ?_)
         case q1=>exact q6 _ _ _ _ rfl
         case q2=>simp[Value.oneCell']
         case q3=>have:=hD.out;unfold maxLen;omega
         case q4=>have:=hD.out;omega
         case q5=>have:=HF.out.size;simp;omega
         intro v' w9 hB hC _;obtain⟨hF,hH⟩:=HO.out.push (x:=x) (Fr.refl.alloc _) hB hC;have hI:Hid (OS w.heap.size (O++[x]) v' w9):=zi hF;have hE:=zi (HF.out.trans' hH);clear hB hC hF hH
         go_wp2_with fail
         go_roundg (gk - 1)
         case measure=>omega
         case rel=>exact⟨i+1,O++[x],_,by simp,rfl,by omega,by omega,zi (by have:=hD.out;simp;omega),hI,hE,hJ⟩
     | false =>
       have HG:Hid ((O++[s])++((if (x==s)=true then [] else [x])++za6 s true (l.drop (i+1)))=R):=zi (by have h:=HG.out;rw[hY]at h;simpa using h)
       go_wp2_with(at_builtin;refine wpList_append_own _ rfl _ _ 33 rfl w.heap.size 9 i0 (.string ⟨#[]⟩) 1 16 Tryz.underlying33 hO hN hM hL rfl (by decide) _ _ _ rfl (HO.out.alloc _) ⟨_,0,none⟩ 1 1 [.string ⟨(s).toArray⟩] rfl rfl ?q1 ?q2 ?q3 ?q4 ?q5 ?_)
       case q1=>exact q6 _ _ _ _ rfl
       case q2=>simp[Value.oneCell']
       case q3=>have:=hD.out;unfold maxLen;omega
       case q4=>have:=hD.out;omega
       case q5=>have:=HF.out.size;simp;omega
       intro v' w2 hB hC _;obtain⟨hF,hH⟩:=HO.out.push (x:=s) (Fr.refl.alloc _) hB hC;have hI:Hid (OS w.heap.size (O++[s]) v' w2):=zi hF;have hE:=zi (HF.out.trans' hH);clear hB hC hF hH;have x1:w2.cell? ⟨b,o+i,none⟩=some (.string ⟨x.toArray⟩):=Fr.cell hE.out Hc.out (fun _ h=>by have h2:w.heap.size≤b:=h;omega);obtain⟨O2,hS⟩:∃ z,O++[s]=z:=⟨_,rfl⟩;have hP:Hid (O2.length≤2 * i+3):=zi (by have:=hU.out;rw[← hS];simp;omega);rw[hS]at hI HG;have hD:=hP;obtain⟨ao2,co2,hd⟩:=hI.out.form;subst hd;have hT:=hI;have hW:=hE;clear hS hP hI hE;obtain⟨hq,hK⟩:∃ q,(x==s)=q:=⟨_,rfl⟩;cases hq with
       | true =>
         have hJ:Hid (O2++za6 s true (l.drop (i+1))=R):=zi (by have h:=HG.out;rw[hK]at h;simpa using h);clear HG
         go_wp2_with fail
         go_roundg (gk - 1)
         case measure=>omega
         case rel=>exact⟨i+1,O2,_,by simp,rfl,by omega,by omega,zi (by have:=hD.out;omega),hT,hW,hJ⟩
       | false =>
         have hJ:Hid ((O2++[x])++za6 s true (l.drop (i+1))=R):=zi (by have h:=HG.out;rw[hK]at h;simpa using h);clear HG
         go_wp2_with(at_builtin;refine wpList_append_own _ rfl _ _ 33 rfl w.heap.size 9 i0 (.string ⟨#[]⟩) 1 16 Tryz.underlying33 hO hN hM hL rfl (by decide) _ _ _ rfl (hT.out.alloc _) ⟨_,0,none⟩ 1 1 [.string ⟨(x).toArray⟩] rfl rfl ?q1 ?q2 ?q3 ?q4 ?q5 ?_)
         case q1=>exact q6 _ _ _ _ rfl
         case q2=>simp[Value.oneCell']
         case q3=>have:=hD.out;unfold maxLen;omega
         case q4=>have:=hD.out;omega
         case q5=>have:=hW.out.size;simp;omega
         intro v' w9 hB hC _;obtain⟨hF,hH⟩:=hT.out.push (x:=x) (Fr.refl.alloc _) hB hC;have hI:Hid (OS w.heap.size (O2++[x]) v' w9):=zi hF;have hE:=zi (hW.out.trans' hH);clear hB hC hF hH
         go_wp2_with fail
         go_roundg (gk - 1)
         case measure=>omega
         case rel=>exact⟨i+1,O2++[x],_,by simp,rfl,by omega,by omega,zi (by have:=hD.out;simp;omega),hI,hE,hJ⟩
  obtain rfl:i=l.length:=by omega
  have hQ:decide ((l.length:Int)<l.length)=false:=by simp
  have hG:=HG.out;rw[List.drop_length,za6]at hG;cases d with
  | true =>
    have hV:Hid (O=R):=zi (by simpa using hG);clear HG hG
    go_wp2_with fail
    go_ret;exact⟨⟨_,rfl,by rw[← hV.out];exact HO.out⟩,⟨HF.out.os,HF.out.tape,HF.out.output,HF.out.size,fun k o hk _=>HF.out.block k o hk (fun h=>by have:=ju hk;omega)⟩⟩
  | false =>
    have hV:Hid (O++[s]=R):=zi (by simpa using hG);clear HG hG
    go_wp2_with(at_builtin;refine wpList_append_own _ rfl _ _ 33 rfl w.heap.size 9 i0 (.string ⟨#[]⟩) 1 16 Tryz.underlying33 hO hN hM hL rfl (by decide) _ _ _ rfl (HO.out.alloc _) ⟨_,0,none⟩ 1 1 [.string ⟨(s).toArray⟩] rfl rfl ?q1 ?q2 ?q3 ?q4 ?q5 ?_)
    case q1=>exact q6 _ _ _ _ rfl
    case q2=>simp[Value.oneCell']
    case q3=>have:=hD.out;unfold maxLen;omega
    case q4=>have:=hD.out;omega
    case q5=>have:=HF.out.size;simp;omega
    intro v' w2 hB hC _;obtain⟨hF,hH⟩:=HO.out.push (x:=s) (Fr.refl.alloc _) hB hC;have hI:Hid (OS w.heap.size (O++[s]) v' w2):=zi hF;have hE:=zi (HF.out.trans' hH);clear hB hC hF hH;rw[hV.out]at hI
    go_wp2_with fail
    go_ret;exact⟨⟨_,rfl,hI.out⟩,⟨hE.out.os,hE.out.tape,hE.out.output,hE.out.size,fun k o hk _=>hE.out.block k o hk (fun h=>by have:=ju hk;omega)⟩⟩
end
section
theorem zdh {f:Fd}{nm:Bs}{k:Int}{v:J}(h:zbw f.j nm=some v)(hk:v.kind=k):zbg f nm k=(v,{ f with seen:=f.seen+1 }):=by
 unfold zbg;rw[h];simp only[hk,if_true]
theorem zfw {f:Fd}{nm:Bs}{k:Int}(h:∀ v,zbw f.j nm=some v→v.kind≠k):zbg f nm k=(J.zero,{ f with bad:=true }):=by
 unfold zbg;cases hg:zbw f.j nm with
 | none=>rfl
 | some v=>simp only[h v hg,if_false]
theorem zin {j v:J}{nm:Bs}(h:zbw j nm=some v):j.kind=5:=by
 unfold zbw at h;split at h
 ·assumption
 cases h
theorem zer {j v:J}{nm:Bs}(h:zbw j nm=some v)(hk:v.kind=3):zcp j nm=(v.text,true):=by
 unfold zcp;rw[h];simp[hk]
theorem zhy {j:J}{nm:Bs}(h:∀ v,zbw j nm=some v→v.kind≠3):(zcp j nm).2=false:=by
 unfold zcp;cases hg:zbw j nm with
 | none=>rfl
 | some v=>simp[h v hg]
def okG (j:J) (nm:Bs) (k:Int):Prop:=∃ v,zbw j nm=some v∧v.kind=k
theorem zfi {j:J}{nm:Bs}{k:Int}(h:¬ okG j nm k):∀ v,zbw j nm=some v→v.kind≠k:=fun v hv hk=>h ⟨v,hv,hk⟩
theorem zgo {f:Fd}(h:f.bad=true):zfx f=false:=by unfold zfx;rw[h];rfl
theorem zax {f:Fd} {nm:Bs} {k:Int} (h:f.bad=true):(zbg f nm k).2.bad=true:=by
 unfold zbg;split
 ·split
  ·exact h
  rfl
 rfl
theorem zvt (x:J):zm3 x=if (j6 x).2.2=true then some ((j6 x).1,(j6 x).2.1) else none:=by
 by_cases hn:okG x zfm 3
 ·obtain ⟨n,hB,hD⟩:=hn;by_cases hd:okG x zah 5
  ·obtain ⟨d,hC,hE⟩:=hd;by_cases hs:okG d zbb 3
   ·obtain ⟨h,hG,hF⟩:=hs;have hx:=zin hB;have e1:zbg ⟨x,0,false⟩ zah 5=(d,⟨x,1,false⟩):=zdh hC hE;have e2:zbg ⟨x,1,false⟩ zfm 3=(n,⟨x,2,false⟩):=zdh hB hD;have e3:zbg ⟨d,0,false⟩ zbb 3=(h,⟨d,1,false⟩):=zdh hG hF;unfold zm3 j6;simp only[zer hB hD,hC,Option.getD_some,zer hG hF,e1,zaz,zs4,e2,e3,zfx,hx,hE];cases hk:zkb h.text with
    | none=>simp
    | some z =>
      have q1:decide ((2:Int)=(x.pairs.length:Int))=decide (x.pairs.length=2):=by rw[decide_eq_decide];omega
      have q2:decide ((1:Int)=(d.pairs.length:Int))=decide (d.pairs.length=1):=by rw[decide_eq_decide];omega
      have q3:(!n.text.isEmpty)=decide (1≤n.text.length):=by cases n.text<;>simp
      simp only[q1,q2,q3,Option.isSome_some,Option.isNone_some,Option.getD_some,Bool.or_false,Bool.not_false,Bool.true_and,decide_true]
      congr 1
      rw[Bool.and_assoc]
   have e1:zbg ⟨x,0,false⟩ zah 5=(d,⟨x,1,false⟩):=zdh hC hE;have e3:zbg ⟨d,0,false⟩ zbb 3=(J.zero,⟨d,0,true⟩):=zfw (zfi hs);unfold zm3 j6;simp only[zer hB hD,hC,Option.getD_some,zhy (zfi hs),e1,zaz,zs4,e3,zfx];simp
  have hb:(zbg ⟨x,0,false⟩ zah 5).2.bad=true:=by rw[zfw (zfi hd)]
  have hf:(zcp ((zbw x zah).getD J.zero) zbb).2=false:=by
   cases hg:zbw x zah with
   | none=>rfl
   | some d =>
     refine zhy (fun v hv=>?_);exact absurd ⟨d,hg,zin hv⟩ hd
  have hp:(j6 x).2.2=false:=by
   unfold j6 zaz;simp only;rw[zgo (zax hb)];rfl
  rw[hp];unfold zm3;simp only[hf];simp
 have hf:=zhy (zfi hn)
 have hp:(j6 x).2.2=false:=by
  unfold j6 zaz;simp only
  have hb:(zbg (zbg ⟨x,0,false⟩ zah 5).2 zfm 3).2.bad=true:=by
   rw[zfw];intro v hv;rw[(zbu ⟨x,0,false⟩ zah 5).1]at hv;exact zfi hn v hv
  rw[zgo hb];rfl
 rw[hp];unfold zm3;simp only[hf];simp
theorem zqr:∀ l:List J,zf9 l=if (l.map j6).any (fun x=>!x.2.2)=true then none else some ((l.map j6).map fun x=>(x.1,x.2.1))
 | []=>rfl
 | x :: l=>by
   rw[zf9,zvt,zqr l];cases hx:(j6 x).2.2 with
   | false=>simp[hx]
   | true =>
     simp only[if_true,List.map_cons,List.any_cons,hx,Bool.not_true,Bool.false_or];split<;>simp
def zjc (j:J) (bad:Bool):Fd :=
 let t:=zaz ⟨j,0,bad⟩ zdl
 if t.1=za5 then (if zci (zaz t.2 qg).1 then (zaz t.2 qg).2 else { (zaz t.2 qg).2 with bad:=true }) else { t.2 with bad:=true }
theorem zkc (j:J)(bad:Bool):zei j bad=zbg (zbg (zjc j bad) qh 5).2 q9 4:=rfl
theorem zvs (j:J) (bad:Bool):(zjc j bad).j=j:=by
 unfold zjc zaz;simp only;have h1:=(zbu ⟨j,0,bad⟩ zdl 3).1;have h2:=(zbu (zbg ⟨j,0,bad⟩ zdl 3).2 qg 3).1;split
 ·split
  ·rw[h2,h1]
  show(zbg (zbg ⟨j,0,bad⟩ zdl 3).2 qg 3).2.j=j;rw[h2,h1]
 exact h1
theorem zjm {j:J} {bad:Bool} (h:bad=true∨¬ okG j zdl 3):(zjc j bad).bad=true:=by
 have hb:(zbg ⟨j,0,bad⟩ zdl 3).2.bad=true:=by
  rcases h with h | h
  ·exact zax h
  rw[zfw (zfi h)]
 unfold zjc zaz;simp only;split
 ·split
  ·exact zax hb
  rfl
 rfl
theorem zpc {j:J} {bad:Bool} (h:¬ okG j qg 3):(zjc j bad).bad=true:=by
 unfold zjc zaz;simp only;split
 ·split
  ·rw[zfw];intro v hv;rw[(zbu ⟨j,0,bad⟩ zdl 3).1]at hv;exact zfi h v hv
  rfl
 rfl
theorem zqq {j:J}{bad:Bool}(h:bad=true∨¬ okG j zdl 3∨¬ okG j qg 3∨¬ okG j qh 5∨¬ okG j q9 4):(zei j bad).2.bad=true:=by
 rw[zkc];have hj:=zvs j bad;have hB:=(zbu (zjc j bad) qh 5).1;rcases h with h | h | h | h | h
 ·exact zax (zax (zjm (.inl h)))
 ·exact zax (zax (zjm (.inr h)))
 ·exact zax (zax (zpc h))
 ·refine zax ?_;rw[zfw];intro v hv;rw[hj]at hv;exact zfi h v hv
 rw[zfw];intro v hv;rw[hB,hj]at hv;exact zfi h v hv
theorem zh7 (s:Bs):zcg s=zar s:=by
 unfold zcg zar;obtain⟨⟨v,pe⟩,hv⟩:∃ z,za3 s=z:=⟨_,rfl⟩;simp only[hv];by_cases hl:2048<s.length
 ·rw[if_pos hl,if_neg];simp;omega
 rw[if_neg hl];have hP:decide (s.length≤2048)=true:=decide_eq_true (by omega);by_cases hB:pe=0∧okG v zdl 3∧okG v qg 3∧okG v qh 5∧okG v q9 4
 ·obtain ⟨h0,⟨t,hF,hH⟩,⟨p,hN,hM⟩,⟨q,hL,hK⟩,⟨l,hJ,hI⟩⟩:=hB;have hk:=zin hF;have e1:zbg ⟨v,0,false⟩ zdl 3=(t,⟨v,1,false⟩):=zdh hF hH;have e2:zbg ⟨v,1,false⟩ qg 3=(p,⟨v,2,false⟩):=zdh hN hM;have hb0:decide (pe≠0)=false:=by rw[h0];rfl
  simp only[zer hF hH,zer hN hM,hL,hJ,Option.getD_some,hK,hI,hP,h0,decide_true,Bool.true_and];by_cases hC:t.text=za5
  ·by_cases hE:zci p.text=true
   ·have e3:zbg ⟨v,2,false⟩ qh 5=(q,⟨v,3,false⟩):=zdh hL hK;have e4:zbg ⟨v,3,false⟩ q9 4=(l,⟨v,4,false⟩):=zdh hJ hI
    have hg:zei v (decide ((0:Nat)≠0))=(l,⟨v,4,false⟩):=by
     show zei v false=_;unfold zei;simp only[zaz,e1,e2,hC,if_true,hE,e3,e4]
    have hG:(t.text==za5)=true:=by rw[hC];simp
    simp only[ne_eq,not_true_eq_false,decide_false]at hg;simp only[hg,hG,hE,zqr,zfx,hk,Bool.false_or,decide_true,Bool.true_and,List.length_map,ne_eq,not_true_eq_false,decide_false];have q1:decide ((4:Int)=(v.pairs.length:Int))=decide (v.pairs.length=4):=by rw[decide_eq_decide];omega
    rw[q1];cases h1:(l.list.map j6).any (fun x=>!x.2.2) with
    | true=>simp[h1]
    | false =>
      simp only[Bool.not_false,Bool.true_and,Bool.false_eq_true,if_false,h1]
   have hg:(zei v (decide ((0:Nat)≠0))).2.bad=true:=by
    show(zei v false).2.bad=true;rw[zkc];refine zax (zax ?_);unfold zjc;simp[zaz,e1,e2,hC,hE]
   rw[if_neg (by simp[hE])];simp only[ne_eq,not_true_eq_false,decide_false]at hg ⊢;rw[zgo (by simp[hg])];simp
  have hg:(zei v (decide ((0:Nat)≠0))).2.bad=true:=by
   show(zei v false).2.bad=true;rw[zkc];refine zax (zax ?_);unfold zjc;simp only[zaz,e1,hC,if_false]
  rw[if_neg (by simp[hC])];simp only[ne_eq,not_true_eq_false,decide_false]at hg ⊢;rw[zgo (by simp[hg])];simp
 have hb:(zei v (decide (pe≠0))).2.bad=true:=by
  refine zqq ?_;by_cases h0:pe=0
  ·refine .inr ?_;by_cases h1:okG v zdl 3
   ·by_cases h2:okG v qg 3
    ·by_cases h3:okG v qh 5
     ·exact .inr (.inr (.inr (fun h4=>hB ⟨h0,h1,h2,h3,h4⟩)))
     exact .inr (.inr (.inl h3))
    exact .inr (.inl h2)
   exact .inl h1
  exact .inl (decide_eq_true h0)
 rw[zgo (by simp only[hb,Bool.true_or])];simp only[Bool.false_and,Bool.false_eq_true,if_false];rw[if_neg];intro h;apply hB;simp only[Bool.and_eq_true,decide_eq_true_eq]at h;obtain⟨-,h0,h1,h2,-,-,-,h3,h4,-⟩:=h
 have hO:∀ (nm:Bs) (k:Int),k≠0→((zbw v nm).getD J.zero).kind=k→okG v nm k:=fun nm k hk h=>by
  cases hg:zbw v nm with
  | none=>rw[hg]at h;exact absurd h.symm hk
  | some x=>rw[hg]at h;exact⟨x,hg,h⟩
 have hD:∀ nm,(zcp v nm).2=true→okG v nm 3:=fun nm h=>by
  refine Classical.byContradiction fun hn=>?_
  rw[zhy (zfi hn)]at h;cases h
 exact⟨h0,hD _ h1,hD _ h2,hO _ 5 (by decide) h3,hO _ 4 (by decide) h4⟩
end
section
open Go
variable [OldK]
def zfj (l:List Bs):Prop:=l.Pairwise (fun x y=>Op.bytesLess x y=true)
theorem zrx {x y z:Bs}(h:Op.bytesLess x y=true)(g:Op.bytesLess y z=true):Op.bytesLess x z=true:=by
 rw[Go.Proofs.bytesLess_eq]at *;exact decide_eq_true (List.lt_trans (of_decide_eq_true h) (of_decide_eq_true g))
theorem zgd (s:Bs):∀ (l:List Bs) (x:Bs),x∈za6 s true l↔x≠s∧x∈l
 | [],x=>by simp[za6]
 | y :: r,x=>by
   have ih:=zgd s r x;simp only[za6,Bool.true_or,Bool.not_true,Bool.false_and,Bool.false_eq_true,if_false,List.nil_append,List.mem_append,ih,List.mem_cons];by_cases hy:y=s
   ·subst hy;simp;intro a b;exact absurd b a
   have:(y==s)=false:=by rw[beq_eq_false_iff_ne];exact hy
   rw[this];simp only[Bool.false_eq_true,if_false,List.mem_singleton];constructor
   ·rintro(rfl | ⟨h1,h2⟩)
    ·exact⟨hy,.inl rfl⟩
    exact⟨h1,.inr h2⟩
   rintro⟨h1,rfl | h2⟩
   ·exact .inl rfl
   exact .inr ⟨h1,h2⟩
theorem zm7 (s:Bs):∀ (l:List Bs) (x:Bs),x∈zc8 l s↔x=s∨x∈l
 | [],x=>by simp[zc8,za6]
 | y :: r,x=>by
   have ih:=zm7 s r x;unfold zc8 at ih ⊢;cases hb:Op.bytesLess y s with
   | true =>
     have hy:(y==s)=false:=by
      rw[beq_eq_false_iff_ne];rintro rfl;rw[zlw]at hb;cases hb
     simp only[za6,hb,hy,Bool.not_true,Bool.and_false,Bool.or_false,Bool.false_eq_true,if_false,List.nil_append,List.mem_append,List.mem_cons,List.not_mem_nil,or_false,ih];constructor
     ·rintro(h | h | h)
      ·exact .inr (.inl h)
      ·exact .inl h
      exact .inr (.inr h)
     rintro(h | h | h)
     ·exact .inr (.inl h)
     ·exact .inl h
     exact .inr (.inr h)
   | false =>
     simp only[za6,hb,Bool.not_false,Bool.and_true,Bool.or_true,if_true,List.mem_append,zgd,List.mem_cons,List.not_mem_nil,or_false];by_cases hy:y=s
     ·subst hy;simp only[beq_self_eq_true,if_true,List.not_mem_nil,false_or,or_false];constructor
      ·rintro(h | ⟨h1,h2⟩)
       ·exact .inl h
       exact .inr (.inr h2)
      rintro(h | h | h)
      ·exact .inl h
      ·exact .inl h
      by_cases hx:x=y
      ·exact .inl hx
      exact .inr ⟨hx,h⟩
     have hq:(y==s)=false:=by rw[beq_eq_false_iff_ne];exact hy
     simp only[hq,Bool.false_eq_true,if_false,List.mem_cons,List.not_mem_nil,or_false];constructor
     ·rintro(h | h | ⟨h1,h2⟩)
      ·exact .inl h
      ·exact .inr (.inl h)
      exact .inr (.inr h2)
     rintro(h | h | h)
     ·exact .inl h
     ·exact .inr (.inl h)
     by_cases hx:x=s
     ·exact .inl hx
     exact .inr (.inr ⟨hx,h⟩)
theorem zil (s:Bs):∀ (l:List Bs),zfj l→zfj (za6 s true l)
 | [],_=>by simp[za6,zfj]
 | y :: r,h=>by
   obtain⟨h1,h2⟩:=List.pairwise_cons.1 h;have ih:=zil s r h2;simp only[za6,Bool.true_or,Bool.not_true,Bool.false_and,Bool.false_eq_true,if_false,List.nil_append];split
   ·exact ih
   exact List.pairwise_cons.2 ⟨fun z hz=>h1 z ((zgd s r z).1 hz).2,ih⟩
theorem zjr (s:Bs):∀ (l:List Bs),zfj l→zfj (zc8 l s)
 | [],_=>by simp[zc8,za6,zfj]
 | y :: r,h=>by
   obtain⟨h1,h2⟩:=List.pairwise_cons.1 h;have ih:=zjr s r h2;unfold zc8 at ih ⊢;cases hb:Op.bytesLess y s with
   | true =>
     have hy:(y==s)=false:=by
      rw[beq_eq_false_iff_ne];rintro rfl;rw[zlw]at hb;cases hb
     simp only[za6,hb,hy,Bool.not_true,Bool.and_false,Bool.or_false,Bool.false_eq_true,if_false,List.nil_append];refine List.pairwise_cons.2 ⟨fun z hz=>?_,ih⟩;rcases(zm7 s r z).1 hz with rfl | hz
     ·exact hb
     exact h1 z hz
   | false =>
     have ht:=zil s r h2;simp only[za6,hb,Bool.not_false,Bool.and_true,Bool.or_true,if_true]
     have hC:y=s∨Op.bytesLess s y=true:=by
      cases hD:Op.bytesLess s y with
      | true=>exact .inr rfl
      | false=>exact .inl (zrz _ _ hb hD)
     show List.Pairwise _ (s :: ((if (y==s)=true then [] else [y])++za6 s true r));refine List.pairwise_cons.2 ⟨fun z hz=>?_,?_⟩
     ·rcases List.mem_append.1 hz with hz | hz
      ·split at hz
       ·cases hz
       rename_i hne
       obtain rfl:=List.mem_singleton.1 hz;rcases hC with h | h
       ·rw[h]at hne;simp at hne
       exact h
      have hB:=h1 z ((zgd s r z).1 hz).2;rcases hC with h | h
      ·rw[h]at hB;exact hB
      exact zrx h hB
     split
     ·exact ht
     exact List.pairwise_cons.2 ⟨fun z hz=>h1 z ((zgd s r z).1 hz).2,ht⟩
theorem zjn:∀ (l m:List Bs),zfj l→zfj m→(∀ x,x∈l↔x∈m)→l=m
 | [],[],_,_,_=>rfl
 | [],y :: m,_,_,h=>by have:=(h y).2 (by simp);cases this
 | x :: l,[],_,_,h=>by have:=(h x).1 (by simp);cases this
 | x :: l,y :: m,hl,hm,h=>by
   obtain⟨l1,l2⟩:=List.pairwise_cons.1 hl;obtain⟨m1,m2⟩:=List.pairwise_cons.1 hm
   have hxy:x=y:=by
    have a:=(h x).1 (by simp);have b:=(h y).2 (by simp);rcases List.mem_cons.1 a with a | a
    ·exact a
    rcases List.mem_cons.1 b with b | b
    ·exact b.symm
    have h1:=m1 x a;have h2:=l1 y b;rw[zr0 _ _ h1]at h2;cases h2
   subst hxy
   congr 1
   refine zjn l m l2 m2 (fun z=>?_);have hz:=h z;simp only[List.mem_cons]at hz;constructor
   ·intro hC;rcases hz.1 (.inr hC) with rfl | h
    ·have:=l1 z hC;rw[zlw]at this;cases this
    exact h
   intro hB;rcases hz.2 (.inr hB) with rfl | h
   ·have:=m1 z hB;rw[zlw]at this;cases this
   exact h
theorem zob:∀ (xs l:List Bs) (x:Bs),x∈xs.foldl zc8 l↔x∈l∨x∈xs
 | [],l,x=>by simp
 | y :: xs,l,x=>by
   rw[List.foldl_cons,zob xs,zm7,List.mem_cons];constructor
   ·rintro((h | h) | h)
    ·exact .inr (.inl h)
    ·exact .inl h
    exact .inr (.inr h)
   rintro(h | h | h)
   ·exact .inl (.inr h)
   ·exact .inl (.inl h)
   exact .inr h
theorem zik:∀ (xs l:List Bs),zfj l→zfj (xs.foldl zc8 l)
 | [],l,h=>h
 | y :: xs,l,h=>zik xs _ (zjr y l h)
theorem zl9 (l:List Bs) (x:Bs) (h:x∈l):x∈Lib.compact l:=by
 obtain⟨i,hi,rfl⟩:=List.mem_iff_getElem.1 h;unfold Lib.compact Lib.compactUpTo
 induction i with
 | zero =>
   refine List.mem_map.2 ⟨0,List.mem_filter.2 ⟨List.mem_range.2 hi,Lib.keeps_lt_one _ 0 (by decide)⟩,by simp[hi]⟩
 | succ i ih =>
   by_cases he:l[i+1]=l[i]
   ·rw[he];exact ih (by omega) (List.getElem_mem _)
   refine List.mem_map.2 ⟨i+1,List.mem_filter.2 ⟨List.mem_range.2 hi,Lib.keeps_pos ?_⟩,by simp[hi]⟩;have e1:l.toArray[i+1]! = l[i+1]:=by simp[hi]
   have e2:l.toArray[i+1 - 1]! = l[i]:=by simp[show i<l.length by omega]
   rw[e1,e2];exact he
theorem zwc (xs ys:List Bs) (h:∀ x,x∈xs↔x∈ys):xs.foldl zc8 []=Lib.compact (zf3 ys):=by
 refine zjn _ _ (zik xs [] List.Pairwise.nil) (zqa _ (zte _)) (fun x=>?_);rw[zob];constructor
 ·rintro(h1 | h1)
  ·cases h1
  exact zl9 _ _ ((zla _ _).2 ((h x).1 h1))
 intro h1;exact .inr ((h x).2 ((zla _ _).1 (znz _ _ h1)))
def zij (e:En):List Bs :=
 (if e.kind=1 then [zgx++zat e.digest] else [])++((if e.kind=2∨e.kind=3 then [zgx++zat (zak e.payload)] else []) ++
   ((if e.kind=3 then ((zar e.payload).getD []).map zhz else [])++(if e.kind=4 then (sId++e.ident) :: (if e.op=3 then [] else [zhw++zat e.key]) else [])))
def rOf (e:En):List Bs:=(e.sigs.map qs++zij e).foldl zc8 []
theorem zrc (e:En) (x:Bs):x∈zij e↔x∈zfv e:=by
 unfold zij zfv;by_cases h1:e.kind=1
 ·simp[h1]
 by_cases h3:e.kind=3
 ·simp [h3];constructor
  ·rintro(h | h)
   ·exact .inr h
   exact .inl h
  rintro(h | h)
  ·exact .inr h
  exact .inl h
 by_cases h2:e.kind=2
 ·simp[h2]
 simp[h1,h2,h3]
theorem zxn (e:En):rOf e=zb1 e:=by
 unfold rOf zb1;refine zwc _ _ (fun x=>?_);rw[List.mem_append,List.mem_append,zrc]
end
end Go.Proofs.YtffggpplnjibgaaGreatDoor
