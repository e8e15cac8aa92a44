/-
 Canonical texts,as plain data.
-/
import Derived.Test.YtffggpplnjibgaaGreatDoorKSpecEntry
import Derived.Lib.ItoaNum
import Derived.Lib.Small
import Derived.Test.YtffggpplnjibgaaGreatDoorKPairs
import Derived.Lib.LaidU8
import Derived.ProofKit
import Derived.Deep.MidRow
import Derived.Test.YtffggpplnjibgaaGreatDoorKSpecBind
import Derived.Test.YtffggpplnjibgaaGreatDoorKRefUnhex
open Go.Lib renaming hid→zi,byteCells→zj
open Go renaming heap_alloc_new→zo
namespace Go.Proofs.YtffggpplnjibgaaGreatDoor
set_option linter.unusedVariables false
set_option linter.unusedSimpArgs false
set_option linter.unusedSectionVars false
set_option maxRecDepth 100000
set_option maxHeartbeats 1000000
section

def fig (n:Nat):UInt8:=UInt8.ofNat (if n<10 then 48+n else 87+n)
def zyw (c:UInt8):Bs :=
 if c=34 then [92,34] else if c=92 then [92,92] else if c=8 then [92,98] else if c=9 then [92,116] else if c=10 then [92,110]
 else if c=12 then [92,102] else if c=13 then [92,114] else if c.toNat<32 then [92,117,48,48,fig (c.toNat / 16),fig (c.toNat % 16)] else []
def zxp:Bs→Bs
 | []=>[]
 | c :: l=>(if zyw c=[] then [c] else zyw c)++zxp l
def zu6 (s:Bs):Bs:=34 :: zxp s++[34]
end
section

mutual
def zu5:J→Bs
 | .mk k n t l p =>
   if k=0 then [110,117,108,108]
   else if k=1 then Lib.formatBool (n==1)
   else if k=2 then Lib.itoa n
   else if k=3 then zu6 t
   else if k=4 then (if l.isEmpty then [91] else zrk 91 l)++[93]
   else if k=5 then (if p.isEmpty then [123] else zrl 123 p)++[125]
   else []
def zrk:UInt8→List J→Bs
 | _,[]=>[]
 | c,j :: js=>c :: zu5 j++zrk 44 js
def zrl:UInt8→List (Bs × J)→Bs
 | _,[]=>[]
 | c,(nm,j) :: ps=>c :: zu6 nm++[58]++zu5 j++zrl 44 ps
end
end
section

mutual
def few:Nat→J→Bool
 | N,.mk _ _ _ l p=>decide (p.length≤N)&&(fewl N l&&fewp N p)
def fewl:Nat→List J→Bool
 | _,[]=>true
 | N,j :: js=>few N j&&fewl N js
def fewp:Nat→List (Bs × J)→Bool
 | _,[]=>true
 | N,(_,j) :: ps=>few N j&&fewp N ps
end
theorem few.open {N:Nat}{k n:Int}{t:Bs}{l:List J}{p:List (Bs × J)}(h:few N (.mk k n t l p)=true):p.length≤N∧fewl N l=true∧fewp N p=true:=by
 unfold few at h;simpa using h
theorem fewl.at {N:Nat}:∀ (l:List J),fewl N l=true→∀ (i:Nat) (j:J),l[i]? = some j→few N j=true:=by
 intro l
 induction l with
 | nil=>intro _ i j h;simp at h
 | cons x l ih =>
   intro h i j hi;unfold fewl at h;simp at h;cases i with
   | zero=>simp at hi;subst hi;exact h.1
   | succ i=>exact ih h.2 i j (by simpa using hi)
theorem fewp.at {N:Nat}:∀ (l:List (Bs × J)),fewp N l=true→∀ (i:Nat) (nm:Bs) (j:J),l[i]? = some (nm,j)→few N j=true:=by
 intro l
 induction l with
 | nil=>intro _ i nm j h;simp at h
 | cons x l ih =>
   obtain⟨xn,xj⟩:=x;intro h i nm j hi;unfold fewp at h;simp at h;cases i with
   | zero=>simp at hi;obtain⟨rfl,rfl⟩:=hi;exact h.1
   | succ i=>exact ih h.2 i nm j (by simpa using hi)
end
section

mutual
def zge:J→Int→Int
 | .mk _ _ _ l p,last=>zfh (zda 1 l last) p last
def zda:Int→List J→Int→Int
 | n,[],_=>n
 | n,j :: js,last=>if n≤last then zda (n+zge j (last - n)) js last else n
def zfh:Int→List (Bs × J)→Int→Int
 | n,[],_=>n
 | n,(_,j) :: ps,last=>if n≤last then zfh (n+zge j (last - n)) ps last else n
end
mutual
def ztw:J→Bool
 | .mk _ _ t l p=>decide (5000<t.length)||(zog l||zof p)
def zog:List J→Bool
 | []=>false
 | j :: js=>ztw j||zog js
def zof:List (Bs × J)→Bool
 | []=>false
 | (nm,j) :: ps=>(decide (5000<nm.length)||ztw j)||zof ps
end
mutual
theorem zd7:∀ (j:J) (last:Int),1≤zge j last∧(zge j last≤1∨zge j last≤last+1)
 | .mk _ _ _ l p,last=>by
   unfold zge;have h1:=zdf l 1 last;have h2:=zde p (zda 1 l last) last;omega
theorem zdf:∀ (l:List J) (n last:Int),n≤zda n l last∧(zda n l last≤n∨zda n l last≤last+1)
 | [],n,last=>by unfold zda;omega
 | j :: js,n,last=>by
   unfold zda;split
   ·have h1:=zd7 j (last - n);have h2:=zdf js (n+zge j (last - n)) last;omega
   omega
theorem zde:∀ (l:List (Bs × J)) (n last:Int),n≤zfh n l last∧(zfh n l last≤n∨zfh n l last≤last+1)
 | [],n,last=>by unfold zfh;omega
 | (_,j) :: js,n,last=>by
   unfold zfh;split
   ·have h1:=zd7 j (last - n);have h2:=zde js (n+zge j (last - n)) last;omega
   omega
end
mutual
def zvc:J→Bool
 | .mk _ n _ l p=>(decide (-9223372036854775808≤n)&&decide (n≤9223372036854775807))&&(zgi l&&zgh p)
def zgi:List J→Bool
 | []=>true
 | j :: js=>zvc j&&zgi js
def zgh:List (Bs × J)→Bool
 | []=>true
 | (_,j) :: ps=>zvc j&&zgh ps
end
mutual
theorem zjy:∀ (j:J) (last:Int),last≤1000→zvc j=true→ztw j=false→zge j last≤last→fits 67108864 j=true
 | .mk k n t l p,last,h0,hi,hl,hm=>by
   unfold zge at hm;unfold ztw at hl;unfold zvc at hi;simp only[Bool.or_eq_false_iff,decide_eq_false_iff_not,Bool.and_eq_true,decide_eq_true_eq]at hl hi;have b1:=zdf l 1 last;have b2:=zde p (zda 1 l last) last;have b3:zda 1 l last≤last:=by omega
   obtain⟨f1,n1⟩:=zix l 1 last h0 (by omega) hi.2.1 hl.2.1 b3;obtain⟨f2,n2⟩:=ziw p (zda 1 l last) last h0 (by omega) hi.2.2 hl.2.2 hm;unfold fits;rw[f1,f2];simp only[Bool.and_eq_true,decide_eq_true_eq,and_true];omega
theorem zix:∀ (l:List J) (n last:Int),last≤1000→1≤n→zgi l=true→zog l=false→zda n l last≤last→fitsl 67108864 l=true∧n+l.length≤last
 | [],n,last,h0,h1,hi,hl,hm=>by
   unfold zda at hm;exact⟨by unfold fitsl;rfl,by simpa using hm⟩
 | j :: js,n,last,h0,h1,hi,hl,hm=>by
   unfold zda at hm;unfold zog at hl;unfold zgi at hi;simp only[Bool.or_eq_false_iff,Bool.and_eq_true]at hl hi;split at hm
   ·rename_i hn
    have b0:=zd7 j (last - n);have b1:=zdf js (n+zge j (last - n)) last;obtain⟨f1,n1⟩:=zix js (n+zge j (last - n)) last h0 (by omega) hi.2 hl.2 hm;have f2:fits 67108864 j=true:=zjy j (last - n) (by omega) hi.1 hl.1 (by omega);unfold fitsl;rw[f1,f2];refine⟨rfl,?_⟩;simp only[List.length_cons];omega
   omega
theorem ziw:∀ (l:List (Bs × J)) (n last:Int),last≤1000→1≤n→zgh l=true→zof l=false→zfh n l last≤last→fitsp 67108864 l=true∧n+l.length≤last
 | [],n,last,h0,h1,hi,hl,hm=>by
   unfold zfh at hm;exact⟨by unfold fitsp;rfl,by simpa using hm⟩
 | (nm,j) :: js,n,last,h0,h1,hi,hl,hm=>by
   unfold zfh at hm;unfold zof at hl;unfold zgh at hi;simp only[Bool.or_eq_false_iff,Bool.and_eq_true,decide_eq_false_iff_not]at hl hi;split at hm
   ·rename_i hn
    have b0:=zd7 j (last - n);have b1:=zde js (n+zge j (last - n)) last;obtain⟨f1,n1⟩:=ziw js (n+zge j (last - n)) last h0 (by omega) hi.2 hl.2 hm;have f2:fits 67108864 j=true:=zjy j (last - n) (by omega) hi.1 hl.1.2 (by omega);unfold fitsp;rw[f1,f2];refine⟨?_,?_⟩
    ·simp only[Bool.and_true,decide_eq_true_eq];omega
    simp only[List.length_cons];omega
   omega
end
end
section
open Go.RowKit
variable [OldK]

theorem zi9:Tryz.prog.cellsOf 3=1:=by kernel_rfl
theorem zfz:Tryz.prog.cellsOf 9=1:=by kernel_rfl
theorem zzl {cs:List Value}(h:cs.length=5):∃ c0 c1 c2 c3 c4,cs=[c0,c1,c2,c3,c4]:=by
 match cs,h with
 | [c0,c1,c2,c3,c4],_=>exact⟨c0,c1,c2,c3,c4,rfl⟩
theorem six {cs:List Value}(h:cs.length=6):∃ c0 c1 c2 c3 c4 c5,cs=[c0,c1,c2,c3,c4,c5]:=by
 match cs,h with
 | [c0,c1,c2,c3,c4,c5],_=>exact⟨c0,c1,c2,c3,c4,c5,rfl⟩
theorem zj3 {w:World}{base n:Nat}{a:Addr}{cs:List Value}(h:w.cells? base a n=some cs):cs.length=n∧∀ i,i<n→w.cell? (a.add i)=cs[i]? :=
 (World.cells?_some h).2
theorem zmc {w:World} {a:Addr} {n k:Nat} (hn:0<n) (hk:0<k) {G:Nat→List Value} (h:∀ i,i<n→w.cells? 0 (a.add (i * k)) k=some (G i)) :
 ∃ b o C T f,a=⟨b,o,none⟩∧w.heap[b]? = some (.cells C T f)∧∀ i,i<n→(C.toList.drop (o+i * k)).take k=G i:=by
 obtain⟨b,o,sp⟩:=a;obtain⟨hl0,hC⟩:=zj3 (h 0 hn);have hB:=hC 0 hk;have e0:((⟨b,o,sp⟩:Addr).add (0 * k)).add 0=⟨b,o,sp⟩:=by simp[Addr.add]
 rw[e0,List.getElem?_eq_getElem (by omega)]at hB;obtain rfl:=Go.Proofs.cell_spot hB;unfold World.cell? at hB;split at hB
 ·rename_i C T f hb
  refine⟨b,o,C,T,f,rfl,hb,fun i hi=>?_⟩;obtain⟨hl,hg⟩:=zj3 (h i hi);apply List.ext_getElem?;intro j;rw[List.getElem?_take];split
  ·rename_i hj
   have:=hg j hj;rw[Addr.add_mid,Addr.add_mid]at this;rw[List.getElem?_drop,← this];simp[World.cell?,hb]
  rw[List.getElem?_eq_none (by omega)]
 all_goals simp at hB
section
variable {H:Type} {enc:TypeId × Value→H} {sp:Nat→Bool} {held:Bool} {w:World}
theorem bind_some {α β:Type}{o:Option α}{f:α→Option β}{y:β}(h:o.bind f=some y):∃ x,o=some x∧f x=some y:=by
 cases o with
 | none=>simp at h
 | some x=>exact⟨x,rfl,by simpa using h⟩
end
end
section
def sId:Bs:=[105,100,58]
def zgx:Bs:=[115,104,97,50,53,54,58]
end
section
open Go.RowKit
variable [OldK]
theorem zeu (d:Bs) (w:World) (hd:d.length=32) :
 Calls Tryz.prog 51 #[.agg (zj d).toArray] w fun e w'=>e = .returned (.string ⟨(zgx++zat d).toArray⟩)∧Fr NoB w w':=by
 have hx:=@zg1 ⟨w.heap.size+1⟩ (fun _=>True) d (.slice (some ⟨w.heap.size,0,none⟩) 32 32) (w.alloc (.cells (zj d).toArray 23)) ⟨some ⟨w.heap.size,0,none⟩,32,by rw[hd],by omega,.inr ⟨w.heap.size,0,(zj d).toArray,_,_,rfl,trivial,⟨zo w _,.inr (Nat.lt_succ_self _)⟩,fun j hj=>by simp[zj,hj]⟩⟩ (by omega);obtain⟨cs,hB⟩:∃ cs,(zj d).toArray=cs:=⟨_,rfl⟩;have hsz:cs.size=32:=by rw[← hB];simp[zj,hd]
 rw[hB]at hx ⊢;have hD:(zat d).length≤100:=by rw[zfa];omega
 obtain⟨X,hX⟩:∃ X,zat d=X:=⟨_,rfl⟩;rw[hX]at hx hD ⊢;have hF:=(Fr.refl (M:=NoB)).alloc (w:=w) (.cells cs 23);have HF:=zi hF;have Hx:=zi hx;clear hF hx hB hX hd;go_enter Tryz.func51,Tryz.ntmps51
 go_wp2_with fail
 refine Hx.out.mono ?_;rintro e w2 ⟨rfl,hC⟩;have hE:=zi (HF.out.trans' hC);clear hC
 go_wp2_with fail
 go_ret;refine⟨?_,hE.out⟩
 have hs:(ByteArray.mk #[115,104,97,50,53,54,58])++(ByteArray.mk X.toArray)=⟨(zgx++X).toArray⟩:=by
  apply ByteArray.ext;simp[zgx]
 simp[hs]
theorem zvb (d:Bs) (w:World) (hd:d.length=32) :
 Calls Tryz.prog 56 #[.agg (zj d).toArray] w fun e w'=>e = .returned (.string ⟨(zhw++zat d).toArray⟩)∧Fr NoB w w':=by
 have hx:=@zg1 ⟨w.heap.size+1⟩ (fun _=>True) d (.slice (some ⟨w.heap.size,0,none⟩) 32 32) (w.alloc (.cells (zj d).toArray 25)) ⟨some ⟨w.heap.size,0,none⟩,32,by rw[hd],by omega,.inr ⟨w.heap.size,0,(zj d).toArray,_,_,rfl,trivial,⟨zo w _,.inr (Nat.lt_succ_self _)⟩,fun j hj=>by simp[zj,hj]⟩⟩ (by omega);obtain⟨cs,hB⟩:∃ cs,(zj d).toArray=cs:=⟨_,rfl⟩;have hsz:cs.size=32:=by rw[← hB];simp[zj,hd]
 rw[hB]at hx ⊢;have hD:(zat d).length≤100:=by rw[zfa];omega
 obtain⟨X,hX⟩:∃ X,zat d=X:=⟨_,rfl⟩;rw[hX]at hx hD ⊢;have hF:=(Fr.refl (M:=NoB)).alloc (w:=w) (.cells cs 25);have HF:=zi hF;have Hx:=zi hx;clear hF hx hB hX hd;go_enter Tryz.func56,Tryz.ntmps56
 go_wp2_with fail
 refine Hx.out.mono ?_;rintro e w2 ⟨rfl,hC⟩;have hE:=zi (HF.out.trans' hC);clear hC
 go_wp2_with fail
 go_ret;refine⟨?_,hE.out⟩
 have hs:(ByteArray.mk #[107,101,121,58])++(ByteArray.mk X.toArray)=⟨(zhw++X).toArray⟩:=by
  apply ByteArray.ext;simp[zhw]
 simp[hs]
theorem zgc (d:Bs) (w:World) (hd:d.length=32) :
 Calls Tryz.prog 66 #[.agg (zj d).toArray] w fun e w'=>e = .returned (.string ⟨(zgx++zat d).toArray⟩)∧Fr NoB w w':=by
 have hx:=@zhx ⟨w.heap.size+1⟩ (fun _=>True) d (.slice (some ⟨w.heap.size,0,none⟩) 32 32) (w.alloc (.cells (zj d).toArray 23)) ⟨some ⟨w.heap.size,0,none⟩,32,by rw[hd],by omega,.inr ⟨w.heap.size,0,(zj d).toArray,_,_,rfl,trivial,⟨zo w _,.inr (Nat.lt_succ_self _)⟩,fun j hj=>by simp[zj,hj]⟩⟩ (by omega);obtain⟨cs,hB⟩:∃ cs,(zj d).toArray=cs:=⟨_,rfl⟩;have hsz:cs.size=32:=by rw[← hB];simp[zj,hd]
 rw[hB]at hx ⊢;have hD:(zat d).length≤100:=by rw[zfa];omega
 obtain⟨X,hX⟩:∃ X,zat d=X:=⟨_,rfl⟩;rw[hX]at hx hD ⊢;have hF:=(Fr.refl (M:=NoB)).alloc (w:=w) (.cells cs 23);have HF:=zi hF;have Hx:=zi hx;clear hF hx hB hX hd;go_enter Tryz.func66,Tryz.ntmps66
 go_wp2_with fail
 refine Hx.out.mono ?_;rintro e w2 ⟨rfl,hC⟩;have hE:=zi (HF.out.trans' hC);clear hC
 go_wp2_with fail
 go_ret;refine⟨?_,hE.out⟩
 have hs:(ByteArray.mk #[115,104,97,50,53,54,58])++(ByteArray.mk X.toArray)=⟨(zgx++X).toArray⟩:=by
  apply ByteArray.ext;simp[zgx]
 simp[hs]
theorem zu3 (d:Bs) (w:World) (hd:d.length=32) :
 Calls Tryz.prog 65 #[.agg (zj d).toArray] w fun e w'=>e = .returned (.string ⟨(zhw++zat d).toArray⟩)∧Fr NoB w w':=by
 have hx:=@zhx ⟨w.heap.size+1⟩ (fun _=>True) d (.slice (some ⟨w.heap.size,0,none⟩) 32 32) (w.alloc (.cells (zj d).toArray 25)) ⟨some ⟨w.heap.size,0,none⟩,32,by rw[hd],by omega,.inr ⟨w.heap.size,0,(zj d).toArray,_,_,rfl,trivial,⟨zo w _,.inr (Nat.lt_succ_self _)⟩,fun j hj=>by simp[zj,hj]⟩⟩ (by omega);obtain⟨cs,hB⟩:∃ cs,(zj d).toArray=cs:=⟨_,rfl⟩;have hsz:cs.size=32:=by rw[← hB];simp[zj,hd]
 rw[hB]at hx ⊢;have hD:(zat d).length≤100:=by rw[zfa];omega
 obtain⟨X,hX⟩:∃ X,zat d=X:=⟨_,rfl⟩;rw[hX]at hx hD ⊢;have hF:=(Fr.refl (M:=NoB)).alloc (w:=w) (.cells cs 25);have HF:=zi hF;have Hx:=zi hx;clear hF hx hB hX hd;go_enter Tryz.func65,Tryz.ntmps65
 go_wp2_with fail
 refine Hx.out.mono ?_;rintro e w2 ⟨rfl,hC⟩;have hE:=zi (HF.out.trans' hC);clear hC
 go_wp2_with fail
 go_ret;refine⟨?_,hE.out⟩
 have hs:(ByteArray.mk #[107,101,121,58])++(ByteArray.mk X.toArray)=⟨(zhw++X).toArray⟩:=by
  apply ByteArray.ext;simp[zhw]
 simp[hs]
theorem zit (s:Bs) (w:World) (hlen:s.length≤1000000000) :
 Calls Tryz.prog 55 #[.string ⟨s.toArray⟩] w fun e w'=>e = .returned (.string ⟨(sId++s).toArray⟩)∧w=w':=by
 have hsz:(ByteArray.mk s.toArray).size=s.length:=rfl;go_enter Tryz.func55,Tryz.ntmps55
 go_wp2_with fail
 go_ret;refine⟨?_,rfl⟩
 have hs:(ByteArray.mk #[105,100,58])++(ByteArray.mk s.toArray)=⟨(sId++s).toArray⟩:=by
  apply ByteArray.ext;simp[sId]
 simp[hs]
end
end Go.Proofs.YtffggpplnjibgaaGreatDoor
