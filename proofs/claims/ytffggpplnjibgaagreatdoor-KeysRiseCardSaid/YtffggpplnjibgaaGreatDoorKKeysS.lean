/-
 Canonical texts,as plain data.
-/
import Derived.Test.YtffggpplnjibgaaGreatDoorKSpecSound
import Derived.Lib.ItoaNum
import Derived.Lib.Small
import Derived.Test.YtffggpplnjibgaaGreatDoorKPairs
import Derived.Test.YtffggpplnjibgaaGreatDoorKSpecCheck
import Derived.Test.YtffggpplnjibgaaGreatDoorKRefUnhex
open Go.Lib renaming byteCells→zj
namespace Go.Proofs.YtffggpplnjibgaaGreatDoor
set_option linter.unusedVariables false
set_option linter.unusedSimpArgs false
set_option linter.unusedSectionVars false
set_option maxRecDepth 100000
set_option maxHeartbeats 1000000
section

def fig (n:Nat):UInt8:=UInt8.ofNat (if n<10 then 48+n else 87+n)
def zrw (c:UInt8):Bs :=
 if c=34 then [92,34] else if c=92 then [92,92] else if c=8 then [92,98] else if c=9 then [92,116] else if c=10 then [92,110]
 else if c=12 then [92,102] else if c=13 then [92,114] else if c.toNat<32 then [92,117,48,48,fig (c.toNat / 16),fig (c.toNat % 16)] else []
def zqv:Bs→Bs
 | []=>[]
 | c :: l=>(if zrw c=[] then [c] else zrw c)++zqv l
def zo6 (s:Bs):Bs:=34 :: zqv s++[34]
end
section

mutual
def zo3:J→Bs
 | .mk k n t l p =>
   if k=0 then [110,117,108,108]
   else if k=1 then Lib.formatBool (n==1)
   else if k=2 then Lib.itoa n
   else if k=3 then zo6 t
   else if k=4 then (if l.isEmpty then [91] else zl1 91 l)++[93]
   else if k=5 then (if p.isEmpty then [123] else zl2 123 p)++[125]
   else []
def zl1:UInt8→List J→Bs
 | _,[]=>[]
 | c,j :: js=>c :: zo3 j++zl1 44 js
def zl2:UInt8→List (Bs × J)→Bs
 | _,[]=>[]
 | c,(nm,j) :: ps=>c :: zo6 nm++[58]++zo3 j++zl2 44 ps
end
end
section

mutual
def few:Nat→J→Bool
 | N,.mk _ _ _ l p=>decide (p.length≤N)&&(fewl N l&&fewp N p)
def fewl:Nat→List J→Bool
 | _,[]=>true
 | N,j :: js=>few N j&&fewl N js
def fewp:Nat→List (Bs × J)→Bool
 | _,[]=>true
 | N,(_,j) :: ps=>few N j&&fewp N ps
end
theorem few.open {N:Nat}{k n:Int}{t:Bs}{l:List J}{p:List (Bs × J)}(h:few N (.mk k n t l p)=true):p.length≤N∧fewl N l=true∧fewp N p=true:=by
 unfold few at h;simpa using h
theorem fewl.at {N:Nat}:∀ (l:List J),fewl N l=true→∀ (i:Nat) (j:J),l[i]? = some j→few N j=true:=by
 intro l
 induction l with
 | nil=>intro _ i j h;simp at h
 | cons x l ih =>
   intro h i j hi;unfold fewl at h;simp at h;cases i with
   | zero=>simp at hi;subst hi;exact h.1
   | succ i=>exact ih h.2 i j (by simpa using hi)
theorem fewp.at {N:Nat}:∀ (l:List (Bs × J)),fewp N l=true→∀ (i:Nat) (nm:Bs) (j:J),l[i]? = some (nm,j)→few N j=true:=by
 intro l
 induction l with
 | nil=>intro _ i nm j h;simp at h
 | cons x l ih =>
   obtain⟨xn,xj⟩:=x;intro h i nm j hi;unfold fewp at h;simp at h;cases i with
   | zero=>simp at hi;obtain⟨rfl,rfl⟩:=hi;exact h.1
   | succ i=>exact ih h.2 i nm j (by simpa using hi)
end
section

mutual
def zdo:J→Int→Int
 | .mk _ _ _ l p,last=>zc7 (zbi 1 l last) p last
def zbi:Int→List J→Int→Int
 | n,[],_=>n
 | n,j :: js,last=>if n≤last then zbi (n+zdo j (last - n)) js last else n
def zc7:Int→List (Bs × J)→Int→Int
 | n,[],_=>n
 | n,(_,j) :: ps,last=>if n≤last then zc7 (n+zdo j (last - n)) ps last else n
end
mutual
def zn1:J→Bool
 | .mk _ _ t l p=>decide (5000<t.length)||(zjr l||zjq p)
def zjr:List J→Bool
 | []=>false
 | j :: js=>zn1 j||zjr js
def zjq:List (Bs × J)→Bool
 | []=>false
 | (nm,j) :: ps=>(decide (5000<nm.length)||zn1 j)||zjq ps
end
mutual
theorem zb1:∀ (j:J) (last:Int),1≤zdo j last∧(zdo j last≤1∨zdo j last≤last+1)
 | .mk _ _ _ l p,last=>by
   unfold zdo;have h1:=zbk l 1 last;have h2:=zbj p (zbi 1 l last) last;omega
theorem zbk:∀ (l:List J) (n last:Int),n≤zbi n l last∧(zbi n l last≤n∨zbi n l last≤last+1)
 | [],n,last=>by unfold zbi;omega
 | j :: js,n,last=>by
   unfold zbi;split
   ·have h1:=zb1 j (last - n);have h2:=zbk js (n+zdo j (last - n)) last;omega
   omega
theorem zbj:∀ (l:List (Bs × J)) (n last:Int),n≤zc7 n l last∧(zc7 n l last≤n∨zc7 n l last≤last+1)
 | [],n,last=>by unfold zc7;omega
 | (_,j) :: js,n,last=>by
   unfold zc7;split
   ·have h1:=zb1 j (last - n);have h2:=zbj js (n+zdo j (last - n)) last;omega
   omega
end
mutual
def zpb:J→Bool
 | .mk _ n _ l p=>(decide (-9223372036854775808≤n)&&decide (n≤9223372036854775807))&&(zdu l&&zdt p)
def zdu:List J→Bool
 | []=>true
 | j :: js=>zpb j&&zdu js
def zdt:List (Bs × J)→Bool
 | []=>true
 | (_,j) :: ps=>zpb j&&zdt ps
end
mutual
theorem zgj:∀ (j:J) (last:Int),last≤1000→zpb j=true→zn1 j=false→zdo j last≤last→fits 67108864 j=true
 | .mk k n t l p,last,h0,hi,hl,hm=>by
   unfold zdo at hm;unfold zn1 at hl;unfold zpb at hi;simp only[Bool.or_eq_false_iff,decide_eq_false_iff_not,Bool.and_eq_true,decide_eq_true_eq]at hl hi;have b1:=zbk l 1 last;have b2:=zbj p (zbi 1 l last) last;have b3:zbi 1 l last≤last:=by omega
   obtain⟨f1,n1⟩:=zft l 1 last h0 (by omega) hi.2.1 hl.2.1 b3;obtain⟨f2,n2⟩:=zfs p (zbi 1 l last) last h0 (by omega) hi.2.2 hl.2.2 hm;unfold fits;rw[f1,f2];simp only[Bool.and_eq_true,decide_eq_true_eq,and_true];omega
theorem zft:∀ (l:List J) (n last:Int),last≤1000→1≤n→zdu l=true→zjr l=false→zbi n l last≤last→fitsl 67108864 l=true∧n+l.length≤last
 | [],n,last,h0,h1,hi,hl,hm=>by
   unfold zbi at hm;exact⟨by unfold fitsl;rfl,by simpa using hm⟩
 | j :: js,n,last,h0,h1,hi,hl,hm=>by
   unfold zbi at hm;unfold zjr at hl;unfold zdu at hi;simp only[Bool.or_eq_false_iff,Bool.and_eq_true]at hl hi;split at hm
   ·rename_i hn
    have b0:=zb1 j (last - n);have b1:=zbk js (n+zdo j (last - n)) last;obtain⟨f1,n1⟩:=zft js (n+zdo j (last - n)) last h0 (by omega) hi.2 hl.2 hm;have f2:fits 67108864 j=true:=zgj j (last - n) (by omega) hi.1 hl.1 (by omega);unfold fitsl;rw[f1,f2];refine⟨rfl,?_⟩;simp only[List.length_cons];omega
   omega
theorem zfs:∀ (l:List (Bs × J)) (n last:Int),last≤1000→1≤n→zdt l=true→zjq l=false→zc7 n l last≤last→fitsp 67108864 l=true∧n+l.length≤last
 | [],n,last,h0,h1,hi,hl,hm=>by
   unfold zc7 at hm;exact⟨by unfold fitsp;rfl,by simpa using hm⟩
 | (nm,j) :: js,n,last,h0,h1,hi,hl,hm=>by
   unfold zc7 at hm;unfold zjq at hl;unfold zdt at hi;simp only[Bool.or_eq_false_iff,Bool.and_eq_true,decide_eq_false_iff_not]at hl hi;split at hm
   ·rename_i hn
    have b0:=zb1 j (last - n);have b1:=zbj js (n+zdo j (last - n)) last;obtain⟨f1,n1⟩:=zfs js (n+zdo j (last - n)) last h0 (by omega) hi.2 hl.2 hm;have f2:fits 67108864 j=true:=zgj j (last - n) (by omega) hi.1 hl.1.2 (by omega);unfold fitsp;rw[f1,f2];refine⟨?_,?_⟩
    ·simp only[Bool.and_true,decide_eq_true_eq];omega
    simp only[List.length_cons];omega
   omega
end
end
section
def sId:Bs:=[105,100,58]
def sSha:Bs:=[115,104,97,50,53,54,58]
def zbt (s:Bs):Bool :=
 if Lib.hasPrefix s sId then zbh (s.drop 3)
 else if Lib.hasPrefix s sSha then (zf3 (s.drop 7)).isSome
 else if Lib.hasPrefix s sKey then (zf3 (s.drop 4)).isSome
 else false
theorem za0 (s p:Bs):Lib.hasPrefix s p=true↔s.take p.length=p:=by
 unfold Lib.hasPrefix;rw[List.isPrefixOf_iff_prefix];constructor
 ·intro h;obtain⟨t,rfl⟩:=h;simp
 intro h;rw[← h];exact List.take_prefix _ _
theorem zaw (p s:Bs):Lib.hasPrefix (p++s) p=true:=by
 rw[za0];simp
theorem zdr (d:Bs)(h:d.length=32):zbt (sSha++za9 d)=true:=by
 have h0:zf3 (za9 d)=some d:=(zbd _ _).2 ⟨rfl,h⟩;unfold zbt;rw[if_neg (by rw[za0];simp[sSha,sId]),if_pos (zaw _ _)];show(zf3 (za9 d)).isSome=true;rw[h0];rfl
theorem zfo (d:Bs)(h:d.length=32):zbt (sKey++za9 d)=true:=by
 have h0:zf3 (za9 d)=some d:=(zbd _ _).2 ⟨rfl,h⟩;unfold zbt;rw[if_neg (by rw[za0];simp[sKey,sId]),if_neg (by rw[za0];simp[sKey,sSha]),if_pos (zaw _ _)];show(zf3 (za9 d)).isSome=true;rw[h0];rfl
theorem zjx (s:Bs):zbt (sId++s)=zbh s:=by
 unfold zbt;rw[if_pos (zaw _ _)];rfl
end
section
open Go.RowKit
variable [OldK]
theorem zco (d:Bs) (w:World) (hd:d.length=32) :
 Calls Tryz.prog 51 #[.agg (zj d).toArray] w fun e w'=>e = .returned (.string ⟨(sSha++za9 d).toArray⟩)∧Fr NoB w w':=by
 have hx:=@zed ⟨w.heap.size+1⟩ (fun _=>True) d (.slice (some ⟨w.heap.size,0,none⟩) 32 32) (w.alloc (.cells (zj d).toArray 23)) ⟨some ⟨w.heap.size,0,none⟩,32,by rw[hd],by omega,.inr ⟨w.heap.size,0,(zj d).toArray,_,_,rfl,trivial,⟨heap_alloc_new w _,.inr (Nat.lt_succ_self _)⟩,fun j hj=>by simp[zj,hj]⟩⟩ (by omega);obtain⟨cs,hA⟩:∃ cs,(zj d).toArray=cs:=⟨_,rfl⟩;have hsz:cs.size=32:=by rw[← hA];simp[zj,hd]
 rw[hA]at hx ⊢;have hC:(za9 d).length≤100:=by rw[ze1];omega
 obtain⟨X,hX⟩:∃ X,za9 d=X:=⟨_,rfl⟩;rw[hX]at hx hC ⊢;have hF:=(Fr.refl (M:=NoB)).alloc (w:=w) (.cells cs 23);have HF:=Lib.hid hF;have Hx:=Lib.hid hx;clear hF hx hA hX hd;go_enter Tryz.func51,Tryz.ntmps51
 go_wp2_with fail
 refine Hx.out.mono ?_;rintro e w2 ⟨rfl,hB⟩;have hD:=Lib.hid (HF.out.trans' hB);clear hB
 go_wp2_with fail
 go_ret;refine⟨?_,hD.out⟩
 have hs:(ByteArray.mk #[115,104,97,50,53,54,58])++(ByteArray.mk X.toArray)=⟨(sSha++X).toArray⟩:=by
  apply ByteArray.ext;simp[sSha]
 simp[hs]
theorem zpa (d:Bs) (w:World) (hd:d.length=32) :
 Calls Tryz.prog 56 #[.agg (zj d).toArray] w fun e w'=>e = .returned (.string ⟨(sKey++za9 d).toArray⟩)∧Fr NoB w w':=by
 have hx:=@zed ⟨w.heap.size+1⟩ (fun _=>True) d (.slice (some ⟨w.heap.size,0,none⟩) 32 32) (w.alloc (.cells (zj d).toArray 25)) ⟨some ⟨w.heap.size,0,none⟩,32,by rw[hd],by omega,.inr ⟨w.heap.size,0,(zj d).toArray,_,_,rfl,trivial,⟨heap_alloc_new w _,.inr (Nat.lt_succ_self _)⟩,fun j hj=>by simp[zj,hj]⟩⟩ (by omega);obtain⟨cs,hA⟩:∃ cs,(zj d).toArray=cs:=⟨_,rfl⟩;have hsz:cs.size=32:=by rw[← hA];simp[zj,hd]
 rw[hA]at hx ⊢;have hC:(za9 d).length≤100:=by rw[ze1];omega
 obtain⟨X,hX⟩:∃ X,za9 d=X:=⟨_,rfl⟩;rw[hX]at hx hC ⊢;have hF:=(Fr.refl (M:=NoB)).alloc (w:=w) (.cells cs 25);have HF:=Lib.hid hF;have Hx:=Lib.hid hx;clear hF hx hA hX hd;go_enter Tryz.func56,Tryz.ntmps56
 go_wp2_with fail
 refine Hx.out.mono ?_;rintro e w2 ⟨rfl,hB⟩;have hD:=Lib.hid (HF.out.trans' hB);clear hB
 go_wp2_with fail
 go_ret;refine⟨?_,hD.out⟩
 have hs:(ByteArray.mk #[107,101,121,58])++(ByteArray.mk X.toArray)=⟨(sKey++X).toArray⟩:=by
  apply ByteArray.ext;simp[sKey]
 simp[hs]
theorem zfp (s:Bs) (w:World) (hlen:s.length≤1000000000) :
 Calls Tryz.prog 55 #[.string ⟨s.toArray⟩] w fun e w'=>e = .returned (.string ⟨(sId++s).toArray⟩)∧w=w':=by
 have hsz:(ByteArray.mk s.toArray).size=s.length:=rfl;go_enter Tryz.func55,Tryz.ntmps55
 go_wp2_with fail
 go_ret;refine⟨?_,rfl⟩
 have hs:(ByteArray.mk #[105,100,58])++(ByteArray.mk s.toArray)=⟨(sId++s).toArray⟩:=by
  apply ByteArray.ext;simp[sId]
 simp[hs]
end
end Go.Proofs.YtffggpplnjibgaaGreatDoor
