/-
 The walk of the reference's Sigs.
-/
import Derived.Test.YtcddlemkimbkcaaGreatDoorKSigEq
import Derived.Test.YtcddlemkimbkcaaGreatDoorKRefTyped
import Derived.Test.YtcddlemkimbkcaaGreatDoorKRefWas
import Derived.Deep.CutRange
import Derived.Test.YtcddlemkimbkcaaGreatDoorKRefSubj
import Derived.Test.YtcddlemkimbkcaaGreatDoorKBindCheck
import Derived.Test.YtcddlemkimbkcaaGreatDoorKRefRows2
open Go.Lib renaming hid→za,byteCells→zb
open Go renaming wpList_load_mid→zi,yieldsIf_load_mid→zj
open Or renaming inl→zv
open Go.Value renaming int→zy
open Go.IntKind renaming u8→z6
namespace Go.Proofs.YtcddlemkimbkcaaGreatDoor
set_option linter.unusedVariables false
set_option linter.unusedSimpArgs false
set_option linter.unusedSectionVars false
set_option maxRecDepth 100000
set_option maxHeartbeats 8000000
section
open Go.RowKit
variable [OldK]
def ze0 (l:List Sg):Nat→Option Bs
 | 0=>none
 | i+1=>l[i]?.map jm
theorem zeo {l:List Sg}{i:Nat}{s:Sg}(h:l[i]? = some s):ze0 l (i+1)=some (jm s):=by
 show l[i]?.map jm=_;rw[h];rfl
def okP (p:Option Bs) (B:Bs):Bool:=match p with
 | none=>true
 | some q=>Op.bytesLess q B
theorem zpy (p:Option Bs)(s:Sg)(r:List Sg):zl4 p (s :: r)=(zvq s&&(okP p (jm s)&&zl4 (some (jm s)) r)):=by cases p<;>rfl
theorem zps {S:Nat→Prop} (l:List Sg) (v:Value) (w:World) (h:GS S l v w) (hok:∀ s∈l,s.ok∧s.id.length≤1000000) :
 Calls Tryz.prog 98 #[v] w fun e w'=>e = .returned (.bool (zkl l))∧Fr NoB w w':=by
 obtain⟨a,cap,rfl,hc,hU⟩:=h;obtain⟨R,hR⟩:∃ R,zkl l=R:=⟨_,rfl⟩;rw[hR];unfold zkl at hR;by_cases h1:l.length<1
 ·have AM:decide ((l.length:Int)<1)=true:=decide_eq_true (by omega);have hf:decide (1≤l.length)=false:=decide_eq_false (by omega);rw[hf]at hR;have HR:Hid (false=R):=za (by simpa using hR);clear hR h1 hf hU;go_enter Tryz.func98,Tryz.ntmps98
  go_wp2_with fail
  go_ret;exact⟨jf HR.out,Fr.refl⟩
 have AM:decide ((l.length:Int)<1)=false:=decide_eq_false (by omega);have hf:decide (1≤l.length)=true:=decide_eq_true (by omega);rw[hf]at hR;by_cases h8:8<l.length
 ·have AL:decide ((8:Int)<(l.length:Int))=true:=decide_eq_true (by omega);have hk:decide (l.length≤8)=false:=decide_eq_false (by omega);rw[hk]at hR;have HR:Hid (false=R):=za (by simpa using hR);clear hR h1 hf h8 hk hU;go_enter Tryz.func98,Tryz.ntmps98
  go_wp2_with fail
  go_ret;exact⟨jf HR.out,Fr.refl⟩
 have AL:decide ((8:Int)<(l.length:Int))=false:=decide_eq_false (by omega);have hk:decide (l.length≤8)=true:=decide_eq_true (by omega);rw[hk]at hR;rcases hU with rfl | ⟨b,o,rfl,-,hb,hr⟩
 ·exact absurd (show([]:List Sg).length<1 by simp) h1
 have HR:Hid (zl4 (ze0 l 0) (l.drop 0)=R):=za (by simpa[ze0] using hR);have Hr:=za hr;have Hok:=za hok;have hl8:l.length≤8:=by omega
 clear hR h1 hf h8 hk hr hok;go_enter Tryz.func98,Tryz.ntmps98
 go_wp2_with fail
 go_loopg [3] (l.length+1) (fun gf vi wr=>∃ i:Nat,vi = .int .i64 i∧i≤l.length∧i+gf=l.length+1∧Fr NoB w wr∧Hid (zl4 (ze0 l i) (l.drop i)=R))
 case atStart=>exact⟨0,rfl,by omega,by omega,Fr.refl,HR⟩
 case round =>
  obtain⟨i,rfl,hi,hig,hF,HG⟩:=hrel;have HF:=za hF;clear hF;by_cases AA:i<l.length
  ·have hx : decide ((i:Int)<l.length)=true:=decide_eq_true (by omega);obtain⟨s,hs⟩:∃ s,l[i]? = some s:=⟨_,List.getElem?_eq_getElem AA⟩;have h6:=List.mem_of_getElem? hs;have h7:l[i]=s:=(List.getElem?_eq_some_iff.1 hs).2;obtain⟨hl,hn⟩:=Hok.out s h6;have hR:=Hr.out i AA;rw[h7]at hR;have hG:=HG.out;rw[zc2 hs,zpy]at hG;have hq:=Sg.size hl;have hm:=je hR HF.out hb (fun _ h=>h);have hL:=fun W=>zbq s W hl hn
   have h9:=hm;rw[Sg.list,range_append,range_append,zaf]at h9;obtain⟨c0,cK,-⟩:=h9;have AE:wr.rangeAt b (o+i * 97+1) (zb s.key):=cK;obtain⟨cs,AB⟩:∃ c,s.cells=c:=⟨_,rfl⟩;simp only[AB]at hL hq hm;have Hz:Hid ((Tryz.prog.info? 54).map (·.size)=some cs.toList.length):=za (by rw[qy];simp[hq]);have Hsg:=za hL;have Hs:=za hs;have Hkl:=za hl.1;have AC:=Nat.lt_of_lt_of_le hb HF.out.size;have Hbw:=za AC;unfold zvq at hG;obtain⟨id,hh⟩:∃ x,s.id=x:=⟨_,rfl⟩;rw[hh]at c0 hn hG;have Hnm:=za (fun W=>ziu id W hn);have ho:=za AE;have hP:=za hm;have he:=za hG;clear h6 h7 hR hG hq hm hL cK AE AB hs hl hh hn AC HG;cases id with
   | nil =>
     have ha:Hid ((okP (ze0 l i) (jm s)&&zl4 (some (jm s)) (l.drop (i+1)))=R):=za (by simpa using he.out);clear he ho Hnm
     go_upto_region 8 with(fail)
     change Code.wp _ _ _ _ wr;obtain⟨wc,rfl⟩:∃ x:World,x=wr:=⟨_,rfl⟩;have hS:=HF;have Hrc:=hP;have Hbc:=Hbw;clear HF hP Hbw c0;rcases Nat.eq_zero_or_pos i with hi0 | hi0
     ·subst hi0;have AK:decide ((0:Int)<((0:Nat):Int))=false:=rfl;have hJ:Hid (zl4 (some (jm s)) (l.drop 1)=R):=za (by have h:=ha.out;rw[show ze0 l 0=none from rfl,show okP none (jm s)=true from rfl,Bool.true_and]at h;exact h)
      go_upto_region 8 with(fail)
      refine wp_region_held_drew (S:=fun V=>Hid (Fr NoB wc V)) (by kernel_rfl) (za Fr.refl.drew) (fun hC=>?_);simp only[qV]
      iterate 16
       first
       | refine qt (v:=undef) rfl (Or.inr ⟨by rfl,rfl⟩) hC ?_
         try simp only[Act.put,qP]
       | refine qt (v:=?_) rfl (zv ⟨by rfl,?_⟩) hC ?_
         rotate_left
         ·intro W hI
          try simp only[qQ]
          go_simp
          try rw[if_neg (by omega)]
          try with_reducible rfl
         try simp only[Act.put,qP]
      refine wpAnyH_done (by kernel_rfl) ?_ _;have hN:=za (hS.out.trans' hC.out);clear hC
      go_wp2_with fail
      go_roundg (gk - 1)
      case measure=>omega
      case rel =>
       refine⟨1,by simp,by omega,by omega,hN.out,za ?_⟩;rw[show ze0 l 1=some (jm s) from zeo Hs.out];exact hJ.out
     obtain⟨j,rfl⟩:∃ j,i=j+1:=⟨i - 1,by omega⟩;obtain⟨s1,hO⟩:∃ s1,l[j]? = some s1:=⟨_,List.getElem?_eq_getElem (by omega)⟩;have hE:=List.mem_of_getElem? hO;have hM:l[j]'(by omega)=s1:=(List.getElem?_eq_some_iff.1 hO).2;have hV:=Hr.out j (by omega);rw[hM]at hV;have hT:=je hV hS.out hb (fun _ h=>h);have hH:=Sg.size (Hok.out s1 hE).1;have hD:=fun W=>zbq s1 W (Hok.out s1 hE).1 (Hok.out s1 hE).2
     have hG:=ha.out;rw[show ze0 l (j+1)=some (jm s1) from zeo hO]at hG;rw[show okP (some (jm s1)) (jm s)=Op.bytesLess (jm s1) (jm s) from rfl]at hG;obtain⟨d,hu,hd⟩:=zbv;have Hu:=za hu;have Hd:=za hd;obtain⟨B,hB⟩:∃ B,jm s=B:=⟨_,rfl⟩;obtain⟨A,hA⟩:∃ A,jm s1=A:=⟨_,rfl⟩;rw[hA]at hG;simp only[hA]at hD;rw[hB]at hG;have hL:=Hsg.out;simp only[hB]at hL;obtain⟨x1,hp⟩:∃ x,Op.bytesLess A B=x:=⟨_,rfl⟩;rw[hp]at hG;obtain⟨c1,hj⟩:∃ c,s1.cells=c:=⟨_,rfl⟩;simp only[hj]at hD hH hT;have h3:Hid ((Tryz.prog.info? 54).map (·.size)=some c1.toList.length):=za (by rw[qy];simp[hH]);have hZ:=za hT;have hY:=za hD;have hX:=za hL;have hJ:=za hG;have HB:=za hB;have AJ:decide ((0:Int)<(((j+1:Nat)):Int))=true:=decide_eq_true (by omega);have hz:decide ((0:Int)<(j:Int)+1)=true:=decide_eq_true (by omega);have AG:IntKind.i64.wrap (j:Int)=j:=by rw[IntKind.wrap_i64];omega
     have AI:(j:Int)<l.length:=by omega
     have hy:(j:Int)+1<l.length:=by omega
     have AN:(0:Int)≤(j:Int)+1:=by omega
     have AH:((j:Int)+1).toNat=j+1:=by omega
     clear hO hE hM hV hT hH hD hG hL hB hA hj hu hd ha
     go_upto_region 8 with(fail)
     refine wp_region_held_drew (S:=fun V=>Hid (Fr NoB wc V)) (by kernel_rfl) (za Fr.refl.drew) (fun hC=>?_);simp only[qV]
     iterate 7
      refine qt (v:=?_) rfl (zv ⟨by rfl,?_⟩) hC ?_;rotate_left
      ·intro W hI
       try simp only[qQ]
       go_simp
       try rw[if_neg (by omega)]
       try with_reducible rfl
      try simp only[Act.put,qP]
     refine qi (i:=7) rfl (zj (by rfl) 54 _ rfl b (o+j * 97) rfl c1.toList d (fun V h=>je hZ.out h.out Hbc.out (fun _ h=>h)) Hu.out Hd.out h3.out) hC ?_
     try simp only[Act.put,qP]
     refine qi (i:=9) (v:=?_) rfl (zv ⟨by rfl,?_⟩) hC ?_;rotate_left
     ·intro W hI
      try simp only[qQ]
      go_simp
      try rw[if_neg (by omega)]
      try with_reducible rfl
     try simp only[Act.put,qP]
     refine qi (i:=10) (v:=?_) rfl (zv ⟨by rfl,?_⟩) hC ?_;rotate_left
     ·intro W hI
      try simp only[qQ]
      go_simp
      try rw[if_neg (by omega)]
      try with_reducible rfl
     try simp only[Act.put,qP]
     refine qi (i:=11) (v:=?_) rfl (zv ⟨by rfl,?_⟩) hC ?_;rotate_left
     ·intro W hI
      try simp only[qQ]
      go_simp
      try rw[if_neg (by omega)]
      try with_reducible rfl
     try simp only[Act.put,qP]
     refine qi (i:=12) rfl (zj (by rfl) 54 _ rfl b (o+(j+1) * 97) rfl cs.toList d (fun V h=>je Hrc.out h.out Hbc.out (fun _ h=>h)) Hu.out Hd.out Hz.out) hC ?_
     try simp only[Act.put,qP]
     refine qr (i:=8) (by kernel_rfl) rfl (fun K hK=>?_)
     try simp only[qQ]
     go_simp;refine(hY.out _).mono ?_;rintro r w9 ⟨rfl,h2⟩;refine hK.out _ _ (za (hC.out.trans' h2)) (fun hC=>?_);clear hK K
     try simp only[Act.put,qP]
     refine qr (i:=13) (by kernel_rfl) rfl (fun K hK=>?_)
     try simp only[qQ]
     go_simp;refine(hX.out _).mono ?_;rintro r AF ⟨rfl,hW⟩;refine hK.out _ _ (za (hC.out.trans' hW)) (fun hC=>?_);clear hK K
     try simp only[Act.put,qP]
     cases x1
     ·iterate 2
       refine qt (v:=?_) rfl (zv ⟨by rfl,?_⟩) hC ?_;rotate_left
       ·intro W hI
        try simp only[qQ]
        go_simp
        try rw[if_neg (by omega)]
        try with_reducible rfl
       try simp only[Act.put,qP]
      refine wpAnyH_done (by kernel_rfl) ?_ _;have hN:=za (hS.out.trans' hC.out);clear hC
      go_wp2_with fail
      go_ret;exact⟨jf (by simpa using hJ.out),hN.out⟩
     iterate 2
      refine qt (v:=?_) rfl (zv ⟨by rfl,?_⟩) hC ?_;rotate_left
      ·intro W hI
       try simp only[qQ]
       go_simp
       try rw[if_neg (by omega)]
       try with_reducible rfl
      try simp only[Act.put,qP]
     refine wpAnyH_done (by kernel_rfl) ?_ _;have hN:=za (hS.out.trans' hC.out);clear hC
     go_wp2_with fail
     go_roundg (gk - 1)
     case measure=>omega
     case rel =>
      refine⟨j+1+1,by simp,by omega,by omega,hN.out,za ?_⟩;rw[show ze0 l (j+1+1)=some (jm s) from zeo Hs.out,HB.out];simpa using hJ.out
   | cons c r =>
     have hw:(c :: r:Bs).isEmpty=false:=rfl;obtain⟨id,hh⟩:∃ l,(c :: r:Bs)=l:=⟨_,rfl⟩;rw[hh]at hw c0 he Hnm;clear hh;obtain⟨bm,AD⟩:∃ x,zbn id=x:=⟨_,rfl⟩;have hG:=he.out;have ht:=Hnm.out;rw[AD]at ht hG;rw[hw]at hG;have hQ:=za ht;have hJ:=za hG;clear AD hG he ht Hnm;cases bm with
     | false =>
       go_wp2_with fail
       refine(hQ.out _).mono ?_;rintro e w3 ⟨rfl,rfl⟩
       go_wp2_with fail
       go_ret;exact⟨jf (by simpa using hJ.out),HF.out⟩
     | true =>
       obtain⟨bk,h0⟩:∃ x,(s.key==jo)=x:=⟨_,rfl⟩;have hG:=hJ.out;rw[← za7,h0]at hG;have hg:=zjw s.key Hkl.out;rw[h0]at hg;have h5:=za hG;have h4:=za (show(Tryz.prog.info? 24).map (·.size)=some (zb s.key).length by rw[jb];simp[zb,Hkl.out]);clear h0 hG hJ;cases bk
       ·go_wp2_with fail
        refine(hQ.out _).mono ?_;rintro e w3 ⟨rfl,rfl⟩
        go_wp2_with(refine z8 24 _ rfl b (o+i * 97+1) rfl (zb s.key) _ ho.out z7 rfl h4.out rfl ?_)
        go_ret;exact⟨jf (by simpa using h5.out),HF.out⟩
       have ha:Hid ((okP (ze0 l i) (jm s)&&zl4 (some (jm s)) (l.drop (i+1)))=R):=za (by simpa using h5.out);clear h5
       go_wp2_with fail
       refine(hQ.out _).mono ?_;rintro e w3 ⟨rfl,rfl⟩
       go_upto_region 8 with(refine z8 24 _ rfl b (o+i * 97+1) rfl (zb s.key) _ ho.out z7 rfl h4.out rfl ?_)
       change Code.wp _ _ _ _ wr;obtain⟨wc,rfl⟩:∃ x:World,x=wr:=⟨_,rfl⟩;have hS:=HF;have Hrc:=hP;have Hbc:=Hbw;clear HF hP Hbw c0 ho hg h4 hQ hw;rcases Nat.eq_zero_or_pos i with hi0 | hi0
       ·subst hi0;have AK:decide ((0:Int)<((0:Nat):Int))=false:=rfl;have hJ:Hid (zl4 (some (jm s)) (l.drop 1)=R):=za (by have h:=ha.out;rw[show ze0 l 0=none from rfl,show okP none (jm s)=true from rfl,Bool.true_and]at h;exact h)
        go_upto_region 8 with(fail)
        refine wp_region_held_drew (S:=fun V=>Hid (Fr NoB wc V)) (by kernel_rfl) (za Fr.refl.drew) (fun hC=>?_);simp only[qV]
        iterate 16
         first
         | refine qt (v:=undef) rfl (Or.inr ⟨by rfl,rfl⟩) hC ?_
           try simp only[Act.put,qP]
         | refine qt (v:=?_) rfl (zv ⟨by rfl,?_⟩) hC ?_
           rotate_left
           ·intro W hI
            try simp only[qQ]
            go_simp
            try rw[if_neg (by omega)]
            try with_reducible rfl
           try simp only[Act.put,qP]
        refine wpAnyH_done (by kernel_rfl) ?_ _;have hN:=za (hS.out.trans' hC.out);clear hC
        go_wp2_with fail
        go_roundg (gk - 1)
        case measure=>omega
        case rel =>
         refine⟨1,by simp,by omega,by omega,hN.out,za ?_⟩;rw[show ze0 l 1=some (jm s) from zeo Hs.out];exact hJ.out
       obtain⟨j,rfl⟩:∃ j,i=j+1:=⟨i - 1,by omega⟩;obtain⟨s1,hO⟩:∃ s1,l[j]? = some s1:=⟨_,List.getElem?_eq_getElem (by omega)⟩;have hE:=List.mem_of_getElem? hO;have hM:l[j]'(by omega)=s1:=(List.getElem?_eq_some_iff.1 hO).2;have hV:=Hr.out j (by omega);rw[hM]at hV;have hT:=je hV hS.out hb (fun _ h=>h);have hH:=Sg.size (Hok.out s1 hE).1;have hD:=fun W=>zbq s1 W (Hok.out s1 hE).1 (Hok.out s1 hE).2
       have hG:=ha.out;rw[show ze0 l (j+1)=some (jm s1) from zeo hO]at hG;rw[show okP (some (jm s1)) (jm s)=Op.bytesLess (jm s1) (jm s) from rfl]at hG;obtain⟨d,hu,hd⟩:=zbv;have Hu:=za hu;have Hd:=za hd;obtain⟨B,hB⟩:∃ B,jm s=B:=⟨_,rfl⟩;obtain⟨A,hA⟩:∃ A,jm s1=A:=⟨_,rfl⟩;rw[hA]at hG;simp only[hA]at hD;rw[hB]at hG;have hL:=Hsg.out;simp only[hB]at hL;obtain⟨x1,hp⟩:∃ x,Op.bytesLess A B=x:=⟨_,rfl⟩;rw[hp]at hG;obtain⟨c1,hj⟩:∃ c,s1.cells=c:=⟨_,rfl⟩;simp only[hj]at hD hH hT;have h3:Hid ((Tryz.prog.info? 54).map (·.size)=some c1.toList.length):=za (by rw[qy];simp[hH]);have hZ:=za hT;have hY:=za hD;have hX:=za hL;have hJ:=za hG;have HB:=za hB;have AJ:decide ((0:Int)<(((j+1:Nat)):Int))=true:=decide_eq_true (by omega);have hz:decide ((0:Int)<(j:Int)+1)=true:=decide_eq_true (by omega);have AG:IntKind.i64.wrap (j:Int)=j:=by rw[IntKind.wrap_i64];omega
       have AI:(j:Int)<l.length:=by omega
       have hy:(j:Int)+1<l.length:=by omega
       have AN:(0:Int)≤(j:Int)+1:=by omega
       have AH:((j:Int)+1).toNat=j+1:=by omega
       clear hO hE hM hV hT hH hD hG hL hB hA hj hu hd ha
       go_upto_region 8 with(fail)
       refine wp_region_held_drew (S:=fun V=>Hid (Fr NoB wc V)) (by kernel_rfl) (za Fr.refl.drew) (fun hC=>?_);simp only[qV]
       iterate 7
        refine qt (v:=?_) rfl (zv ⟨by rfl,?_⟩) hC ?_;rotate_left
        ·intro W hI
         try simp only[qQ]
         go_simp
         try rw[if_neg (by omega)]
         try with_reducible rfl
        try simp only[Act.put,qP]
       refine qi (i:=7) rfl (zj (by rfl) 54 _ rfl b (o+j * 97) rfl c1.toList d (fun V h=>je hZ.out h.out Hbc.out (fun _ h=>h)) Hu.out Hd.out h3.out) hC ?_
       try simp only[Act.put,qP]
       refine qi (i:=9) (v:=?_) rfl (zv ⟨by rfl,?_⟩) hC ?_;rotate_left
       ·intro W hI
        try simp only[qQ]
        go_simp
        try rw[if_neg (by omega)]
        try with_reducible rfl
       try simp only[Act.put,qP]
       refine qi (i:=10) (v:=?_) rfl (zv ⟨by rfl,?_⟩) hC ?_;rotate_left
       ·intro W hI
        try simp only[qQ]
        go_simp
        try rw[if_neg (by omega)]
        try with_reducible rfl
       try simp only[Act.put,qP]
       refine qi (i:=11) (v:=?_) rfl (zv ⟨by rfl,?_⟩) hC ?_;rotate_left
       ·intro W hI
        try simp only[qQ]
        go_simp
        try rw[if_neg (by omega)]
        try with_reducible rfl
       try simp only[Act.put,qP]
       refine qi (i:=12) rfl (zj (by rfl) 54 _ rfl b (o+(j+1) * 97) rfl cs.toList d (fun V h=>je Hrc.out h.out Hbc.out (fun _ h=>h)) Hu.out Hd.out Hz.out) hC ?_
       try simp only[Act.put,qP]
       refine qr (i:=8) (by kernel_rfl) rfl (fun K hK=>?_)
       try simp only[qQ]
       go_simp;refine(hY.out _).mono ?_;rintro r w9 ⟨rfl,h2⟩;refine hK.out _ _ (za (hC.out.trans' h2)) (fun hC=>?_);clear hK K
       try simp only[Act.put,qP]
       refine qr (i:=13) (by kernel_rfl) rfl (fun K hK=>?_)
       try simp only[qQ]
       go_simp;refine(hX.out _).mono ?_;rintro r AF ⟨rfl,hW⟩;refine hK.out _ _ (za (hC.out.trans' hW)) (fun hC=>?_);clear hK K
       try simp only[Act.put,qP]
       cases x1
       ·iterate 2
         refine qt (v:=?_) rfl (zv ⟨by rfl,?_⟩) hC ?_;rotate_left
         ·intro W hI
          try simp only[qQ]
          go_simp
          try rw[if_neg (by omega)]
          try with_reducible rfl
         try simp only[Act.put,qP]
        refine wpAnyH_done (by kernel_rfl) ?_ _;have hN:=za (hS.out.trans' hC.out);clear hC
        go_wp2_with fail
        go_ret;exact⟨jf (by simpa using hJ.out),hN.out⟩
       iterate 2
        refine qt (v:=?_) rfl (zv ⟨by rfl,?_⟩) hC ?_;rotate_left
        ·intro W hI
         try simp only[qQ]
         go_simp
         try rw[if_neg (by omega)]
         try with_reducible rfl
        try simp only[Act.put,qP]
       refine wpAnyH_done (by kernel_rfl) ?_ _;have hN:=za (hS.out.trans' hC.out);clear hC
       go_wp2_with fail
       go_roundg (gk - 1)
       case measure=>omega
       case rel =>
        refine⟨j+1+1,by simp,by omega,by omega,hN.out,za ?_⟩;rw[show ze0 l (j+1+1)=some (jm s) from zeo Hs.out,HB.out];simpa using hJ.out
  obtain rfl:i=l.length:=by omega
  have hx:decide ((l.length:Int)<l.length)=false:=by simp
  have hG:=HG.out;rw[List.drop_of_length_le (Nat.le_refl _)]at hG;have he:Hid (true=R):=za (by rw[← hG];cases ze0 l l.length<;>rfl);clear hG HG
  go_wp2_with fail
  go_ret;exact⟨jf he.out,HF.out⟩
end
section
open Go.RowKit
variable [OldK]
def zup (p:Bs):Bool:=(zd6 p).isSome
theorem zve (a:Bs)(ha:a.length=32)(w:World) :
 (Op.equalIn 10000 23 (.agg (zb a).toArray) (.agg #[zy z6 0,zy z6 0,zy z6 0,zy z6 0,zy z6 0,zy z6 0,zy z6 0,zy z6 0,zy z6 0,zy z6 0,zy z6 0,zy z6 0,zy z6 0,zy z6 0,zy z6 0,zy z6 0,zy z6 0,zy z6 0,zy z6 0,zy z6 0,zy z6 0,zy z6 0,zy z6 0,zy z6 0,zy z6 0,zy z6 0,zy z6 0,zy z6 0,zy z6 0,zy z6 0,zy z6 0,zy z6 0])).run Tryz.prog w = .ok (a==jo) w:=by
 rw[← zg8];exact znz a jo ha rfl w
theorem zsd (S S':Nat→Prop) (e:En) (pv sv:Value) (w:World) (hf:Fine S S' e pv sv w) :
 Calls Tryz.prog 54 #[.agg (e.cells pv sv).toArray] w fun r w'=>r = .returned (.bool (zkp zup e))∧Fr NoB w w':=by
 obtain⟨a1,c1,rfl⟩:=hf.pay.form;obtain⟨a3,c3,rfl,-⟩:=id hf.sgs;have hA:=heap_alloc_new w (.cells (e.cells (.slice a1 e.payload.length c1) (.slice a3 e.sigs.length c3)).toArray 39);have hF:Fr NoB w (w.alloc (.cells (e.cells (.slice a1 e.payload.length c1) (.slice a3 e.sigs.length c3)).toArray 39)):=Fr.refl.alloc _;have hB:=fun(V:World) (b:Nat) (hV:V.heap[b]? = some (.cells (e.cells (.slice a1 e.payload.length c1) (.slice a3 e.sigs.length c3)).toArray 39 (0,0)))=>En.parts (b:=b) (w:=V) hf.ok (by simpa using jg hV)
 have hE:=zps e.sigs (.slice a3 e.sigs.length c3) _ (hf.fr hF).sgs (fun s hs=>⟨hf.ok.2.2 s hs,hf.ids s hs⟩);have hH:=fun V=>zir e.typ V hf.typ
 have hJ:=fun V=>ziu e.ident V hf.idn
 have hI:=fun V (hV:Fr NoB w V)=>zji S e.payload (.slice a1 e.payload.length c1) V (hf.fr hV).pay (hf.fr hV).gl hf.len
 have hi:=fun V=>zjw e.key hf.ok.2.1 V
 have hj:=fun V=>zve e.digest hf.ok.1 V
 have hT:=ja e.digest;rw[hf.ok.1]at hT;have hS:=ja e.key;rw[hf.ok.2.1]at hS;clear hf;obtain⟨R,hR⟩:∃ x,zkp zup e=x:=⟨_,rfl⟩;rw[hR];unfold zkp zup at hR;obtain⟨k,dg,typ,pay,op,idn,key,sgs⟩:=e;simp only at hB hE hH hJ hI hi hj hT hS hR hA hF;obtain⟨h2,hK⟩:∃ x,zkl sgs=x:=⟨_,rfl⟩;obtain⟨hP,hk⟩:∃ x,typ.isEmpty=x:=⟨_,rfl⟩;obtain⟨h3,hL⟩:∃ x,zck typ=x:=⟨_,rfl⟩;obtain⟨zn3,hU⟩:∃ x,((pay.length:Int)==0)=x:=⟨_,rfl⟩;obtain⟨ha,hY⟩:∃ x,decide ((pay.length:Int)≤2048)=x:=⟨_,rfl⟩;obtain⟨hZ,hX⟩:∃ x,(op==0)=x:=⟨_,rfl⟩;obtain⟨h6,hl⟩:∃ x,idn.isEmpty=x:=⟨_,rfl⟩;obtain⟨h5,hN⟩:∃ x,(key==jo)=x:=⟨_,rfl⟩;obtain⟨hQ,hO⟩:∃ x,(dg==jo)=x:=⟨_,rfl⟩;obtain⟨RS,ho⟩:∃ x,zd6 pay=x:=⟨_,rfl⟩;obtain⟨b1,AA⟩:∃ x,decide (1≤op)=x:=⟨_,rfl⟩;obtain⟨b3,h9⟩:∃ x,decide (op≤3)=x:=⟨_,rfl⟩;obtain⟨h4,hM⟩:∃ x,zbn idn=x:=⟨_,rfl⟩;obtain⟨h7,hm⟩:∃ x,(op != 3)=x:=⟨_,rfl⟩;obtain⟨bB,hn⟩:∃ x,(hZ&&(h6&&h5))=x:=⟨_,rfl⟩
 have HP:Hid ((h2&&(if k=1 then hP&&(zn3&&bB) else if k=2 then hQ&&(h3&&(ha&&bB)) else if k=3 then hQ&&(hP&&(RS.isSome&&bB)) else if k=4 then hQ&&(hP&&(zn3&&(b1&&(b3&&(h4&&(h7||h5)))))) else false))=R):=za (by
  rw[← hR,← hn,← hK,← hk,← hL,← hU,← hY,← hX,← hl,← hN,← hO,← ho,← AA,← h9,← hM,← hm,za7,za7,ieq op 0];have e1:((pay.length:Int)==0)=pay.isEmpty:=by rw[show((0:Int))=((0:Nat):Int) from rfl,leq];cases pay<;>simp
  have e2:decide ((pay.length:Int)≤2048)=decide (pay.length≤2048):=decide_eq_decide.2 (by omega);have e3:(op != 3)=decide (op≠3):=by rw[bne,ieq,← decide_not]
  rw[e1,e2,e3])
 rw[hK]at hE;simp only[hL]at hH;simp only[hM]at hJ;simp only[ho]at hI;simp only[hN]at hi;simp only[hO]at hj;have HB:=za hn;obtain⟨C,hC⟩:∃ x,En.cells ⟨k,dg,typ,pay,op,idn,key,sgs⟩ (.slice a1 pay.length c1) (.slice a3 sgs.length c3)=x:=⟨_,rfl⟩;obtain⟨DC,h1⟩:∃ x,zb dg=x:=⟨_,rfl⟩;obtain⟨KC,h0⟩:∃ x,zb key=x:=⟨_,rfl⟩;simp only[hC,h1,h0]at hB hE hi hj hT hS hA hF ⊢;have Hkz:Hid ((Tryz.prog.info? 24).map (·.size)=some KC.length):=za (by rw[jb,hS]);have Hdz:Hid ((Tryz.prog.info? 23).map (·.size)=some DC.length):=za (by rw[jz,hT]);clear hK hL hM ho hN hO hn hC h1 h0 hR hT hS;go_enter Tryz.func54,Tryz.ntmps54
 go_upto_region 1 with(fail)
 change Code.wp _ _ _ _ (w.alloc (.cells C.toArray 39));obtain⟨W,hW⟩:∃ x,w.alloc (.cells C.toArray 39)=x:=⟨_,rfl⟩;rw[hW]at hE hA hF ⊢;obtain⟨p,hp⟩:∃ x,w.heap.size=x:=⟨_,rfl⟩;rw[hp]at hA ⊢;have Hsig:=za hE;have Htyp:=za hH;have Hnam:=za hJ;have Hsub:=za hI;have HA:=za hA;have HF:=za hF;have Hparts:=za hB;clear hE hH hJ hI hA hF hB hW hp;obtain⟨c0,cD,hb,hy,hx,hw,cK,hu⟩:=Hparts.out W p HA.out;clear cD cK
 go_wp2_with fail
 refine Hsig.out.mono ?_;rintro r w1 ⟨rfl,ht⟩;have hD:=za (HF.out.trans' ht);have h8:=za (ht.block _ _ HA.out (fun h=>h));clear ht HF HA Hsig c0 hb hy hx hw hu;cases h2
 ·go_wp2_with fail
  go_ret;exact⟨jf (by simpa using HP.out),hD.out⟩
 obtain⟨c0,cD,hb,hy,hx,hw,cK,hu⟩:=Hparts.out w1 p h8.out;have HD:=za cD;have HK:=za cK;clear cD cK
 go_upto_region 4 with(fail)
 go_cut [4] from 16 to 29 (fun v4 wr=>v4 = .bool bB∧w1=wr)
 case first =>
  as_aux_lemma =>
   cases hZ
   ·go_wp2_with fail
    go_meet
    case rel=>exact⟨congrArg Value.bool (by simpa using HB.out),rfl⟩
   cases h6
   ·go_wp2_with fail
    go_meet
    case rel=>exact⟨congrArg Value.bool (by simpa using HB.out),rfl⟩
   go_wp2_with(with_reducible refine z8 24 _ rfl p 37 rfl KC (.array 32 5) HK.out z7 rfl Hkz.out rfl ?_)
   go_meet
   case rel=>exact⟨congrArg Value.bool (by simpa using HB.out),rfl⟩
 case rest =>
  obtain⟨rfl,rfl⟩:=hcut;clear HB;by_cases hh:k=1
  ·subst hh;cases hP
   ·go_wp2_with (first
     | (with_reducible refine zi rfl 23 _ rfl p 1 rfl DC (.array 32 5) HD.out ji rfl Hdz.out ?_)
     | (with_reducible refine z8 24 _ rfl p 37 rfl KC (.array 32 5) HK.out z7 rfl Hkz.out rfl ?_))
    go_ret;exact⟨jf (by simpa using HP.out),hD.out⟩
   cases zn3
   ·go_wp2_with (first
     | (with_reducible refine zi rfl 23 _ rfl p 1 rfl DC (.array 32 5) HD.out ji rfl Hdz.out ?_)
     | (with_reducible refine z8 24 _ rfl p 37 rfl KC (.array 32 5) HK.out z7 rfl Hkz.out rfl ?_))
    go_ret;exact⟨jf (by simpa using HP.out),hD.out⟩
   go_wp2_with (first
    | (with_reducible refine zi rfl 23 _ rfl p 1 rfl DC (.array 32 5) HD.out ji rfl Hdz.out ?_)
    | (with_reducible refine z8 24 _ rfl p 37 rfl KC (.array 32 5) HK.out z7 rfl Hkz.out rfl ?_))
   go_ret;exact⟨jf (by simpa using HP.out),hD.out⟩
  have g1:(k==1)=false:=by rw[beq_eq_false_iff_ne];exact hh
  by_cases hg:k=2
  ·subst hg;cases hQ
   ·go_wp2_with (first
     | (with_reducible refine zi rfl 23 _ rfl p 1 rfl DC (.array 32 5) HD.out ji rfl Hdz.out ?_)
     | (with_reducible refine z8 24 _ rfl p 37 rfl KC (.array 32 5) HK.out z7 rfl Hkz.out rfl ?_))
    go_ret;exact⟨jf (by simpa using HP.out),hD.out⟩
   go_wp2_with (first
    | (with_reducible refine zi rfl 23 _ rfl p 1 rfl DC (.array 32 5) HD.out ji rfl Hdz.out ?_)
    | (with_reducible refine z8 24 _ rfl p 37 rfl KC (.array 32 5) HK.out z7 rfl Hkz.out rfl ?_))
   refine(Htyp.out _).mono ?_;rintro r w2 ⟨rfl,rfl⟩;cases h3
   ·go_wp2_with (first
     | (with_reducible refine zi rfl 23 _ rfl p 1 rfl DC (.array 32 5) HD.out ji rfl Hdz.out ?_)
     | (with_reducible refine z8 24 _ rfl p 37 rfl KC (.array 32 5) HK.out z7 rfl Hkz.out rfl ?_))
    go_ret;exact⟨jf (by simpa using HP.out),hD.out⟩
   cases ha
   ·go_wp2_with (first
     | (with_reducible refine zi rfl 23 _ rfl p 1 rfl DC (.array 32 5) HD.out ji rfl Hdz.out ?_)
     | (with_reducible refine z8 24 _ rfl p 37 rfl KC (.array 32 5) HK.out z7 rfl Hkz.out rfl ?_))
    go_ret;exact⟨jf (by simpa using HP.out),hD.out⟩
   go_wp2_with (first
    | (with_reducible refine zi rfl 23 _ rfl p 1 rfl DC (.array 32 5) HD.out ji rfl Hdz.out ?_)
    | (with_reducible refine z8 24 _ rfl p 37 rfl KC (.array 32 5) HK.out z7 rfl Hkz.out rfl ?_))
   go_ret;exact⟨jf (by simpa using HP.out),hD.out⟩
  have g2:(k==2)=false:=by rw[beq_eq_false_iff_ne];exact hg
  by_cases he:k=3
  ·subst he
   go_wp2_with (first
    | (with_reducible refine zi rfl 23 _ rfl p 1 rfl DC (.array 32 5) HD.out ji rfl Hdz.out ?_)
    | (with_reducible refine z8 24 _ rfl p 37 rfl KC (.array 32 5) HK.out z7 rfl Hkz.out rfl ?_))
   refine(Hsub.out _ hD.out).mono ?_;rintro r w2 ⟨hG,hq⟩;have hc:=za (hD.out.trans' hq);have AC:=za (hq.block _ _ h8.out (fun h=>h))
   obtain ⟨vs,hr⟩:∃ v,r = .returned (.tuple #[v,.bool RS.isSome]):=by
    cases RS with
    | none=>exact⟨_,hG⟩
    | some l=>exact⟨_,hG.choose_spec.1⟩
   subst hr;obtain⟨bS,hz⟩:∃ x,RS.isSome=x:=⟨_,rfl⟩;rw[hz]at HP ⊢;clear hq hG c0 hb hy hx hw hu HD HK hz;obtain⟨c0,-,hb,-,-,-,-,-⟩:=Hparts.out w2 p AC.out;cases hQ
   ·go_wp2_with fail
    go_ret;exact⟨jf (by simpa using HP.out),hc.out⟩
   cases hP
   ·go_wp2_with fail
    go_ret;exact⟨jf (by simpa using HP.out),hc.out⟩
   cases bS
   ·go_wp2_with fail
    go_ret;exact⟨jf (by simpa using HP.out),hc.out⟩
   go_wp2_with fail
   go_ret;exact⟨jf (by simpa using HP.out),hc.out⟩
  have g3:(k==3)=false:=by rw[beq_eq_false_iff_ne];exact he
  by_cases hd:k=4
  ·subst hd;cases hQ
   ·go_wp2_with (first
     | (with_reducible refine zi rfl 23 _ rfl p 1 rfl DC (.array 32 5) HD.out ji rfl Hdz.out ?_)
     | (with_reducible refine z8 24 _ rfl p 37 rfl KC (.array 32 5) HK.out z7 rfl Hkz.out rfl ?_))
    go_ret;exact⟨jf (by simpa using HP.out),hD.out⟩
   cases hP
   ·go_wp2_with (first
     | (with_reducible refine zi rfl 23 _ rfl p 1 rfl DC (.array 32 5) HD.out ji rfl Hdz.out ?_)
     | (with_reducible refine z8 24 _ rfl p 37 rfl KC (.array 32 5) HK.out z7 rfl Hkz.out rfl ?_))
    go_ret;exact⟨jf (by simpa using HP.out),hD.out⟩
   cases zn3
   ·go_wp2_with (first
     | (with_reducible refine zi rfl 23 _ rfl p 1 rfl DC (.array 32 5) HD.out ji rfl Hdz.out ?_)
     | (with_reducible refine z8 24 _ rfl p 37 rfl KC (.array 32 5) HK.out z7 rfl Hkz.out rfl ?_))
    go_ret;exact⟨jf (by simpa using HP.out),hD.out⟩
   cases b1
   ·go_wp2_with (first
     | (with_reducible refine zi rfl 23 _ rfl p 1 rfl DC (.array 32 5) HD.out ji rfl Hdz.out ?_)
     | (with_reducible refine z8 24 _ rfl p 37 rfl KC (.array 32 5) HK.out z7 rfl Hkz.out rfl ?_))
    go_ret;exact⟨jf (by simpa using HP.out),hD.out⟩
   cases b3
   ·go_wp2_with (first
     | (with_reducible refine zi rfl 23 _ rfl p 1 rfl DC (.array 32 5) HD.out ji rfl Hdz.out ?_)
     | (with_reducible refine z8 24 _ rfl p 37 rfl KC (.array 32 5) HK.out z7 rfl Hkz.out rfl ?_))
    go_ret;exact⟨jf (by simpa using HP.out),hD.out⟩
   go_wp2_with (first
    | (with_reducible refine zi rfl 23 _ rfl p 1 rfl DC (.array 32 5) HD.out ji rfl Hdz.out ?_)
    | (with_reducible refine z8 24 _ rfl p 37 rfl KC (.array 32 5) HK.out z7 rfl Hkz.out rfl ?_))
   refine(Hnam.out _).mono ?_;rintro r w2 ⟨rfl,rfl⟩;cases h4
   ·go_wp2_with (first
     | (with_reducible refine zi rfl 23 _ rfl p 1 rfl DC (.array 32 5) HD.out ji rfl Hdz.out ?_)
     | (with_reducible refine z8 24 _ rfl p 37 rfl KC (.array 32 5) HK.out z7 rfl Hkz.out rfl ?_))
    go_ret;exact⟨jf (by simpa using HP.out),hD.out⟩
   cases h7
   ·go_wp2_with (first
     | (with_reducible refine zi rfl 23 _ rfl p 1 rfl DC (.array 32 5) HD.out ji rfl Hdz.out ?_)
     | (with_reducible refine z8 24 _ rfl p 37 rfl KC (.array 32 5) HK.out z7 rfl Hkz.out rfl ?_))
    go_ret;exact⟨jf (by simpa using HP.out),hD.out⟩
   go_wp2_with (first
    | (with_reducible refine zi rfl 23 _ rfl p 1 rfl DC (.array 32 5) HD.out ji rfl Hdz.out ?_)
    | (with_reducible refine z8 24 _ rfl p 37 rfl KC (.array 32 5) HK.out z7 rfl Hkz.out rfl ?_))
   go_ret;exact⟨jf (by simpa using HP.out),hD.out⟩
  have g4:(k==4)=false:=by rw[beq_eq_false_iff_ne];exact hd
  have AB:Hid (false=R):=za (by have h:=HP.out;rw[if_neg hh,if_neg hg,if_neg he,if_neg hd]at h;simpa using h)
  go_wp2_with(with_reducible refine zi rfl 23 _ rfl p 1 rfl DC (.array 32 5) HD.out ji rfl Hdz.out ?_)
  go_ret;exact⟨jf AB.out,hD.out⟩
end
section
open Go.RowKit Go.Shelf
variable [OldK]
theorem zvk (k:Bs)(h:k.length=32):Tryz.prog.built 54 [(1,.agg (zb k).toArray)]=some (Sg.cells ⟨[],k,zb0⟩):=by
 obtain⟨x0,x1,x2,x3,x4,x5,x6,x7,x8,x9,x10,x11,x12,x13,x14,x15,x16,x17,x18,x19,x20,x21,x22,x23,x24,x25,x26,x27,x28,x29,x30,x31,rfl⟩:=zky k h
 kernel_rfl
theorem zal {a b:Nat}(h:a=b):Ending.returned (.int .i64 a) = .returned (.int .i64 b):=by rw[h]
theorem zwg (C:List Value)(h:C.length=32):(Tryz.prog.info? 24).map (·.size)=some C.toArray.size:=by rw[jb,List.size_toArray,h]
theorem zwf (C:List Value)(h:C.length=32):(#[zy z6 0,zy z6 0,zy z6 0,zy z6 0,zy z6 0,zy z6 0,zy z6 0,zy z6 0,zy z6 0,zy z6 0,zy z6 0,zy z6 0,zy z6 0,zy z6 0,zy z6 0,zy z6 0,zy z6 0,zy z6 0,zy z6 0,zy z6 0,zy z6 0,zy z6 0,zy z6 0,zy z6 0,zy z6 0,zy z6 0,zy z6 0,zy z6 0,zy z6 0,zy z6 0,zy z6 0,zy z6 0]:Array Value).size=C.toArray.size:=by rw[show C.toArray.size=32 by rw[List.size_toArray,h]];rfl
theorem zit (S S':Nat→Prop) (e:En) (pv sv:Value) (n:Bs) (w:World) (hf:Fine S S' e pv sv w) :
 Calls Tryz.prog 71 #[.agg (e.cells pv sv).toArray,.string ⟨n.toArray⟩] w fun r w'=>r = .returned (.bool (za9 e n))∧Fr NoB w w':=by
 obtain⟨a3,c3,rfl,he,hD⟩:=id hf.sgs;have hA:=heap_alloc_new w (.cells (e.cells pv (.slice a3 e.sigs.length c3)).toArray 39);have hF:Fr NoB w (w.alloc (.cells (e.cells pv (.slice a3 e.sigs.length c3)).toArray 39)):=Fr.refl.alloc _;have hQ:=hf.ok.2.2;have hE:=hf.ids;have hH:=hf.many;have hI:∀ V:World,V.heap[w.heap.size]? = some (.cells (e.cells pv (.slice a3 e.sigs.length c3)).toArray 39 (0,0))→V.cell? ⟨w.heap.size,69,none⟩=some (.slice a3 e.sigs.length c3):=fun V hV=>(En.parts (b:=w.heap.size) (w:=V) hf.ok (by simpa using jg hV)).2.2.2.2.2.2.2
 obtain⟨R,hR⟩:∃ x,za9 e n=x:=⟨_,rfl⟩;rw[hR];unfold za9 at hR;obtain⟨l,hl⟩:∃ x,e.sigs=x:=⟨_,rfl⟩;rw[hl]at hR hD he hQ hE hH hA hF hI;rw[hl];obtain⟨C,hC⟩:∃ x,e.cells pv (.slice a3 l.length c3)=x:=⟨_,rfl⟩;rw[hC]at hA hF hI ⊢;clear hf hl hC;have HR:Hid ((l.drop 0).any (fun s=>decide (jm s=n))=R):=za hR;have Hok:=za hQ;have Hids:=za hE;have Hrow:=za hD;clear hR hQ hE hD;go_enter Tryz.func71,Tryz.ntmps71
 go_upto_region 1 with(fail)
 change Code.wp _ _ _ _ (w.alloc (.cells C.toArray 39));obtain⟨W,hW⟩:∃ x,w.alloc (.cells C.toArray 39)=x:=⟨_,rfl⟩;rw[hW]at hA hF ⊢;obtain⟨p,hp⟩:∃ x,w.heap.size=x:=⟨_,rfl⟩;rw[hp]at hA hI ⊢;have HA:=za hA;have HF:=za hF;have hh:=za hI;clear hW hp hA hF hI
 go_wp2_with fail
 go_loopg [5] (l.length+1) (fun gf vi wr=>∃ i:Nat,vi = .int .i64 i∧i≤l.length∧i+gf=l.length+1∧Hid (Fr NoB W wr)∧Hid ((l.drop i).any (fun s=>decide (jm s=n))=R))
 case atStart=>exact⟨0,rfl,by omega,by omega,za Fr.refl,HR⟩
 case round =>
  obtain⟨i,rfl,hi,hig,hN,HG⟩:=hrel;have hg:=hh.out wr (hN.out.block _ _ HA.out (fun h=>h));by_cases hL:i<l.length
  ·have hS:decide ((i:Int)<l.length)=true:=decide_eq_true (by omega);obtain⟨s,hs⟩:∃ s,l[i]? = some s:=⟨_,List.getElem?_eq_getElem hL⟩;have hJ:=List.mem_of_getElem? hs;have hU:l[i]=s:=(List.getElem?_eq_some_iff.1 hs).2;rcases Hrow.out with h0 | ⟨b,o,rfl,-,hb,hr⟩
   ·rw[h0]at hL;cases hL
   have hT:=hr i hL;rw[hU]at hT;have hbw:=Nat.lt_of_lt_of_le hb HF.out.size;have hP:=je hT (HF.out.trans' hN.out) hb (fun _ h=>h);have hO:=Sg.size (Hok.out s hJ);have hK:=zbq s wr (Hok.out s hJ) (Hids.out s hJ);have hG:=HG.out;rw[zc2 hs,List.any_cons]at hG;obtain⟨d,hu,hd⟩:=zbv;have Hu:=za hu;have Hd:=za hd;have hX:(jm s==n)=decide (jm s=n):=za7 _ _;obtain⟨bq,hZ⟩:∃ x,decide (jm s=n)=x:=⟨_,rfl⟩;rw[hZ]at hG hX;obtain⟨B,hB⟩:∃ B,jm s=B:=⟨_,rfl⟩;rw[hB]at hK hX;obtain⟨cs,hY⟩:∃ c,s.cells=c:=⟨_,rfl⟩;rw[hY]at hK hO hP;have Hz:Hid ((Tryz.prog.info? 54).map (·.size)=some cs.toList.length):=za (by rw[qy];simp[hO]);have Hsg:=za hK;have Hrc:=za hP;have hM:=za hG;clear hs hJ hU hr hT hP hO hK hG hu hd hB hY hZ HG
   go_wp2_with(with_reducible refine zi rfl 54 _ rfl b (o+i * 97) rfl cs.toList d Hrc.out Hu.out Hd.out Hz.out ?_)
   refine Hsg.out.mono ?_;rintro r w2 ⟨rfl,ha⟩;have hc:=za (hN.out.trans' ha);clear ha hg;cases bq
   ·go_wp2_with fail
    go_roundg (gk - 1)
    case measure=>omega
    case rel=>exact⟨i+1,by simp,by omega,by omega,hc,za (by simpa using hM.out)⟩
   go_wp2_with fail
   go_ret;exact⟨jf (by simpa using hM.out),HF.out.trans' hc.out⟩
  obtain rfl:i=l.length:=by omega
  have hS:decide ((l.length:Int)<l.length)=false:=by simp
  have hG:=HG.out;rw[List.drop_of_length_le (Nat.le_refl _)]at hG;have hM:Hid (false=R):=za hG;clear hG HG
  go_wp2_with fail
  go_ret;exact⟨jf hM.out,HF.out.trans' hN.out⟩
theorem zop (S S':Nat→Prop) (m:List CameV) (v:Value) (e:En) (pv sv:Value) (w:World) (hm:CRow m v w) (hf:Fine S S' e pv sv w) :
 Calls Tryz.prog 33 #[v,.agg (e.cells pv sv).toArray] w fun r w'=>r = .returned (.int .i64 (zkr zup (m.map CameV.cm) e))∧Fr NoB w w':=by
 obtain⟨am,cm,hv⟩:=hm.form;subst hv;obtain⟨a3,c3,rfl,-⟩:=id hf.sgs;have hA:=heap_alloc_new w (.cells (e.cells pv (.slice a3 e.sigs.length c3)).toArray 39);have hF:Fr NoB w (w.alloc (.cells (e.cells pv (.slice a3 e.sigs.length c3)).toArray 39)):=Fr.refl.alloc _;have hP:∀ (V:World) (b:Nat),V.heap[b]? = some (.cells (e.cells pv (.slice a3 e.sigs.length c3)).toArray 39 (0,0))→V.rangeAt b 0 (e.cells pv (.slice a3 e.sigs.length c3)):=fun V b hV=>by simpa using jg hV
 have hL:=fun(V:World) (b:Nat) (hV:V.heap[b]? = some (.cells (e.cells pv (.slice a3 e.sigs.length c3)).toArray 39 (0,0)))=>En.parts (b:=b) (w:=V) hf.ok (hP V b hV)
 have hM:=fun V (hV:Fr NoB w V)=>zsd S S' e pv (.slice a3 e.sigs.length c3) V (hf.fr hV)
 have hZ:=fun V (hV:Fr NoB w V)=>zel m (.slice am m.length cm) e.ident V (hm.keep hV)
 have hO:=fun V (hV:Fr NoB w V)=>zsa m (.slice am m.length cm) e.key V (hm.keep hV) hf.ok.2.1
 have hQ:=fun V (hV:Fr NoB w V)=>zbq ⟨[],e.key,zb0⟩ V ⟨hf.ok.2.1,rfl⟩ (Nat.zero_le _)
 rw[show jm ⟨[],e.key,zb0⟩=zje++zcl e.key from rfl]at hQ;have hR:=fun V (hV:Fr NoB w V)=>zit S S' e pv (.slice a3 e.sigs.length c3) (zje++zcl e.key) V (hf.fr hV)
 have hS:=fun V (hV:Fr NoB w V)=>zit S S' e pv (.slice a3 e.sigs.length c3) e.ident V (hf.fr hV)
 have ha:=En.size hf.ok pv (.slice a3 e.sigs.length c3);have hU:=zvk e.key hf.ok.2.1;have hT:=ja e.key;rw[hf.ok.2.1]at hT;have hb:=zc8 hm.ok e.ident;clear hf hm;obtain⟨N,hN⟩:∃ x,zkr zup (m.map CameV.cm) e=x:=⟨_,rfl⟩;rw[hN];unfold zkr zw4 at hN;obtain⟨bG,hj⟩:∃ x,zkp zup e=x:=⟨_,rfl⟩;obtain⟨⟨bk,bh⟩,hc⟩:∃ x,zad (m.map CameV.cm) e.ident=x:=⟨_,rfl⟩;obtain⟨bw,hi⟩:∃ x,zsg (m.map CameV.cm) e.key=x:=⟨_,rfl⟩;obtain⟨b1,hl⟩:∃ x,za9 e (zje++zcl e.key)=x:=⟨_,rfl⟩;obtain⟨b2,hk⟩:∃ x,za9 e e.ident=x:=⟨_,rfl⟩;obtain⟨hg,hY⟩:∃ x,((e.sigs.length:Int)==1)=x:=⟨_,rfl⟩;obtain⟨hy,hX⟩:∃ x,((e.sigs.length:Int)==2)=x:=⟨_,rfl⟩;obtain⟨SK,ho⟩:∃ x,zje++zcl e.key=x:=⟨_,rfl⟩;rw[hc]at hb
 have HP:Hid ((if bG=false∨¬ e.kind=4 then 11 else if (if e.op=1 then !bh&&(!bw&&(hg&&b1)) else if e.op=2 then bh&&(!bw&&(hy&&(b1&&b2))) else if e.op=3 then bh&&(hg&&b2) else false)=true then 0 else 8)=N):=za (by
  rw[← hN,← hj,← hi,← hl,← hk,← hY,← hX,hc,show((1:Int))=((1:Nat):Int) from rfl,show((2:Int))=((2:Nat):Int) from rfl,leq,leq])
 simp only[hj]at hM;simp only[hc]at hZ;simp only[hi]at hO;simp only[hl]at hR;simp only[ho]at hR;simp only[hk]at hS;simp only[ho]at hQ;obtain⟨k,dg,h6,h7,op,h8,key,sgs⟩:=e;simp only at hL hP hM hZ hO hQ hR hS ha hU hT HP hA hF hb hY hX;obtain⟨C,hC⟩:∃ x,En.cells ⟨k,dg,h6,h7,op,h8,key,sgs⟩ pv (.slice a3 sgs.length c3)=x:=⟨_,rfl⟩;obtain⟨KC,hw⟩:∃ x,zb key=x:=⟨_,rfl⟩;have he:=ja bk;rw[hb]at he;have hq:=all_oneCell_toArray (j0 bk);obtain⟨BC,hx⟩:∃ x,zb bk=x:=⟨_,rfl⟩;obtain⟨SC,ht⟩:∃ x,Sg.cells ⟨[],key,zb0⟩=x:=⟨_,rfl⟩;simp only[hC,hw]at hL hP hM hO hR hS ha hU hT hA hF ⊢;simp only[hx]at hZ he hq;simp only[ht]at hU hQ;have Hkz:Hid ((Tryz.prog.info? 24).map (·.size)=some KC.length):=za (by rw[jb,hT]);have Hez:Hid ((Tryz.prog.info? 39).map (·.size)=some C.length):=za (by rw[ju,ha]);obtain⟨d,hu,hd⟩:=qv;have Hu:=za hu;have Hd:=za hd;have h5:=za he;have h9:=za hq;have Hbs:=za hU;have Hgood:=za hM;have Hbd:=za hZ;have Hwas:=za hO;have Hsk:=za hQ;have h0:=za hR;have hz:=za hS;have Hparts:=za hL;have Hent:=za hP;clear hN hj hc hi hl hk ho hC hw hx ht hu hd he hq hU hM hZ hO hQ hR hS hL hP ha hT hb;go_enter Tryz.func33,Tryz.ntmps33
 go_upto_region 1 with(fail)
 change Code.wp _ _ _ _ (w.alloc (.cells C.toArray 39));obtain⟨W,hW⟩:∃ x,w.alloc (.cells C.toArray 39)=x:=⟨_,rfl⟩;rw[hW]at hA hF ⊢;obtain⟨p,hp⟩:∃ x,w.heap.size=x:=⟨_,rfl⟩;rw[hp]at hA ⊢;have hD:=za hA;have hB:=za hF;clear hW hp hA hF;obtain⟨c0,-,-,-,hK,hJ,cK,hI⟩:=Hparts.out W p hD.out;have HE:=za (Hent.out W p hD.out);have HK:=za cK;clear cK c0
 go_wp2_with (first
  | (with_reducible refine zi rfl 39 _ rfl p 0 rfl C d HE.out Hu.out Hd.out Hez.out ?_)
  | (with_reducible refine z8 39 _ rfl p 0 rfl C d HE.out Hu.out Hd.out Hez.out rfl ?_)
  | (with_reducible refine z8 24 _ rfl p 37 rfl KC (.array 32 5) HK.out z7 rfl Hkz.out rfl ?_))
 refine(Hgood.out _ hB.out).mono ?_;rintro r w1 ⟨rfl,hE⟩;have hG:=za (hB.out.trans' hE);have hH:=za (hE.block _ _ hD.out (fun h=>h));clear hE hB hD hK hJ hI HE HK;have hB:=hG;have hD:=hH;clear hG hH;obtain⟨-,-,-,-,hK,hJ,cK,hI⟩:=Hparts.out w1 p hD.out;have HE:=za (Hent.out w1 p hD.out);have HK:=za cK;clear cK;obtain⟨c0,-,-,-,-,-,-,-⟩:=Hparts.out w1 p hD.out;cases bG
 ·go_wp2_with (first
   | (with_reducible refine zi rfl 39 _ rfl p 0 rfl C d HE.out Hu.out Hd.out Hez.out ?_)
   | (with_reducible refine z8 39 _ rfl p 0 rfl C d HE.out Hu.out Hd.out Hez.out rfl ?_)
   | (with_reducible refine z8 24 _ rfl p 37 rfl KC (.array 32 5) HK.out z7 rfl Hkz.out rfl ?_))
  go_ret;exact⟨zal (by simpa using HP.out),hB.out⟩
 by_cases h4:k=4;rotate_left
 ·have g4:(k==4)=false:=by rw[beq_eq_false_iff_ne];exact h4
  have hr:Hid (11=N):=za (by have h:=HP.out;rw[if_pos (.inr h4)]at h;exact h)
  go_wp2_with fail
  go_ret;exact⟨zal hr.out,hB.out⟩
 subst h4
 go_wp2_with (first
  | (with_reducible refine zi rfl 39 _ rfl p 0 rfl C d HE.out Hu.out Hd.out Hez.out ?_)
  | (with_reducible refine z8 39 _ rfl p 0 rfl C d HE.out Hu.out Hd.out Hez.out rfl ?_)
  | (with_reducible refine z8 24 _ rfl p 37 rfl KC (.array 32 5) HK.out z7 rfl Hkz.out rfl ?_))
 refine(Hbd.out _ hB.out).mono ?_;rintro r w2 ⟨rfl,hE⟩;have hG:=za (hB.out.trans' hE);have hH:=za (hE.block _ _ hD.out (fun h=>h));clear hE hB hD hK hJ hI HE HK;have hB:=hG;have hD:=hH;clear hG hH;obtain⟨-,-,-,-,hK,hJ,cK,hI⟩:=Hparts.out w2 p hD.out;have HE:=za (Hent.out w2 p hD.out);have HK:=za cK;clear cK;clear c0;have hh:=hB.out.alloc (.cells BC.toArray 24);have hn:=(Fr.alloc (M:=NoB) Fr.refl (.cells BC.toArray 24)).block _ _ hD.out (fun h=>h)
 go_upto_region 4 with((with_reducible refine jh (w:=w2) rfl 24 _ _ rfl _ BC.toArray w2.heap.size rfl ?_ ?_ (zwg BC h5.out) (zwf BC h5.out) h9.out ?_);rfl;rfl)
 change Code.wp _ _ _ _ (w2.alloc (.cells BC.toArray 24));obtain⟨w3,hs⟩:∃ x,w2.alloc (.cells BC.toArray 24)=x:=⟨_,rfl⟩;rw[hs]at hh hn ⊢;clear hs hB hD hK hJ hI HE HK;have hB:=za hh;have hD:=za hn;obtain⟨-,-,-,-,hK,hJ,cK,hI⟩:=Hparts.out w3 p hD.out;have HE:=za (Hent.out w3 p hD.out);have HK:=za cK;clear hh hn cK
 go_wp2_with (first
  | (with_reducible refine zi rfl 24 _ rfl p 37 rfl KC (.array 32 5) HK.out z7 rfl Hkz.out ?_)
  | ((with_reducible refine wpList_buildTo ?_ 54 _ rfl _ rfl SC ?_ ?_);rfl;(refine Eq.trans (congrArg (Tryz.prog.built 54) ?_) Hbs.out;kernel_rfl)))
 refine(Hsk.out _ hB.out).mono ?_;rintro r w4 ⟨rfl,hE⟩;have hG:=za (hB.out.trans' hE);have hH:=za (hE.block _ _ hD.out (fun h=>h));clear hE hB hD hK hJ hI HE HK;have hB:=hG;have hD:=hH;clear hG hH;obtain⟨-,-,-,-,hK,hJ,cK,hI⟩:=Hparts.out w4 p hD.out;have HE:=za (Hent.out w4 p hD.out);have HK:=za cK;clear cK Hsk Hgood Hbd;by_cases h1:op=1
 ·subst h1;cases bh;rotate_left
  ·go_wp2_with (first
    | (with_reducible refine zi rfl 39 _ rfl p 0 rfl C d HE.out Hu.out Hd.out Hez.out ?_)
    | (with_reducible refine z8 39 _ rfl p 0 rfl C d HE.out Hu.out Hd.out Hez.out rfl ?_)
    | (with_reducible refine z8 24 _ rfl p 37 rfl KC (.array 32 5) HK.out z7 rfl Hkz.out rfl ?_))
   go_ret;exact⟨zal (by simpa using HP.out),hB.out⟩
  go_wp2_with (first
   | (with_reducible refine zi rfl 39 _ rfl p 0 rfl C d HE.out Hu.out Hd.out Hez.out ?_)
   | (with_reducible refine z8 39 _ rfl p 0 rfl C d HE.out Hu.out Hd.out Hez.out rfl ?_)
   | (with_reducible refine z8 24 _ rfl p 37 rfl KC (.array 32 5) HK.out z7 rfl Hkz.out rfl ?_))
  refine(Hwas.out _ hB.out).mono ?_;rintro r w5 ⟨rfl,hE⟩;have hG:=za (hB.out.trans' hE);have hH:=za (hE.block _ _ hD.out (fun h=>h));clear hE hB hD hK hJ hI HE HK;have hB:=hG;have hD:=hH;clear hG hH;obtain⟨-,-,-,-,hK,hJ,cK,hI⟩:=Hparts.out w5 p hD.out;have HE:=za (Hent.out w5 p hD.out);have HK:=za cK;clear cK;cases bw;rotate_left
  ·go_wp2_with (first
    | (with_reducible refine zi rfl 39 _ rfl p 0 rfl C d HE.out Hu.out Hd.out Hez.out ?_)
    | (with_reducible refine z8 39 _ rfl p 0 rfl C d HE.out Hu.out Hd.out Hez.out rfl ?_)
    | (with_reducible refine z8 24 _ rfl p 37 rfl KC (.array 32 5) HK.out z7 rfl Hkz.out rfl ?_))
   go_ret;exact⟨zal (by simpa using HP.out),hB.out⟩
  cases hg
  ·go_wp2_with (first
    | (with_reducible refine zi rfl 39 _ rfl p 0 rfl C d HE.out Hu.out Hd.out Hez.out ?_)
    | (with_reducible refine z8 39 _ rfl p 0 rfl C d HE.out Hu.out Hd.out Hez.out rfl ?_)
    | (with_reducible refine z8 24 _ rfl p 37 rfl KC (.array 32 5) HK.out z7 rfl Hkz.out rfl ?_))
   go_ret;exact⟨zal (by simpa using HP.out),hB.out⟩
  go_wp2_with (first
   | (with_reducible refine zi rfl 39 _ rfl p 0 rfl C d HE.out Hu.out Hd.out Hez.out ?_)
   | (with_reducible refine z8 39 _ rfl p 0 rfl C d HE.out Hu.out Hd.out Hez.out rfl ?_)
   | (with_reducible refine z8 24 _ rfl p 37 rfl KC (.array 32 5) HK.out z7 rfl Hkz.out rfl ?_))
  refine(h0.out _ hB.out).mono ?_;rintro r w6 ⟨rfl,hE⟩;have hG:=za (hB.out.trans' hE);have hH:=za (hE.block _ _ hD.out (fun h=>h));clear hE hB hD hK hJ hI HE HK;have hB:=hG;have hD:=hH;clear hG hH;obtain⟨-,-,-,-,hK,hJ,cK,hI⟩:=Hparts.out w6 p hD.out;have HE:=za (Hent.out w6 p hD.out);have HK:=za cK;clear cK;cases b1
  ·go_wp2_with (first
    | (with_reducible refine zi rfl 39 _ rfl p 0 rfl C d HE.out Hu.out Hd.out Hez.out ?_)
    | (with_reducible refine z8 39 _ rfl p 0 rfl C d HE.out Hu.out Hd.out Hez.out rfl ?_)
    | (with_reducible refine z8 24 _ rfl p 37 rfl KC (.array 32 5) HK.out z7 rfl Hkz.out rfl ?_))
   go_ret;exact⟨zal (by simpa using HP.out),hB.out⟩
  go_wp2_with (first
   | (with_reducible refine zi rfl 39 _ rfl p 0 rfl C d HE.out Hu.out Hd.out Hez.out ?_)
   | (with_reducible refine z8 39 _ rfl p 0 rfl C d HE.out Hu.out Hd.out Hez.out rfl ?_)
   | (with_reducible refine z8 24 _ rfl p 37 rfl KC (.array 32 5) HK.out z7 rfl Hkz.out rfl ?_))
  go_ret;exact⟨zal (by simpa using HP.out),hB.out⟩
 have g1:(op==1)=false:=by rw[beq_eq_false_iff_ne];exact h1
 by_cases h2:op=2
 ·subst h2;cases bh
  ·go_wp2_with (first
    | (with_reducible refine zi rfl 39 _ rfl p 0 rfl C d HE.out Hu.out Hd.out Hez.out ?_)
    | (with_reducible refine z8 39 _ rfl p 0 rfl C d HE.out Hu.out Hd.out Hez.out rfl ?_)
    | (with_reducible refine z8 24 _ rfl p 37 rfl KC (.array 32 5) HK.out z7 rfl Hkz.out rfl ?_))
   go_ret;exact⟨zal (by simpa using HP.out),hB.out⟩
  go_wp2_with (first
   | (with_reducible refine zi rfl 39 _ rfl p 0 rfl C d HE.out Hu.out Hd.out Hez.out ?_)
   | (with_reducible refine z8 39 _ rfl p 0 rfl C d HE.out Hu.out Hd.out Hez.out rfl ?_)
   | (with_reducible refine z8 24 _ rfl p 37 rfl KC (.array 32 5) HK.out z7 rfl Hkz.out rfl ?_))
  refine(Hwas.out _ hB.out).mono ?_;rintro r w5 ⟨rfl,hE⟩;have hG:=za (hB.out.trans' hE);have hH:=za (hE.block _ _ hD.out (fun h=>h));clear hE hB hD hK hJ hI HE HK;have hB:=hG;have hD:=hH;clear hG hH;obtain⟨-,-,-,-,hK,hJ,cK,hI⟩:=Hparts.out w5 p hD.out;have HE:=za (Hent.out w5 p hD.out);have HK:=za cK;clear cK;cases bw;rotate_left
  ·go_wp2_with (first
    | (with_reducible refine zi rfl 39 _ rfl p 0 rfl C d HE.out Hu.out Hd.out Hez.out ?_)
    | (with_reducible refine z8 39 _ rfl p 0 rfl C d HE.out Hu.out Hd.out Hez.out rfl ?_)
    | (with_reducible refine z8 24 _ rfl p 37 rfl KC (.array 32 5) HK.out z7 rfl Hkz.out rfl ?_))
   go_ret;exact⟨zal (by simpa using HP.out),hB.out⟩
  cases hy
  ·go_wp2_with (first
    | (with_reducible refine zi rfl 39 _ rfl p 0 rfl C d HE.out Hu.out Hd.out Hez.out ?_)
    | (with_reducible refine z8 39 _ rfl p 0 rfl C d HE.out Hu.out Hd.out Hez.out rfl ?_)
    | (with_reducible refine z8 24 _ rfl p 37 rfl KC (.array 32 5) HK.out z7 rfl Hkz.out rfl ?_))
   go_ret;exact⟨zal (by simpa using HP.out),hB.out⟩
  go_wp2_with (first
   | (with_reducible refine zi rfl 39 _ rfl p 0 rfl C d HE.out Hu.out Hd.out Hez.out ?_)
   | (with_reducible refine z8 39 _ rfl p 0 rfl C d HE.out Hu.out Hd.out Hez.out rfl ?_)
   | (with_reducible refine z8 24 _ rfl p 37 rfl KC (.array 32 5) HK.out z7 rfl Hkz.out rfl ?_))
  refine(h0.out _ hB.out).mono ?_;rintro r w6 ⟨rfl,hE⟩;have hG:=za (hB.out.trans' hE);have hH:=za (hE.block _ _ hD.out (fun h=>h));clear hE hB hD hK hJ hI HE HK;have hB:=hG;have hD:=hH;clear hG hH;obtain⟨-,-,-,-,hK,hJ,cK,hI⟩:=Hparts.out w6 p hD.out;have HE:=za (Hent.out w6 p hD.out);have HK:=za cK;clear cK;cases b1
  ·go_wp2_with (first
    | (with_reducible refine zi rfl 39 _ rfl p 0 rfl C d HE.out Hu.out Hd.out Hez.out ?_)
    | (with_reducible refine z8 39 _ rfl p 0 rfl C d HE.out Hu.out Hd.out Hez.out rfl ?_)
    | (with_reducible refine z8 24 _ rfl p 37 rfl KC (.array 32 5) HK.out z7 rfl Hkz.out rfl ?_))
   go_ret;exact⟨zal (by simpa using HP.out),hB.out⟩
  go_wp2_with (first
   | (with_reducible refine zi rfl 39 _ rfl p 0 rfl C d HE.out Hu.out Hd.out Hez.out ?_)
   | (with_reducible refine z8 39 _ rfl p 0 rfl C d HE.out Hu.out Hd.out Hez.out rfl ?_)
   | (with_reducible refine z8 24 _ rfl p 37 rfl KC (.array 32 5) HK.out z7 rfl Hkz.out rfl ?_))
  refine(hz.out _ hB.out).mono ?_;rintro r w7 ⟨rfl,hE⟩;have hG:=za (hB.out.trans' hE);have hH:=za (hE.block _ _ hD.out (fun h=>h));clear hE hB hD hK hJ hI HE HK;have hB:=hG;have hD:=hH;clear hG hH;obtain⟨-,-,-,-,hK,hJ,cK,hI⟩:=Hparts.out w7 p hD.out;have HE:=za (Hent.out w7 p hD.out);have HK:=za cK;clear cK;cases b2
  ·go_wp2_with (first
    | (with_reducible refine zi rfl 39 _ rfl p 0 rfl C d HE.out Hu.out Hd.out Hez.out ?_)
    | (with_reducible refine z8 39 _ rfl p 0 rfl C d HE.out Hu.out Hd.out Hez.out rfl ?_)
    | (with_reducible refine z8 24 _ rfl p 37 rfl KC (.array 32 5) HK.out z7 rfl Hkz.out rfl ?_))
   go_ret;exact⟨zal (by simpa using HP.out),hB.out⟩
  go_wp2_with (first
   | (with_reducible refine zi rfl 39 _ rfl p 0 rfl C d HE.out Hu.out Hd.out Hez.out ?_)
   | (with_reducible refine z8 39 _ rfl p 0 rfl C d HE.out Hu.out Hd.out Hez.out rfl ?_)
   | (with_reducible refine z8 24 _ rfl p 37 rfl KC (.array 32 5) HK.out z7 rfl Hkz.out rfl ?_))
  go_ret;exact⟨zal (by simpa using HP.out),hB.out⟩
 have g2:(op==2)=false:=by rw[beq_eq_false_iff_ne];exact h2
 by_cases h3:op=3
 ·subst h3;cases bh
  ·go_wp2_with (first
    | (with_reducible refine zi rfl 39 _ rfl p 0 rfl C d HE.out Hu.out Hd.out Hez.out ?_)
    | (with_reducible refine z8 39 _ rfl p 0 rfl C d HE.out Hu.out Hd.out Hez.out rfl ?_)
    | (with_reducible refine z8 24 _ rfl p 37 rfl KC (.array 32 5) HK.out z7 rfl Hkz.out rfl ?_))
   go_ret;exact⟨zal (by simpa using HP.out),hB.out⟩
  cases hg
  ·go_wp2_with (first
    | (with_reducible refine zi rfl 39 _ rfl p 0 rfl C d HE.out Hu.out Hd.out Hez.out ?_)
    | (with_reducible refine z8 39 _ rfl p 0 rfl C d HE.out Hu.out Hd.out Hez.out rfl ?_)
    | (with_reducible refine z8 24 _ rfl p 37 rfl KC (.array 32 5) HK.out z7 rfl Hkz.out rfl ?_))
   go_ret;exact⟨zal (by simpa using HP.out),hB.out⟩
  go_wp2_with (first
   | (with_reducible refine zi rfl 39 _ rfl p 0 rfl C d HE.out Hu.out Hd.out Hez.out ?_)
   | (with_reducible refine z8 39 _ rfl p 0 rfl C d HE.out Hu.out Hd.out Hez.out rfl ?_)
   | (with_reducible refine z8 24 _ rfl p 37 rfl KC (.array 32 5) HK.out z7 rfl Hkz.out rfl ?_))
  refine(hz.out _ hB.out).mono ?_;rintro r w5 ⟨rfl,hE⟩;have hG:=za (hB.out.trans' hE);have hH:=za (hE.block _ _ hD.out (fun h=>h));clear hE hB hD hK hJ hI HE HK;have hB:=hG;have hD:=hH;clear hG hH;obtain⟨-,-,-,-,hK,hJ,cK,hI⟩:=Hparts.out w5 p hD.out;have HE:=za (Hent.out w5 p hD.out);have HK:=za cK;clear cK;cases b2
  ·go_wp2_with (first
    | (with_reducible refine zi rfl 39 _ rfl p 0 rfl C d HE.out Hu.out Hd.out Hez.out ?_)
    | (with_reducible refine z8 39 _ rfl p 0 rfl C d HE.out Hu.out Hd.out Hez.out rfl ?_)
    | (with_reducible refine z8 24 _ rfl p 37 rfl KC (.array 32 5) HK.out z7 rfl Hkz.out rfl ?_))
   go_ret;exact⟨zal (by simpa using HP.out),hB.out⟩
  go_wp2_with (first
   | (with_reducible refine zi rfl 39 _ rfl p 0 rfl C d HE.out Hu.out Hd.out Hez.out ?_)
   | (with_reducible refine z8 39 _ rfl p 0 rfl C d HE.out Hu.out Hd.out Hez.out rfl ?_)
   | (with_reducible refine z8 24 _ rfl p 37 rfl KC (.array 32 5) HK.out z7 rfl Hkz.out rfl ?_))
  go_ret;exact⟨zal (by simpa using HP.out),hB.out⟩
 have g3:(op==3)=false:=by rw[beq_eq_false_iff_ne];exact h3
 have hr:Hid (8=N):=za (by have h:=HP.out;rw[if_neg (by simp),if_neg h1,if_neg h2,if_neg h3]at h;simpa using h)
 go_wp2_with fail
 go_ret;exact⟨zal hr.out,hB.out⟩
end
end Go.Proofs.YtcddlemkimbkcaaGreatDoor
