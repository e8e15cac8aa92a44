/-
 The walk of the reference's Sigs.
-/
import Derived.Test.YtffggpplnjibgaaGreatDoorKSigEq
import Derived.Test.YtffggpplnjibgaaGreatDoorKRefTyped
import Derived.Test.YtffggpplnjibgaaGreatDoorKSpecPlay
import Derived.Deep.CutRange
import Derived.Test.YtffggpplnjibgaaGreatDoorKRefSubj
import Derived.Test.YtffggpplnjibgaaGreatDoorKLarge16
open Go.Lib renaming hid→zi,byteCells→zj
open Go renaming wpList_load_mid→zq,yieldsIf_load_mid→zr
open Or renaming inl→jc
open Go.Value renaming int→jf
open Go.IntKind renaming u8→jg
namespace Go.Proofs.YtffggpplnjibgaaGreatDoor
set_option linter.unusedVariables false
set_option linter.unusedSimpArgs false
set_option linter.unusedSectionVars false
set_option maxRecDepth 100000
set_option maxHeartbeats 8000000
section
open Go.RowKit
variable [OldK]
def zfq (l:List Sg):Nat→Option Bs
 | 0=>none
 | i+1=>l[i]?.map j5
theorem ze7 {l:List Sg}{i:Nat}{s:Sg}(h:l[i]? = some s):zfq l (i+1)=some (j5 s):=by
 show l[i]?.map j5=_;rw[h];rfl
def okP (p:Option Bs) (B:Bs):Bool:=match p with
 | none=>true
 | some q=>Op.bytesLess q B
theorem zra (p:Option Bs)(s:Sg)(r:List Sg):zm5 p (s :: r)=(zw6 s&&(okP p (j5 s)&&zm5 (some (j5 s)) r)):=by cases p<;>rfl
theorem zq4 {S:Nat→Prop} (l:List Sg) (v:Value) (w:World) (h:GS S l v w) (hok:∀ s∈l,s.ok∧s.id.length≤1000000) :
 Calls Tryz.prog 61 #[v] w fun e w'=>e = .returned (.bool (zm4 l))∧Fr NoB w w':=by
 obtain⟨a,cap,rfl,hc,hU⟩:=h;obtain⟨R,hR⟩:∃ R,zm4 l=R:=⟨_,rfl⟩;rw[hR];unfold zm4 at hR;by_cases h1:l.length<1
 ·have AL:decide ((l.length:Int)<1)=true:=decide_eq_true (by omega);have hf:decide (1≤l.length)=false:=decide_eq_false (by omega);rw[hf]at hR;have HR:Hid (false=R):=zi (by simpa using hR);clear hR h1 hf hU;go_enter Tryz.func61,Tryz.ntmps61
  go_wp2_with fail
  go_ret;exact⟨jj HR.out,Fr.refl⟩
 have AL:decide ((l.length:Int)<1)=false:=decide_eq_false (by omega);have hf:decide (1≤l.length)=true:=decide_eq_true (by omega);rw[hf]at hR;by_cases h8:8<l.length
 ·have AK:decide ((8:Int)<(l.length:Int))=true:=decide_eq_true (by omega);have hk:decide (l.length≤8)=false:=decide_eq_false (by omega);rw[hk]at hR;have HR:Hid (false=R):=zi (by simpa using hR);clear hR h1 hf h8 hk hU;go_enter Tryz.func61,Tryz.ntmps61
  go_wp2_with fail
  go_ret;exact⟨jj HR.out,Fr.refl⟩
 have AK:decide ((8:Int)<(l.length:Int))=false:=decide_eq_false (by omega);have hk:decide (l.length≤8)=true:=decide_eq_true (by omega);rw[hk]at hR;rcases hU with rfl | ⟨b,o,rfl,-,hb,hr⟩
 ·exact absurd (show([]:List Sg).length<1 by simp) h1
 have HR:Hid (zm5 (zfq l 0) (l.drop 0)=R):=zi (by simpa[zfq] using hR);have Hr:=zi hr;have Hok:=zi hok;have hl8:l.length≤8:=by omega
 clear hR h1 hf h8 hk hr hok;go_enter Tryz.func61,Tryz.ntmps61
 go_wp2_with fail
 go_loopg [3] (l.length+1) (fun gf vi wr=>∃ i:Nat,vi = .int .i64 i∧i≤l.length∧i+gf=l.length+1∧Fr NoB w wr∧Hid (zm5 (zfq l i) (l.drop i)=R))
 case atStart=>exact⟨0,rfl,by omega,by omega,Fr.refl,HR⟩
 case round =>
  obtain⟨i,rfl,hi,hig,hF,HG⟩:=hrel;have HF:=zi hF;clear hF;by_cases h9:i<l.length
  ·have hw : decide ((i:Int)<l.length)=true:=decide_eq_true (by omega);obtain⟨s,hs⟩:∃ s,l[i]? = some s:=⟨_,List.getElem?_eq_getElem h9⟩;have h5:=List.mem_of_getElem? hs;have h6:l[i]=s:=(List.getElem?_eq_some_iff.1 hs).2;obtain⟨hl,hn⟩:=Hok.out s h5;have hR:=Hr.out i h9;rw[h6]at hR;have hG:=HG.out;rw[zeb hs,zra]at hG;have hq:=Sg.size hl;have hm:=j0 hR HF.out hb (fun _ h=>h);have hL:=fun W=>zfp s W hl hn
   have h7:=hm;rw[Sg.list,qb,qb,zcy]at h7;obtain⟨c0,cK,-⟩:=h7;have AD:wr.rangeAt b (o+i * 97+1) (zj s.key):=cK;obtain⟨cs,AA⟩:∃ c,s.cells=c:=⟨_,rfl⟩;simp only[AA]at hL hq hm;have Hz:Hid ((Tryz.prog.info? 40).map (·.size)=some cs.toList.length):=zi (by rw[zac];simp[hq]);have Hsg:=zi hL;have Hs:=zi hs;have Hkl:=zi hl.1;have AB:=Nat.lt_of_lt_of_le hb HF.out.size;have Hbw:=zi AB;unfold zw6 at hG;obtain⟨id,hh⟩:∃ x,s.id=x:=⟨_,rfl⟩;rw[hh]at c0 hn hG;have Hnm:=zi (fun W=>zjq id W hn);have ho:=zi AD;have hP:=zi hm;have he:=zi hG;clear h5 h6 hR hG hq hm hL cK AD AA hs hl hh hn AB HG;cases id with
   | nil =>
     have ha:Hid ((okP (zfq l i) (j5 s)&&zm5 (some (j5 s)) (l.drop (i+1)))=R):=zi (by simpa using he.out);clear he ho Hnm
     go_upto_region 8 with(fail)
     change Code.wp _ _ _ _ wr;obtain⟨wc,rfl⟩:∃ x:World,x=wr:=⟨_,rfl⟩;have hS:=HF;have Hrc:=hP;have Hbc:=Hbw;clear HF hP Hbw c0;rcases Nat.eq_zero_or_pos i with hi0 | hi0
     ·subst hi0;have AJ:decide ((0:Int)<((0:Nat):Int))=false:=rfl;have hJ:Hid (zm5 (some (j5 s)) (l.drop 1)=R):=zi (by have h:=ha.out;rw[show zfq l 0=none from rfl,show okP none (j5 s)=true from rfl,Bool.true_and]at h;exact h)
      go_upto_region 8 with(fail)
      refine wp_region_held_drew (S:=fun V=>Hid (Fr NoB wc V)) (by kernel_rfl) (zi Fr.refl.drew) (fun hC=>?_);simp only[qV]
      iterate 16
       first
       | refine qt (v:=undef) rfl (Or.inr ⟨by rfl,rfl⟩) hC ?_
         try simp only[Act.put,qP]
       | refine qt (v:=?_) rfl (jc ⟨by rfl,?_⟩) hC ?_
         rotate_left
         ·intro W hI
          try simp only[qQ]
          go_simp
          try rw[if_neg (by omega)]
          try with_reducible rfl
         try simp only[Act.put,qP]
      refine wpAnyH_done (by kernel_rfl) ?_ _;have hN:=zi (hS.out.trans' hC.out);clear hC
      go_wp2_with fail
      go_roundg (gk - 1)
      case measure=>omega
      case rel =>
       refine⟨1,by simp,by omega,by omega,hN.out,zi ?_⟩;rw[show zfq l 1=some (j5 s) from ze7 Hs.out];exact hJ.out
     obtain⟨j,rfl⟩:∃ j,i=j+1:=⟨i - 1,by omega⟩;obtain⟨s1,hO⟩:∃ s1,l[j]? = some s1:=⟨_,List.getElem?_eq_getElem (by omega)⟩;have hE:=List.mem_of_getElem? hO;have hM:l[j]'(by omega)=s1:=(List.getElem?_eq_some_iff.1 hO).2;have hV:=Hr.out j (by omega);rw[hM]at hV;have hT:=j0 hV hS.out hb (fun _ h=>h);have hH:=Sg.size (Hok.out s1 hE).1;have hD:=fun W=>zfp s1 W (Hok.out s1 hE).1 (Hok.out s1 hE).2
     have hG:=ha.out;rw[show zfq l (j+1)=some (j5 s1) from ze7 hO]at hG;rw[show okP (some (j5 s1)) (j5 s)=Op.bytesLess (j5 s1) (j5 s) from rfl]at hG;obtain⟨d,hu,hd⟩:=zb5;have Hu:=zi hu;have Hd:=zi hd;obtain⟨B,hB⟩:∃ B,j5 s=B:=⟨_,rfl⟩;obtain⟨A,hA⟩:∃ A,j5 s1=A:=⟨_,rfl⟩;rw[hA]at hG;simp only[hA]at hD;rw[hB]at hG;have hL:=Hsg.out;simp only[hB]at hL;obtain⟨x1,hp⟩:∃ x,Op.bytesLess A B=x:=⟨_,rfl⟩;rw[hp]at hG;obtain⟨c1,hj⟩:∃ c,s1.cells=c:=⟨_,rfl⟩;simp only[hj]at hD hH hT;have h2:Hid ((Tryz.prog.info? 40).map (·.size)=some c1.toList.length):=zi (by rw[zac];simp[hH]);have hZ:=zi hT;have hY:=zi hD;have hX:=zi hL;have hJ:=zi hG;have HB:=zi hB;have AI:decide ((0:Int)<(((j+1:Nat)):Int))=true:=decide_eq_true (by omega);have hy:decide ((0:Int)<(j:Int)+1)=true:=decide_eq_true (by omega);have AF:IntKind.i64.wrap (j:Int)=j:=by rw[IntKind.wrap_i64];omega
     have AH:(j:Int)<l.length:=by omega
     have hx:(j:Int)+1<l.length:=by omega
     have AM:(0:Int)≤(j:Int)+1:=by omega
     have AG:((j:Int)+1).toNat=j+1:=by omega
     clear hO hE hM hV hT hH hD hG hL hB hA hj hu hd ha
     go_upto_region 8 with(fail)
     refine wp_region_held_drew (S:=fun V=>Hid (Fr NoB wc V)) (by kernel_rfl) (zi Fr.refl.drew) (fun hC=>?_);simp only[qV]
     iterate 7
      refine qt (v:=?_) rfl (jc ⟨by rfl,?_⟩) hC ?_;rotate_left
      ·intro W hI
       try simp only[qQ]
       go_simp
       try rw[if_neg (by omega)]
       try with_reducible rfl
      try simp only[Act.put,qP]
     refine qi (i:=7) rfl (zr (by rfl) 40 _ rfl b (o+j * 97) rfl c1.toList d (fun V h=>j0 hZ.out h.out Hbc.out (fun _ h=>h)) Hu.out Hd.out h2.out) hC ?_
     try simp only[Act.put,qP]
     refine qi (i:=9) (v:=?_) rfl (jc ⟨by rfl,?_⟩) hC ?_;rotate_left
     ·intro W hI
      try simp only[qQ]
      go_simp
      try rw[if_neg (by omega)]
      try with_reducible rfl
     try simp only[Act.put,qP]
     refine qi (i:=10) (v:=?_) rfl (jc ⟨by rfl,?_⟩) hC ?_;rotate_left
     ·intro W hI
      try simp only[qQ]
      go_simp
      try rw[if_neg (by omega)]
      try with_reducible rfl
     try simp only[Act.put,qP]
     refine qi (i:=11) (v:=?_) rfl (jc ⟨by rfl,?_⟩) hC ?_;rotate_left
     ·intro W hI
      try simp only[qQ]
      go_simp
      try rw[if_neg (by omega)]
      try with_reducible rfl
     try simp only[Act.put,qP]
     refine qi (i:=12) rfl (zr (by rfl) 40 _ rfl b (o+(j+1) * 97) rfl cs.toList d (fun V h=>j0 Hrc.out h.out Hbc.out (fun _ h=>h)) Hu.out Hd.out Hz.out) hC ?_
     try simp only[Act.put,qP]
     refine qr (i:=8) (by kernel_rfl) rfl (fun K hK=>?_)
     try simp only[qQ]
     go_simp;refine(hY.out _).mono ?_;rintro r w9 ⟨rfl,h0⟩;refine hK.out _ _ (zi (hC.out.trans' h0)) (fun hC=>?_);clear hK K
     try simp only[Act.put,qP]
     refine qr (i:=13) (by kernel_rfl) rfl (fun K hK=>?_)
     try simp only[qQ]
     go_simp;refine(hX.out _).mono ?_;rintro r AE ⟨rfl,hW⟩;refine hK.out _ _ (zi (hC.out.trans' hW)) (fun hC=>?_);clear hK K
     try simp only[Act.put,qP]
     cases x1
     ·iterate 2
       refine qt (v:=?_) rfl (jc ⟨by rfl,?_⟩) hC ?_;rotate_left
       ·intro W hI
        try simp only[qQ]
        go_simp
        try rw[if_neg (by omega)]
        try with_reducible rfl
       try simp only[Act.put,qP]
      refine wpAnyH_done (by kernel_rfl) ?_ _;have hN:=zi (hS.out.trans' hC.out);clear hC
      go_wp2_with fail
      go_ret;exact⟨jj (by simpa using hJ.out),hN.out⟩
     iterate 2
      refine qt (v:=?_) rfl (jc ⟨by rfl,?_⟩) hC ?_;rotate_left
      ·intro W hI
       try simp only[qQ]
       go_simp
       try rw[if_neg (by omega)]
       try with_reducible rfl
      try simp only[Act.put,qP]
     refine wpAnyH_done (by kernel_rfl) ?_ _;have hN:=zi (hS.out.trans' hC.out);clear hC
     go_wp2_with fail
     go_roundg (gk - 1)
     case measure=>omega
     case rel =>
      refine⟨j+1+1,by simp,by omega,by omega,hN.out,zi ?_⟩;rw[show zfq l (j+1+1)=some (j5 s) from ze7 Hs.out,HB.out];simpa using hJ.out
   | cons c r =>
     have hv:(c :: r:Bs).isEmpty=false:=rfl;obtain⟨id,hh⟩:∃ l,(c :: r:Bs)=l:=⟨_,rfl⟩;rw[hh]at hv c0 he Hnm;clear hh;obtain⟨bm,AC⟩:∃ x,zcn id=x:=⟨_,rfl⟩;have hG:=he.out;have ht:=Hnm.out;rw[AC]at ht hG;rw[hv]at hG;have hQ:=zi ht;have hJ:=zi hG;clear AC hG he ht Hnm;cases bm with
     | false =>
       go_wp2_with fail
       refine(hQ.out _).mono ?_;rintro e w3 ⟨rfl,rfl⟩
       go_wp2_with fail
       go_ret;exact⟨jj (by simpa using hJ.out),HF.out⟩
     | true =>
       obtain⟨bk,hz⟩:∃ x,(s.key==jz)=x:=⟨_,rfl⟩;have hG:=hJ.out;rw[← zc1,hz]at hG;have hg:=zns s.key Hkl.out;rw[hz]at hg;have h4:=zi hG;have h3:=zi (show(Tryz.prog.info? 25).map (·.size)=some (zj s.key).length by rw[q8];simp[zj,Hkl.out]);clear hz hG hJ;cases bk
       ·go_wp2_with fail
        refine(hQ.out _).mono ?_;rintro e w3 ⟨rfl,rfl⟩
        go_wp2_with(refine jw 25 _ rfl b (o+i * 97+1) rfl (zj s.key) _ ho.out jo rfl h3.out rfl ?_)
        go_ret;exact⟨jj (by simpa using h4.out),HF.out⟩
       have ha:Hid ((okP (zfq l i) (j5 s)&&zm5 (some (j5 s)) (l.drop (i+1)))=R):=zi (by simpa using h4.out);clear h4
       go_wp2_with fail
       refine(hQ.out _).mono ?_;rintro e w3 ⟨rfl,rfl⟩
       go_upto_region 8 with(refine jw 25 _ rfl b (o+i * 97+1) rfl (zj s.key) _ ho.out jo rfl h3.out rfl ?_)
       change Code.wp _ _ _ _ wr;obtain⟨wc,rfl⟩:∃ x:World,x=wr:=⟨_,rfl⟩;have hS:=HF;have Hrc:=hP;have Hbc:=Hbw;clear HF hP Hbw c0 ho hg h3 hQ hv;rcases Nat.eq_zero_or_pos i with hi0 | hi0
       ·subst hi0;have AJ:decide ((0:Int)<((0:Nat):Int))=false:=rfl;have hJ:Hid (zm5 (some (j5 s)) (l.drop 1)=R):=zi (by have h:=ha.out;rw[show zfq l 0=none from rfl,show okP none (j5 s)=true from rfl,Bool.true_and]at h;exact h)
        go_upto_region 8 with(fail)
        refine wp_region_held_drew (S:=fun V=>Hid (Fr NoB wc V)) (by kernel_rfl) (zi Fr.refl.drew) (fun hC=>?_);simp only[qV]
        iterate 16
         first
         | refine qt (v:=undef) rfl (Or.inr ⟨by rfl,rfl⟩) hC ?_
           try simp only[Act.put,qP]
         | refine qt (v:=?_) rfl (jc ⟨by rfl,?_⟩) hC ?_
           rotate_left
           ·intro W hI
            try simp only[qQ]
            go_simp
            try rw[if_neg (by omega)]
            try with_reducible rfl
           try simp only[Act.put,qP]
        refine wpAnyH_done (by kernel_rfl) ?_ _;have hN:=zi (hS.out.trans' hC.out);clear hC
        go_wp2_with fail
        go_roundg (gk - 1)
        case measure=>omega
        case rel =>
         refine⟨1,by simp,by omega,by omega,hN.out,zi ?_⟩;rw[show zfq l 1=some (j5 s) from ze7 Hs.out];exact hJ.out
       obtain⟨j,rfl⟩:∃ j,i=j+1:=⟨i - 1,by omega⟩;obtain⟨s1,hO⟩:∃ s1,l[j]? = some s1:=⟨_,List.getElem?_eq_getElem (by omega)⟩;have hE:=List.mem_of_getElem? hO;have hM:l[j]'(by omega)=s1:=(List.getElem?_eq_some_iff.1 hO).2;have hV:=Hr.out j (by omega);rw[hM]at hV;have hT:=j0 hV hS.out hb (fun _ h=>h);have hH:=Sg.size (Hok.out s1 hE).1;have hD:=fun W=>zfp s1 W (Hok.out s1 hE).1 (Hok.out s1 hE).2
       have hG:=ha.out;rw[show zfq l (j+1)=some (j5 s1) from ze7 hO]at hG;rw[show okP (some (j5 s1)) (j5 s)=Op.bytesLess (j5 s1) (j5 s) from rfl]at hG;obtain⟨d,hu,hd⟩:=zb5;have Hu:=zi hu;have Hd:=zi hd;obtain⟨B,hB⟩:∃ B,j5 s=B:=⟨_,rfl⟩;obtain⟨A,hA⟩:∃ A,j5 s1=A:=⟨_,rfl⟩;rw[hA]at hG;simp only[hA]at hD;rw[hB]at hG;have hL:=Hsg.out;simp only[hB]at hL;obtain⟨x1,hp⟩:∃ x,Op.bytesLess A B=x:=⟨_,rfl⟩;rw[hp]at hG;obtain⟨c1,hj⟩:∃ c,s1.cells=c:=⟨_,rfl⟩;simp only[hj]at hD hH hT;have h2:Hid ((Tryz.prog.info? 40).map (·.size)=some c1.toList.length):=zi (by rw[zac];simp[hH]);have hZ:=zi hT;have hY:=zi hD;have hX:=zi hL;have hJ:=zi hG;have HB:=zi hB;have AI:decide ((0:Int)<(((j+1:Nat)):Int))=true:=decide_eq_true (by omega);have hy:decide ((0:Int)<(j:Int)+1)=true:=decide_eq_true (by omega);have AF:IntKind.i64.wrap (j:Int)=j:=by rw[IntKind.wrap_i64];omega
       have AH:(j:Int)<l.length:=by omega
       have hx:(j:Int)+1<l.length:=by omega
       have AM:(0:Int)≤(j:Int)+1:=by omega
       have AG:((j:Int)+1).toNat=j+1:=by omega
       clear hO hE hM hV hT hH hD hG hL hB hA hj hu hd ha
       go_upto_region 8 with(fail)
       refine wp_region_held_drew (S:=fun V=>Hid (Fr NoB wc V)) (by kernel_rfl) (zi Fr.refl.drew) (fun hC=>?_);simp only[qV]
       iterate 7
        refine qt (v:=?_) rfl (jc ⟨by rfl,?_⟩) hC ?_;rotate_left
        ·intro W hI
         try simp only[qQ]
         go_simp
         try rw[if_neg (by omega)]
         try with_reducible rfl
        try simp only[Act.put,qP]
       refine qi (i:=7) rfl (zr (by rfl) 40 _ rfl b (o+j * 97) rfl c1.toList d (fun V h=>j0 hZ.out h.out Hbc.out (fun _ h=>h)) Hu.out Hd.out h2.out) hC ?_
       try simp only[Act.put,qP]
       refine qi (i:=9) (v:=?_) rfl (jc ⟨by rfl,?_⟩) hC ?_;rotate_left
       ·intro W hI
        try simp only[qQ]
        go_simp
        try rw[if_neg (by omega)]
        try with_reducible rfl
       try simp only[Act.put,qP]
       refine qi (i:=10) (v:=?_) rfl (jc ⟨by rfl,?_⟩) hC ?_;rotate_left
       ·intro W hI
        try simp only[qQ]
        go_simp
        try rw[if_neg (by omega)]
        try with_reducible rfl
       try simp only[Act.put,qP]
       refine qi (i:=11) (v:=?_) rfl (jc ⟨by rfl,?_⟩) hC ?_;rotate_left
       ·intro W hI
        try simp only[qQ]
        go_simp
        try rw[if_neg (by omega)]
        try with_reducible rfl
       try simp only[Act.put,qP]
       refine qi (i:=12) rfl (zr (by rfl) 40 _ rfl b (o+(j+1) * 97) rfl cs.toList d (fun V h=>j0 Hrc.out h.out Hbc.out (fun _ h=>h)) Hu.out Hd.out Hz.out) hC ?_
       try simp only[Act.put,qP]
       refine qr (i:=8) (by kernel_rfl) rfl (fun K hK=>?_)
       try simp only[qQ]
       go_simp;refine(hY.out _).mono ?_;rintro r w9 ⟨rfl,h0⟩;refine hK.out _ _ (zi (hC.out.trans' h0)) (fun hC=>?_);clear hK K
       try simp only[Act.put,qP]
       refine qr (i:=13) (by kernel_rfl) rfl (fun K hK=>?_)
       try simp only[qQ]
       go_simp;refine(hX.out _).mono ?_;rintro r AE ⟨rfl,hW⟩;refine hK.out _ _ (zi (hC.out.trans' hW)) (fun hC=>?_);clear hK K
       try simp only[Act.put,qP]
       cases x1
       ·iterate 2
         refine qt (v:=?_) rfl (jc ⟨by rfl,?_⟩) hC ?_;rotate_left
         ·intro W hI
          try simp only[qQ]
          go_simp
          try rw[if_neg (by omega)]
          try with_reducible rfl
         try simp only[Act.put,qP]
        refine wpAnyH_done (by kernel_rfl) ?_ _;have hN:=zi (hS.out.trans' hC.out);clear hC
        go_wp2_with fail
        go_ret;exact⟨jj (by simpa using hJ.out),hN.out⟩
       iterate 2
        refine qt (v:=?_) rfl (jc ⟨by rfl,?_⟩) hC ?_;rotate_left
        ·intro W hI
         try simp only[qQ]
         go_simp
         try rw[if_neg (by omega)]
         try with_reducible rfl
        try simp only[Act.put,qP]
       refine wpAnyH_done (by kernel_rfl) ?_ _;have hN:=zi (hS.out.trans' hC.out);clear hC
       go_wp2_with fail
       go_roundg (gk - 1)
       case measure=>omega
       case rel =>
        refine⟨j+1+1,by simp,by omega,by omega,hN.out,zi ?_⟩;rw[show zfq l (j+1+1)=some (j5 s) from ze7 Hs.out,HB.out];simpa using hJ.out
  obtain rfl:i=l.length:=by omega
  have hw:decide ((l.length:Int)<l.length)=false:=by simp
  have hG:=HG.out;rw[List.drop_of_length_le (Nat.le_refl _)]at hG;have he:Hid (true=R):=zi (by rw[← hG];cases zfq l l.length<;>rfl);clear hG HG
  go_wp2_with fail
  go_ret;exact⟨jj he.out,HF.out⟩
end
section
open Go.RowKit
variable [OldK]
def zxm (p:Bs):Bool:=(zcg p).isSome
theorem zwx (a:Bs)(ha:a.length=32)(w:World) :
 (Op.equalIn 10000 23 (.agg (zj a).toArray) (.agg #[jf jg 0,jf jg 0,jf jg 0,jf jg 0,jf jg 0,jf jg 0,jf jg 0,jf jg 0,jf jg 0,jf jg 0,jf jg 0,jf jg 0,jf jg 0,jf jg 0,jf jg 0,jf jg 0,jf jg 0,jf jg 0,jf jg 0,jf jg 0,jf jg 0,jf jg 0,jf jg 0,jf jg 0,jf jg 0,jf jg 0,jf jg 0,jf jg 0,jf jg 0,jf jg 0,jf jg 0,jf jg 0])).run Tryz.prog w = .ok (a==jz) w:=by
 rw[← zk4];exact zou a jz ha rfl w
theorem ztr (S S':Nat→Prop) (e:En) (pv sv:Value) (w:World) (hf:Fine S S' e pv sv w) :
 Calls Tryz.prog 19 #[.agg (e.cells pv sv).toArray] w fun r w'=>r = .returned (.bool (zps zxm e))∧Fr NoB w w':=by
 obtain⟨a1,c1,rfl⟩:=hf.pay.form;obtain⟨a3,c3,rfl,-⟩:=id hf.sgs;have hA:=heap_alloc_new w (.cells (e.cells (.slice a1 e.payload.length c1) (.slice a3 e.sigs.length c3)).toArray 28);have hF:Fr NoB w (w.alloc (.cells (e.cells (.slice a1 e.payload.length c1) (.slice a3 e.sigs.length c3)).toArray 28)):=Fr.refl.alloc _;have hB:=fun(V:World) (b:Nat) (hV:V.heap[b]? = some (.cells (e.cells (.slice a1 e.payload.length c1) (.slice a3 e.sigs.length c3)).toArray 28 (0,0)))=>En.parts (b:=b) (w:=V) hf.ok (by simpa using j8 hV)
 have hE:=zq4 e.sigs (.slice a3 e.sigs.length c3) _ (hf.fr hF).sgs (fun s hs=>⟨hf.ok.2.2 s hs,hf.ids s hs⟩);have hH:=fun V=>zjp e.typ V hf.typ
 have hJ:=fun V=>zjq e.ident V hf.idn
 have hI:=fun V (hV:Fr NoB w V)=>zf8 S e.payload (.slice a1 e.payload.length c1) V (hf.fr hV).pay (hf.fr hV).gl hf.len
 have hi:=fun V=>zns e.key hf.ok.2.1 V
 have hj:=fun V=>zwx e.digest hf.ok.1 V
 have hT:=jm e.digest;rw[hf.ok.1]at hT;have hS:=jm e.key;rw[hf.ok.2.1]at hS;clear hf;obtain⟨R,hR⟩:∃ x,zps zxm e=x:=⟨_,rfl⟩;rw[hR];unfold zps zxm at hR;obtain⟨k,dg,typ,pay,op,idn,key,sgs⟩:=e;simp only at hB hE hH hJ hI hi hj hT hS hR hA hF;obtain⟨h2,hK⟩:∃ x,zm4 sgs=x:=⟨_,rfl⟩;obtain⟨hP,hk⟩:∃ x,typ.isEmpty=x:=⟨_,rfl⟩;obtain⟨h3,hL⟩:∃ x,zci typ=x:=⟨_,rfl⟩;obtain⟨zo0,hU⟩:∃ x,((pay.length:Int)==0)=x:=⟨_,rfl⟩;obtain⟨ha,hY⟩:∃ x,decide ((pay.length:Int)≤2048)=x:=⟨_,rfl⟩;obtain⟨hZ,hX⟩:∃ x,(op==0)=x:=⟨_,rfl⟩;obtain⟨h6,hl⟩:∃ x,idn.isEmpty=x:=⟨_,rfl⟩;obtain⟨h5,hN⟩:∃ x,(key==jz)=x:=⟨_,rfl⟩;obtain⟨hQ,hO⟩:∃ x,(dg==jz)=x:=⟨_,rfl⟩;obtain⟨RS,ho⟩:∃ x,zcg pay=x:=⟨_,rfl⟩;obtain⟨b1,AA⟩:∃ x,decide (1≤op)=x:=⟨_,rfl⟩;obtain⟨b3,h9⟩:∃ x,decide (op≤3)=x:=⟨_,rfl⟩;obtain⟨h4,hM⟩:∃ x,zcn idn=x:=⟨_,rfl⟩;obtain⟨h7,hm⟩:∃ x,(op != 3)=x:=⟨_,rfl⟩;obtain⟨bB,hn⟩:∃ x,(hZ&&(h6&&h5))=x:=⟨_,rfl⟩
 have HP:Hid ((h2&&(if k=1 then hP&&(zo0&&bB) else if k=2 then hQ&&(h3&&(ha&&bB)) else if k=3 then hQ&&(hP&&(RS.isSome&&bB)) else if k=4 then hQ&&(hP&&(zo0&&(b1&&(b3&&(h4&&(h7||h5)))))) else false))=R):=zi (by
  rw[← hR,← hn,← hK,← hk,← hL,← hU,← hY,← hX,← hl,← hN,← hO,← ho,← AA,← h9,← hM,← hm,zc1,zc1,ieq op 0];have e1:((pay.length:Int)==0)=pay.isEmpty:=by rw[show((0:Int))=((0:Nat):Int) from rfl,leq];cases pay<;>simp
  have e2:decide ((pay.length:Int)≤2048)=decide (pay.length≤2048):=decide_eq_decide.2 (by omega);have e3:(op != 3)=decide (op≠3):=by rw[bne,ieq,← decide_not]
  rw[e1,e2,e3])
 rw[hK]at hE;simp only[hL]at hH;simp only[hM]at hJ;simp only[ho]at hI;simp only[hN]at hi;simp only[hO]at hj;have HB:=zi hn;obtain⟨C,hC⟩:∃ x,En.cells ⟨k,dg,typ,pay,op,idn,key,sgs⟩ (.slice a1 pay.length c1) (.slice a3 sgs.length c3)=x:=⟨_,rfl⟩;obtain⟨DC,h0⟩:∃ x,zj dg=x:=⟨_,rfl⟩;obtain⟨KC,hz⟩:∃ x,zj key=x:=⟨_,rfl⟩;simp only[hC,h0,hz]at hB hE hi hj hT hS hA hF ⊢;have Hkz:Hid ((Tryz.prog.info? 25).map (·.size)=some KC.length):=zi (by rw[q8,hS]);have Hdz:Hid ((Tryz.prog.info? 23).map (·.size)=some DC.length):=zi (by rw[j3,hT]);clear hK hL hM ho hN hO hn hC h0 hz hR hT hS;go_enter Tryz.func19,Tryz.ntmps19
 go_upto_region 1 with(fail)
 change Code.wp _ _ _ _ (w.alloc (.cells C.toArray 28));obtain⟨W,hW⟩:∃ x,w.alloc (.cells C.toArray 28)=x:=⟨_,rfl⟩;rw[hW]at hE hA hF ⊢;obtain⟨p,hp⟩:∃ x,w.heap.size=x:=⟨_,rfl⟩;rw[hp]at hA ⊢;have Hsig:=zi hE;have Htyp:=zi hH;have Hnam:=zi hJ;have Hsub:=zi hI;have HA:=zi hA;have HF:=zi hF;have Hparts:=zi hB;clear hE hH hJ hI hA hF hB hW hp;obtain⟨c0,cD,hb,hx,hw,hv,cK,hu⟩:=Hparts.out W p HA.out;clear cD cK
 go_wp2_with fail
 refine Hsig.out.mono ?_;rintro r w1 ⟨rfl,ht⟩;have hD:=zi (HF.out.trans' ht);have h8:=zi (ht.block _ _ HA.out (fun h=>h));clear ht HF HA Hsig c0 hb hx hw hv hu;cases h2
 ·go_wp2_with fail
  go_ret;exact⟨jj (by simpa using HP.out),hD.out⟩
 obtain⟨c0,cD,hb,hx,hw,hv,cK,hu⟩:=Hparts.out w1 p h8.out;have HD:=zi cD;have HK:=zi cK;clear cD cK
 go_upto_region 4 with(fail)
 go_cut [4] from 16 to 29 (fun v4 wr=>v4 = .bool bB∧w1=wr)
 case first =>
  as_aux_lemma =>
   cases hZ
   ·go_wp2_with fail
    go_meet
    case rel=>exact⟨congrArg Value.bool (by simpa using HB.out),rfl⟩
   cases h6
   ·go_wp2_with fail
    go_meet
    case rel=>exact⟨congrArg Value.bool (by simpa using HB.out),rfl⟩
   go_wp2_with(with_reducible refine jw 25 _ rfl p 37 rfl KC (.array 32 5) HK.out jo rfl Hkz.out rfl ?_)
   go_meet
   case rel=>exact⟨congrArg Value.bool (by simpa using HB.out),rfl⟩
 case rest =>
  obtain⟨rfl,rfl⟩:=hcut;clear HB;by_cases hh:k=1
  ·subst hh;cases hP
   ·go_wp2_with (first
     | (with_reducible refine zq rfl 23 _ rfl p 1 rfl DC (.array 32 5) HD.out ji rfl Hdz.out ?_)
     | (with_reducible refine jw 25 _ rfl p 37 rfl KC (.array 32 5) HK.out jo rfl Hkz.out rfl ?_))
    go_ret;exact⟨jj (by simpa using HP.out),hD.out⟩
   cases zo0
   ·go_wp2_with (first
     | (with_reducible refine zq rfl 23 _ rfl p 1 rfl DC (.array 32 5) HD.out ji rfl Hdz.out ?_)
     | (with_reducible refine jw 25 _ rfl p 37 rfl KC (.array 32 5) HK.out jo rfl Hkz.out rfl ?_))
    go_ret;exact⟨jj (by simpa using HP.out),hD.out⟩
   go_wp2_with (first
    | (with_reducible refine zq rfl 23 _ rfl p 1 rfl DC (.array 32 5) HD.out ji rfl Hdz.out ?_)
    | (with_reducible refine jw 25 _ rfl p 37 rfl KC (.array 32 5) HK.out jo rfl Hkz.out rfl ?_))
   go_ret;exact⟨jj (by simpa using HP.out),hD.out⟩
  have g1:(k==1)=false:=by rw[beq_eq_false_iff_ne];exact hh
  by_cases hg:k=2
  ·subst hg;cases hQ
   ·go_wp2_with (first
     | (with_reducible refine zq rfl 23 _ rfl p 1 rfl DC (.array 32 5) HD.out ji rfl Hdz.out ?_)
     | (with_reducible refine jw 25 _ rfl p 37 rfl KC (.array 32 5) HK.out jo rfl Hkz.out rfl ?_))
    go_ret;exact⟨jj (by simpa using HP.out),hD.out⟩
   go_wp2_with (first
    | (with_reducible refine zq rfl 23 _ rfl p 1 rfl DC (.array 32 5) HD.out ji rfl Hdz.out ?_)
    | (with_reducible refine jw 25 _ rfl p 37 rfl KC (.array 32 5) HK.out jo rfl Hkz.out rfl ?_))
   refine(Htyp.out _).mono ?_;rintro r w2 ⟨rfl,rfl⟩;cases h3
   ·go_wp2_with (first
     | (with_reducible refine zq rfl 23 _ rfl p 1 rfl DC (.array 32 5) HD.out ji rfl Hdz.out ?_)
     | (with_reducible refine jw 25 _ rfl p 37 rfl KC (.array 32 5) HK.out jo rfl Hkz.out rfl ?_))
    go_ret;exact⟨jj (by simpa using HP.out),hD.out⟩
   cases ha
   ·go_wp2_with (first
     | (with_reducible refine zq rfl 23 _ rfl p 1 rfl DC (.array 32 5) HD.out ji rfl Hdz.out ?_)
     | (with_reducible refine jw 25 _ rfl p 37 rfl KC (.array 32 5) HK.out jo rfl Hkz.out rfl ?_))
    go_ret;exact⟨jj (by simpa using HP.out),hD.out⟩
   go_wp2_with (first
    | (with_reducible refine zq rfl 23 _ rfl p 1 rfl DC (.array 32 5) HD.out ji rfl Hdz.out ?_)
    | (with_reducible refine jw 25 _ rfl p 37 rfl KC (.array 32 5) HK.out jo rfl Hkz.out rfl ?_))
   go_ret;exact⟨jj (by simpa using HP.out),hD.out⟩
  have g2:(k==2)=false:=by rw[beq_eq_false_iff_ne];exact hg
  by_cases he:k=3
  ·subst he
   go_wp2_with (first
    | (with_reducible refine zq rfl 23 _ rfl p 1 rfl DC (.array 32 5) HD.out ji rfl Hdz.out ?_)
    | (with_reducible refine jw 25 _ rfl p 37 rfl KC (.array 32 5) HK.out jo rfl Hkz.out rfl ?_))
   refine(Hsub.out _ hD.out).mono ?_;rintro r w2 ⟨hG,hq⟩;have hc:=zi (hD.out.trans' hq);have AC:=zi (hq.block _ _ h8.out (fun h=>h))
   obtain ⟨vs,hr⟩:∃ v,r = .returned (.tuple #[v,.bool RS.isSome]):=by
    cases RS with
    | none=>exact⟨_,hG⟩
    | some l=>exact⟨_,hG.choose_spec.1⟩
   subst hr;obtain⟨bS,hy⟩:∃ x,RS.isSome=x:=⟨_,rfl⟩;rw[hy]at HP ⊢;clear hq hG c0 hb hx hw hv hu HD HK hy;obtain⟨c0,-,hb,-,-,-,-,-⟩:=Hparts.out w2 p AC.out;cases hQ
   ·go_wp2_with fail
    go_ret;exact⟨jj (by simpa using HP.out),hc.out⟩
   cases hP
   ·go_wp2_with fail
    go_ret;exact⟨jj (by simpa using HP.out),hc.out⟩
   cases bS
   ·go_wp2_with fail
    go_ret;exact⟨jj (by simpa using HP.out),hc.out⟩
   go_wp2_with fail
   go_ret;exact⟨jj (by simpa using HP.out),hc.out⟩
  have g3:(k==3)=false:=by rw[beq_eq_false_iff_ne];exact he
  by_cases hd:k=4
  ·subst hd;cases hQ
   ·go_wp2_with (first
     | (with_reducible refine zq rfl 23 _ rfl p 1 rfl DC (.array 32 5) HD.out ji rfl Hdz.out ?_)
     | (with_reducible refine jw 25 _ rfl p 37 rfl KC (.array 32 5) HK.out jo rfl Hkz.out rfl ?_))
    go_ret;exact⟨jj (by simpa using HP.out),hD.out⟩
   cases hP
   ·go_wp2_with (first
     | (with_reducible refine zq rfl 23 _ rfl p 1 rfl DC (.array 32 5) HD.out ji rfl Hdz.out ?_)
     | (with_reducible refine jw 25 _ rfl p 37 rfl KC (.array 32 5) HK.out jo rfl Hkz.out rfl ?_))
    go_ret;exact⟨jj (by simpa using HP.out),hD.out⟩
   cases zo0
   ·go_wp2_with (first
     | (with_reducible refine zq rfl 23 _ rfl p 1 rfl DC (.array 32 5) HD.out ji rfl Hdz.out ?_)
     | (with_reducible refine jw 25 _ rfl p 37 rfl KC (.array 32 5) HK.out jo rfl Hkz.out rfl ?_))
    go_ret;exact⟨jj (by simpa using HP.out),hD.out⟩
   cases b1
   ·go_wp2_with (first
     | (with_reducible refine zq rfl 23 _ rfl p 1 rfl DC (.array 32 5) HD.out ji rfl Hdz.out ?_)
     | (with_reducible refine jw 25 _ rfl p 37 rfl KC (.array 32 5) HK.out jo rfl Hkz.out rfl ?_))
    go_ret;exact⟨jj (by simpa using HP.out),hD.out⟩
   cases b3
   ·go_wp2_with (first
     | (with_reducible refine zq rfl 23 _ rfl p 1 rfl DC (.array 32 5) HD.out ji rfl Hdz.out ?_)
     | (with_reducible refine jw 25 _ rfl p 37 rfl KC (.array 32 5) HK.out jo rfl Hkz.out rfl ?_))
    go_ret;exact⟨jj (by simpa using HP.out),hD.out⟩
   go_wp2_with (first
    | (with_reducible refine zq rfl 23 _ rfl p 1 rfl DC (.array 32 5) HD.out ji rfl Hdz.out ?_)
    | (with_reducible refine jw 25 _ rfl p 37 rfl KC (.array 32 5) HK.out jo rfl Hkz.out rfl ?_))
   refine(Hnam.out _).mono ?_;rintro r w2 ⟨rfl,rfl⟩;cases h4
   ·go_wp2_with (first
     | (with_reducible refine zq rfl 23 _ rfl p 1 rfl DC (.array 32 5) HD.out ji rfl Hdz.out ?_)
     | (with_reducible refine jw 25 _ rfl p 37 rfl KC (.array 32 5) HK.out jo rfl Hkz.out rfl ?_))
    go_ret;exact⟨jj (by simpa using HP.out),hD.out⟩
   cases h7
   ·go_wp2_with (first
     | (with_reducible refine zq rfl 23 _ rfl p 1 rfl DC (.array 32 5) HD.out ji rfl Hdz.out ?_)
     | (with_reducible refine jw 25 _ rfl p 37 rfl KC (.array 32 5) HK.out jo rfl Hkz.out rfl ?_))
    go_ret;exact⟨jj (by simpa using HP.out),hD.out⟩
   go_wp2_with (first
    | (with_reducible refine zq rfl 23 _ rfl p 1 rfl DC (.array 32 5) HD.out ji rfl Hdz.out ?_)
    | (with_reducible refine jw 25 _ rfl p 37 rfl KC (.array 32 5) HK.out jo rfl Hkz.out rfl ?_))
   go_ret;exact⟨jj (by simpa using HP.out),hD.out⟩
  have g4:(k==4)=false:=by rw[beq_eq_false_iff_ne];exact hd
  have AB:Hid (false=R):=zi (by have h:=HP.out;rw[if_neg hh,if_neg hg,if_neg he,if_neg hd]at h;simpa using h)
  go_wp2_with(with_reducible refine zq rfl 23 _ rfl p 1 rfl DC (.array 32 5) HD.out ji rfl Hdz.out ?_)
  go_ret;exact⟨jj AB.out,hD.out⟩
end
end Go.Proofs.YtffggpplnjibgaaGreatDoor
