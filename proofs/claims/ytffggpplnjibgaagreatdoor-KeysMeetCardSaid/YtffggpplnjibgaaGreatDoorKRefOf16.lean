/-
 The walk of cachetref16.Of.
-/
import Derived.Test.YtffggpplnjibgaaGreatDoorKRefOfP
import Derived.Test.YtffggpplnjibgaaGreatDoorKRefSha
import Derived.Test.YtffggpplnjibgaaGreatDoorKKeysOfK
open Go.Lib renaming hid→zi,byteCells→zj
open Go renaming wpList_load_mid→zq
namespace Go.Proofs.YtffggpplnjibgaaGreatDoor
set_option linter.unusedVariables false
set_option linter.unusedSimpArgs false
set_option linter.unusedSectionVars false
set_option maxRecDepth 100000
set_option maxHeartbeats 4000000
open Go.RowKit Go.Sort Go.Shelf
variable [OldK]
theorem zvg (s:Bs):(ByteArray.mk #[105,100,58])++(ByteArray.mk s.toArray)=⟨(sId++s).toArray⟩:=by
 apply ByteArray.ext;simp[sId]
theorem zga (l:List Bs)(s:Bs):(zc8 l s).length≤l.length+1:=zlk s l
theorem zq5 (S S':Nat→Prop) (e:En) (pv sv:Value) (w:World) (hfine:Fine S S' e pv sv w) (hp5:e.payload.length≤500000) (hpn:∀ n c,pv = .slice none n c→c=0) (hchk:zau zjs e=true) :
 Calls Tryz.prog 20 #[.agg (e.cells pv sv).toArray] w fun r w'=>(∃ v,r = .returned v∧SS (fun k=>w.heap.size≤k) (rOf e) v w')∧Fr NoB w w':=by
 obtain⟨h0,hb,hg,AF,Av,A2,hpl,Aw,hj⟩:=hfine;obtain⟨a3,c3,rfl,A3,Af⟩:=id hg;obtain⟨a1,c1,rfl⟩:=hb.form;have hR:(w.alloc (.cells (e.cells (.slice a1 e.payload.length c1) (.slice a3 e.sigs.length c3)).toArray 28)).rangeAt w.heap.size 0 (e.cells (.slice a1 e.payload.length c1) (.slice a3 e.sigs.length c3)):=by simpa using j8 (heap_alloc_new w (.cells (e.cells (.slice a1 e.payload.length c1) (.slice a3 e.sigs.length c3)).toArray 28))
 have hF:Fr NoB w (w.alloc (.cells (e.cells (.slice a1 e.payload.length c1) (.slice a3 e.sigs.length c3)).toArray 28)):=Fr.refl.alloc _;have hW:w.heap.size<(w.alloc (.cells (e.cells (.slice a1 e.payload.length c1) (.slice a3 e.sigs.length c3)).toArray 28)).heap.size:=by rw[World.size_alloc];omega
 obtain⟨c0,cD,-,cP,cO,cI,cK,hv⟩:=En.parts h0 hR;have hE:zju zjs e=true:=by unfold zau at hchk;simp only[Bool.and_eq_true]at hchk;exact hchk.1
 have Ax:e.sigs.length≤8:=by
  unfold zau zb0 at hchk;simp only[Bool.and_eq_true,decide_eq_true_eq]at hchk;exact hchk.2.1.2.2
 have Ab:=fun V (h:Fr NoB w V)=>zpn S e.payload (.slice a1 e.payload.length c1) V (hb.fr h (fun _ _ _ _ h=>h)) hpn hp5
 have Ac:=fun V (h:Fr NoB w V)=>zf8 S e.payload (.slice a1 e.payload.length c1) V (hb.fr h (fun _ _ _ _ h=>h)) (AF.fr h (fun _ _ _ h=>h.elim)) (by omega)
 have AZ:(Tryz.prog.info? 23).map (·.size)=some (zj e.digest).length:=by rw[j3,jm,h0.1]
 obtain⟨C,hC⟩:∃ C,e.cells (.slice a1 e.payload.length c1) (.slice a3 e.sigs.length c3)=C:=⟨_,rfl⟩;rw[hC]at hR hF hW c0 cD cP cO cI cK hv ⊢;have A8:=zi AZ;have Am:=zi Af;have Hok:=zi h0;have Hsi:=zi hj;have Hown:=zi hE;have Hsh:=zi Ab;have Hsb:=zi Ac;unfold rOf;rw[List.foldl_append];obtain⟨l,hl⟩:∃ l,e.sigs=l:=⟨_,rfl⟩;rw[hl]at hv Am Hsi Aw A3 Ax ⊢;have AT:=zi (show ∀ s∈l,s.ok by rw[← hl];exact h0.2.2);clear AZ Af h0 hj hC hg hb hchk Av hl hE Ab Ac AF hpn;go_enter Tryz.func20,Tryz.ntmps20
 go_upto_region 1 with(fail)
 change Code.wp _ _ _ _ (w.alloc (.cells C.toArray 28));obtain⟨W,Ag⟩:∃ W,w.alloc (.cells C.toArray 28)=W:=⟨_,rfl⟩;rw[Ag]at hR hF hW c0 cD cP cO cI cK hv ⊢;obtain⟨p,hp⟩:∃ p,w.heap.size=p:=⟨_,rfl⟩;rw[hp]at hR hW c0 cD cP cO cI cK hv;rw[hp];obtain⟨B0,A4⟩:∃ B,p=B:=⟨_,rfl⟩;have hN:Hid (B0≤W.heap.size∧B0=w.heap.size):=zi (by omega);have Hpe:=zi hp;clear Ag hp hR A4;have HF:=zi hF;have HD:=zi cD;have BI:=zi cK;have A9:=zi cP;have BA:=zi cO;have BB:=zi cI;have BD:=zi c0;have AS:=zi hv;have Aq:Hid (SS (fun k=>B0≤k) (((l.take 0).map qs).foldl zc8 []) (.slice none 0 0) W):=zi ⟨none,0,rfl,Nat.le_refl _,.inl ⟨rfl,rfl⟩⟩;clear hF cD cK cP cO cI c0 hv
 go_wp2_with fail
 go_loopg [3,4] (l.length+1) (fun gf vo vi wr=>∃ i:Nat,vi = .int .i64 i∧i≤l.length∧i+gf=l.length+1∧Hid ((((l.take i).map qs).foldl zc8 []).length≤i)∧Hid (SS (fun k=>B0≤k) (((l.take i).map qs).foldl zc8 []) vo wr)∧Hid (Fr NoB W wr))
 case atStart=>exact⟨0,rfl,by omega,by omega,zi (by simp),Aq,zi Fr.refl⟩
 case round =>
  clear Aq;obtain⟨i,rfl,hi,A1,HL,HO,hH⟩:=hrel;have AD:=Fr.cell hH.out AS.out;by_cases hZ:i<l.length
  ·rcases Am.out with hg0 | ⟨b,o,rfl,hS',hbw,hr⟩
   ·rw[hg0]at hZ;simp at hZ
   have ho:decide ((i:Int)<l.length)=true:=decide_eq_true (by omega);have A0:(i:Int)<l.length:=by omega
   have hy:=AT.out _ (List.getElem_mem hZ);have hj:=Hsi.out _ (List.getElem_mem hZ);have ht:wr.rangeAt b (o+i * 97) l[i].cells.toList:=j0 (j0 (hr i hZ) HF.out hbw (fun _ h=>h)) hH.out (by have:=HF.out.size;omega) (fun _ h=>h)
   have hV:((l.take (i+1)).map qs).foldl zc8 []=zc8 (((l.take i).map qs).foldl zc8 []) (qs l[i]):=by
    rw[List.take_add_one,List.getElem?_eq_getElem hZ,List.map_append,List.foldl_append];rfl
   obtain⟨s,hs⟩:∃ s,l[i]=s:=⟨_,rfl⟩;rw[hs]at hy hj ht hV;rw[Sg.list,qb,qb,zcy]at ht;obtain⟨s0,sK,-⟩:=ht;obtain⟨O,hO⟩:∃ O,((l.take i).map qs).foldl zc8 []=O:=⟨_,rfl⟩;rw[hO]at HL HO hV;have Htk:=zi hV;obtain⟨ao,co,AO,-⟩:=HO.out.form;subst AO;have h7:O.length≤100:=by have:=HL.out;omega
   by_cases hQ:s.id=[]
   ·have hk:qs s=zhw++zat s.key:=by unfold qs;rw[if_pos hQ]
    rw[hQ]at s0;have Hk:=zi hk;have Al:Hid (wr.rangeAt b (o+i * 97+1) (zj s.key)):=zi sK;have Hzk:Hid ((Tryz.prog.info? 25).map (·.size)=some (zj s.key).length):=zi (by rw[q8,jm,hy.1]);have Hrk:=zi (fun V=>zu3 s.key V hy.1);clear hs hy hj hV hO hk sK hr hQ
    go_wp2_with((with_reducible refine zq ?_ 25 _ rfl b (o+i * 97+1) ?_ (zj s.key) (.array 32 5) Al.out jo ?_ Hzk.out ?_);rfl;rfl;rfl)
    refine(Hrk.out _).mono ?_;rintro e' w1 ⟨rfl,hG⟩;have hU:=zi (HO.out.fr hG (fun _ _ _ h=>h));have hT:=zi (hH.out.trans' hG);have Aj:B0≤w1.heap.size:=by have:=hT.out.size;have:=hN.out;omega
    clear hG Al Hzk Hrk s0
    go_wp2_with fail
    refine(zg7 _ O (zhw++zat s.key) _ w1 hU.out (by have:=HL.out;omega)).mono ?_;rintro e' w2 ⟨⟨vn,rfl,hD⟩,hB⟩;have hL:Hid (SS (fun k=>B0≤k) (zc8 O (zhw++zat s.key)) vn w2):=zi (hD.ss.mono (fun k h=>by have:=hT.out.size;have:=hN.out;omega));have hP:=zi (hT.out.trans' hB);clear hD hB;have hL:Hid (SS (fun k=>B0≤k) (((l.take (i+1)).map qs).foldl zc8 []) vn w2):=zi (by rw[Htk.out,Hk.out];exact hL.out);have AX:Hid ((((l.take (i+1)).map qs).foldl zc8 []).length≤i+1):=zi (by rw[Htk.out];have:=HL.out;have h2:=zga O (qs s);omega)
    go_wp2_with fail
    go_roundg (gk - 1)
    case measure=>omega
    case rel=>exact⟨i+1,by simp,by omega,by omega,AX,hL,hP⟩
   have hk:qs s=sId++s.id:=by unfold qs;rw[if_neg hQ]
   have Az:s.id.isEmpty=false:=by cases h:s.id with | nil=>exact absurd h hQ | cons c r=>rfl
   obtain⟨AK,hz⟩:∃ z,s.id=z:=⟨_,rfl⟩;have he:=zvg AK;rw[hz]at s0 hk Az hj;have Hk:=zi hk;have Aj:B0≤wr.heap.size:=by have:=hH.out.size;have:=hN.out;omega
   obtain⟨X,hX⟩:∃ z,sId++AK=z:=⟨_,rfl⟩;rw[hX]at he Hk;have hsl2:AK.length≤1000000:=hj;clear hs hy hj hV hO hk sK hr hQ hz hX
   go_wp2_with fail
   refine(zg7 _ O X _ wr HO.out (by have:=HL.out;omega)).mono ?_;rintro e' w2 ⟨⟨vn,rfl,hD⟩,hB⟩;have hL:Hid (SS (fun k=>B0≤k) (zc8 O X) vn w2):=zi (hD.ss.mono (fun k h=>by have:=hH.out.size;have:=hN.out;omega));have hP:=zi (hH.out.trans' hB);clear hD hB;have hL:Hid (SS (fun k=>B0≤k) (((l.take (i+1)).map qs).foldl zc8 []) vn w2):=zi (by rw[Htk.out,Hk.out];exact hL.out);have AX:Hid ((((l.take (i+1)).map qs).foldl zc8 []).length≤i+1):=zi (by rw[Htk.out];have:=HL.out;have h2:=zga O (qs s);omega)
   go_wp2_with fail
   go_roundg (gk - 1)
   case measure=>omega
   case rel=>exact⟨i+1,by simp,by omega,by omega,AX,hL,hP⟩
  obtain rfl:i=l.length:=by omega
  have ho:decide ((l.length:Int)<l.length)=false:=by simp
  obtain⟨wo,Au⟩:∃ z:World,z=wr:=⟨_,rfl⟩;subst Au;obtain⟨O,hO⟩:∃ O,(l.map qs).foldl zc8 []=O:=⟨_,rfl⟩;rw[List.take_of_length_le (Nat.le_refl _),hO]at HO HL;have AC:=zi hO;obtain⟨ao,co,AO,-⟩:=HO.out.form;subst AO;have h7:O.length≤8:=by have:=HL.out;omega
  have hBo:B0≤wo.heap.size:=by have:=hH.out.size;have:=hN.out;omega
  have hJ:=Fr.cell hH.out BD.out;have hd:=Fr.cell hH.out A9.out;have hh:=Fr.cell hH.out BA.out;have hx:=Fr.cell hH.out BB.out;have At:=zi (j0 HD.out hH.out hW (fun _ h=>h));have BJ:=zi (j0 BI.out hH.out hW (fun _ h=>h));have Ay:p<wo.heap.size:=Nat.lt_of_lt_of_le hW hH.out.size;clear hO;obtain⟨kk,ha⟩:∃ z,e.kind=z:=⟨_,rfl⟩;rw[ha]at hJ;by_cases h1:kk=1
  ·subst h1;have hM:Hid (zij e=[zgx++zat e.digest]):=zi (by unfold zij;simp[ha]);have Hrd:=zi (fun V=>zgc e.digest V Hok.out.1);obtain⟨X,hX⟩:∃ X,zgx++zat e.digest=X:=⟨_,rfl⟩;rw[hX]at Hrd hM;clear hX ha hd hh hx
   go_wp2_with((with_reducible refine zq ?_ 23 _ rfl p 1 ?_ (zj e.digest) (.array 32 5) At.out ji ?_ A8.out ?_);rfl;rfl;rfl)
   refine(Hrd.out _).mono ?_;rintro e' w1 ⟨rfl,hG⟩;have hJ:=Fr.cell hG hJ;have hU:=zi (HO.out.fr hG (fun _ _ _ h=>h));have hT:=zi (hH.out.trans' hG);have Aj:B0≤w1.heap.size:=by have:=hT.out.size;have:=hN.out;omega
   have BC:=zi hJ;clear hG At Hrd hJ AD
   go_wp2_with fail
   refine(zg7 _ O X _ w1 hU.out (by omega)).mono ?_;rintro e' w2 ⟨⟨vn,rfl,hD⟩,hB⟩;have hL:Hid (SS (fun k=>B0≤k) (zc8 O X) vn w2):=zi (hD.ss.mono (fun k h=>by omega));have hJ:=Fr.cell hB BC.out;have hP:=zi (hT.out.trans' hB);clear hD hB
   go_wp2_with fail
   go_ret;refine⟨⟨_,rfl,?_⟩,HF.out.trans' hP.out⟩;rw[hM.out,AC.out,← hN.out.2];exact hL.out
  have h1c:(kk==1)=false:=by simpa using h1
  by_cases h4:kk=4
  ·subst h4;have hM:Hid (zij e=(sId++e.ident) :: (if e.op=3 then [] else [zhw++zat e.key])):=zi (by unfold zij;simp[ha]);have he:=zvg e.ident;have Hrk:=zi (fun V=>zu3 e.key V Hok.out.2.1);have Hzk:Hid ((Tryz.prog.info? 25).map (·.size)=some (zj e.key).length):=zi (by rw[q8,jm,Hok.out.2.1]);obtain⟨AY,hq⟩:∃ z,e.ident=z:=⟨_,rfl⟩;have hidl:AY.length≤1000000:=by rw[← hq];exact A2
   rw[hq]at he hM hx;obtain⟨X,hX⟩:∃ X,sId++AY=X:=⟨_,rfl⟩;rw[hX]at he hM;have hI:=zi hJ;have An:=zi hh;clear hX ha hd hq h1
   go_wp2_with fail
   refine(zg7 _ O X _ wo HO.out (by omega)).mono ?_;rintro e' w1 ⟨⟨vn,rfl,hD⟩,hB⟩;have hU:Hid (SS (fun k=>B0≤k) (zc8 O X) vn w1):=zi (hD.ss.mono (fun k h=>by omega));have hh:=Fr.cell hB An.out;have BK:=zi (j0 BJ.out hB Ay (fun _ h=>h));have hT:=zi (hH.out.trans' hB);clear hD hB hJ hx AD hI An;by_cases h3:e.op=3
   ·rw[if_pos h3]at hM;rw[h3]at hh
    go_wp2_with fail
    go_ret;refine⟨⟨_,rfl,?_⟩,HF.out.trans' hT.out⟩;rw[hM.out,AC.out,← hN.out.2];exact hU.out
   rw[if_neg h3]at hM;have A5:(e.op != 3)=true:=by simpa using h3
   obtain⟨oo,Ae⟩:∃ z,e.op=z:=⟨_,rfl⟩;rw[Ae]at hh A5;obtain⟨O2,AG⟩:∃ z,zc8 O X=z:=⟨_,rfl⟩;have hO2l:O2.length≤9:=by rw[← AG];have:=zga O X;omega
   rw[AG]at hU;have AV:=zi AG;obtain⟨ao2,co2,AN,-⟩:=hU.out.form;subst AN;clear h3 Ae AG
   go_wp2_with((with_reducible refine zq ?_ 25 _ rfl p 37 ?_ (zj e.key) (.array 32 5) BK.out jo ?_ Hzk.out ?_);rfl;rfl;rfl)
   refine(Hrk.out _).mono ?_;rintro e' w2 ⟨rfl,hK⟩;have hL:=zi (hU.out.fr hK (fun _ _ _ h=>h));have hP:=zi (hT.out.trans' hK);have Ai:B0≤w2.heap.size:=by have:=hP.out.size;have:=hN.out;omega
   clear hK hh
   go_wp2_with fail
   refine(zg7 _ O2 (zhw++zat e.key) _ w2 hL.out (by omega)).mono ?_;rintro e' w3 ⟨⟨vn,rfl,hD⟩,hB⟩;have hu:Hid (SS (fun k=>B0≤k) (zc8 O2 (zhw++zat e.key)) vn w3):=zi (hD.ss.mono (fun k h=>by omega));have hw:=zi (hP.out.trans' hB);clear hD hB
   go_wp2_with fail
   go_ret;refine⟨⟨_,rfl,?_⟩,HF.out.trans' hw.out⟩;rw[hM.out,AC.out,← hN.out.2];have h:=hu.out;rw[← AV.out]at h;exact h
  have h4c:(kk==4)=false:=by simpa using h4
  by_cases h2:kk=2
  ·subst h2;have hM:Hid (zij e=[zgx++zat (zak e.payload)]):=zi (by unfold zij;simp[ha]);clear ha hh hx h1 h4;have h8:=HF.out.trans' hH.out;have hm:=Hsh.out _ h8;have Hrd:=zi (fun V=>zgc (zak e.payload) V (zdw _));obtain⟨X,hX⟩:∃ X,zgx++zat (zak e.payload)=X:=⟨_,rfl⟩;rw[hX]at Hrd hM;obtain⟨DS,h9⟩:∃ X,zj (zak e.payload)=X:=⟨_,rfl⟩;rw[h9]at Hrd hm;have Hss:=zi hm;have hI:=zi hJ;have hS:=zi hd;clear h8 hm hX h9
   go_wp2_with fail
   refine Hss.out.mono ?_;rintro e' w1 ⟨rfl,hG⟩;have hU:=zi (HO.out.fr hG (fun _ _ _ h=>h));have hI:=zi (Fr.cell hG hI.out);have hS:=zi (Fr.cell hG hS.out);have hT:=zi (hH.out.trans' hG);clear hG hJ hd AD
   go_wp2_with fail
   refine(Hrd.out _).mono ?_;rintro e' w2 ⟨rfl,hK⟩;have hL:=zi (hU.out.fr hK (fun _ _ _ h=>h));have hI:=zi (Fr.cell hK hI.out);have hS:=zi (Fr.cell hK hS.out);have hP:=zi (hT.out.trans' hK);have Ai:B0≤w2.heap.size:=by have:=hP.out.size;have:=hN.out;omega
   clear hK
   go_wp2_with fail
   refine(zg7 _ O X _ w2 hL.out (by omega)).mono ?_;rintro e' w3 ⟨⟨vn,rfl,hD⟩,hB⟩;have hu:Hid (SS (fun k=>B0≤k) (zc8 O X) vn w3):=zi (hD.ss.mono (fun k h=>by omega));have hJ:=Fr.cell hB hI.out;have hd:=Fr.cell hB hS.out;have hw:=zi (hP.out.trans' hB);clear hD hB hI hS
   go_wp2_with fail
   go_ret;refine⟨⟨_,rfl,?_⟩,HF.out.trans' hw.out⟩;rw[hM.out,AC.out,← hN.out.2];exact hu.out
  have hE:=Hown.out;unfold zju at hE;rw[ha,if_neg h1,if_neg h2]at hE;by_cases h3:kk=3
  ·rw [if_pos h3]at hE;subst h3;obtain⟨ls,AE⟩:=Option.isSome_iff_exists.1 hE;obtain⟨hl16,h5⟩:=zd4 AE;have hM:Hid (zij e=(zgx++zat (zak e.payload)) :: ls.map zhz):=zi (by unfold zij;simp[ha,AE]);have Ad:zcg e.payload=some ls:=by rw[zh7];exact AE
   have BE:=zi (fun V (h:Fr NoB w V)=>(by have:=Hsb.out V h;rw[Ad]at this;exact this:Calls Tryz.prog 41 #[.slice a1 e.payload.length c1] V fun r w'=>(∃ v,r = .returned (.tuple #[v,.bool true])∧w'.ownsRow V.heap.size 79 33 v ls.length (ls.flatMap fun x=>j9 x.1 x.2))∧Fr NoB V w'));have AB:=zi h5;clear hE AE h5 ha hh hx h1 h4 h2 Ad;have h8:=HF.out.trans' hH.out;have hm:=Hsh.out _ h8;have Hrd:=zi (fun V=>zgc (zak e.payload) V (zdw _));obtain⟨X,hX⟩:∃ X,zgx++zat (zak e.payload)=X:=⟨_,rfl⟩;rw[hX]at Hrd hM;obtain⟨DS,h9⟩:∃ X,zj (zak e.payload)=X:=⟨_,rfl⟩;rw[h9]at Hrd hm;have Hss:=zi hm;have hI:=zi hJ;have hS:=zi hd;clear h8 hm hX h9
   go_wp2_with fail
   refine Hss.out.mono ?_;rintro e' w1 ⟨rfl,hG⟩;have hU:=zi (HO.out.fr hG (fun _ _ _ h=>h));have hI:=zi (Fr.cell hG hI.out);have hS:=zi (Fr.cell hG hS.out);have hT:=zi (hH.out.trans' hG);clear hG hJ hd AD
   go_wp2_with fail
   refine(Hrd.out _).mono ?_;rintro e' w2 ⟨rfl,hK⟩;have hL:=zi (hU.out.fr hK (fun _ _ _ h=>h));have hI:=zi (Fr.cell hK hI.out);have hS:=zi (Fr.cell hK hS.out);have hP:=zi (hT.out.trans' hK);have Ai:B0≤w2.heap.size:=by have:=hP.out.size;have:=hN.out;omega
   clear hK
   go_wp2_with fail
   refine(zg7 _ O X _ w2 hL.out (by omega)).mono ?_;rintro e' w3 ⟨⟨vn,rfl,hD⟩,hB⟩;have hu:Hid (SS (fun k=>B0≤k) (zc8 O X) vn w3):=zi (hD.ss.mono (fun k h=>by omega));have hJ:=Fr.cell hB hI.out;have hd:=Fr.cell hB hS.out;have hw:=zi (hP.out.trans' hB);clear hD hB hI hS;have h6:(zc8 O X).length≤9:=by have:=zga O X;omega
   obtain⟨O3,AQ⟩:∃ z,zc8 O X=z:=⟨_,rfl⟩;rw[AQ]at hu h6;have AU:=zi AQ;obtain⟨A7,A6,AM,-⟩:=hu.out.form;subst AM;have Hsu:=zi (BE.out _ (HF.out.trans' hw.out));have hI:=zi hJ;clear AQ
   go_wp2_with fail
   refine Hsu.out.mono ?_;rintro e' w4 ⟨⟨vs,rfl,hn⟩,AH⟩;obtain⟨av,cv,rfl⟩:=zaw hn;have Ap:Hid (SS (fun k=>B0≤k) (((ls.take 0).map zhz).foldl zc8 O3) (.slice A7 O3.length A6) w4):=zi (hu.out.fr AH (fun _ _ _ h=>h));have hI:=zi (Fr.cell AH hI.out);have As:=zi (hw.out.trans' AH);have Hrow:=zi hn;clear hn AH hJ hd
   go_wp2_with fail
   go_loopg [3,7] (ls.length+1) (fun gf vo vi wr=>∃ i:Nat,vi = .int .i64 i∧i≤ls.length∧i+gf=ls.length+1∧Hid ((((ls.take i).map zhz).foldl zc8 O3).length≤9+i)∧Hid (SS (fun k=>B0≤k) (((ls.take i).map zhz).foldl zc8 O3) vo wr)∧Hid (Fr NoB w4 wr))
   case atStart=>exact⟨0,rfl,by omega,by omega,zi (by simpa using h6),Ap,zi Fr.refl⟩
   case round =>
    clear Ap;obtain⟨i,rfl,hi,A1,AW,AI,AJ⟩:=hrel;by_cases hZ:i<ls.length
    ·have ho:decide ((i:Int)<ls.length)=true:=decide_eq_true (by omega);have A0:(i:Int)<ls.length:=by omega
     obtain⟨g,rfl,-,AF,hR⟩:=zip (f:=fun x:Bs × Bs=>j9 x.1 x.2) (n:=33) Hrow.out (fun c hc=>zap (AB.out c hc)) (List.getElem?_eq_getElem hZ);have hf:=AB.out _ (List.getElem_mem hZ)
     have hV:((ls.take (i+1)).map zhz).foldl zc8 O3=zc8 (((ls.take i).map zhz).foldl zc8 O3) (zhz ls[i]):=by
      rw[List.take_add_one,List.getElem?_eq_getElem hZ,List.map_append,List.foldl_append];rfl
     obtain⟨⟨nm,D⟩,hs⟩:∃ s,ls[i]=s:=⟨_,rfl⟩;rw[hs]at hR hf hV;have ht:=j0 hR AJ.out AF (fun _ h=>h);rw[show j9 nm D=[.string ⟨nm.toArray⟩]++zj D from rfl,qb]at ht;have Ao:Hid (wr.rangeAt g (i * 33+1) (zj D)):=zi ht.2;have Aa:(Tryz.prog.info? 23).map (·.size)=some (zj D).length:=by rw[j3,jm,hf]
     have AP:=fun V=>zgc D V hf
     obtain⟨Y,hY⟩:∃ Y,zhz (nm,D)=Y:=⟨_,rfl⟩;rw[show zgx++zat D=zhz (nm,D) from rfl,hY]at AP;rw[hY]at hV;obtain⟨OI,Ah⟩:∃ z,((ls.take i).map zhz).foldl zc8 O3=z:=⟨_,rfl⟩;rw[Ah]at AI AW hV;obtain⟨ao4,co4,AL,-⟩:=AI.out.form;subst AL;have Htk:=zi hV;have AA:=zi AP;have Ak:=zi Aa;have hOIl:OI.length≤100:=by have:=AW.out;omega
     clear hR ht hs hV hY Ah AP Aa hf
     go_wp2_with((with_reducible refine zq ?_ 23 _ rfl g (i * 33+1) ?_ (zj D) (.array 32 5) Ao.out ji ?_ Ak.out ?_);rfl;rfl;rfl)
     refine(AA.out _).mono ?_;rintro e' w5 ⟨rfl,AR⟩;have BG:=zi (AI.out.fr AR (fun _ _ _ h=>h));have Ar:=zi (AJ.out.trans' AR);have hB5:B0≤w5.heap.size:=by have:=Ar.out.size;have:=As.out.size;have:=hN.out;omega
     clear AR Ao AA Ak
     go_wp2_with fail
     refine(zg7 _ OI Y _ w5 BG.out (by omega)).mono ?_;rintro e' w6 ⟨⟨vn,rfl,hD⟩,hB⟩;have BF:Hid (SS (fun k=>B0≤k) (((ls.take (i+1)).map zhz).foldl zc8 O3) vn w6):=zi (by rw[Htk.out];exact hD.ss.mono (fun k h=>by omega));have BH:Hid ((((ls.take (i+1)).map zhz).foldl zc8 O3).length≤9+(i+1)):=zi (by rw[Htk.out];have:=AW.out;have h2:=zga OI Y;omega);have BL:=zi (Ar.out.trans' hB);clear hD hB
     go_wp2_with fail
     go_roundg (gk - 1)
     case measure=>omega
     case rel=>exact⟨i+1,by simp,by omega,by omega,BH,BF,BL⟩
    obtain rfl:i=ls.length:=by omega
    have ho:decide ((ls.length:Int)<ls.length)=false:=by simp
    have hJ:=Fr.cell AJ.out hI.out
    go_wp2_with fail
    go_ret;refine⟨⟨_,rfl,?_⟩,HF.out.trans' (As.out.trans' AJ.out)⟩;rw[hM.out,AC.out,← hN.out.2,List.foldl_cons,AU.out];have h:=AI.out;rw[List.take_of_length_le (Nat.le_refl _)]at h;exact h
  rw[if_neg h3,if_neg h4]at hE;cases hE
end Go.Proofs.YtffggpplnjibgaaGreatDoor
