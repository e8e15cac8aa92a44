/-
 The walk of keys.Of at every kind of entry.
-/
import Derived.Test.YtffggpplnjibgaaGreatDoorKKeysOf
import Derived.Test.YtffggpplnjibgaaGreatDoorKLarge16
import Derived.Test.YtffggpplnjibgaaGreatDoorKShaShort
open Go.Lib renaming hid→zi,byteCells→zj
open Go renaming heap_alloc_new→zo,wpList_load_mid→zq
open Nat renaming le_refl→ja
open Go.Value renaming int→jf
open Go.IntKind renaming u8→jg
namespace Go.Proofs.YtffggpplnjibgaaGreatDoor
set_option linter.unusedVariables false
set_option linter.unusedSimpArgs false
set_option linter.unusedSectionVars false
set_option maxRecDepth 100000
set_option maxHeartbeats 4000000
open Go.RowKit Go.Sort Go.Shelf
variable [OldK]
theorem zhr (w:World)(v:Value)(T:TypeId):(w.alloc (.cells #[v] T)).cell? ⟨w.heap.size,0,none⟩=some v:=by
 have h:(w.alloc (.cells #[v] T)).heap[w.heap.size]? = some (.cells #[v] T (0,0)):=zo w _;unfold World.cell?;rw[h];rfl
theorem zn5 {α:Type} {n:Nat} (f:α→List Value) (l:List α) (hk:∀ c∈l,(f c).length=n):∀ i c,l[i]? = some c→∀ j v,(f c)[j]? = some v→(l.flatMap f)[i * n+j]? = some v:=by
 induction l with
 | nil=>intro i c hi;cases hi
 | cons x l ih =>
   intro i c hi j v hv;have hx:=hk x (by simp);rw[List.flatMap_cons];cases i with
   | zero =>
     obtain rfl:x=c:=by simpa using hi
     rw[Nat.zero_mul,Nat.zero_add,List.getElem?_append_left (List.getElem?_eq_some_iff.1 hv).1];exact hv
   | succ i =>
     have hm:(i+1) * n=i * n+n:=Nat.succ_mul i n;rw[List.getElem?_append_right (by omega),hx,show(i+1) * n+j - n=i * n+j by omega];exact ih (fun c hc=>hk c (by simp[hc])) i c (by simpa using hi) j v hv
theorem zfj {α:Type}{w:World}{base e n:Nat}{a:Option Addr}{cp:Nat}{l:List α}{f:α→List Value}(h:w.ownsRow base e n (.slice a l.length cp) l.length (l.flatMap f))(hk:∀ c∈l,(f c).length=n){i:Nat}{x:α}(hi:l[i]? = some x) :
 ∃ g,a=some ⟨g,0,none⟩∧base≤g∧g<w.heap.size∧w.rangeAt g (i * n) (f x):=by
 rcases h.2 with⟨h1,h2⟩ | ⟨g,cap,cur,h1,h2,h3,-⟩
 ·obtain rfl:l=[]:=List.length_eq_zero_iff.1 h2;cases hi
 obtain⟨rfl,-,rfl⟩:a=some ⟨g,0,none⟩∧l.length=l.length∧cp=cap:=by simpa using h1
 refine⟨g,rfl,h2,jq h3,fun j v hv=>?_⟩;have:=h.cells (g:=g) rfl (i * n+j) v (zn5 f l hk i x hi j v hv);rw[Addr.add_lit,Nat.zero_add]at this;exact this
def MS (B:Nat):Nat→Obj→Prop:=fun k o=>B≤k∧OfTy 9 o
theorem OS.pushT {B:Nat}{l:List Bs}{v:Value}{w W w2:World}(h:OS B l v w)(hW:Fr NoB w W)(hg:W.grownBy w2 v.ownBlock):Fr (MS B) w w2:=by
 have h2:=Fr.ofGrown hg;refine⟨h2.os.trans hW.os,h2.tape.trans hW.tape,h2.output.trans hW.output,Nat.le_trans hW.size h2.size,fun k o hk hn=>h2.block k o (hW.block k o hk (fun h=>h)) (fun he=>?_)⟩;obtain⟨hb,o',hA,ht⟩:=zcn h k he.symm;rw[hk]at hA;cases hA;exact hn ⟨hb,ht⟩
theorem OfTy.same {T U:TypeId}{o:Obj}(h:OfTy T o)(g:OfTy U o):T=U:=by
 obtain⟨c,f,rfl⟩:=h;obtain⟨c',f',h'⟩:=g;cases h';rfl
theorem zby {s:Bs} {l:List (Bs × Bs)} (h:q8 s=some l):l.length≤16∧∀ x∈l,x.2.length=32:=by
 unfold q8 at h;split at h
 ·cases h
 simp only at h;split at h
 ·rename_i hc
  cases h;simp only[Bool.and_eq_true,decide_eq_true_eq,List.length_map]at hc;refine⟨by simpa using hc.2.2,fun x hx=>?_⟩;rw[List.map_map]at hx;obtain⟨j,hj,rfl⟩:=List.mem_map.1 hx;exact zbf j
 cases h
def zSub33:Array Value:=#[.string ⟨#[]⟩,jf jg 0,jf jg 0,jf jg 0,jf jg 0,jf jg 0,jf jg 0,jf jg 0,jf jg 0,jf jg 0,jf jg 0,jf jg 0,jf jg 0,jf jg 0,jf jg 0,jf jg 0,jf jg 0,jf jg 0,jf jg 0,jf jg 0,jf jg 0,jf jg 0,jf jg 0,jf jg 0,jf jg 0,jf jg 0,jf jg 0,jf jg 0,jf jg 0,jf jg 0,jf jg 0,jf jg 0,jf jg 0]
theorem zSub33_len:zSub33.size=33:=rfl
def zmh (x:Bs × Bs):Bs:=sSha++za9 x.2
def zds (e:En):List Bs :=
 if e.kind=1 then [sSha++za9 e.digest]
 else if e.kind=3 then ((q8 e.payload).getD []).map zmh++[sSha++za9 (zau e.payload)]
 else if e.kind=2 then [sSha++za9 (zau e.payload)]
 else if e.kind=4 then (sId++e.ident) :: (if e.op=3 then [] else [sKey++za9 e.key])
 else []
def zac (e:En):List Bs:=Lib.compact (zd4 (e.sigs.map qx++zds e))
theorem zfn (S S':Nat→Prop) (e:En) (pv sv:Value) (w:World) (hfine:Fine S S' e pv sv w) (hp5:e.payload.length≤500000) (hpn:∀ n c,pv = .slice none n c→c=0) (hchk:zae zi0 e=true) :
 Calls Tryz.prog 16 #[.agg (e.cells pv sv).toArray] w fun r w'=>(∃ v,r = .returned (.tuple #[v,.nilIface])∧SS (fun k=>w.heap.size≤k) (zac e) v w')∧Fr NoB w w':=by
 obtain⟨AI,hb,hg,Ar,BF,Bn,Bk,BG,AR⟩:=hfine;obtain⟨a3,c3,rfl,Bo,BI⟩:=id hg;have hR:(w.alloc (.cells (e.cells pv (.slice a3 e.sigs.length c3)).toArray 28)).rangeAt w.heap.size 0 (e.cells pv (.slice a3 e.sigs.length c3)):=by simpa using jz (zo w (.cells (e.cells pv (.slice a3 e.sigs.length c3)).toArray 28))
 have hF:Fr NoB w (w.alloc (.cells (e.cells pv (.slice a3 e.sigs.length c3)).toArray 28)):=Fr.refl.alloc _;have hW:w.heap.size<(w.alloc (.cells (e.cells pv (.slice a3 e.sigs.length c3)).toArray 28)).heap.size:=by rw[World.size_alloc];omega
 obtain⟨c0,cD,-,cP,cO,cI,cK,AY⟩:=En.parts AI hR;have Au:=fun V (h:Fr NoB w V)=>zha zi0 S S' e pv (.slice a3 e.sigs.length c3) V AI (hb.fr h (fun _ _ _ _ h=>h)) (hg.fr h (fun _ _ _ h=>h)) ((zlh hb Ar Bk).fr h) BF Bn (by omega) BG AR
 have Hown:Hid (zip zi0 e=true):=zi (by unfold zae at hchk;simp only[Bool.and_eq_true]at hchk;exact hchk.1);simp only[hchk]at Au;have BJ:=fun V=>zco e.digest V AI.1
 have hL:=En.size AI pv (.slice a3 e.sigs.length c3);have hz:(Tryz.prog.info? 28).map (·.size)=some (e.cells pv (.slice a3 e.sigs.length c3)).length:=by rw[jm,hL]
 have BC:(Tryz.prog.info? 23).map (·.size)=some (zj e.digest).length:=by rw[j4,jj,AI.1]
 obtain⟨C,hC⟩:∃ C,e.cells pv (.slice a3 e.sigs.length c3)=C:=⟨_,rfl⟩;rw[hC]at hR hF hW c0 cD cP cO cI cK AY Au hz ⊢;have Hck:=zi Au;have Hdg:=zi BJ;have Hz:=zi hz;have BY:=zi BC;obtain⟨d,hu,hd⟩:=qm;have Hu:=zi hu;have Hd:=zi hd;obtain⟨d2,BE,BL⟩:=zb9;have Ba:=zi BE;have Bc:=zi BL;obtain⟨i0,AT,AM,AL,AK⟩:=info_parts zij;have Bb:=zi BI;have Hok:=zi AI;have Hsi:=zi AR;obtain⟨DK,BV⟩:∃ D,zj e.digest=D:=⟨_,rfl⟩;rw[BV]at cD Hdg BY;unfold zac;have Hb:=zi hb;have Hgl:=zi Ar;have Hpn:=zi hpn;obtain⟨l,hl⟩:∃ l,e.sigs=l:=⟨_,rfl⟩;rw[hl]at AY Bb Hsi BG Bo ⊢;have A8:=zi (show ∀ s∈l,s.ok by rw[← hl];exact AI.2.2);clear Au BJ hz BC hL hu hd BE BL BI AI AR hC hg hb BV hchk BF hl Ar hpn;go_enter Tryz.func16,Tryz.ntmps16
 go_upto_region 1 with(fail)
 change Code.wp _ _ _ _ (w.alloc (.cells C.toArray 28));obtain⟨W,BN⟩:∃ W,w.alloc (.cells C.toArray 28)=W:=⟨_,rfl⟩;rw[BN]at hR hF hW c0 cD cP cO cI cK AY ⊢;obtain⟨p,hp⟩:∃ p,w.heap.size=p:=⟨_,rfl⟩;rw[hp]at hR hW c0 cD cP cO cI cK AY;rw[hp];have HpB:Hid (w.heap.size≤p):=zi (by omega);clear BN hp;have HR:=zi hR;have HF:=zi hF;have HD:=zi cD;have Be:=zi cK;clear hR hF cD cK
 go_wp2_with((with_reducible refine zq ?_ 28 _ rfl p 0 ?_ C d HR.out Hu.out ?_ Hz.out ?_);rfl;rfl;exact Hd.out)
 refine(Hck.out _ HF.out).mono ?_;rintro r w1 ⟨rfl,AC⟩;unfold zre;have x0:=Fr.cell AC c0;have Bf:=Fr.cell AC AY;have B4:=zi (jo HD.out AC hW (fun _ h=>h));have BB:=zi (jo Be.out AC hW (fun _ h=>h));have Br:=zi (Fr.cell AC cP);have BZ:=zi (Fr.cell AC cO);have Bt:=zi (Fr.cell AC cI);have ho:=zi (HF.out.trans' AC);have An:p<w1.heap.size:=Nat.lt_of_lt_of_le hW AC.size;clear AC c0 cP cO cI AY HR HD Be
 go_wp2_with fail
 have Bd:=zi (OS.nil w1.heap.size w1);have Bu:=zi x0;clear x0 Bf;obtain⟨B1,A3⟩:∃ B,w1.heap.size=B:=⟨_,rfl⟩;rw[A3]at Bd An;have hU:=zi A3;clear A3
 go_loopg [5,20] (l.length+1) (fun gf vo vi wr=>∃ i:Nat,vi = .int .i64 i∧i≤l.length∧i+gf=l.length+1∧Hid (OS B1 ((l.take i).map qx) vo wr)∧Hid (Fr (fun k _=>B1≤k) w1 wr))
 case atStart=>exact⟨0,rfl,by omega,by omega,Bd,zi Fr.refl⟩
 case round =>
  obtain⟨i,rfl,hi,Bm,HO,hZ⟩:=hrel;have Bi:=hZ.out.size;rw[hU.out]at Bi;by_cases AD:i<l.length
  ·rcases Bb.out with⟨rfl,-⟩ | ⟨b,o,rfl,hS',hbw,hr⟩
   ·simp at AD
   have AS:decide ((i:Int)<l.length)=true:=decide_eq_true (by omega);have Bl:(i:Int)<l.length:=by omega
   have Ao:=A8.out _ (List.getElem_mem AD);have AR:=Hsi.out _ (List.getElem_mem AD);have A1:b<B1:=by have h:=ho.out.size;have h1:=hU.out;omega
   have BP:w1.rangeAt b (o+i * 97) l[i].cells.toList:=jo (hr i AD) ho.out hbw (fun _ h=>h);have A2:wr.rangeAt b (o+i * 97) l[i].cells.toList:=jo BP hZ.out (by rw[hU.out];exact A1) (fun _ h=>by omega)
   have h7:(l.take (i+1)).map qx=(l.take i).map qx++[qx l[i]]:=by
    rw[List.take_add_one,List.getElem?_eq_getElem AD,List.map_append];rfl
   have hk:((l.take i).map qx).length=i:=by simp;omega
   obtain⟨s,hs⟩:∃ s,l[i]=s:=⟨_,rfl⟩;rw[hs]at Ao AR A2 h7;have hL:=Sg.size Ao;have Ap:=fun V=>zmi s V Ao AR
   have AV:=zi A2;have AJ:=zi (show(Tryz.prog.info? 40).map (·.size)=some s.cells.toList.length by rw[qk];simp[hL]);have AU:=zi (show(Tryz.prog.info? 40).map (·.size)=some s.cells.size by rw[qk,hL]);have H1:=zi (Sg.one s);have HT:=zi (show ∀ z:Array Value,z.size=97→(wr.alloc (.cells z 40)).there wr.heap.size 0 s.cells.size from fun z hz=>jw (zo wr _) (by rw[hL,hz];exact ja _));obtain⟨Y,hY⟩:∃ Y,qx s=Y:=⟨_,rfl⟩;obtain⟨O,hO⟩:∃ O,(l.take i).map qx=O:=⟨_,rfl⟩;rw[hY]at Ap h7;rw[hO]at HO hk h7;obtain⟨cs,BM⟩:∃ cs,s.cells=cs:=⟨_,rfl⟩;rw[BM]at AV AJ AU H1 HT Ap;have Hsg:=zi Ap;have Htk:=zi h7;have Aj:=zi hk;obtain⟨ao,co,AP⟩:=HO.out.form;subst AP;clear BP A2 hs Ao AR hL Ap h7 hk hY hO BM hr
   go_wp2_with (first
    | ((with_reducible refine zq ?_ 40 _ rfl b (o+i * 97) ?_ cs.toList d2 AV.out Ba.out ?_ AJ.out ?_);rfl;rfl;exact Bc.out)
    | ((with_reducible refine wpList_store_mid ?_ 40 _ _ rfl wr.heap.size 0 cs ?_ ?_ (HT.out _ rfl) AU.out H1.out ?_);rfl;rfl;rfl)
    | ((with_reducible refine zq ?_ 40 _ rfl wr.heap.size 0 ?_ cs.toList d2 (World.rangeAt_setCells_same _ wr.heap.size 0 cs.toList (by simpa using HT.out _ rfl)) Ba.out ?_ AJ.out ?_);rfl;rfl;exact Bc.out))
   refine(Hsg.out _).mono ?_;rintro e' w2 ⟨rfl,hK⟩;have h5:Fr NoB wr w2:=(((Fr.refl (M:=NoB)).alloc (.cells Tryz.zeroCells40 40)).trans (ji _ _ _ _) (fun k _ hm => .inr (by omega))).trans' hK;have h6:=zi (HO.out.fr h5 (fun _ _ _ _ h=>h));have Ak:=zi h5;have AX:=h5.size;clear hK h5 HT AV AJ AU H1 Hsg
   go_wp2_with(at_builtin;refine wpList_append_own _ rfl _ _ 33 rfl B1 9 i0 (.string ⟨#[]⟩) 1 16 Tryz.underlying33 AT AM AL AK rfl (by decide) _ _ _ rfl (h6.out.alloc _) ⟨_,0,none⟩ 1 1 [.string ⟨Y.toArray⟩] rfl rfl ?c1 ?c2 ?c3 ?c4 ?c5 ?_)
   case c1=>exact zan _ _ _ _ rfl
   case c2=>simp[Value.oneCell']
   case c3=>have:=Aj.out;unfold maxLen;omega
   case c4=>have:=Aj.out;omega
   case c5=>simp;omega
   intro v' w3 hB hA _;obtain⟨BT,hJ⟩:=h6.out.push (x:=Y) (Fr.refl.alloc _) hB hA;have hV:=zi BT;have hh:=zi ((hZ.out.trans Ak.out (fun _ _ h=>h.elim)).trans hJ (fun _ _ h => .inl h));clear hB hA BT hJ
   go_wp2_with fail
   go_roundg (gk - 1)
   case measure=>omega
   case rel=>exact⟨i+1,by simp,by omega,by omega,by rw[Htk.out];exact hV,hh⟩
  obtain rfl:i=l.length:=by omega
  have AS:decide ((l.length:Int)<l.length)=false:=by simp
  have Ab:=Fr.cell hZ.out Bu.out (fun _ h=>by omega);have AH:=Fr.cell hZ.out Br.out (fun _ h=>by omega);have Al:=Fr.cell hZ.out BZ.out (fun _ h=>by omega);have Am:=Fr.cell hZ.out Bt.out (fun _ h=>by omega);have B3:=zi (jo B4.out hZ.out (by rw[hU.out];exact An) (fun _ h=>by omega));have B0:=zi (jo BB.out hZ.out (by rw[hU.out];exact An) (fun _ h=>by omega));obtain⟨O,hO⟩:∃ O,l.map qx=O:=⟨_,rfl⟩;have BQ:O.length=l.length:=by rw[← hO];simp
  have h6:Hid (OS B1 O u5 wr):=zi (by
   have:=HO.out
   rwa [List.take_of_length_le (ja _),hO]at this)
  have Ai:=zi hO;obtain⟨ao,co,AP⟩:=h6.out.form;subst AP;have hw:=zi BQ;clear hO BQ HO;obtain⟨kk,AB⟩:∃ z,e.kind=z:=⟨_,rfl⟩;rw[AB]at Ab;by_cases h1:kk=1
  ·subst h1;have hn:Hid (zds e=[sSha++za9 e.digest]):=zi (by unfold zds;rw[if_pos AB]);obtain⟨X,hX⟩:∃ X,sSha++za9 e.digest=X:=⟨_,rfl⟩;rw[hX]at Hdg hn;clear hX AB AH Al Am
   go_wp2_with((with_reducible refine zq ?_ 23 _ rfl p 1 ?_ DK (.array 32 5) B3.out jv ?_ BY.out ?_);rfl;rfl;rfl)
   refine(Hdg.out _).mono ?_;rintro e' w2 ⟨rfl,hK⟩;have hV:=zi (h6.out.fr hK (fun _ _ _ _ h=>h));have h0:=zi (hZ.out.trans hK (fun _ _ h=>h.elim));have AX:=hK.size;clear hK Ab h6
   go_wp2_with(at_builtin;refine wpList_append_own _ rfl _ _ 33 rfl B1 9 i0 (.string ⟨#[]⟩) 1 16 Tryz.underlying33 AT AM AL AK rfl (by decide) _ _ _ rfl (hV.out.alloc _) ⟨_,0,none⟩ 1 1 [.string ⟨(X).toArray⟩] rfl rfl ?c6 ?c7 ?c8 ?c9 ?c10 ?_)
   case c6=>exact zan _ _ _ _ rfl
   case c7=>simp[Value.oneCell']
   case c8=>have:=hw.out;unfold maxLen;omega
   case c9=>have:=hw.out;omega
   case c10=>simp;omega
   intro v' w3 hB hA _;obtain⟨hP,hJ⟩:=hV.out.push (x:=X) (Fr.refl.alloc _) hB hA;have hh:=zi (h0.out.trans hJ (fun _ _ h => .inl h));have hH:=hP.sh (by simp);have hN:(O++[X]).length≤1000000:=by have:=hw.out;simp;omega
   have hD:=zfd hH hN;obtain⟨g,Aw,rfl,-⟩:=id hH;obtain⟨M,hM⟩:∃ M,zd4 (O++[X])=M:=⟨_,rfl⟩;have AE:M.length≤1000000:=by rw[← hM,zaq];exact hN
   obtain⟨nn,hQ⟩:∃ n,(O++[X]).length=n:=⟨_,rfl⟩;rw[hM,hQ]at hD;rw[hQ];have Hsrt:=zi hD;have HM:=zi hM;clear hB hA hP hJ hH hD hM hQ hN
   go_wp2_with fail
   refine Hsrt.out.mono ?_;rintro e' w4 ⟨rfl,hE,hI⟩;have hf:=zi (hh.out.trans hI (fun _ _ h => .inl h));have Hcmp:=zi (zbw hE AE);clear hE hI
   go_wp2_with fail
   refine Hcmp.out.mono ?_;rintro e' w5 ⟨⟨v5,rfl,hq⟩,hT⟩;have AA:=zi (hf.out.trans hT (fun _ _ h => .inl h));have Hss:=zi hq;clear hq hT
   go_wp2_with fail
   go_ret2;have hL:w.heap.size≤B1:=by rw[← hU.out];exact ho.out.size
   refine⟨⟨_,rfl,?_⟩,ho.out.trans AA.out (fun _ _ hm => .inr (Nat.le_trans hL hm))⟩;rw[Ai.out,hn.out,HM.out];obtain⟨a,c,hv,hc,h | ⟨b,o,ha,hb,hG⟩⟩:=Hss.out
   ·exact⟨a,c,hv,hc,.inl h⟩
   exact⟨a,c,hv,hc,.inr ⟨b,o,ha,Nat.le_trans hL hb,hG⟩⟩
  have A4:(kk==1)=false:=by simpa using h1
  by_cases h4:kk=4
  ·subst h4;have hn:Hid (zds e=(sId++e.ident) :: (if e.op=3 then [] else [sKey++za9 e.key])):=zi (by unfold zds;rw[if_neg (by omega),if_neg (by omega),if_neg (by omega),if_pos AB]);have HI:=zi (fun V=>zfp e.ident V (by omega));have BA:=zi (fun V=>zpa e.key V Hok.out.2.1);have BX:Hid ((Tryz.prog.info? 25).map (·.size)=some (zj e.key).length):=zi (by rw[ql,jj,Hok.out.2.1]);clear AB AH h1;obtain⟨X,hX⟩:∃ X,sId++e.ident=X:=⟨_,rfl⟩;obtain⟨Y,hY⟩:∃ Y,sKey++za9 e.key=Y:=⟨_,rfl⟩;rw[hX]at HI;rw[hY]at BA;rw[hX,hY]at hn;obtain⟨KC,BU⟩:∃ X,zj e.key=X:=⟨_,rfl⟩;rw[BU]at BA BX B0 BB;clear hX hY BU
   go_wp2_with fail
   refine(HI.out _).mono ?_;rintro e' w2 ⟨rfl,rfl⟩;have AX:wr.heap.size≤wr.heap.size:=ja _;clear Ab Al Am A4
   go_wp2_with(at_builtin;refine wpList_append_own _ rfl _ _ 33 rfl B1 9 i0 (.string ⟨#[]⟩) 1 16 Tryz.underlying33 AT AM AL AK rfl (by decide) _ _ _ rfl (h6.out.alloc _) ⟨_,0,none⟩ 1 1 [.string ⟨(X).toArray⟩] rfl rfl ?c6 ?c7 ?c8 ?c9 ?c10 ?_)
   case c6=>exact zan _ _ _ _ rfl
   case c7=>simp[Value.oneCell']
   case c8=>have:=hw.out;unfold maxLen;omega
   case c9=>have:=hw.out;omega
   case c10=>simp;omega
   intro v' w3 hB hA _;obtain⟨hP,hJ⟩:=h6.out.push (x:=X) (Fr.refl.alloc _) hB hA;have hh:=zi (hZ.out.trans hJ (fun _ _ h => .inl h));have AN:=Fr.cell hh.out BZ.out (fun _ h=>by omega);have A9:=zi (jo BB.out hh.out (by rw[hU.out];exact An) (fun _ h=>by omega));by_cases h3:e.op=3
   ·rw[if_pos h3]at hn;rw[h3]at AN;have hH:=hP.sh (by simp);have hN:(O++[X]).length≤1000000:=by have:=hw.out;simp;omega
    have hD:=zfd hH hN;obtain⟨g,Aw,rfl,-⟩:=id hH;obtain⟨M,hM⟩:∃ M,zd4 (O++[X])=M:=⟨_,rfl⟩;have AE:M.length≤1000000:=by rw[← hM,zaq];exact hN
    obtain⟨nn,hQ⟩:∃ n,(O++[X]).length=n:=⟨_,rfl⟩;rw[hM,hQ]at hD;rw[hQ];have Hsrt:=zi hD;have HM:=zi hM;clear hB hA hP hJ hH hD hM hQ hN
    go_wp2_with fail
    refine Hsrt.out.mono ?_;rintro e' w4 ⟨rfl,hE,hI⟩;have hf:=zi (hh.out.trans hI (fun _ _ h => .inl h));have Hcmp:=zi (zbw hE AE);clear hE hI
    go_wp2_with fail
    refine Hcmp.out.mono ?_;rintro e' w5 ⟨⟨v5,rfl,hq⟩,hT⟩;have AA:=zi (hf.out.trans hT (fun _ _ h => .inl h));have Hss:=zi hq;clear hq hT
    go_wp2_with fail
    go_ret2;have hL:w.heap.size≤B1:=by rw[← hU.out];exact ho.out.size
    refine⟨⟨_,rfl,?_⟩,ho.out.trans AA.out (fun _ _ hm => .inr (Nat.le_trans hL hm))⟩;rw[Ai.out,hn.out,HM.out];obtain⟨a,c,hv,hc,h | ⟨b,o,ha,hb,hG⟩⟩:=Hss.out
    ·exact⟨a,c,hv,hc,.inl h⟩
    exact⟨a,c,hv,hc,.inr ⟨b,o,ha,Nat.le_trans hL hb,hG⟩⟩
   rw[if_neg h3]at hn;have Bq:(e.op != 3)=true:=by simpa using h3
   obtain⟨oo,BH⟩:∃ z,e.op=z:=⟨_,rfl⟩;rw[BH]at AN Bq;obtain⟨O2,hS⟩:∃ Z,O++[X]=Z:=⟨_,rfl⟩;rw[hS]at hP;have AZ:=zi hP;have hf:=hh;have h9:Hid (O2.length=l.length+1):=zi (by have:=hw.out;rw[← hS];simp;omega);have AW:=zi hS;obtain⟨a5,c5,rfl⟩:=hP.form;have hw3:=hh.out.size;clear h3 BH hB hA hP hJ hS
   go_wp2_with((with_reducible refine zq ?_ 25 _ rfl p 37 ?_ KC (.array 32 5) A9.out j5 ?_ BX.out ?_);rfl;rfl;rfl)
   refine(BA.out _).mono ?_;rintro e' w2 ⟨rfl,hK⟩;have hV:=zi (AZ.out.fr hK (fun _ _ _ _ h=>h));have h0:=zi (hf.out.trans hK (fun _ _ h=>h.elim));have Bj:=hK.size;have AX:=h0.out.size;have HB2:=hU.out;clear hK AZ hh hf AN
   go_wp2_with(at_builtin;refine wpList_append_own _ rfl _ _ 33 rfl B1 9 i0 (.string ⟨#[]⟩) 1 16 Tryz.underlying33 AT AM AL AK rfl (by decide) _ _ _ rfl (hV.out.alloc _) ⟨_,0,none⟩ 1 1 [.string ⟨(Y).toArray⟩] rfl rfl ?c6 ?c7 ?c8 ?c9 ?c10 ?_)
   case c6=>exact zan _ _ _ _ rfl
   case c7=>simp[Value.oneCell']
   case c8=>have:=h9.out;unfold maxLen;omega
   case c9=>have:=h9.out;omega
   case c10=>simp;omega
   intro v' w3 hB hA _;obtain⟨hP,hJ⟩:=hV.out.push (x:=Y) (Fr.refl.alloc _) hB hA;have hh:=zi (h0.out.trans hJ (fun _ _ h => .inl h));rw[← AW.out,show O++[X]++[Y]=O++[X,Y] by simp]at hP;have hH:=hP.sh (by simp);have hN:(O++[X,Y]).length≤1000000:=by have:=hw.out;simp;omega
   have hD:=zfd hH hN;obtain⟨g,Aw,rfl,-⟩:=id hH;obtain⟨M,hM⟩:∃ M,zd4 (O++[X,Y])=M:=⟨_,rfl⟩;have AE:M.length≤1000000:=by rw[← hM,zaq];exact hN
   obtain⟨nn,hQ⟩:∃ n,(O++[X,Y]).length=n:=⟨_,rfl⟩;rw[hM,hQ]at hD;rw[hQ];have Hsrt:=zi hD;have HM:=zi hM;clear hB hA hP hJ hH hD hM hQ hN
   go_wp2_with fail
   refine Hsrt.out.mono ?_;rintro e' w4 ⟨rfl,hE,hI⟩;have hf:=zi (hh.out.trans hI (fun _ _ h => .inl h));have Hcmp:=zi (zbw hE AE);clear hE hI
   go_wp2_with fail
   refine Hcmp.out.mono ?_;rintro e' w5 ⟨⟨v5,rfl,hq⟩,hT⟩;have AA:=zi (hf.out.trans hT (fun _ _ h => .inl h));have Hss:=zi hq;clear hq hT
   go_wp2_with fail
   go_ret2;have hL:w.heap.size≤B1:=by rw[← hU.out];exact ho.out.size
   refine⟨⟨_,rfl,?_⟩,ho.out.trans AA.out (fun _ _ hm => .inr (Nat.le_trans hL hm))⟩;rw[Ai.out,hn.out,HM.out];obtain⟨a,c,hv,hc,h | ⟨b,o,ha,hb,hG⟩⟩:=Hss.out
   ·exact⟨a,c,hv,hc,.inl h⟩
   exact⟨a,c,hv,hc,.inr ⟨b,o,ha,Nat.le_trans hL hb,hG⟩⟩
  have Bp:(kk==4)=false:=by simpa using h4
  by_cases h2:kk=2
  ·subst h2;have hn:Hid (zds e=[sSha++za9 (zau e.payload)]):=zi (by unfold zds;rw[if_neg (by omega),if_neg (by omega),if_pos AB]);clear AB Al Am h1 h4 A4 Bp;obtain⟨ap,cp,Az⟩:=Hb.out.form;subst Az;have h5:Fr NoB wr (wr.alloc (.cells #[.slice ap e.payload.length cp] 24)):=Fr.refl.alloc _;have Ae:Fr NoB w (wr.alloc (.cells #[.slice ap e.payload.length cp] 24)):=ho.out.trans' (Fr.ofBelow ((hZ.out.below (B:=w1.heap.size) (ja _) (fun k o _ h=>by have:=hU.out;omega)).trans ((h5.below (by have:=hZ.out.size;omega) (fun _ _ _ h=>h.elim)))))
   have hH:=zln S [(.slice ap e.payload.length cp,e.payload)] wr.heap.size 1 (wr.alloc (.cells #[.slice ap e.payload.length cp] 24)) (fun i hi=>by
    obtain rfl:i=0:=by simpa using hi
    exact zhr _ _ _) (fun x hx=>by
    rw[List.mem_singleton.1 hx]
    exact Hb.out.fr Ae (fun _ _ _ _ h=>h)) (fun x hx n c he=>by
    rw[List.mem_singleton.1 hx]at he
    exact Hpn.out _ _ he) (by simp) (by simpa[tot] using hp5)
   have Ad:flat [((.slice ap e.payload.length cp:Value),e.payload)]=e.payload:=by simp[flat]
   rw[Ad]at hH;have Hsh:=zi hH;have Hdp:=zi (fun V=>zco (zau e.payload) V (zbs _));obtain⟨X,hX⟩:∃ X,sSha++za9 (zau e.payload)=X:=⟨_,rfl⟩;rw[hX]at Hdp hn;obtain⟨DS,Af⟩:∃ X,zj (zau e.payload)=X:=⟨_,rfl⟩;rw[Af]at Hdp Hsh;have Ak:=zi h5;clear hX Af Ad hH h5 Ae
   go_wp2_with fail
   refine Hsh.out.mono ?_;rintro e' w2 ⟨rfl,hK⟩;have h0:=zi (Ak.out.trans' hK);clear hK AH
   go_wp2_with fail
   refine(Hdp.out _).mono ?_;rintro e' w3 ⟨rfl,hJ⟩;have hI:=h0.out.trans' hJ;have hV:=zi (h6.out.fr hI (fun _ _ _ _ h=>h));have AX:=hI.size;have hf:=zi (hZ.out.trans hI (fun _ _ h=>h.elim));clear hJ hI h0;obtain⟨w2,AO⟩:∃ z:World,z=w3:=⟨_,rfl⟩;subst AO;clear h6 Ab
   go_wp2_with(at_builtin;refine wpList_append_own _ rfl _ _ 33 rfl B1 9 i0 (.string ⟨#[]⟩) 1 16 Tryz.underlying33 AT AM AL AK rfl (by decide) _ _ _ rfl (hV.out.alloc _) ⟨_,0,none⟩ 1 1 [.string ⟨(X).toArray⟩] rfl rfl ?c6 ?c7 ?c8 ?c9 ?c10 ?_)
   case c6=>exact zan _ _ _ _ rfl
   case c7=>simp[Value.oneCell']
   case c8=>have:=hw.out;unfold maxLen;omega
   case c9=>have:=hw.out;omega
   case c10=>simp;omega
   intro v' w3 hB hA _;obtain⟨hP,hJ⟩:=hV.out.push (x:=X) (Fr.refl.alloc _) hB hA;have hh:=zi (hf.out.trans hJ (fun _ _ h => .inl h));have hH:=hP.sh (by simp);have hN:(O++[X]).length≤1000000:=by have:=hw.out;simp;omega
   have hD:=zfd hH hN;obtain⟨g,Aw,rfl,-⟩:=id hH;obtain⟨M,hM⟩:∃ M,zd4 (O++[X])=M:=⟨_,rfl⟩;have AE:M.length≤1000000:=by rw[← hM,zaq];exact hN
   obtain⟨nn,hQ⟩:∃ n,(O++[X]).length=n:=⟨_,rfl⟩;rw[hM,hQ]at hD;rw[hQ];have Hsrt:=zi hD;have HM:=zi hM;clear hB hA hP hJ hH hD hM hQ hN
   go_wp2_with fail
   refine Hsrt.out.mono ?_;rintro e' w4 ⟨rfl,hE,hI⟩;have hf:=zi (hh.out.trans hI (fun _ _ h => .inl h));have Hcmp:=zi (zbw hE AE);clear hE hI
   go_wp2_with fail
   refine Hcmp.out.mono ?_;rintro e' w5 ⟨⟨v5,rfl,hq⟩,hT⟩;have AA:=zi (hf.out.trans hT (fun _ _ h => .inl h));have Hss:=zi hq;clear hq hT
   go_wp2_with fail
   go_ret2;have hL:w.heap.size≤B1:=by rw[← hU.out];exact ho.out.size
   refine⟨⟨_,rfl,?_⟩,ho.out.trans AA.out (fun _ _ hm => .inr (Nat.le_trans hL hm))⟩;rw[Ai.out,hn.out,HM.out];obtain⟨a,c,hv,hc,h | ⟨b,o,ha,hb,hG⟩⟩:=Hss.out
   ·exact⟨a,c,hv,hc,.inl h⟩
   exact⟨a,c,hv,hc,.inr ⟨b,o,ha,Nat.le_trans hL hb,hG⟩⟩
  have h2c:(kk==2)=false:=by simpa using h2
  have hj:=Hown.out;unfold zip at hj;rw[AB,if_neg h1,if_neg h2]at hj;by_cases h3:kk=3
  ·rw [if_pos h3]at hj;subst h3;obtain⟨ls,Aq⟩:=Option.isSome_iff_exists.1 hj;obtain⟨A0,Ac⟩:=zby Aq;have hn:Hid (zds e=ls.map zmh++[sSha++za9 (zau e.payload)]):=zi (by unfold zds;rw[if_neg (by omega),if_pos AB,Aq];rfl);obtain⟨ap,cp,Az⟩:=Hb.out.form;subst Az;have AF:Fr NoB w wr:=ho.out.trans' (Fr.ofBelow (hZ.out.below (B:=w1.heap.size) (ja _) (fun k o _ h=>by have:=hU.out;omega)));have AQ:=zgc S e.payload (.slice ap e.payload.length cp) wr (Hb.out.fr AF (fun _ _ _ _ h=>h)) (Hgl.out.fr AF (fun _ _ _ h=>h.elim)) (Hgl.out.fr AF (fun _ _ _ h=>h.elim)).old (by omega);simp only[Aq]at AQ;have Hsub:=zi AQ;have Ag:=zi Ac;have HxP2:=zi AH;clear hj Aq AQ Ac AF AB Al Am h1 h4 h2;have A4:((3:Int)==1)=false:=rfl
   go_wp2_with fail
   refine Hsub.out.mono ?_;rintro e' w2 ⟨⟨v,rfl,hy⟩,hK⟩;obtain⟨av,cv,rfl⟩:=zal hy;have hV:=zi (h6.out.fr hK (fun _ _ _ _ h=>h));have A7:=zi (Fr.cell hK AH);have h0:=zi (hZ.out.trans hK (fun _ _ h=>h.elim));have Hrow:=zi hy;have AX:=hK.size;clear hy hK AH h6 Ab;obtain⟨wo,Bh⟩:∃ x:World,x=wr:=⟨_,rfl⟩;subst Bh;obtain⟨d3,BD,BK⟩:=za8;have Bw:=zi BD;have By:=zi BK;have Bv:Hid (B1≤w2.heap.size):=zi (by have h1:=h0.out.size;have h2:=hU.out;omega);have hN:ls.length≤16:=A0;clear BD BK
   go_wp2_with fail
   go_loopg [5,57] (ls.length+1) (fun gf vo vi wr=>∃ i:Nat,vi = .int .i64 i∧i≤ls.length∧i+gf=ls.length+1∧Hid (OS B1 (O++(ls.take i).map zmh) vo wr)∧Hid (Fr (MS B1) w2 wr))
   case atStart=>exact⟨0,rfl,by omega,by omega,zi (by rw[List.take_zero,List.map_nil,List.append_nil];exact hV.out),zi Fr.refl⟩
   case round =>
    obtain⟨i,rfl,hi,Bm,Ah,Aa⟩:=hrel;have Bg:=Aa.out.size;by_cases AD:i<ls.length
    ·have AS:decide ((i:Int)<ls.length)=true:=decide_eq_true (by omega);have Bl:(i:Int)<ls.length:=by omega
     have hy:=zfk Hrow.out Aa.out (fun k o _ _ ht hm=>absurd (ht.same hm.2) (by decide));obtain⟨g,rfl,-,Ar,hR⟩:=zfj (f:=fun x:Bs × Bs=>jy x.1 x.2) (n:=33) hy (fun c hc=>zad (Ag.out c hc)) (List.getElem?_eq_getElem AD);have h8:=Ag.out _ (List.getElem_mem AD)
     have h7:O++(ls.take (i+1)).map zmh=O++(ls.take i).map zmh++[zmh ls[i]]:=by
      rw[List.take_add_one,List.getElem?_eq_getElem AD,List.map_append,List.append_assoc];rfl
     have hk:(O++(ls.take i).map zmh).length=l.length+i:=by have:=hw.out;simp;omega
     obtain⟨⟨nm,D⟩,hs⟩:∃ s,ls[i]=s:=⟨_,rfl⟩;rw[hs]at hR h8 h7;have As:=fun V=>zco D V h8
     have At:(jy nm D).length=33:=zad h8;have AJ:=zi (show(Tryz.prog.info? 79).map (·.size)=some (jy nm D).length by rw[qe,At]);have A6:=zi (show(Tryz.prog.info? 79).map (·.size)=some (jy nm D).toArray.size by rw[qe,List.size_toArray,At]);have AU:Hid (zSub33.size=(jy nm D).toArray.size):=zi (zSub33_len.trans (by rw[List.size_toArray,At]));have H1:=zi (zap nm D);have A5:=zi (show(Tryz.prog.info? 23).map (·.size)=some (zj D).length by rw[j4,jj,h8])
     have Ax:Hid ((wr.alloc (.cells (jy nm D).toArray 79)).rangeAt wr.heap.size 1 (zj D)):=zi (by
      have h:=jz (zo wr (.cells (jy nm D).toArray 79));rw[List.toList_toArray,show jy nm D=[.string ⟨nm.toArray⟩]++zj D from rfl,j7]at h
      exact h.2)
     have AV:Hid (wr.rangeAt g (i * 33) (jy nm D)):=zi hR;obtain⟨Y,hY⟩:∃ Y,zmh (nm,D)=Y:=⟨_,rfl⟩;obtain⟨OI,BR⟩:∃ OI,O++(ls.take i).map zmh=OI:=⟨_,rfl⟩;rw[show sSha++za9 D=zmh (nm,D) from rfl,hY]at As;rw[hY]at h7;rw[BR]at Ah hk h7;obtain⟨SC,BO⟩:∃ x,jy nm D=x:=⟨_,rfl⟩;obtain⟨DC,BW⟩:∃ x,zj D=x:=⟨_,rfl⟩;rw[BO]at AJ A6 AU H1 Ax AV;rw[BW]at A5 Ax As;have Hds:=zi As;have Htk:=zi h7;have Aj:=zi hk;obtain⟨ao,co,AP⟩:=Ah.out.form;subst AP;clear hy hR h8 hs As At h7 hk hY BR BO BW
     go_wp2_with (first
      | ((with_reducible refine zq ?_ 79 _ rfl g (i * 33) ?_ SC d3 AV.out Bw.out ?_ AJ.out ?_);rfl;rfl;exact By.out)
      | (refine qn (w:=wr) rfl 79 _ _ rfl zSub33 SC.toArray wr.heap.size rfl rfl rfl A6.out AU.out H1.out ?_)
      | ((with_reducible refine zq ?_ 23 _ rfl wr.heap.size 1 ?_ DC (.array 32 5) Ax.out jv ?_ A5.out ?_);rfl;rfl;rfl))
     refine(Hds.out _).mono ?_;rintro e' w4 ⟨rfl,hI⟩;have hT:Fr NoB wr w4:=((Fr.refl (M:=NoB)).alloc (.cells SC.toArray 79)).trans' hI;have AZ:=zi (Ah.out.fr hT (fun _ _ _ _ h=>h));have AA:=zi hT;have Bj:=hT.size;clear hI hT AV Ax AJ A6 AU A5 H1 Hds
     go_wp2_with(at_builtin;refine wpList_append_own _ rfl _ _ 33 rfl B1 9 i0 (.string ⟨#[]⟩) 1 16 Tryz.underlying33 AT AM AL AK rfl (by decide) _ _ _ rfl (AZ.out.alloc _) ⟨_,0,none⟩ 1 1 [.string ⟨Y.toArray⟩] rfl rfl ?c1 ?c2 ?c3 ?c4 ?c5 ?_)
     case c1=>exact zan _ _ _ _ rfl
     case c2=>simp[Value.oneCell']
     case c3=>have:=Aj.out;unfold maxLen;omega
     case c4=>have:=Aj.out;omega
     case c5=>have:=Bv.out;simp;omega
     intro v' w5 hB hA _;have BS:=(AZ.out.push (x:=Y) (Fr.refl.alloc _) hB hA).1;have Bz:=zi BS;have B2:=zi ((Aa.out.trans AA.out (fun _ _ h=>h.elim)).trans (AZ.out.pushT (Fr.refl.alloc _) hA) (fun _ _ h => .inl h));clear hB hA BS
     go_wp2_with fail
     go_roundg (gk - 1)
     case measure=>omega
     case rel=>exact⟨i+1,by simp,by omega,by omega,by rw[Htk.out];exact Bz,B2⟩
    obtain rfl:i=ls.length:=by omega
    have AS:decide ((ls.length:Int)<ls.length)=false:=by simp
    have AH:wr.cell? _=_:=Fr.cell Aa.out A7.out (fun o h=>by have:=h.1;omega);obtain⟨KS,Av⟩:∃ K,ls.map zmh=K:=⟨_,rfl⟩;have hKl:KS.length≤16:=by rw[← Av,List.length_map];exact hN
    have AG:Hid (OS B1 (O++KS) u5 wr):=zi (by
     have:=Ah.out
     rwa [List.take_of_length_le (ja _),Av]at this)
    rw[Av]at hn;have Ay:=zi (h0.out.trans Aa.out (fun _ _ h => .inl h.1));obtain⟨O2,hS⟩:∃ Z,O++KS=Z:=⟨_,rfl⟩;rw[hS]at AG;have h9:Hid (O2.length=l.length+KS.length):=zi (by have:=hw.out;rw[← hS];simp;omega);have AW:=zi hS;obtain⟨ao,co,AP⟩:=AG.out.form;subst AP;clear Av hS Ah Aa hV Hrow Bg;have hwq:B1≤wr.heap.size:=by have h:=Ay.out.size;have:=hU.out;omega
    have h5:Fr NoB wr (wr.alloc (.cells #[.slice ap e.payload.length cp] 24)):=Fr.refl.alloc _;have Ae:Fr NoB w (wr.alloc (.cells #[.slice ap e.payload.length cp] 24)):=ho.out.trans' (Fr.ofBelow ((Ay.out.below (B:=w1.heap.size) (ja _) (fun k o _ h=>by have:=hU.out;omega)).trans ((h5.below (by have:=Ay.out.size;omega) (fun _ _ _ h=>h.elim)))))
    have hH:=zln S [(.slice ap e.payload.length cp,e.payload)] wr.heap.size 1 (wr.alloc (.cells #[.slice ap e.payload.length cp] 24)) (fun i hi=>by
     obtain rfl:i=0:=by simpa using hi
     exact zhr _ _ _) (fun x hx=>by
     rw[List.mem_singleton.1 hx]
     exact Hb.out.fr Ae (fun _ _ _ _ h=>h)) (fun x hx n c he=>by
     rw[List.mem_singleton.1 hx]at he
     exact Hpn.out _ _ he) (by simp) (by simpa[tot] using hp5)
    have Ad:flat [((.slice ap e.payload.length cp:Value),e.payload)]=e.payload:=by simp[flat]
    rw[Ad]at hH;have Hsh:=zi hH;have Hdp:=zi (fun V=>zco (zau e.payload) V (zbs _));obtain⟨X,hX⟩:∃ X,sSha++za9 (zau e.payload)=X:=⟨_,rfl⟩;rw[hX]at Hdp hn;obtain⟨DS,Af⟩:∃ X,zj (zau e.payload)=X:=⟨_,rfl⟩;rw[Af]at Hdp Hsh;have Ak:=zi h5;clear hX Af Ad hH h5 Ae
    go_wp2_with fail
    refine Hsh.out.mono ?_;rintro e' w2 ⟨rfl,hK⟩;have h0:=zi (Ak.out.trans' hK);clear hK AH
    go_wp2_with fail
    refine(Hdp.out _).mono ?_;rintro e' w3 ⟨rfl,hJ⟩;have hI:=h0.out.trans' hJ;have hV:=zi (AG.out.fr hI (fun _ _ _ _ h=>h));have AX:=hI.size;have hf:=zi (Ay.out.trans hI (fun _ _ h=>h.elim));clear hJ hI h0;obtain⟨w2,AO⟩:∃ z:World,z=w3:=⟨_,rfl⟩;subst AO;clear AG
    go_wp2_with(at_builtin;refine wpList_append_own _ rfl _ _ 33 rfl B1 9 i0 (.string ⟨#[]⟩) 1 16 Tryz.underlying33 AT AM AL AK rfl (by decide) _ _ _ rfl (hV.out.alloc _) ⟨_,0,none⟩ 1 1 [.string ⟨(X).toArray⟩] rfl rfl ?c6 ?c7 ?c8 ?c9 ?c10 ?_)
    case c6=>exact zan _ _ _ _ rfl
    case c7=>simp[Value.oneCell']
    case c8=>have:=h9.out;unfold maxLen;omega
    case c9=>have:=h9.out;omega
    case c10=>simp;omega
    intro v' w3 hB hA _;obtain⟨hP,hJ⟩:=hV.out.push (x:=X) (Fr.refl.alloc _) hB hA;have hh:=zi (hf.out.trans hJ (fun _ _ h => .inl h));rw[← AW.out,List.append_assoc]at hP;have hH:=hP.sh (by simp);have hN:(O++(KS++[X])).length≤1000000:=by have:=hw.out;simp;omega
    have hD:=zfd hH hN;obtain⟨g,Aw,rfl,-⟩:=id hH;obtain⟨M,hM⟩:∃ M,zd4 (O++(KS++[X]))=M:=⟨_,rfl⟩;have AE:M.length≤1000000:=by rw[← hM,zaq];exact hN
    obtain⟨nn,hQ⟩:∃ n,(O++(KS++[X])).length=n:=⟨_,rfl⟩;rw[hM,hQ]at hD;rw[hQ];have Hsrt:=zi hD;have HM:=zi hM;clear hB hA hP hJ hH hD hM hQ hN
    go_wp2_with fail
    refine Hsrt.out.mono ?_;rintro e' w4 ⟨rfl,hE,hI⟩;have hf:=zi (hh.out.trans hI (fun _ _ h => .inl h));have Hcmp:=zi (zbw hE AE);clear hE hI
    go_wp2_with fail
    refine Hcmp.out.mono ?_;rintro e' w5 ⟨⟨v5,rfl,hq⟩,hT⟩;have AA:=zi (hf.out.trans hT (fun _ _ h => .inl h));have Hss:=zi hq;clear hq hT
    go_wp2_with fail
    go_ret2;have hL:w.heap.size≤B1:=by rw[← hU.out];exact ho.out.size
    refine⟨⟨_,rfl,?_⟩,ho.out.trans AA.out (fun _ _ hm => .inr (Nat.le_trans hL hm))⟩;rw[Ai.out,hn.out,HM.out];obtain⟨a,c,hv,hc,h | ⟨b,o,ha,hb,hG⟩⟩:=Hss.out
    ·exact⟨a,c,hv,hc,.inl h⟩
    exact⟨a,c,hv,hc,.inr ⟨b,o,ha,Nat.le_trans hL hb,hG⟩⟩
  rw[if_neg h3,if_neg h4]at hj;cases hj
theorem zi7 (S S':Nat→Prop)(e:En)(pv sv:Value)(w:World)(hfine:Fine S S' e pv sv w)(hchk:zae zi0 e=false) :
 Calls Tryz.prog 16 #[.agg (e.cells pv sv).toArray] w fun r w'=>r = .returned (.tuple #[.slice none 0 0,.iface 52 (.int .i64 11)])∧Fr NoB w w':=by
 obtain⟨hE,hb,hg,hG,hB,hL,hK,hJ,hD⟩:=hfine;have hR:(w.alloc (.cells (e.cells pv sv).toArray 28)).rangeAt w.heap.size 0 (e.cells pv sv):=by simpa using jz (zo w (.cells (e.cells pv sv).toArray 28))
 have hF:Fr NoB w (w.alloc (.cells (e.cells pv sv).toArray 28)):=Fr.refl.alloc _;have hA:=fun V (h:Fr NoB w V)=>zha zi0 S S' e pv sv V hE (hb.fr h (fun _ _ _ _ h=>h)) (hg.fr h (fun _ _ _ h=>h)) ((zlh hb hG hK).fr h) hB hL (by omega) hJ hD
 simp only[hchk]at hA;have hz:(Tryz.prog.info? 28).map (·.size)=some (e.cells pv sv).length:=by rw[jm,En.size hE]
 obtain⟨C,hC⟩:∃ C,e.cells pv sv=C:=⟨_,rfl⟩;rw[hC]at hR hF hA hz ⊢;have Hck:=zi hA;have Hz:=zi hz;obtain⟨d,hu,hd⟩:=qm;have Hu:=zi hu;have Hd:=zi hd;clear hA hz hu hd hC hg hb hchk hB hG hD;go_enter Tryz.func16,Tryz.ntmps16
 go_upto_region 1 with(fail)
 change Code.wp _ _ _ _ (w.alloc (.cells C.toArray 28));obtain⟨W,hH⟩:∃ W,w.alloc (.cells C.toArray 28)=W:=⟨_,rfl⟩;rw[hH]at hR hF ⊢;obtain⟨p,hp⟩:∃ p,w.heap.size=p:=⟨_,rfl⟩;rw[hp]at hR;rw[hp];clear hH hp;have HR:=zi hR;have HF:=zi hF;clear hR hF
 go_wp2_with((with_reducible refine zq ?_ 28 _ rfl p 0 ?_ C d HR.out Hu.out ?_ Hz.out ?_);rfl;rfl;exact Hd.out)
 refine(Hck.out _ HF.out).mono ?_;rintro r w1 ⟨rfl,hI⟩;unfold zre;have hM:=zi (HF.out.trans' hI);clear hI
 go_wp2_with fail
 go_ret2;exact⟨rfl,hM.out⟩
end Go.Proofs.YtffggpplnjibgaaGreatDoor
