/-
 The walk of keys.Of at every kind of entry.
-/
import Derived.Test.YtffggpplnjibgaaGreatDoorKTextsEq
import Derived.Test.YtffggpplnjibgaaGreatDoorKLarge16
import Derived.Test.YtffggpplnjibgaaGreatDoorKShaShort
open Go.Lib renaming hid→zi,byteCells→zj
open Go renaming heap_alloc_new→zo,wpList_load_mid→zq
open Nat renaming le_refl→ja
open Go.Value renaming int→jf
open Go.IntKind renaming u8→jg
namespace Go.Proofs.YtffggpplnjibgaaGreatDoor
set_option linter.unusedVariables false
set_option linter.unusedSimpArgs false
set_option linter.unusedSectionVars false
set_option maxRecDepth 100000
set_option maxHeartbeats 4000000
open Go.RowKit Go.Sort Go.Shelf
variable [OldK]
theorem zir (w:World)(v:Value)(T:TypeId):(w.alloc (.cells #[v] T)).cell? ⟨w.heap.size,0,none⟩=some v:=by
 have h:(w.alloc (.cells #[v] T)).heap[w.heap.size]? = some (.cells #[v] T (0,0)):=zo w _;unfold World.cell?;rw[h];rfl
theorem zt2 {α:Type} {n:Nat} (f:α→List Value) (l:List α) (hk:∀ c∈l,(f c).length=n):∀ i c,l[i]? = some c→∀ j v,(f c)[j]? = some v→(l.flatMap f)[i * n+j]? = some v:=by
 induction l with
 | nil=>intro i c hi;cases hi
 | cons x l ih =>
   intro i c hi j v hv;have hx:=hk x (by simp);rw[List.flatMap_cons];cases i with
   | zero =>
     obtain rfl:x=c:=by simpa using hi
     rw[Nat.zero_mul,Nat.zero_add,List.getElem?_append_left (List.getElem?_eq_some_iff.1 hv).1];exact hv
   | succ i =>
     have hm:(i+1) * n=i * n+n:=Nat.succ_mul i n;rw[List.getElem?_append_right (by omega),hx,show(i+1) * n+j - n=i * n+j by omega];exact ih (fun c hc=>hk c (by simp[hc])) i c (by simpa using hi) j v hv
theorem zip {α:Type}{w:World}{base e n:Nat}{a:Option Addr}{cp:Nat}{l:List α}{f:α→List Value}(h:w.ownsRow base e n (.slice a l.length cp) l.length (l.flatMap f))(hk:∀ c∈l,(f c).length=n){i:Nat}{x:α}(hi:l[i]? = some x) :
 ∃ g,a=some ⟨g,0,none⟩∧base≤g∧g<w.heap.size∧w.rangeAt g (i * n) (f x):=by
 rcases h.2 with⟨h1,h2⟩ | ⟨g,cap,cur,h1,h2,h3,-⟩
 ·obtain rfl:l=[]:=List.length_eq_zero_iff.1 h2;cases hi
 obtain⟨rfl,-,rfl⟩:a=some ⟨g,0,none⟩∧l.length=l.length∧cp=cap:=by simpa using h1
 refine⟨g,rfl,h2,ju h3,fun j v hv=>?_⟩;have:=h.cells (g:=g) rfl (i * n+j) v (zt2 f l hk i x hi j v hv);rw[Addr.add_lit,Nat.zero_add]at this;exact this
def MS (B:Nat):Nat→Obj→Prop:=fun k o=>B≤k∧OfTy 9 o
theorem OS.pushT {B:Nat}{l:List Bs}{v:Value}{w W w2:World}(h:OS B l v w)(hW:Fr NoB w W)(hg:W.grownBy w2 v.ownBlock):Fr (MS B) w w2:=by
 have h2:=Fr.ofGrown hg;refine⟨h2.os.trans hW.os,h2.tape.trans hW.tape,h2.output.trans hW.output,Nat.le_trans hW.size h2.size,fun k o hk hn=>h2.block k o (hW.block k o hk (fun h=>h)) (fun he=>?_)⟩;obtain⟨hb,o',hB,ht⟩:=zcj h k he.symm;rw[hk]at hB;cases hB;exact hn ⟨hb,ht⟩
theorem OfTy.same {T U:TypeId}{o:Obj}(h:OfTy T o)(g:OfTy U o):T=U:=by
 obtain⟨c,f,rfl⟩:=h;obtain⟨c',f',h'⟩:=g;cases h';rfl
theorem zd4 {s:Bs} {l:List (Bs × Bs)} (h:zar s=some l):l.length≤16∧∀ x∈l,x.2.length=32:=by
 unfold zar at h;split at h
 ·cases h
 simp only at h;split at h
 ·rename_i hc
  cases h;simp only[Bool.and_eq_true,decide_eq_true_eq,List.length_map]at hc;refine⟨by simpa using hc.2.2,fun x hx=>?_⟩;rw[List.map_map]at hx;obtain⟨j,hj,rfl⟩:=List.mem_map.1 hx;exact zc9 j
 cases h
def zSub33:Array Value:=#[.string ⟨#[]⟩,jf jg 0,jf jg 0,jf jg 0,jf jg 0,jf jg 0,jf jg 0,jf jg 0,jf jg 0,jf jg 0,jf jg 0,jf jg 0,jf jg 0,jf jg 0,jf jg 0,jf jg 0,jf jg 0,jf jg 0,jf jg 0,jf jg 0,jf jg 0,jf jg 0,jf jg 0,jf jg 0,jf jg 0,jf jg 0,jf jg 0,jf jg 0,jf jg 0,jf jg 0,jf jg 0,jf jg 0,jf jg 0]
theorem zSub33_len:zSub33.size=33:=rfl
def zhz (x:Bs × Bs):Bs:=zgx++zat x.2
def zfv (e:En):List Bs :=
 if e.kind=1 then [zgx++zat e.digest]
 else if e.kind=3 then ((zar e.payload).getD []).map zhz++[zgx++zat (zak e.payload)]
 else if e.kind=2 then [zgx++zat (zak e.payload)]
 else if e.kind=4 then (sId++e.ident) :: (if e.op=3 then [] else [zhw++zat e.key])
 else []
def zb1 (e:En):List Bs:=Lib.compact (zf3 (e.sigs.map qs++zfv e))
theorem zly (S S':Nat→Prop) (e:En) (pv sv:Value) (w:World) (hfine:Fine S S' e pv sv w) (hp5:e.payload.length≤500000) (hpn:∀ n c,pv = .slice none n c→c=0) (hchk:zau zjs e=true) :
 Calls Tryz.prog 16 #[.agg (e.cells pv sv).toArray] w fun r w'=>(∃ v,r = .returned (.tuple #[v,.nilIface])∧SS (fun k=>w.heap.size≤k) (zb1 e) v w')∧Fr NoB w w':=by
 obtain⟨AJ,hb,hg,As,BG,Bo,Bl,BH,AS⟩:=hfine;obtain⟨a3,c3,rfl,Bp,BJ⟩:=id hg;have hR:(w.alloc (.cells (e.cells pv (.slice a3 e.sigs.length c3)).toArray 28)).rangeAt w.heap.size 0 (e.cells pv (.slice a3 e.sigs.length c3)):=by simpa using j8 (zo w (.cells (e.cells pv (.slice a3 e.sigs.length c3)).toArray 28))
 have hF:Fr NoB w (w.alloc (.cells (e.cells pv (.slice a3 e.sigs.length c3)).toArray 28)):=Fr.refl.alloc _;have hW:w.heap.size<(w.alloc (.cells (e.cells pv (.slice a3 e.sigs.length c3)).toArray 28)).heap.size:=by rw[World.size_alloc];omega
 obtain⟨c0,cD,-,cP,cO,cI,cK,AZ⟩:=En.parts AJ hR;have Av:=fun V (h:Fr NoB w V)=>zoz zjs S S' e pv (.slice a3 e.sigs.length c3) V AJ (hb.fr h (fun _ _ _ _ h=>h)) (hg.fr h (fun _ _ _ h=>h)) ((zqs hb As Bl).fr h) BG Bo (by omega) BH AS
 have Hown:Hid (zju zjs e=true):=zi (by unfold zau at hchk;simp only[Bool.and_eq_true]at hchk;exact hchk.1);simp only[hchk]at Av;have BK:=fun V=>zeu e.digest V AJ.1
 have hN:=En.size AJ pv (.slice a3 e.sigs.length c3);have hz:(Tryz.prog.info? 28).map (·.size)=some (e.cells pv (.slice a3 e.sigs.length c3)).length:=by rw[j4,hN]
 have BD:(Tryz.prog.info? 23).map (·.size)=some (zj e.digest).length:=by rw[j3,jm,AJ.1]
 obtain⟨C,hC⟩:∃ C,e.cells pv (.slice a3 e.sigs.length c3)=C:=⟨_,rfl⟩;rw[hC]at hR hF hW c0 cD cP cO cI cK AZ Av hz ⊢;have Hck:=zi Av;have Hdg:=zi BK;have Hz:=zi hz;have BZ:=zi BD;obtain⟨d,hu,hd⟩:=zaq;have Hu:=zi hu;have Hd:=zi hd;obtain⟨d2,BF,BM⟩:=zb5;have Bb:=zi BF;have Bd:=zi BM;obtain⟨i0,AU,AN,AM,AL⟩:=info_parts zmr;have Bc:=zi BJ;have Hok:=zi AJ;have Hsi:=zi AS;obtain⟨DK,BW⟩:∃ D,zj e.digest=D:=⟨_,rfl⟩;rw[BW]at cD Hdg BZ;unfold zb1;have Hb:=zi hb;have Hgl:=zi As;have Hpn:=zi hpn;obtain⟨l,hl⟩:∃ l,e.sigs=l:=⟨_,rfl⟩;rw[hl]at AZ Bc Hsi BH Bp ⊢;have A9:=zi (show ∀ s∈l,s.ok by rw[← hl];exact AJ.2.2);clear Av BK hz BD hN hu hd BF BM BJ AJ AS hC hg hb BW hchk BG hl As hpn;go_enter Tryz.func16,Tryz.ntmps16
 go_upto_region 1 with(fail)
 change Code.wp _ _ _ _ (w.alloc (.cells C.toArray 28));obtain⟨W,BO⟩:∃ W,w.alloc (.cells C.toArray 28)=W:=⟨_,rfl⟩;rw[BO]at hR hF hW c0 cD cP cO cI cK AZ ⊢;obtain⟨p,hp⟩:∃ p,w.heap.size=p:=⟨_,rfl⟩;rw[hp]at hR hW c0 cD cP cO cI cK AZ;rw[hp];have HpB:Hid (w.heap.size≤p):=zi (by omega);clear BO hp;have HR:=zi hR;have HF:=zi hF;have HD:=zi cD;have Bf:=zi cK;clear hR hF cD cK
 go_wp2_with((with_reducible refine zq ?_ 28 _ rfl p 0 ?_ C d HR.out Hu.out ?_ Hz.out ?_);rfl;rfl;exact Hd.out)
 refine(Hck.out _ HF.out).mono ?_;rintro r w1 ⟨rfl,AD⟩;unfold zyu;have x0:=Fr.cell AD c0;have Bg:=Fr.cell AD AZ;have B5:=zi (j0 HD.out AD hW (fun _ h=>h));have BC:=zi (j0 Bf.out AD hW (fun _ h=>h));have Bt:=zi (Fr.cell AD cP);have Ba:=zi (Fr.cell AD cO);have Bu:=zi (Fr.cell AD cI);have hq:=zi (HF.out.trans' AD);have Ao:p<w1.heap.size:=Nat.lt_of_lt_of_le hW AD.size;clear AD c0 cP cO cI AZ HR HD Bf
 go_wp2_with fail
 have Be:=zi (OS.nil w1.heap.size w1);have Bv:=zi x0;clear x0 Bg;obtain⟨B1,A4⟩:∃ B,w1.heap.size=B:=⟨_,rfl⟩;rw[A4]at Be Ao;have hV:=zi A4;clear A4
 go_loopg [5,20] (l.length+1) (fun gf vo vi wr=>∃ i:Nat,vi = .int .i64 i∧i≤l.length∧i+gf=l.length+1∧Hid (OS B1 ((l.take i).map qs) vo wr)∧Hid (Fr (fun k _=>B1≤k) w1 wr))
 case atStart=>exact⟨0,rfl,by omega,by omega,Be,zi Fr.refl⟩
 case round =>
  obtain⟨i,rfl,hi,Bn,HO,hf⟩:=hrel;have Bj:=hf.out.size;rw[hV.out]at Bj;by_cases AE:i<l.length
  ·rcases Bc.out with⟨rfl,-⟩ | ⟨b,o,rfl,hS',hbw,hr⟩
   ·simp at AE
   have AT:decide ((i:Int)<l.length)=true:=decide_eq_true (by omega);have Bm:(i:Int)<l.length:=by omega
   have Ap:=A9.out _ (List.getElem_mem AE);have AS:=Hsi.out _ (List.getElem_mem AE);have A2:b<B1:=by have h:=hq.out.size;have h1:=hV.out;omega
   have BQ:w1.rangeAt b (o+i * 97) l[i].cells.toList:=j0 (hr i AE) hq.out hbw (fun _ h=>h);have A3:wr.rangeAt b (o+i * 97) l[i].cells.toList:=j0 BQ hf.out (by rw[hV.out];exact A2) (fun _ h=>by omega)
   have h8:(l.take (i+1)).map qs=(l.take i).map qs++[qs l[i]]:=by
    rw[List.take_add_one,List.getElem?_eq_getElem AE,List.map_append];rfl
   have hn:((l.take i).map qs).length=i:=by simp;omega
   obtain⟨s,hs⟩:∃ s,l[i]=s:=⟨_,rfl⟩;rw[hs]at Ap AS A3 h8;have hN:=Sg.size Ap;have Aq:=fun V=>zr5 s V Ap AS
   have AW:=zi A3;have AK:=zi (show(Tryz.prog.info? 40).map (·.size)=some s.cells.toList.length by rw[zac];simp[hN]);have AV:=zi (show(Tryz.prog.info? 40).map (·.size)=some s.cells.size by rw[zac,hN]);have H1:=zi (Sg.one s);have HT:=zi (show ∀ z:Array Value,z.size=97→(wr.alloc (.cells z 40)).there wr.heap.size 0 s.cells.size from fun z hz=>qa (zo wr _) (by rw[hN,hz];exact ja _));obtain⟨Y,hY⟩:∃ Y,qs s=Y:=⟨_,rfl⟩;obtain⟨O,hO⟩:∃ O,(l.take i).map qs=O:=⟨_,rfl⟩;rw[hY]at Aq h8;rw[hO]at HO hn h8;obtain⟨cs,BN⟩:∃ cs,s.cells=cs:=⟨_,rfl⟩;rw[BN]at AW AK AV H1 HT Aq;have Hsg:=zi Aq;have Htk:=zi h8;have Ak:=zi hn;obtain⟨ao,co,AQ⟩:=HO.out.form;subst AQ;clear BQ A3 hs Ap AS hN Aq h8 hn hY hO BN hr
   go_wp2_with (first
    | ((with_reducible refine zq ?_ 40 _ rfl b (o+i * 97) ?_ cs.toList d2 AW.out Bb.out ?_ AK.out ?_);rfl;rfl;exact Bd.out)
    | ((with_reducible refine wpList_store_mid ?_ 40 _ _ rfl wr.heap.size 0 cs ?_ ?_ (HT.out _ rfl) AV.out H1.out ?_);rfl;rfl;rfl)
    | ((with_reducible refine zq ?_ 40 _ rfl wr.heap.size 0 ?_ cs.toList d2 (World.rangeAt_setCells_same _ wr.heap.size 0 cs.toList (by simpa using HT.out _ rfl)) Bb.out ?_ AK.out ?_);rfl;rfl;exact Bd.out))
   refine(Hsg.out _).mono ?_;rintro e' w2 ⟨rfl,hL⟩;have h6:Fr NoB wr w2:=(((Fr.refl (M:=NoB)).alloc (.cells Tryz.zeroCells40 40)).trans (jr _ _ _ _) (fun k _ hm => .inr (by omega))).trans' hL;have h7:=zi (HO.out.fr h6 (fun _ _ _ _ h=>h));have Al:=zi h6;have AY:=h6.size;clear hL h6 HT AW AK AV H1 Hsg
   go_wp2_with(at_builtin;refine wpList_append_own _ rfl _ _ 33 rfl B1 9 i0 (.string ⟨#[]⟩) 1 16 Tryz.underlying33 AU AN AM AL rfl (by decide) _ _ _ rfl (h7.out.alloc _) ⟨_,0,none⟩ 1 1 [.string ⟨Y.toArray⟩] rfl rfl ?c1 ?c2 ?c3 ?c4 ?c5 ?_)
   case c1=>exact q6 _ _ _ _ rfl
   case c2=>simp[Value.oneCell']
   case c3=>have:=Ak.out;unfold maxLen;omega
   case c4=>have:=Ak.out;omega
   case c5=>simp;omega
   intro v' w3 hD hB _;obtain⟨BU,hK⟩:=h7.out.push (x:=Y) (Fr.refl.alloc _) hD hB;have hZ:=zi BU;have hj:=zi ((hf.out.trans Al.out (fun _ _ h=>h.elim)).trans hK (fun _ _ h => .inl h));clear hD hB BU hK
   go_wp2_with fail
   go_roundg (gk - 1)
   case measure=>omega
   case rel=>exact⟨i+1,by simp,by omega,by omega,by rw[Htk.out];exact hZ,hj⟩
  obtain rfl:i=l.length:=by omega
  have AT:decide ((l.length:Int)<l.length)=false:=by simp
  have Ac:=Fr.cell hf.out Bv.out (fun _ h=>by omega);have AI:=Fr.cell hf.out Bt.out (fun _ h=>by omega);have Am:=Fr.cell hf.out Ba.out (fun _ h=>by omega);have An:=Fr.cell hf.out Bu.out (fun _ h=>by omega);have B4:=zi (j0 B5.out hf.out (by rw[hV.out];exact Ao) (fun _ h=>by omega));have B2:=zi (j0 BC.out hf.out (by rw[hV.out];exact Ao) (fun _ h=>by omega));obtain⟨O,hO⟩:∃ O,l.map qs=O:=⟨_,rfl⟩;have BR:O.length=l.length:=by rw[← hO];simp
  have h7:Hid (OS B1 O u5 wr):=zi (by
   have:=HO.out
   rwa [List.take_of_length_le (ja _),hO]at this)
  have Aj:=zi hO;obtain⟨ao,co,AQ⟩:=h7.out.form;subst AQ;have hy:=zi BR;clear hO BR HO;obtain⟨kk,AC⟩:∃ z,e.kind=z:=⟨_,rfl⟩;rw[AC]at Ac;by_cases h1:kk=1
  ·subst h1;have ho:Hid (zfv e=[zgx++zat e.digest]):=zi (by unfold zfv;rw[if_pos AC]);obtain⟨X,hX⟩:∃ X,zgx++zat e.digest=X:=⟨_,rfl⟩;rw[hX]at Hdg ho;clear hX AC AI Am An
   go_wp2_with((with_reducible refine zq ?_ 23 _ rfl p 1 ?_ DK (.array 32 5) B4.out ji ?_ BZ.out ?_);rfl;rfl;rfl)
   refine(Hdg.out _).mono ?_;rintro e' w2 ⟨rfl,hL⟩;have hZ:=zi (h7.out.fr hL (fun _ _ _ _ h=>h));have h5:=zi (hf.out.trans hL (fun _ _ h=>h.elim));have AY:=hL.size;clear hL Ac h7
   go_wp2_with(at_builtin;refine wpList_append_own _ rfl _ _ 33 rfl B1 9 i0 (.string ⟨#[]⟩) 1 16 Tryz.underlying33 AU AN AM AL rfl (by decide) _ _ _ rfl (hZ.out.alloc _) ⟨_,0,none⟩ 1 1 [.string ⟨(X).toArray⟩] rfl rfl ?c6 ?c7 ?c8 ?c9 ?c10 ?_)
   case c6=>exact q6 _ _ _ _ rfl
   case c7=>simp[Value.oneCell']
   case c8=>have:=hy.out;unfold maxLen;omega
   case c9=>have:=hy.out;omega
   case c10=>simp;omega
   intro v' w3 hD hB _;obtain⟨hQ,hK⟩:=hZ.out.push (x:=X) (Fr.refl.alloc _) hD hB;have hj:=zi (h5.out.trans hK (fun _ _ h => .inl h));have hI:=hQ.sh (by simp);have hP:(O++[X]).length≤1000000:=by have:=hy.out;simp;omega
   have hE:=zib hI hP;obtain⟨g,Ax,rfl,-⟩:=id hI;obtain⟨M,hM⟩:∃ M,zf3 (O++[X])=M:=⟨_,rfl⟩;have AF:M.length≤1000000:=by rw[← hM,zcd];exact hP
   obtain⟨nn,hS⟩:∃ n,(O++[X]).length=n:=⟨_,rfl⟩;rw[hM,hS]at hE;rw[hS];have Hsrt:=zi hE;have HM:=zi hM;clear hD hB hQ hK hI hE hM hS hP
   go_wp2_with fail
   refine Hsrt.out.mono ?_;rintro e' w4 ⟨rfl,hG,hJ⟩;have hh:=zi (hj.out.trans hJ (fun _ _ h => .inl h));have Hcmp:=zi (zd1 hG AF);clear hG hJ
   go_wp2_with fail
   refine Hcmp.out.mono ?_;rintro e' w5 ⟨⟨v5,rfl,hw⟩,hU⟩;have AB:=zi (hh.out.trans hU (fun _ _ h => .inl h));have Hss:=zi hw;clear hw hU
   go_wp2_with fail
   go_ret2;have hN:w.heap.size≤B1:=by rw[← hV.out];exact hq.out.size
   refine⟨⟨_,rfl,?_⟩,hq.out.trans AB.out (fun _ _ hm => .inr (Nat.le_trans hN hm))⟩;rw[Aj.out,ho.out,HM.out];obtain⟨a,c,hv,hc,h | ⟨b,o,ha,hb,hH⟩⟩:=Hss.out
   ·exact⟨a,c,hv,hc,.inl h⟩
   exact⟨a,c,hv,hc,.inr ⟨b,o,ha,Nat.le_trans hN hb,hH⟩⟩
  have A5:(kk==1)=false:=by simpa using h1
  by_cases h4:kk=4
  ·subst h4;have ho:Hid (zfv e=(sId++e.ident) :: (if e.op=3 then [] else [zhw++zat e.key])):=zi (by unfold zfv;rw[if_neg (by omega),if_neg (by omega),if_neg (by omega),if_pos AC]);have HI:=zi (fun V=>zit e.ident V (by omega));have BB:=zi (fun V=>zvb e.key V Hok.out.2.1);have BY:Hid ((Tryz.prog.info? 25).map (·.size)=some (zj e.key).length):=zi (by rw[q8,jm,Hok.out.2.1]);clear AC AI h1;obtain⟨X,hX⟩:∃ X,sId++e.ident=X:=⟨_,rfl⟩;obtain⟨Y,hY⟩:∃ Y,zhw++zat e.key=Y:=⟨_,rfl⟩;rw[hX]at HI;rw[hY]at BB;rw[hX,hY]at ho;obtain⟨KC,BV⟩:∃ X,zj e.key=X:=⟨_,rfl⟩;rw[BV]at BB BY B2 BC;clear hX hY BV
   go_wp2_with fail
   refine(HI.out _).mono ?_;rintro e' w2 ⟨rfl,rfl⟩;have AY:wr.heap.size≤wr.heap.size:=ja _;clear Ac Am An A5
   go_wp2_with(at_builtin;refine wpList_append_own _ rfl _ _ 33 rfl B1 9 i0 (.string ⟨#[]⟩) 1 16 Tryz.underlying33 AU AN AM AL rfl (by decide) _ _ _ rfl (h7.out.alloc _) ⟨_,0,none⟩ 1 1 [.string ⟨(X).toArray⟩] rfl rfl ?c6 ?c7 ?c8 ?c9 ?c10 ?_)
   case c6=>exact q6 _ _ _ _ rfl
   case c7=>simp[Value.oneCell']
   case c8=>have:=hy.out;unfold maxLen;omega
   case c9=>have:=hy.out;omega
   case c10=>simp;omega
   intro v' w3 hD hB _;obtain⟨hQ,hK⟩:=h7.out.push (x:=X) (Fr.refl.alloc _) hD hB;have hj:=zi (hf.out.trans hK (fun _ _ h => .inl h));have AO:=Fr.cell hj.out Ba.out (fun _ h=>by omega);have BA:=zi (j0 BC.out hj.out (by rw[hV.out];exact Ao) (fun _ h=>by omega));by_cases h3:e.op=3
   ·rw[if_pos h3]at ho;rw[h3]at AO;have hI:=hQ.sh (by simp);have hP:(O++[X]).length≤1000000:=by have:=hy.out;simp;omega
    have hE:=zib hI hP;obtain⟨g,Ax,rfl,-⟩:=id hI;obtain⟨M,hM⟩:∃ M,zf3 (O++[X])=M:=⟨_,rfl⟩;have AF:M.length≤1000000:=by rw[← hM,zcd];exact hP
    obtain⟨nn,hS⟩:∃ n,(O++[X]).length=n:=⟨_,rfl⟩;rw[hM,hS]at hE;rw[hS];have Hsrt:=zi hE;have HM:=zi hM;clear hD hB hQ hK hI hE hM hS hP
    go_wp2_with fail
    refine Hsrt.out.mono ?_;rintro e' w4 ⟨rfl,hG,hJ⟩;have hh:=zi (hj.out.trans hJ (fun _ _ h => .inl h));have Hcmp:=zi (zd1 hG AF);clear hG hJ
    go_wp2_with fail
    refine Hcmp.out.mono ?_;rintro e' w5 ⟨⟨v5,rfl,hw⟩,hU⟩;have AB:=zi (hh.out.trans hU (fun _ _ h => .inl h));have Hss:=zi hw;clear hw hU
    go_wp2_with fail
    go_ret2;have hN:w.heap.size≤B1:=by rw[← hV.out];exact hq.out.size
    refine⟨⟨_,rfl,?_⟩,hq.out.trans AB.out (fun _ _ hm => .inr (Nat.le_trans hN hm))⟩;rw[Aj.out,ho.out,HM.out];obtain⟨a,c,hv,hc,h | ⟨b,o,ha,hb,hH⟩⟩:=Hss.out
    ·exact⟨a,c,hv,hc,.inl h⟩
    exact⟨a,c,hv,hc,.inr ⟨b,o,ha,Nat.le_trans hN hb,hH⟩⟩
   rw[if_neg h3]at ho;have Br:(e.op != 3)=true:=by simpa using h3
   obtain⟨oo,BI⟩:∃ z,e.op=z:=⟨_,rfl⟩;rw[BI]at AO Br;obtain⟨O2,hT⟩:∃ Z,O++[X]=Z:=⟨_,rfl⟩;rw[hT]at hQ;have Aa:=zi hQ;have hh:=hj;have AA:Hid (O2.length=l.length+1):=zi (by have:=hy.out;rw[← hT];simp;omega);have AX:=zi hT;obtain⟨a5,c5,rfl⟩:=hQ.form;have hw3:=hj.out.size;clear h3 BI hD hB hQ hK hT
   go_wp2_with((with_reducible refine zq ?_ 25 _ rfl p 37 ?_ KC (.array 32 5) BA.out jo ?_ BY.out ?_);rfl;rfl;rfl)
   refine(BB.out _).mono ?_;rintro e' w2 ⟨rfl,hL⟩;have hZ:=zi (Aa.out.fr hL (fun _ _ _ _ h=>h));have h5:=zi (hh.out.trans hL (fun _ _ h=>h.elim));have Bk:=hL.size;have AY:=h5.out.size;have HB2:=hV.out;clear hL Aa hj hh AO
   go_wp2_with(at_builtin;refine wpList_append_own _ rfl _ _ 33 rfl B1 9 i0 (.string ⟨#[]⟩) 1 16 Tryz.underlying33 AU AN AM AL rfl (by decide) _ _ _ rfl (hZ.out.alloc _) ⟨_,0,none⟩ 1 1 [.string ⟨(Y).toArray⟩] rfl rfl ?c6 ?c7 ?c8 ?c9 ?c10 ?_)
   case c6=>exact q6 _ _ _ _ rfl
   case c7=>simp[Value.oneCell']
   case c8=>have:=AA.out;unfold maxLen;omega
   case c9=>have:=AA.out;omega
   case c10=>simp;omega
   intro v' w3 hD hB _;obtain⟨hQ,hK⟩:=hZ.out.push (x:=Y) (Fr.refl.alloc _) hD hB;have hj:=zi (h5.out.trans hK (fun _ _ h => .inl h));rw[← AX.out,show O++[X]++[Y]=O++[X,Y] by simp]at hQ;have hI:=hQ.sh (by simp);have hP:(O++[X,Y]).length≤1000000:=by have:=hy.out;simp;omega
   have hE:=zib hI hP;obtain⟨g,Ax,rfl,-⟩:=id hI;obtain⟨M,hM⟩:∃ M,zf3 (O++[X,Y])=M:=⟨_,rfl⟩;have AF:M.length≤1000000:=by rw[← hM,zcd];exact hP
   obtain⟨nn,hS⟩:∃ n,(O++[X,Y]).length=n:=⟨_,rfl⟩;rw[hM,hS]at hE;rw[hS];have Hsrt:=zi hE;have HM:=zi hM;clear hD hB hQ hK hI hE hM hS hP
   go_wp2_with fail
   refine Hsrt.out.mono ?_;rintro e' w4 ⟨rfl,hG,hJ⟩;have hh:=zi (hj.out.trans hJ (fun _ _ h => .inl h));have Hcmp:=zi (zd1 hG AF);clear hG hJ
   go_wp2_with fail
   refine Hcmp.out.mono ?_;rintro e' w5 ⟨⟨v5,rfl,hw⟩,hU⟩;have AB:=zi (hh.out.trans hU (fun _ _ h => .inl h));have Hss:=zi hw;clear hw hU
   go_wp2_with fail
   go_ret2;have hN:w.heap.size≤B1:=by rw[← hV.out];exact hq.out.size
   refine⟨⟨_,rfl,?_⟩,hq.out.trans AB.out (fun _ _ hm => .inr (Nat.le_trans hN hm))⟩;rw[Aj.out,ho.out,HM.out];obtain⟨a,c,hv,hc,h | ⟨b,o,ha,hb,hH⟩⟩:=Hss.out
   ·exact⟨a,c,hv,hc,.inl h⟩
   exact⟨a,c,hv,hc,.inr ⟨b,o,ha,Nat.le_trans hN hb,hH⟩⟩
  have Bq:(kk==4)=false:=by simpa using h4
  by_cases h2:kk=2
  ·subst h2;have ho:Hid (zfv e=[zgx++zat (zak e.payload)]):=zi (by unfold zfv;rw[if_neg (by omega),if_neg (by omega),if_pos AC]);clear AC Am An h1 h4 A5 Bq;obtain⟨ap,cp,A0⟩:=Hb.out.form;subst A0;have h6:Fr NoB wr (wr.alloc (.cells #[.slice ap e.payload.length cp] 24)):=Fr.refl.alloc _;have Af:Fr NoB w (wr.alloc (.cells #[.slice ap e.payload.length cp] 24)):=hq.out.trans' (Fr.ofBelow ((hf.out.below (B:=w1.heap.size) (ja _) (fun k o _ h=>by have:=hV.out;omega)).trans ((h6.below (by have:=hf.out.size;omega) (fun _ _ _ h=>h.elim)))))
   have hI:=zqy S [(.slice ap e.payload.length cp,e.payload)] wr.heap.size 1 (wr.alloc (.cells #[.slice ap e.payload.length cp] 24)) (fun i hi=>by
    obtain rfl:i=0:=by simpa using hi
    exact zir _ _ _) (fun x hx=>by
    rw[List.mem_singleton.1 hx]
    exact Hb.out.fr Af (fun _ _ _ _ h=>h)) (fun x hx n c he=>by
    rw[List.mem_singleton.1 hx]at he
    exact Hpn.out _ _ he) (by simp) (by simpa[tot] using hp5)
   have Ae:flat [((.slice ap e.payload.length cp:Value),e.payload)]=e.payload:=by simp[flat]
   rw[Ae]at hI;have Hsh:=zi hI;have Hdp:=zi (fun V=>zeu (zak e.payload) V (zdw _));obtain⟨X,hX⟩:∃ X,zgx++zat (zak e.payload)=X:=⟨_,rfl⟩;rw[hX]at Hdp ho;obtain⟨DS,Ag⟩:∃ X,zj (zak e.payload)=X:=⟨_,rfl⟩;rw[Ag]at Hdp Hsh;have Al:=zi h6;clear hX Ag Ae hI h6 Af
   go_wp2_with fail
   refine Hsh.out.mono ?_;rintro e' w2 ⟨rfl,hL⟩;have h5:=zi (Al.out.trans' hL);clear hL AI
   go_wp2_with fail
   refine(Hdp.out _).mono ?_;rintro e' w3 ⟨rfl,hK⟩;have hJ:=h5.out.trans' hK;have hZ:=zi (h7.out.fr hJ (fun _ _ _ _ h=>h));have AY:=hJ.size;have hh:=zi (hf.out.trans hJ (fun _ _ h=>h.elim));clear hK hJ h5;obtain⟨w2,AP⟩:∃ z:World,z=w3:=⟨_,rfl⟩;subst AP;clear h7 Ac
   go_wp2_with(at_builtin;refine wpList_append_own _ rfl _ _ 33 rfl B1 9 i0 (.string ⟨#[]⟩) 1 16 Tryz.underlying33 AU AN AM AL rfl (by decide) _ _ _ rfl (hZ.out.alloc _) ⟨_,0,none⟩ 1 1 [.string ⟨(X).toArray⟩] rfl rfl ?c6 ?c7 ?c8 ?c9 ?c10 ?_)
   case c6=>exact q6 _ _ _ _ rfl
   case c7=>simp[Value.oneCell']
   case c8=>have:=hy.out;unfold maxLen;omega
   case c9=>have:=hy.out;omega
   case c10=>simp;omega
   intro v' w3 hD hB _;obtain⟨hQ,hK⟩:=hZ.out.push (x:=X) (Fr.refl.alloc _) hD hB;have hj:=zi (hh.out.trans hK (fun _ _ h => .inl h));have hI:=hQ.sh (by simp);have hP:(O++[X]).length≤1000000:=by have:=hy.out;simp;omega
   have hE:=zib hI hP;obtain⟨g,Ax,rfl,-⟩:=id hI;obtain⟨M,hM⟩:∃ M,zf3 (O++[X])=M:=⟨_,rfl⟩;have AF:M.length≤1000000:=by rw[← hM,zcd];exact hP
   obtain⟨nn,hS⟩:∃ n,(O++[X]).length=n:=⟨_,rfl⟩;rw[hM,hS]at hE;rw[hS];have Hsrt:=zi hE;have HM:=zi hM;clear hD hB hQ hK hI hE hM hS hP
   go_wp2_with fail
   refine Hsrt.out.mono ?_;rintro e' w4 ⟨rfl,hG,hJ⟩;have hh:=zi (hj.out.trans hJ (fun _ _ h => .inl h));have Hcmp:=zi (zd1 hG AF);clear hG hJ
   go_wp2_with fail
   refine Hcmp.out.mono ?_;rintro e' w5 ⟨⟨v5,rfl,hw⟩,hU⟩;have AB:=zi (hh.out.trans hU (fun _ _ h => .inl h));have Hss:=zi hw;clear hw hU
   go_wp2_with fail
   go_ret2;have hN:w.heap.size≤B1:=by rw[← hV.out];exact hq.out.size
   refine⟨⟨_,rfl,?_⟩,hq.out.trans AB.out (fun _ _ hm => .inr (Nat.le_trans hN hm))⟩;rw[Aj.out,ho.out,HM.out];obtain⟨a,c,hv,hc,h | ⟨b,o,ha,hb,hH⟩⟩:=Hss.out
   ·exact⟨a,c,hv,hc,.inl h⟩
   exact⟨a,c,hv,hc,.inr ⟨b,o,ha,Nat.le_trans hN hb,hH⟩⟩
  have h2c:(kk==2)=false:=by simpa using h2
  have hk:=Hown.out;unfold zju at hk;rw[AC,if_neg h1,if_neg h2]at hk;by_cases h3:kk=3
  ·rw [if_pos h3]at hk;subst h3;obtain⟨ls,Ar⟩:=Option.isSome_iff_exists.1 hk;obtain⟨A1,Ad⟩:=zd4 Ar;have ho:Hid (zfv e=ls.map zhz++[zgx++zat (zak e.payload)]):=zi (by unfold zfv;rw[if_neg (by omega),if_pos AC,Ar];rfl);obtain⟨ap,cp,A0⟩:=Hb.out.form;subst A0;have AG:Fr NoB w wr:=hq.out.trans' (Fr.ofBelow (hf.out.below (B:=w1.heap.size) (ja _) (fun k o _ h=>by have:=hV.out;omega)));have AR:=zjl S e.payload (.slice ap e.payload.length cp) wr (Hb.out.fr AG (fun _ _ _ _ h=>h)) (Hgl.out.fr AG (fun _ _ _ h=>h.elim)) (Hgl.out.fr AG (fun _ _ _ h=>h.elim)).old (by omega);simp only[Ar]at AR;have Hsub:=zi AR;have Ah:=zi Ad;have HxP2:=zi AI;clear hk Ar AR Ad AG AC Am An h1 h4 h2;have A5:((3:Int)==1)=false:=rfl
   go_wp2_with fail
   refine Hsub.out.mono ?_;rintro e' w2 ⟨⟨v,rfl,h0⟩,hL⟩;obtain⟨av,cv,rfl⟩:=zaw h0;have hZ:=zi (h7.out.fr hL (fun _ _ _ _ h=>h));have A8:=zi (Fr.cell hL AI);have h5:=zi (hf.out.trans hL (fun _ _ h=>h.elim));have Hrow:=zi h0;have AY:=hL.size;clear h0 hL AI h7 Ac;obtain⟨wo,Bi⟩:∃ x:World,x=wr:=⟨_,rfl⟩;subst Bi;obtain⟨d3,BE,BL⟩:=zc2;have By:=zi BE;have Bz:=zi BL;have Bw:Hid (B1≤w2.heap.size):=zi (by have h1:=h5.out.size;have h2:=hV.out;omega);have hP:ls.length≤16:=A1;clear BE BL
   go_wp2_with fail
   go_loopg [5,57] (ls.length+1) (fun gf vo vi wr=>∃ i:Nat,vi = .int .i64 i∧i≤ls.length∧i+gf=ls.length+1∧Hid (OS B1 (O++(ls.take i).map zhz) vo wr)∧Hid (Fr (MS B1) w2 wr))
   case atStart=>exact⟨0,rfl,by omega,by omega,zi (by rw[List.take_zero,List.map_nil,List.append_nil];exact hZ.out),zi Fr.refl⟩
   case round =>
    obtain⟨i,rfl,hi,Bn,Ai,Ab⟩:=hrel;have Bh:=Ab.out.size;by_cases AE:i<ls.length
    ·have AT:decide ((i:Int)<ls.length)=true:=decide_eq_true (by omega);have Bm:(i:Int)<ls.length:=by omega
     have h0:=zc0 Hrow.out Ab.out (fun k o _ _ ht hm=>absurd (ht.same hm.2) (by decide));obtain⟨g,rfl,-,As,hR⟩:=zip (f:=fun x:Bs × Bs=>j9 x.1 x.2) (n:=33) h0 (fun c hc=>zap (Ah.out c hc)) (List.getElem?_eq_getElem AE);have h9:=Ah.out _ (List.getElem_mem AE)
     have h8:O++(ls.take (i+1)).map zhz=O++(ls.take i).map zhz++[zhz ls[i]]:=by
      rw[List.take_add_one,List.getElem?_eq_getElem AE,List.map_append,List.append_assoc];rfl
     have hn:(O++(ls.take i).map zhz).length=l.length+i:=by have:=hy.out;simp;omega
     obtain⟨⟨nm,D⟩,hs⟩:∃ s,ls[i]=s:=⟨_,rfl⟩;rw[hs]at hR h9 h8;have At:=fun V=>zeu D V h9
     have Au:(j9 nm D).length=33:=zap h9;have AK:=zi (show(Tryz.prog.info? 79).map (·.size)=some (j9 nm D).length by rw[zad,Au]);have A7:=zi (show(Tryz.prog.info? 79).map (·.size)=some (j9 nm D).toArray.size by rw[zad,List.size_toArray,Au]);have AV:Hid (zSub33.size=(j9 nm D).toArray.size):=zi (zSub33_len.trans (by rw[List.size_toArray,Au]));have H1:=zi (zcc nm D);have A6:=zi (show(Tryz.prog.info? 23).map (·.size)=some (zj D).length by rw[j3,jm,h9])
     have Ay:Hid ((wr.alloc (.cells (j9 nm D).toArray 79)).rangeAt wr.heap.size 1 (zj D)):=zi (by
      have h:=j8 (zo wr (.cells (j9 nm D).toArray 79));rw[List.toList_toArray,show j9 nm D=[.string ⟨nm.toArray⟩]++zj D from rfl,qb]at h
      exact h.2)
     have AW:Hid (wr.rangeAt g (i * 33) (j9 nm D)):=zi hR;obtain⟨Y,hY⟩:∃ Y,zhz (nm,D)=Y:=⟨_,rfl⟩;obtain⟨OI,BS⟩:∃ OI,O++(ls.take i).map zhz=OI:=⟨_,rfl⟩;rw[show zgx++zat D=zhz (nm,D) from rfl,hY]at At;rw[hY]at h8;rw[BS]at Ai hn h8;obtain⟨SC,BP⟩:∃ x,j9 nm D=x:=⟨_,rfl⟩;obtain⟨DC,BX⟩:∃ x,zj D=x:=⟨_,rfl⟩;rw[BP]at AK A7 AV H1 Ay AW;rw[BX]at A6 Ay At;have Hds:=zi At;have Htk:=zi h8;have Ak:=zi hn;obtain⟨ao,co,AQ⟩:=Ai.out.form;subst AQ;clear h0 hR h9 hs At Au h8 hn hY BS BP BX
     go_wp2_with (first
      | ((with_reducible refine zq ?_ 79 _ rfl g (i * 33) ?_ SC d3 AW.out By.out ?_ AK.out ?_);rfl;rfl;exact Bz.out)
      | (refine qc (w:=wr) rfl 79 _ _ rfl zSub33 SC.toArray wr.heap.size rfl rfl rfl A7.out AV.out H1.out ?_)
      | ((with_reducible refine zq ?_ 23 _ rfl wr.heap.size 1 ?_ DC (.array 32 5) Ay.out ji ?_ A6.out ?_);rfl;rfl;rfl))
     refine(Hds.out _).mono ?_;rintro e' w4 ⟨rfl,hJ⟩;have hU:Fr NoB wr w4:=((Fr.refl (M:=NoB)).alloc (.cells SC.toArray 79)).trans' hJ;have Aa:=zi (Ai.out.fr hU (fun _ _ _ _ h=>h));have AB:=zi hU;have Bk:=hU.size;clear hJ hU AW Ay AK A7 AV A6 H1 Hds
     go_wp2_with(at_builtin;refine wpList_append_own _ rfl _ _ 33 rfl B1 9 i0 (.string ⟨#[]⟩) 1 16 Tryz.underlying33 AU AN AM AL rfl (by decide) _ _ _ rfl (Aa.out.alloc _) ⟨_,0,none⟩ 1 1 [.string ⟨Y.toArray⟩] rfl rfl ?c1 ?c2 ?c3 ?c4 ?c5 ?_)
     case c1=>exact q6 _ _ _ _ rfl
     case c2=>simp[Value.oneCell']
     case c3=>have:=Ak.out;unfold maxLen;omega
     case c4=>have:=Ak.out;omega
     case c5=>have:=Bw.out;simp;omega
     intro v' w5 hD hB _;have BT:=(Aa.out.push (x:=Y) (Fr.refl.alloc _) hD hB).1;have B0:=zi BT;have B3:=zi ((Ab.out.trans AB.out (fun _ _ h=>h.elim)).trans (Aa.out.pushT (Fr.refl.alloc _) hB) (fun _ _ h => .inl h));clear hD hB BT
     go_wp2_with fail
     go_roundg (gk - 1)
     case measure=>omega
     case rel=>exact⟨i+1,by simp,by omega,by omega,by rw[Htk.out];exact B0,B3⟩
    obtain rfl:i=ls.length:=by omega
    have AT:decide ((ls.length:Int)<ls.length)=false:=by simp
    have AI:wr.cell? _=_:=Fr.cell Ab.out A8.out (fun o h=>by have:=h.1;omega);obtain⟨KS,Aw⟩:∃ K,ls.map zhz=K:=⟨_,rfl⟩;have hKl:KS.length≤16:=by rw[← Aw,List.length_map];exact hP
    have AH:Hid (OS B1 (O++KS) u5 wr):=zi (by
     have:=Ai.out
     rwa [List.take_of_length_le (ja _),Aw]at this)
    rw[Aw]at ho;have Az:=zi (h5.out.trans Ab.out (fun _ _ h => .inl h.1));obtain⟨O2,hT⟩:∃ Z,O++KS=Z:=⟨_,rfl⟩;rw[hT]at AH;have AA:Hid (O2.length=l.length+KS.length):=zi (by have:=hy.out;rw[← hT];simp;omega);have AX:=zi hT;obtain⟨ao,co,AQ⟩:=AH.out.form;subst AQ;clear Aw hT Ai Ab hZ Hrow Bh;have hwq:B1≤wr.heap.size:=by have h:=Az.out.size;have:=hV.out;omega
    have h6:Fr NoB wr (wr.alloc (.cells #[.slice ap e.payload.length cp] 24)):=Fr.refl.alloc _;have Af:Fr NoB w (wr.alloc (.cells #[.slice ap e.payload.length cp] 24)):=hq.out.trans' (Fr.ofBelow ((Az.out.below (B:=w1.heap.size) (ja _) (fun k o _ h=>by have:=hV.out;omega)).trans ((h6.below (by have:=Az.out.size;omega) (fun _ _ _ h=>h.elim)))))
    have hI:=zqy S [(.slice ap e.payload.length cp,e.payload)] wr.heap.size 1 (wr.alloc (.cells #[.slice ap e.payload.length cp] 24)) (fun i hi=>by
     obtain rfl:i=0:=by simpa using hi
     exact zir _ _ _) (fun x hx=>by
     rw[List.mem_singleton.1 hx]
     exact Hb.out.fr Af (fun _ _ _ _ h=>h)) (fun x hx n c he=>by
     rw[List.mem_singleton.1 hx]at he
     exact Hpn.out _ _ he) (by simp) (by simpa[tot] using hp5)
    have Ae:flat [((.slice ap e.payload.length cp:Value),e.payload)]=e.payload:=by simp[flat]
    rw[Ae]at hI;have Hsh:=zi hI;have Hdp:=zi (fun V=>zeu (zak e.payload) V (zdw _));obtain⟨X,hX⟩:∃ X,zgx++zat (zak e.payload)=X:=⟨_,rfl⟩;rw[hX]at Hdp ho;obtain⟨DS,Ag⟩:∃ X,zj (zak e.payload)=X:=⟨_,rfl⟩;rw[Ag]at Hdp Hsh;have Al:=zi h6;clear hX Ag Ae hI h6 Af
    go_wp2_with fail
    refine Hsh.out.mono ?_;rintro e' w2 ⟨rfl,hL⟩;have h5:=zi (Al.out.trans' hL);clear hL AI
    go_wp2_with fail
    refine(Hdp.out _).mono ?_;rintro e' w3 ⟨rfl,hK⟩;have hJ:=h5.out.trans' hK;have hZ:=zi (AH.out.fr hJ (fun _ _ _ _ h=>h));have AY:=hJ.size;have hh:=zi (Az.out.trans hJ (fun _ _ h=>h.elim));clear hK hJ h5;obtain⟨w2,AP⟩:∃ z:World,z=w3:=⟨_,rfl⟩;subst AP;clear AH
    go_wp2_with(at_builtin;refine wpList_append_own _ rfl _ _ 33 rfl B1 9 i0 (.string ⟨#[]⟩) 1 16 Tryz.underlying33 AU AN AM AL rfl (by decide) _ _ _ rfl (hZ.out.alloc _) ⟨_,0,none⟩ 1 1 [.string ⟨(X).toArray⟩] rfl rfl ?c6 ?c7 ?c8 ?c9 ?c10 ?_)
    case c6=>exact q6 _ _ _ _ rfl
    case c7=>simp[Value.oneCell']
    case c8=>have:=AA.out;unfold maxLen;omega
    case c9=>have:=AA.out;omega
    case c10=>simp;omega
    intro v' w3 hD hB _;obtain⟨hQ,hK⟩:=hZ.out.push (x:=X) (Fr.refl.alloc _) hD hB;have hj:=zi (hh.out.trans hK (fun _ _ h => .inl h));rw[← AX.out,List.append_assoc]at hQ;have hI:=hQ.sh (by simp);have hP:(O++(KS++[X])).length≤1000000:=by have:=hy.out;simp;omega
    have hE:=zib hI hP;obtain⟨g,Ax,rfl,-⟩:=id hI;obtain⟨M,hM⟩:∃ M,zf3 (O++(KS++[X]))=M:=⟨_,rfl⟩;have AF:M.length≤1000000:=by rw[← hM,zcd];exact hP
    obtain⟨nn,hS⟩:∃ n,(O++(KS++[X])).length=n:=⟨_,rfl⟩;rw[hM,hS]at hE;rw[hS];have Hsrt:=zi hE;have HM:=zi hM;clear hD hB hQ hK hI hE hM hS hP
    go_wp2_with fail
    refine Hsrt.out.mono ?_;rintro e' w4 ⟨rfl,hG,hJ⟩;have hh:=zi (hj.out.trans hJ (fun _ _ h => .inl h));have Hcmp:=zi (zd1 hG AF);clear hG hJ
    go_wp2_with fail
    refine Hcmp.out.mono ?_;rintro e' w5 ⟨⟨v5,rfl,hw⟩,hU⟩;have AB:=zi (hh.out.trans hU (fun _ _ h => .inl h));have Hss:=zi hw;clear hw hU
    go_wp2_with fail
    go_ret2;have hN:w.heap.size≤B1:=by rw[← hV.out];exact hq.out.size
    refine⟨⟨_,rfl,?_⟩,hq.out.trans AB.out (fun _ _ hm => .inr (Nat.le_trans hN hm))⟩;rw[Aj.out,ho.out,HM.out];obtain⟨a,c,hv,hc,h | ⟨b,o,ha,hb,hH⟩⟩:=Hss.out
    ·exact⟨a,c,hv,hc,.inl h⟩
    exact⟨a,c,hv,hc,.inr ⟨b,o,ha,Nat.le_trans hN hb,hH⟩⟩
  rw[if_neg h3,if_neg h4]at hk;cases hk
theorem znk (S S':Nat→Prop)(e:En)(pv sv:Value)(w:World)(hfine:Fine S S' e pv sv w)(hchk:zau zjs e=false) :
 Calls Tryz.prog 16 #[.agg (e.cells pv sv).toArray] w fun r w'=>r = .returned (.tuple #[.slice none 0 0,.iface 52 (.int .i64 11)])∧Fr NoB w w':=by
 obtain⟨hG,hb,hg,hH,hD,hM,hL,hK,hE⟩:=hfine;have hR:(w.alloc (.cells (e.cells pv sv).toArray 28)).rangeAt w.heap.size 0 (e.cells pv sv):=by simpa using j8 (zo w (.cells (e.cells pv sv).toArray 28))
 have hF:Fr NoB w (w.alloc (.cells (e.cells pv sv).toArray 28)):=Fr.refl.alloc _;have hB:=fun V (h:Fr NoB w V)=>zoz zjs S S' e pv sv V hG (hb.fr h (fun _ _ _ _ h=>h)) (hg.fr h (fun _ _ _ h=>h)) ((zqs hb hH hL).fr h) hD hM (by omega) hK hE
 simp only[hchk]at hB;have hz:(Tryz.prog.info? 28).map (·.size)=some (e.cells pv sv).length:=by rw[j4,En.size hG]
 obtain⟨C,hC⟩:∃ C,e.cells pv sv=C:=⟨_,rfl⟩;rw[hC]at hR hF hB hz ⊢;have Hck:=zi hB;have Hz:=zi hz;obtain⟨d,hu,hd⟩:=zaq;have Hu:=zi hu;have Hd:=zi hd;clear hB hz hu hd hC hg hb hchk hD hH hE;go_enter Tryz.func16,Tryz.ntmps16
 go_upto_region 1 with(fail)
 change Code.wp _ _ _ _ (w.alloc (.cells C.toArray 28));obtain⟨W,hI⟩:∃ W,w.alloc (.cells C.toArray 28)=W:=⟨_,rfl⟩;rw[hI]at hR hF ⊢;obtain⟨p,hp⟩:∃ p,w.heap.size=p:=⟨_,rfl⟩;rw[hp]at hR;rw[hp];clear hI hp;have HR:=zi hR;have HF:=zi hF;clear hR hF
 go_wp2_with((with_reducible refine zq ?_ 28 _ rfl p 0 ?_ C d HR.out Hu.out ?_ Hz.out ?_);rfl;rfl;exact Hd.out)
 refine(Hck.out _ HF.out).mono ?_;rintro r w1 ⟨rfl,hJ⟩;unfold zyu;have hN:=zi (HF.out.trans' hJ);clear hJ
 go_wp2_with fail
 go_ret2;exact⟨rfl,hN.out⟩
end Go.Proofs.YtffggpplnjibgaaGreatDoor
