/-
 The walk of chapter 17's stands: a table stands as the document says.
-/
import Derived.Test.YtcddlemkimbkcaaGreatDoorKReadEn
import Derived.Test.YtcddlemkimbkcaaGreatDoorKRefAt
import Derived.Test.YtcddlemkimbkcaaGreatDoorKAt
open Go.Lib renaming hid→za,byteCells→zb
open Go.World renaming size_alloc→zf
open Go renaming heap_alloc_new→zh,yieldsIf_load_mid→zj
open List renaming size_toArray→zn
open Nat renaming lt_of_lt_of_le→zu
open Or renaming inl→zv
open Go.Value renaming int→zy
open Go.IntKind renaming u8→z6
namespace Go.Proofs.YtcddlemkimbkcaaGreatDoor
set_option linter.unusedVariables false
set_option linter.unusedSimpArgs false
set_option linter.unusedSectionVars false
set_option maxRecDepth 100000
set_option maxHeartbeats 8000000
open Go.RowKit Go.Shelf
variable [OldK]
def zlf (c:CameV):Chg:=⟨c.pos,c.e.op != 3,c.e.key⟩
theorem zvc {t:Tb}{m:List CameV}(ht:Tied t (m.map CameV.cm))(n:Bs):t.hist n=(hv m n).map zlf:=by
 rw[ht.hist,← zvb,List.map_map];refine List.map_congr_left (fun c hc=>?_);have hz:=ht.zero c.cm (List.mem_map_of_mem (zix hc));show zjn c.e c.pos=zlf c;unfold zjn zlf;by_cases h3:c.e.op=3
 ·rw[if_pos h3];have h4:c.e.key=jo:=hz h3;simp[h3,h4]
 rw[if_neg h3];simp[h3]
theorem zug {w:World}{base g n cap m:Nat}{ns:List Bs}(h:w.ownsRow base 9 1 (.slice (some ⟨g,0,none⟩) n cap) m (ns.map fun s => .string ⟨s.toArray⟩))(i:Nat)(x:Bs)(hi:ns[i]? = some x):w.cell? ⟨g,i,none⟩=some (.string ⟨x.toArray⟩):=by
 have:=h.cells (g:=g) rfl i (.string ⟨x.toArray⟩) (by rw[List.getElem?_map,hi];rfl);rw[Addr.add_lit]at this;rw[Nat.zero_add]at this;exact this
theorem zr9 {w:World} {base g n cap m:Nat} {ks:List Bs} (h:w.ownsRow base 24 32 (.slice (some ⟨g,0,none⟩) n cap) m (ks.flatMap zb)) (hk:∀ x∈ks,x.length=32) (i:Nat) (x:Bs) (hi:ks[i]? = some x):w.rangeAt g (i * 32) (zb x):=by
 have e:ks.flatMap zb=zwh (ks.map fun k=>(k,true)):=by
  unfold zwh;rw[List.flatMap_map]
 rw[e]at h;exact zuh h (fun y hy=>by obtain⟨z,hz,rfl⟩:=List.mem_map.1 hy;exact hk z hz) i (x,true) (by rw[List.getElem?_map,hi];rfl)
theorem ztg (n:Bs):Tryz.prog.built 54 [(0,.string ⟨n.toArray⟩)]=some (Sg.cells ⟨n,jo,zb0⟩):=by kernel_rfl
theorem zwu:(Tryz.prog.info? 117).map (·.size)=some (#[.int .i64 0,.bool false,zy z6 0,zy z6 0,zy z6 0,zy z6 0,zy z6 0,zy z6 0,zy z6 0,zy z6 0,zy z6 0,zy z6 0,zy z6 0,zy z6 0,zy z6 0,zy z6 0,zy z6 0,zy z6 0,zy z6 0,zy z6 0,zy z6 0,zy z6 0,zy z6 0,zy z6 0,zy z6 0,zy z6 0,zy z6 0,zy z6 0,zy z6 0,zy z6 0,zy z6 0,zy z6 0,zy z6 0,zy z6 0]:Array Value).size:=by kernel_rfl
theorem zwv:(#[.int .i64 0,.bool false,zy z6 0,zy z6 0,zy z6 0,zy z6 0,zy z6 0,zy z6 0,zy z6 0,zy z6 0,zy z6 0,zy z6 0,zy z6 0,zy z6 0,zy z6 0,zy z6 0,zy z6 0,zy z6 0,zy z6 0,zy z6 0,zy z6 0,zy z6 0,zy z6 0,zy z6 0,zy z6 0,zy z6 0,zy z6 0,zy z6 0,zy z6 0,zy z6 0,zy z6 0,zy z6 0,zy z6 0,zy z6 0]:Array Value).all (·.oneCell')=true:=by kernel_rfl
theorem zkh {w:World}{base s n:Nat}{e:TypeId}{v:Value}{xs:List Value}(h:w.ownsRow base e s v n xs):(v = .slice none 0 0∧n=0)∨∃ g cap,v = .slice (some ⟨g,0,none⟩) n cap∧base≤g∧g<w.heap.size∧w.there g 0 (n * s):=by
 rcases h.2 with h | ⟨g,cap,cur,h1,h2,h3,h4,h5,h6,-⟩
 ·exact .inl h
 exact .inr ⟨g,cap,h1,h2,jq h3,jr h3 (by rw[h6];exact Nat.mul_le_mul_right _ h4)⟩
theorem zur {m:List CameV} (h:∀ c∈m,c.e.ok) (n:Bs) (p:Int):(rAt (m.map CameV.cm) n p).1.length=32:=by
 rw[ztn,← zvb];cases hf:((hv m n).map CameV.cm).reverse.find? (fun c=>decide (c.2≤p)) with
 | none=>rfl
 | some c =>
   have h1:=List.mem_of_find?_eq_some hf;rw[List.mem_reverse]at h1;obtain⟨c',hc,rfl⟩:=List.mem_map.1 h1;exact(h c' (zix hc)).2.1
theorem znc {tv:Value} {b1 b2:Nat} {t:Tb} (m:List CameV) (v vn vl:Value) (ns ks:List Bs) (place:Int) (w:World) (h:TV tv t w) (hm:CRow m v w) (ht:Tied t (m.map CameV.cm))
 (hn:w.ownsRow b1 9 1 vn ns.length (ns.map fun s => .string ⟨s.toArray⟩)) (hk:w.ownsRow b2 24 32 vl ks.length (ks.flatMap zb)) (hnl:ns.length≤1000) (hkl:ks.length≤1000) (hns:∀ s∈ns,s.length≤maxLen) (hks:∀ k∈ks,k.length=32) :
 Calls Tryz.prog 36 #[tv,v,vn,vl,.int .i64 place] w fun e w'=>e = .returned (.bool true)∧Fr NoB w w':=by
 have Bb:∃ a c,vn = .slice a ns.length c:=by
  rcases zd5 hn with⟨rfl,h0⟩ | ⟨gb,cap,rfl,-⟩
  ·rw[h0];exact⟨_,_,rfl⟩
  exact⟨_,_,rfl⟩
 obtain⟨an,cn,BX⟩:=Bb
 have Be:∃ a c,vl = .slice a ks.length c:=by
  rcases zd5 hk with⟨rfl,h0⟩ | ⟨gb,cap,rfl,-⟩
  ·rw[h0];exact⟨_,_,rfl⟩
  exact⟨_,_,rfl⟩
 obtain⟨ak,ck,BZ⟩:=Be;subst BX BZ;have HT:=za h;have HM:=za hm;have hH:=za ht;have HN:=za hn;have HK:=za hk;have Hns:=za hns;have Hks:=za hks;clear h hm ht hn hk hns hks;go_enter Tryz.func36,Tryz.ntmps36
 go_wp2_with fail
 go_loopg [28] (ns.length+1) (fun gf vi wr=>∃ i:Nat,vi = .int .i64 i∧i≤ns.length∧i+gf=ns.length+1∧Hid (Fr NoB w wr))
 case atStart=>exact⟨0,rfl,by omega,by omega,za Fr.refl⟩
 case round =>
  obtain⟨i,rfl,hi,hig,hX⟩:=hrel;obtain⟨Bm,Ai⟩:∃ x,x=gk:=⟨_,rfl⟩;subst Ai;obtain⟨wo,rfl⟩:∃ wo:World,wo=wr:=⟨_,rfl⟩;by_cases Bc:i<ns.length
  ·as_aux_lemma =>
    have Ag:decide ((i:Int)<ns.length)=true:=decide_eq_true (by omega);obtain⟨x,hx⟩:∃ x,ns[i]? = some x:=⟨_,List.getElem?_eq_getElem Bc⟩;have hP:=Hns.out x (List.mem_of_getElem? hx);rcases zd5 HN.out with⟨-,h0⟩ | ⟨gn,cpn,ean,-,hgn,-⟩
    ·omega
    injection ean with e1 e2 e3
    subst e1;clear e2 e3;have hstr:=Fr.cell hX.out (zug HN.out i x hx) (fun _ h=>h);have hI:=fun V (hV:Fr NoB w V)=>zm4 x V (HT.out.keep hV).toTL hP
    have AQ:=fun V (hV:Fr NoB w V)=>zel m v x V (HM.out.keep hV)
    have AW:=fun V (hV:Fr NoB w V)=>zx5 x place V (HT.out.keep hV) hP
    have AR:=fun V (hV:Fr NoB w V)=>zui m v x place V (HM.out.keep hV)
    have A9:=fun V (hV:Fr NoB w V)=>HT.out.histC x V hV hP
    have A5:=fun V (hV:Fr NoB w V)=>zkj m v x V (HM.out.keep hV)
    have hU:=fun V (hV:Fr NoB w V)=>zio m v ⟨x,jo,zb0⟩ V (HT.out.keep hV).toTL (HM.out.keep hV) hH.out ⟨rfl,rfl⟩ hP
    have AV:=hH.out.bound x;have hG:=zc8 HM.out.ok x;have hh:=hH.out.at' x place;have hq:=zvc hH.out x;obtain⟨⟨bk,bh⟩,hd⟩:∃ y,zad (m.map CameV.cm) x=y:=⟨_,rfl⟩;rw[hd]at AV hG;have hs:(t.last x).key=bk:=congrArg Prod.fst AV;have BD:(t.last x).has=bh:=congrArg Prod.snd AV;simp only[hs,BD]at hI;simp only[hd]at AQ;obtain⟨⟨hp,ch1⟩,AU⟩:∃ y,rAt (m.map CameV.cm) x place=y:=⟨_,rfl⟩;rw[AU]at hh;simp only[hh]at AW;simp only[AU]at AR;have ha:=zur HM.out.ok x place;rw[AU]at ha;simp only at hG ha;have hT:=ja bk;rw[hG]at hT;have ho:=all_oneCell_toArray (j0 bk);have hR:=fun V=>zdi bk bk hG hG V
    simp only[beq_self_eq_true]at hR;have hF:=fun V=>zjo bk bk hG hG V
    simp only[bne_self_eq_false]at hF;have hS:=ja hp;rw[ha]at hS;have hl:=all_oneCell_toArray (j0 hp);have hQ:=fun V=>zdi hp hp ha ha V
    simp only[beq_self_eq_true]at hQ;have hE:=fun V=>zjo hp hp ha ha V
    simp only[bne_self_eq_false]at hE;obtain⟨K1,BF⟩:∃ y,zb bk=y:=⟨_,rfl⟩;obtain⟨K2,BE⟩:∃ y,zb hp=y:=⟨_,rfl⟩;simp only[BF]at hI AQ hT ho hR hF;simp only[BE]at AW AR hS hl hQ hE;have BU:Hid ((Tryz.prog.info? 24).map (·.size)=some K1.length):=za (by rw[jb,hT]);have AL:Hid ((Tryz.prog.info? 24).map (·.size)=some K1.toArray.size):=za (by rw[jb,zn,hT]);have AK:Hid ((#[zy z6 0,zy z6 0,zy z6 0,zy z6 0,zy z6 0,zy z6 0,zy z6 0,zy z6 0,zy z6 0,zy z6 0,zy z6 0,zy z6 0,zy z6 0,zy z6 0,zy z6 0,zy z6 0,zy z6 0,zy z6 0,zy z6 0,zy z6 0,zy z6 0,zy z6 0,zy z6 0,zy z6 0,zy z6 0,zy z6 0,zy z6 0,zy z6 0,zy z6 0,zy z6 0,zy z6 0,zy z6 0]:Array Value).size=K1.toArray.size):=za (by rw[show K1.toArray.size=32 by rw[zn,hT]];rfl);have BV:=za ho;have BS:Hid ((Tryz.prog.info? 24).map (·.size)=some K2.length):=za (by rw[jb,hS]);have AJ:Hid ((Tryz.prog.info? 24).map (·.size)=some K2.toArray.size):=za (by rw[jb,zn,hS]);have AI:Hid ((#[zy z6 0,zy z6 0,zy z6 0,zy z6 0,zy z6 0,zy z6 0,zy z6 0,zy z6 0,zy z6 0,zy z6 0,zy z6 0,zy z6 0,zy z6 0,zy z6 0,zy z6 0,zy z6 0,zy z6 0,zy z6 0,zy z6 0,zy z6 0,zy z6 0,zy z6 0,zy z6 0,zy z6 0,zy z6 0,zy z6 0,zy z6 0,zy z6 0,zy z6 0,zy z6 0,zy z6 0,zy z6 0]:Array Value).size=K2.toArray.size):=za (by rw[show K2.toArray.size=32 by rw[zn,hS]];rfl);have BT:=za hl;have Hbound:=za hI;have Hrb:=za AQ;have Hat:=za AW;have Hra:=za AR;have Hhi:=za A9;have Hrh:=za A5;have Hsg:=za hU;have AC:=za hR;have AB:=za hQ;have he:=za hF;have AA:=za hE;have Hho:=za hq;have Hxl:=za hP;clear hI AQ AW AR A9 A5 hU hR hQ hF hE hT ho hS hl BF BE hG ha AU hd hs BD AV hh hq hP hx
    go_wp2_with fail
    refine(Hbound.out wo hX.out).mono ?_;rintro r w1 ⟨rfl,h7⟩;have h7:=(h7).alloc (.cells K1.toArray 24);have hC:=jg (zh w1 (.cells K1.toArray 24));rw[List.toList_toArray]at hC;have hD:(w1).heap.size<(World.alloc w1 (.cells K1.toArray 24)).heap.size:=by rw[zf];omega
    go_upto_region 5 with((with_reducible refine jh (w:=w1) rfl 24 _ _ rfl _ K1.toArray (w1).heap.size rfl ?_ ?_ AL.out AK.out BV.out ?_);rfl;rfl)
    change Code.wp _ _ _ _ (World.alloc w1 (.cells K1.toArray 24));obtain⟨Wa,hO⟩:∃ V,World.alloc w1 (.cells K1.toArray 24)=V:=⟨_,rfl⟩;rw[hO]at h7 hC hD ⊢;obtain⟨qa,hB⟩:∃ x,(w1).heap.size=x:=⟨_,rfl⟩;rw[hB]at hC hD ⊢;have BK:=za hC;have Hqa:=za hD;clear hO hB hC hD;have BQ:=za (hX.out.trans' h7);clear h7
    go_wp2_with fail
    refine(Hrb.out Wa BQ.out).mono ?_;rintro r w2 ⟨rfl,hz⟩;have hz:=(hz).alloc (.cells K1.toArray 24);have hC:=jg (zh w2 (.cells K1.toArray 24));rw[List.toList_toArray]at hC;have hD:(w2).heap.size<(World.alloc w2 (.cells K1.toArray 24)).heap.size:=by rw[zf];omega
    go_upto_region 6 with((with_reducible refine jh (w:=w2) rfl 24 _ _ rfl _ K1.toArray (w2).heap.size rfl ?_ ?_ AL.out AK.out BV.out ?_);rfl;rfl)
    change Code.wp _ _ _ _ (World.alloc w2 (.cells K1.toArray 24));obtain⟨Wb,hO⟩:∃ V,World.alloc w2 (.cells K1.toArray 24)=V:=⟨_,rfl⟩;rw[hO]at hz hC hD ⊢;obtain⟨qb,hB⟩:∃ x,(w2).heap.size=x:=⟨_,rfl⟩;rw[hB]at hC hD ⊢;have BJ:=za hC;have Hqb:=za hD;clear hO hB hC hD;have AG:=za hz;have BP:=za (BQ.out.trans' hz);clear hz
    go_wp2_with fail
    refine(Hat.out Wb BP.out).mono ?_;rintro r w3 ⟨rfl,hy⟩;have hy:=(hy).alloc (.cells K2.toArray 24);have hC:=jg (zh w3 (.cells K2.toArray 24));rw[List.toList_toArray]at hC;have hD:(w3).heap.size<(World.alloc w3 (.cells K2.toArray 24)).heap.size:=by rw[zf];omega
    go_upto_region 7 with((with_reducible refine jh (w:=w3) rfl 24 _ _ rfl _ K2.toArray (w3).heap.size rfl ?_ ?_ AJ.out AI.out BT.out ?_);rfl;rfl)
    change Code.wp _ _ _ _ (World.alloc w3 (.cells K2.toArray 24));obtain⟨Wc,hO⟩:∃ V,World.alloc w3 (.cells K2.toArray 24)=V:=⟨_,rfl⟩;rw[hO]at hy hC hD ⊢;obtain⟨qc,hB⟩:∃ x,(w3).heap.size=x:=⟨_,rfl⟩;rw[hB]at hC hD ⊢;have BI:=za hC;have Hqc:=za hD;clear hO hB hC hD;have AF:=za hy;have BO:=za (BP.out.trans' hy);clear hy
    go_wp2_with fail
    refine(Hra.out Wc BO.out).mono ?_;rintro r w4 ⟨rfl,hw⟩;have hw:=(hw).alloc (.cells K2.toArray 24);have hC:=jg (zh w4 (.cells K2.toArray 24));rw[List.toList_toArray]at hC;have hD:(w4).heap.size<(World.alloc w4 (.cells K2.toArray 24)).heap.size:=by rw[zf];omega
    go_upto_region 8 with((with_reducible refine jh (w:=w4) rfl 24 _ _ rfl _ K2.toArray (w4).heap.size rfl ?_ ?_ AJ.out AI.out BT.out ?_);rfl;rfl)
    change Code.wp _ _ _ _ (World.alloc w4 (.cells K2.toArray 24));obtain⟨Wd,hO⟩:∃ V,World.alloc w4 (.cells K2.toArray 24)=V:=⟨_,rfl⟩;rw[hO]at hw hC hD ⊢;obtain⟨qd,hB⟩:∃ x,(w4).heap.size=x:=⟨_,rfl⟩;rw[hB]at hC hD ⊢;have BH:=za hC;have Hqd:=za hD;clear hO hB hC hD;have AE:=za hw;have Az:=za (BO.out.trans' hw);clear hw
    go_wp2_with fail
    refine(Hhi.out Wd Az.out).mono ?_;rintro r w5 ⟨vh,rfl,hZ,Ao⟩;have AD:=za Ao;have BN:=za (Az.out.trans' Ao);have BG:=za hZ;clear Ao hZ
    go_wp2_with fail
    refine(Hrh.out w5 BN.out).mono ?_;rintro r w6 ⟨vl,rfl,AS,hu⟩;obtain⟨L,hL⟩:∃ L,hv m x=L:=⟨_,rfl⟩;have hY:∀ c∈L,c.e.ok:=fun c hc=>HM.out.ok c (zix (by rw[hL];exact hc))
    have h5:∀ c∈L,c.pv.oneCell'=true∧c.sv.oneCell'=true:=fun c hc=>HM.out.one c (zix (by rw[hL];exact hc))
    have Bd:L.length≤1000:=by rw[← hL];exact Nat.le_trans (zqs m x) HM.out.len
    have hq:=Hho.out;rw[hL]at hq AS;have hZ:=BG.out;rw[hq,List.length_map]at hZ;have Ar:=CRow.ofRow AS Bd hY h5;have A8:∀ b,vl.ownBlock=some b→w5.heap.size≤b:=fun b e=>(zhl AS e.symm).1
    obtain⟨al,cl,BY⟩:=Ar.form
    have Ab:∃ a c,vh = .slice a L.length c:=by
     rcases zd5 hZ with⟨rfl,h0⟩ | ⟨gb,cap,rfl,-⟩
     ·rw[h0];exact⟨_,_,rfl⟩
     exact⟨_,_,rfl⟩
    obtain⟨ah,ch,Ab⟩:=Ab;subst BY Ab
    have A4:∀ g',ah=some ⟨g',0,none⟩→Wd.heap.size≤g'∧g'<w5.heap.size∧w6.there g' 0 (L.length * 34)∧∀ j' c,L[j']? = some c→w6.rangeAt g' (j' * 34) (zlf c).cells:=fun g' e=>by
     subst e;rcases zkh hZ with⟨e1,-⟩ | ⟨gb,cap,e1,e2,e3,e4⟩
     ·cases e1
     injection e1 with e1 _ _
     injection e1 with e1
     injection e1 with e1 _ _
     subst e1;refine⟨e2,e3,za3 e4 hu e3 (fun _ h=>h),fun j' c hj=>?_⟩;have hr:=zmb (l:=L.map zlf) (by rw[List.length_map];exact hZ) (fun c' Bk=>by obtain⟨c2,Bj,rfl⟩:=List.mem_map.1 Bk;exact(hY c2 Bj).2.1) j' (zlf c) (by rw[List.getElem?_map,hj];rfl);exact je hr hu e3 (fun _ h=>h)
    have A6:L.length=0∨∃ g',ah=some ⟨g',0,none⟩:=by
     rcases zkh hZ with⟨-,e2⟩ | ⟨gb,cap,e1,-⟩
     ·exact .inl e2
     injection e1 with e1 _ _
     exact .inr ⟨gb,e1⟩
    have Hnn:=za A6;have A1:=AD.out.trans' hu;have A2:=AE.out.trans' A1;have A3:=AF.out.trans' A2;have BW:=AG.out.trans' A3;have Ay:=za (je BK.out BW Hqa.out (fun _ h=>h));have Ax:=za (je BJ.out A3 Hqb.out (fun _ h=>h));have Aw:=za (je BI.out A2 Hqc.out (fun _ h=>h));have Av:=za (je BH.out A1 Hqd.out (fun _ h=>h));have hR:=AC.out w6;have hQ:=AB.out w6;have hF:=he.out w6;have hE:=AA.out w6;have Bu:=za Ar;have Hlb:=za A8;have Hst:=za A4;have BR:=za (BN.out.trans' hu);have h8:=za hu.size;have Bn:=za (show w.heap.size≤Wd.heap.size from Az.out.size);have h9:=za hY;clear A6 hZ AS hq hu A1 A2 A3 BW Ar A8 A4 h5 hL hY BK BJ BI BH Hqa Hqb Hqc Hqd AC AB he AG AF AE AD BG Hho Hbound Hrb Hat Hra Hhi Hrh
    go_wp2_with (first
     | (with_reducible refine wpList_load_mid rfl 24 _ rfl qa 0 rfl K1 (.array 32 5) Ay.out z7 rfl BU.out ?_)
     | (with_reducible refine wpList_load_mid rfl 24 _ rfl qb 0 rfl K1 (.array 32 5) Ax.out z7 rfl BU.out ?_)
     | (with_reducible refine z8 24 _ rfl qc 0 rfl K2 (.array 32 5) Aw.out z7 rfl BS.out rfl ?_)
     | (with_reducible refine z8 24 _ rfl qd 0 rfl K2 (.array 32 5) Av.out z7 rfl BS.out rfl ?_))
    clear hR hQ hF hE
    go_loopg [91] (L.length+1) (fun gf vi wr=>∃ j:Nat,vi = .int .i64 j∧j≤L.length∧j+gf=L.length+1∧Hid (Fr (fun k _=>∃ g',ah=some ⟨g',0,none⟩∧k=g') w6 wr)∧Hid (∀ g',ah=some ⟨g',0,none⟩→wr.there g' 0 (L.length * 34)∧∀ j' c,j≤j'→L[j']? = some c→wr.rangeAt g' (j' * 34) (zlf c).cells))
    case atStart=>exact⟨0,rfl,by omega,by omega,za Fr.refl,za (fun g' e=>⟨(Hst.out g' e).2.2.1,fun j' c _ hj=>(Hst.out g' e).2.2.2 j' c hj⟩)⟩
    case round =>
     as_aux_lemma =>
      obtain⟨j,rfl,hj,Bf,hN,HI⟩:=hrel;by_cases hW:j<L.length
      ·have hg:decide ((j:Int)<L.length)=true:=decide_eq_true (by omega);have A7:¬ L.length=0:=by intro h0;rw[h0]at hW;cases hW
       have Ak:=Hnn.out.resolve_left A7;clear A7;obtain⟨g',rfl⟩:=Ak;obtain⟨Bh,BB,-,-⟩:=Hst.out g' rfl;obtain⟨Ac,Ae⟩:=HI.out g' rfl;obtain⟨b,cap',Ba,hb,hr⟩:=Bu.out.get hW
       injection Ba with e1 e2 e3
       subst e1 e3;clear e2;have Bl:w5.heap.size≤b:=Hlb.out b rfl;have Ad:=Ae j L[j] (Nat.le_refl _) (List.getElem?_eq_getElem hW);obtain⟨k0,-,k2,k3⟩:=ze4 (h9.out _ (List.getElem_mem hW)) hr;have hkl:=(h9.out _ (List.getElem_mem hW)).2.1
       have AT:∀ ob,¬ (fun k (_:Obj)=>∃ AY,some (⟨g',0,none⟩:Addr)=some ⟨AY,0,none⟩∧k=AY) b ob:=fun ob ⟨AY,e,e'⟩=>by
        injection e with e
        injection e with e _ _
        omega
       obtain⟨c,hc⟩:∃ c,L[j]=c:=⟨_,rfl⟩;rw[hc]at Ad k0 k2 k3 hkl;have AN:=Fr.cell hN.out k0 AT;have AM:=Fr.cell hN.out k3 AT;have Aa:=je k2 hN.out hb AT;rw[zh4,range_append,range_append,zaf,zaf]at Ad;obtain⟨p0,p1,p2⟩:=Ad;simp only[List.length_cons,List.length_nil,Nat.zero_add,Nat.reduceAdd,zlf]at p0 p1 p2;have hG:=ja c.e.key;rw[hkl]at hG;have hM:=fun V=>zjo c.e.key c.e.key hkl hkl V
       simp only[bne_self_eq_false]at hM;obtain⟨K,hK⟩:∃ K,zb c.e.key=K:=⟨_,rfl⟩;rw[hK]at Aa p2 hG;simp only[hK]at hM;have Hkz:Hid ((Tryz.prog.info? 24).map (·.size)=some K.length):=za (by rw[jb,hG]);have BL:=za p2;have BM:=za Aa;have Hneq:=za hM;have Hth:=za Ac;have Hrg:=za Ae;have BA:=zu (show g'<w6.heap.size by have:=BR.out.size;exact zu BB (by have:=h8.out;omega)) hN.out.size;have BC:=zu hb hN.out.size;have Hgw:=za BA;have Hbw:=za BC
       have Bq:Hid (wr.drew.there g' (j * 34) (#[.int .i64 0,.bool false,zy z6 0,zy z6 0,zy z6 0,zy z6 0,zy z6 0,zy z6 0,zy z6 0,zy z6 0,zy z6 0,zy z6 0,zy z6 0,zy z6 0,zy z6 0,zy z6 0,zy z6 0,zy z6 0,zy z6 0,zy z6 0,zy z6 0,zy z6 0,zy z6 0,zy z6 0,zy z6 0,zy z6 0,zy z6 0,zy z6 0,zy z6 0,zy z6 0,zy z6 0,zy z6 0,zy z6 0,zy z6 0]:Array Value).size):=za (fun i hi=>by
        have hi2:i<34:=hi
        have:=Ac (j * 34+i) (by
         have:j * 34+34≤L.length * 34:=by omega
         omega)
        rw[Nat.zero_add]at this
        exact this)
       clear Ac Ae Bh BB hb hr Bl k0 k2 k3 hkl AT hc p2 hG hM hK Aa BA BC HI
       go_wp2_with fail
       refine wp_region_held_drew (S:=fun V=>Hid (Fr NoB wr V)) (by kernel_rfl) (za Fr.refl.drew) (fun hA=>?_);simp only[qV]
       iterate 31
        refine qt (v:=?_) rfl (zv ⟨by rfl,?_⟩) hA ?_;rotate_left
        ·intro W hJ;have h1:=Fr.cell hJ.out p0 (fun _ h=>h);have h2:=Fr.cell hJ.out p1 (fun _ h=>h);have h3:=Fr.cell hJ.out AN (fun _ h=>h);have h4:=Fr.cell hJ.out AM (fun _ h=>h);have hM:=Hneq.out
         try simp only[qQ]
         go_simp
         try rw[if_neg (by omega)]
         try with_reducible rfl
        try simp only[Act.put,qP]
       refine qi (i:=31) rfl (zj (by rfl) 24 _ rfl g' (j * 34+2) rfl K (.array 32 5) (fun V h=>je BL.out h.out Hgw.out (fun _ h=>h)) z7 rfl Hkz.out) hA ?_
       try simp only[Act.put,qP]
       iterate 5
        refine qt (v:=?_) rfl (zv ⟨by rfl,?_⟩) hA ?_;rotate_left
        ·intro W hJ;have h1:=Fr.cell hJ.out p0 (fun _ h=>h);have h2:=Fr.cell hJ.out p1 (fun _ h=>h);have h3:=Fr.cell hJ.out AN (fun _ h=>h);have h4:=Fr.cell hJ.out AM (fun _ h=>h);have hM:=Hneq.out
         try simp only[qQ]
         go_simp
         try rw[if_neg (by omega)]
         try with_reducible rfl
        try simp only[Act.put,qP]
       refine qi (i:=37) rfl (zj (by rfl) 24 _ rfl b (j * 71+37) rfl K (.array 32 5) (fun V h=>je BM.out h.out Hbw.out (fun _ h=>h)) z7 rfl Hkz.out) hA ?_
       try simp only[Act.put,qP]
       iterate 2
        refine qt (v:=?_) rfl (zv ⟨by rfl,?_⟩) hA ?_;rotate_left
        ·intro W hJ;have h1:=Fr.cell hJ.out p0 (fun _ h=>h);have h2:=Fr.cell hJ.out p1 (fun _ h=>h);have h3:=Fr.cell hJ.out AN (fun _ h=>h);have h4:=Fr.cell hJ.out AM (fun _ h=>h);have hM:=Hneq.out
         try simp only[qQ]
         go_simp
         try rw[if_neg (by omega)]
         try with_reducible rfl
        try simp only[Act.put,qP]
       refine wpAnyH_done (by kernel_rfl) ?_ _;clear hA p0 p1 AN AM BL BM Hneq
       go_upto_region 17 with(fail)
       go_wp2_with (first
        | ((with_reducible refine wpList_buildTo ?_ 117 _ rfl _ rfl #[.int .i64 0,.bool false,zy z6 0,zy z6 0,zy z6 0,zy z6 0,zy z6 0,zy z6 0,zy z6 0,zy z6 0,zy z6 0,zy z6 0,zy z6 0,zy z6 0,zy z6 0,zy z6 0,zy z6 0,zy z6 0,zy z6 0,zy z6 0,zy z6 0,zy z6 0,zy z6 0,zy z6 0,zy z6 0,zy z6 0,zy z6 0,zy z6 0,zy z6 0,zy z6 0,zy z6 0,zy z6 0,zy z6 0,zy z6 0] ?_ ?_);rfl;kernel_rfl)
        | ((with_reducible refine wpList_store_mid rfl 117 _ _ rfl g' (j * 34) #[.int .i64 0,.bool false,zy z6 0,zy z6 0,zy z6 0,zy z6 0,zy z6 0,zy z6 0,zy z6 0,zy z6 0,zy z6 0,zy z6 0,zy z6 0,zy z6 0,zy z6 0,zy z6 0,zy z6 0,zy z6 0,zy z6 0,zy z6 0,zy z6 0,zy z6 0,zy z6 0,zy z6 0,zy z6 0,zy z6 0,zy z6 0,zy z6 0,zy z6 0,zy z6 0,zy z6 0,zy z6 0,zy z6 0,zy z6 0] ?_ ?_ Bq.out zwu zwv ?_);rfl;rfl))
       go_roundg (gk - 1)
       case measure=>omega
       case rel =>
        refine⟨j+1,by simp,by omega,by omega,za (hN.out.drew.trans' ((jd g' _ _ _).mono (fun k _ h=>⟨g',rfl,h⟩))),za (fun AY e=>?_)⟩
        injection e with e
        injection e with e _ _
        subst e;refine⟨World.there_setCells ((World.there_drew _ _ _ _).2 Hth.out) _ _ _,fun j' c' Bg Bi=>?_⟩;refine World.rangeAt_setCells_apart ((World.rangeAt_drew _ _ _ _).2 (Hrg.out j' c' (Nat.le_trans (Nat.le_succ j) Bg) Bi)) _ _ _ (.inr (.inr ?_));show j * 34+34≤j' * 34;omega
      have hg:decide ((j:Int)<L.length)=false:=decide_eq_false (by omega);have Am:Fr NoB w wr:=BR.out.trans hN.out (fun k _ ⟨g',e,hk⟩ => .inr (by have:=(Hst.out g' e).1;have:=Bn.out;omega));have hU:=Hsg.out wr Am;have hs:=ztg x;obtain⟨SC,h6⟩:∃ C,Sg.cells ⟨x,jo,zb0⟩=C:=⟨_,rfl⟩;rw[h6]at hU hs;have As:=za hU;have Bp:=za hs;have Br:=za Am;clear hU hs h6 Am
      go_upto_region 19 with(fail)
      go_wp2_with((with_reducible refine wpList_buildTo ?_ 54 _ rfl _ rfl SC ?_ ?_);rfl;(refine Eq.trans (congrArg (Tryz.prog.built 54) ?_) Bp.out;kernel_rfl))
      refine As.out.mono ?_;rintro r w9 ⟨rfl,AX⟩;have Bt:=za (Br.out.trans' AX);clear AX
      go_wp2_with fail
      go_roundg (Bm - 1)
      case measure=>omega
      case rel=>exact⟨i+1,by simp,by omega,by omega,Bt⟩
  as_aux_lemma =>
   have Ag:decide ((i:Int)<ns.length)=false:=decide_eq_false (by omega);have A0:=hX;clear hX
   go_wp2_with fail
   go_loopg [148] (ks.length+1) (fun gf vi wr=>∃ j:Nat,vi = .int .i64 j∧j≤ks.length∧j+gf=ks.length+1∧Hid (Fr NoB w wr))
   case atStart=>exact⟨0,rfl,by omega,by omega,A0⟩
   case round =>
    obtain⟨j,rfl,hj,Bf,hX⟩:=hrel;by_cases hW:j<ks.length
    ·have hg:decide ((j:Int)<ks.length)=true:=decide_eq_true (by omega);obtain⟨x,hx⟩:∃ x,ks[j]? = some x:=⟨_,List.getElem?_eq_getElem hW⟩;have hP:=Hks.out x (List.mem_of_getElem? hx);rcases zd5 HK.out with⟨-,h0⟩ | ⟨gk2,cpk,eak,-,hgk,-⟩
     ·rw[h0]at hW;cases hW
     injection eak with e1 e2 e3
     subst e1;clear e2 e3;have Ah:=je (zr9 HK.out Hks.out j x hx) hX.out hgk (fun _ h=>h);have AO:=fun V (hV:Fr NoB w V)=>zl6 x V (HT.out.keep hV).toTL hP
     have AP:=fun V (hV:Fr NoB w V)=>zis m v x V (HM.out.keep hV) hP
     have hU:=fun V (hV:Fr NoB w V)=>zio m v ⟨[],x,zb0⟩ V (HT.out.keep hV).toTL (HM.out.keep hV) hH.out ⟨hP,rfl⟩ (Nat.zero_le _)
     have Aj:(t.life x==2)=zbm (m.map CameV.cm) x:=by
      have h1:=hH.out.spent x;rw[Bool.eq_iff_iff,beq_iff_eq];exact h1
     obtain⟨sp,hf⟩:∃ y,zbm (m.map CameV.cm) x=y:=⟨_,rfl⟩;rw[hf]at Aj;simp only[Aj]at AO;simp only[hf]at AP;have hG:=ja x;rw[hP]at hG;have Af:=all_oneCell_toArray (j0 x);have hd:=fun V=>zlh x hP V
     obtain⟨KC,Al⟩:∃ y,zb x=y:=⟨_,rfl⟩;obtain⟨SC,h6⟩:∃ y,Sg.cells ⟨[],x,zb0⟩=y:=⟨_,rfl⟩;rw[Al]at Ah hG Af;simp only[Al]at AO AP hd;simp only[h6]at hU hd;have Hkz:Hid ((Tryz.prog.info? 24).map (·.size)=some KC.length):=za (by rw[jb,hG]);have Au:Hid ((Tryz.prog.info? 24).map (·.size)=some KC.toArray.size):=za (by rw[jb,zn,hG]);have At:Hid ((#[zy z6 0,zy z6 0,zy z6 0,zy z6 0,zy z6 0,zy z6 0,zy z6 0,zy z6 0,zy z6 0,zy z6 0,zy z6 0,zy z6 0,zy z6 0,zy z6 0,zy z6 0,zy z6 0,zy z6 0,zy z6 0,zy z6 0,zy z6 0,zy z6 0,zy z6 0,zy z6 0,zy z6 0,zy z6 0,zy z6 0,zy z6 0,zy z6 0,zy z6 0,zy z6 0,zy z6 0,zy z6 0]:Array Value).size=KC.toArray.size):=za (by rw[show KC.toArray.size=32 by rw[zn,hG]];rfl);have Bo:=za Af;have Hkr:=za Ah;have Hsp:=za AO;have Hrs:=za AP;have Hsg:=za hU;have Hbk:=za hd;clear Af Ah AO AP hU hd hG Al h6 Aj hf hgk hx hP A0;have An:Fr NoB wr (wr.alloc (.cells KC.toArray 24)):=Fr.refl.alloc _;have hC:=jg (zh wr (.cells KC.toArray 24));rw[List.toList_toArray]at hC;have hD:wr.heap.size<(wr.alloc (.cells KC.toArray 24)).heap.size:=by rw[zf];omega
     go_upto_region 25 with(first
      | (with_reducible refine wpList_load_mid rfl 24 _ rfl gk2 (j * 32) rfl KC (.array 32 5) Hkr.out z7 rfl Hkz.out ?_)
      | ((with_reducible refine jh (w:=wr) rfl 24 _ _ rfl _ KC.toArray wr.heap.size rfl ?_ ?_ Au.out At.out Bo.out ?_);rfl;rfl))
     change Code.wp _ _ _ _ (wr.alloc (.cells KC.toArray 24));obtain⟨w8,hO⟩:∃ V,wr.alloc (.cells KC.toArray 24)=V:=⟨_,rfl⟩;rw[hO]at An hC hD ⊢;obtain⟨q8,hB⟩:∃ y,wr.heap.size=y:=⟨_,rfl⟩;rw[hB]at hC hD ⊢;have AZ:=za hC;have Hqw:=za hD;have AH:=za (hX.out.trans' An);clear An hC hD hO hB Hkr hX;refine wp_region_held_drew (S:=fun V=>Hid (Fr NoB w8 V)) (by kernel_rfl) (za Fr.refl.drew) (fun hA=>?_);simp only[qV];refine qt (v:=?_) rfl (zv ⟨by rfl,?_⟩) hA ?_;rotate_left
     ·intro W hJ
      try simp only[qQ]
      go_simp
      try rw[if_neg (by omega)]
      try with_reducible rfl
     try simp only[Act.put,qP]
     refine qi (i:=1) rfl (zj (by rfl) 24 _ rfl q8 0 rfl KC (.array 32 5) (fun V h=>je AZ.out h.out Hqw.out (fun _ h=>h)) z7 rfl Hkz.out) hA ?_
     try simp only[Act.put,qP]
     refine qi (i:=3) (v:=?_) rfl (zv ⟨by rfl,?_⟩) hA ?_;rotate_left
     ·intro W hJ
      try simp only[qQ]
      go_simp
      try rw[if_neg (by omega)]
      try with_reducible rfl
     try simp only[Act.put,qP]
     refine qi (i:=4) rfl (zj (by rfl) 24 _ rfl q8 0 rfl KC (.array 32 5) (fun V h=>je AZ.out h.out Hqw.out (fun _ h=>h)) z7 rfl Hkz.out) hA ?_
     try simp only[Act.put,qP]
     refine qr (i:=2) (by kernel_rfl) rfl (fun K hK=>?_)
     try simp only[qQ]
     go_simp;refine(Hsp.out _ (AH.out.trans' hA.out)).mono ?_;rintro r w9 ⟨rfl,AX⟩;refine hK.out _ _ (za (hA.out.trans' AX)) (fun hA=>?_);clear hK K
     try simp only[Act.put,qP]
     refine qr (i:=5) (by kernel_rfl) rfl (fun K hK=>?_)
     try simp only[qQ]
     go_simp;refine(Hrs.out _ (AH.out.trans' hA.out)).mono ?_;rintro r w10 ⟨rfl,Aq⟩;refine hK.out _ _ (za (hA.out.trans' Aq)) (fun hA=>?_);clear hK K
     try simp only[Act.put,qP]
     iterate 4
      refine qt (v:=?_) rfl (zv ⟨by rfl,?_⟩) hA ?_;rotate_left
      ·intro W hJ
       try simp only[qQ]
       go_simp
       try rw[if_neg (by omega)]
       try with_reducible rfl
      try simp only[Act.put,qP]
     refine qi (i:=10) rfl (zj (by rfl) 24 _ rfl q8 0 rfl KC (.array 32 5) (fun V h=>je AZ.out h.out Hqw.out (fun _ h=>h)) z7 rfl Hkz.out) hA ?_
     try simp only[Act.put,qP]
     refine wpAnyH_take (i:=11) (v := .agg SC) rfl (by kernel_rfl) (by kernel_rfl) (by kernel_rfl) (fun _ _ _ h=>h) (zv ⟨by rfl,?_⟩) hA ?_
     ·intro V hJ;simp only[execOp,Sem.run_bind,List.map_toArray,List.map_cons,List.map_nil,List.getElem_toArray,List.getElem_cons_zero,List.getElem_cons_succ];exact(congrArg (fun r=>Result.andThen r fun a w'=>Sem.run Tryz.prog (pure (Next.value a)) w') (Hbk.out V)).trans rfl
     try simp only[Act.put,qP]
     refine qr (i:=12) (by kernel_rfl) rfl (fun K hK=>?_)
     try simp only[qQ]
     go_simp;refine(Hsg.out _ (AH.out.trans' hA.out)).mono ?_;rintro r w11 ⟨rfl,Ap⟩;refine hK.out _ _ (za (hA.out.trans' Ap)) (fun hA=>?_);clear hK K
     try simp only[Act.put,qP]
     iterate 2
      refine qt (v:=?_) rfl (zv ⟨by rfl,?_⟩) hA ?_;rotate_left
      ·intro W hJ
       try simp only[qQ]
       go_simp
       try rw[if_neg (by omega)]
       try with_reducible rfl
      try simp only[Act.put,qP]
     refine wpAnyH_done (by kernel_rfl) ?_ _;have HE:=za (AH.out.trans' hA.out);clear hA AH AZ Hqw
     go_wp2_with fail
     go_roundg (gk - 1)
     case measure=>omega
     case rel=>exact⟨j+1,by simp,by omega,by omega,HE⟩
    have hg:decide ((j:Int)<ks.length)=false:=decide_eq_false (by omega);clear A0
    go_wp2_with fail
    go_ret;exact⟨rfl,hX.out⟩
end Go.Proofs.YtcddlemkimbkcaaGreatDoor
