/-
 The walk of entry.Value: an entry's value.
-/
import Derived.Test.YtmgfncjfgkllcaaGreatDoorKBare
open Go.Lib renaming hid→za
open Go.World renaming size_alloc→zf
open Go renaming heap_alloc_new→zh,wpList_load_mid→zi
namespace Go.Proofs.YtmgfncjfgkllcaaGreatDoor
set_option linter.unusedVariables false
set_option linter.unusedSimpArgs false
set_option linter.unusedSectionVars false
set_option maxRecDepth 100000
set_option maxHeartbeats 4000000
open Go.RowKit Go.Shelf
variable [OldK]
attribute [local go_sem] Oper.semAt_some
theorem z2f {p:Prop}(h:Hid p):p:=h.out
def z5:Array Value:=#[.int .i64 0,.int .i64 0,.string ⟨#[]⟩,.slice none 0 0,.slice none 0 0]
theorem zrd (S S':Nat→Prop) (e:En) (pv sv:Value) (w:World) (hfine:Fine S S' e pv sv w) (hchk:zce zh2 e=false) :
 Calls Tryz.prog 59 #[.agg (e.cells pv sv).toArray] w fun r w'=>r = .returned (.tuple #[.agg z5,.iface 49 (.int .i64 11)])∧Fr NoB w w':=by
 obtain⟨hH,hb,hg,hI,hE,hO,hN,hL,hG⟩:=hfine;have hR:(w.alloc (.cells (e.cells pv sv).toArray 28)).rangeAt w.heap.size 0 (e.cells pv sv):=by simpa using jm (zh w (.cells (e.cells pv sv).toArray 28))
 have hK:Fr NoB (w.alloc (.cells (e.cells pv sv).toArray 28)) ((w.alloc (.cells (e.cells pv sv).toArray 28)).alloc (.cells #[.int .i64 0,.int .i64 0,.string ⟨#[]⟩,.slice none 0 0,.slice none 0 0] 56)):=Fr.refl.alloc _;have hF:Fr NoB w ((w.alloc (.cells (e.cells pv sv).toArray 28)).alloc (.cells #[.int .i64 0,.int .i64 0,.string ⟨#[]⟩,.slice none 0 0,.slice none 0 0] 56)):=(Fr.refl.alloc _).alloc _;have hR:=ji hR hK (by rw[zf];omega) (fun _ h=>h)
 have h2:((w.alloc (.cells (e.cells pv sv).toArray 28)).alloc (.cells #[.int .i64 0,.int .i64 0,.string ⟨#[]⟩,.slice none 0 0,.slice none 0 0] 56)).heap[w.heap.size+1]? = some (.cells #[.int .i64 0,.int .i64 0,.string ⟨#[]⟩,.slice none 0 0,.slice none 0 0] 56 (0,0)):=by
  have:=zh (w.alloc (.cells (e.cells pv sv).toArray 28)) (.cells #[.int .i64 0,.int .i64 0,.string ⟨#[]⟩,.slice none 0 0,.slice none 0 0] 56);rw[zf]at this;exact this
 have hA:=fun V (h:Fr NoB w V)=>zqz zh2 S S' e pv sv V hH (hb.fr h (fun _ _ _ _ h=>h)) (hg.fr h (fun _ _ _ h=>h)) ((zog hb hI hN).fr h) hE hO (by omega) hL hG
 simp only[hchk]at hA;have hz:(Tryz.prog.info? 28).map (·.size)=some (e.cells pv sv).length:=by rw[jc,En.size hH]
 obtain⟨C,hC⟩:∃ C,e.cells pv sv=C:=⟨_,rfl⟩;rw[hC]at hR hF h2 hA hz ⊢;have Hck:=za hA;have Hz:=za hz;obtain⟨d,hu,hd⟩:=zab;have Hu:=za hu;have Hd:=za hd;clear hA hz hu hd hC hg hb hchk hE hI hG hK;go_enter Tryz.func59,Tryz.ntmps59
 go_upto_region 1 with(fail)
 change Code.wp _ _ _ _ ((w.alloc (.cells C.toArray 28)).alloc (.cells #[.int .i64 0,.int .i64 0,.string ⟨#[]⟩,.slice none 0 0,.slice none 0 0] 56));obtain⟨W,hJ⟩:∃ W,(w.alloc (.cells C.toArray 28)).alloc (.cells #[.int .i64 0,.int .i64 0,.string ⟨#[]⟩,.slice none 0 0,.slice none 0 0] 56)=W:=⟨_,rfl⟩;rw[hJ]at hR hF h2 ⊢;obtain⟨p,hp⟩:∃ p,w.heap.size=p:=⟨_,rfl⟩;rw[hp]at hR h2 ⊢;obtain⟨q,hq⟩:∃ q,p+1=q:=⟨_,rfl⟩;rw[hq]at h2 ⊢;have Hpq:=za (And.intro hp hq);have HR:=za hR;have HF:=za hF;have H2:=za h2;clear hR hF h2 hJ hp hq
 go_wp2_with((with_reducible refine zi ?_ 28 _ rfl p 0 ?_ C d HR.out Hu.out ?_ Hz.out ?_);rfl;rfl;exact Hd.out)
 refine(Hck.out _ HF.out).mono ?_;rintro r w1 ⟨rfl,hB⟩;unfold z1n;have hD:=hB.block _ _ H2.out (fun h=>h);have hP:=za (HF.out.trans' hB);have H21:=za hD;obtain⟨a0,a1,a2,a3,a4,az,alt⟩:=VB.at hD;clear hB hD
 go_wp2_with fail
 refine bodyPost_ret (v := .tuple #[.agg z5,.iface 49 (.int .i64 11)]) (by simp[results,Tryz.results59,go_sem,a0,a1,a2,a3,a4,z5]) rfl ?_;have hM:w.heap.size≤q:=by have:=Hpq.out;omega
 exact⟨rfl,hP.out.setV hM _ _ _ _ _⟩
theorem zs6 (S S':Nat→Prop) (e:En) (pv sv:Value) (w:World) (hfine:Fine S S' e pv sv w) (hchk:zce zh2 e=true) :
 Calls Tryz.prog 59 #[.agg (e.cells pv sv).toArray] w fun r w'=>∃ x,r = .returned (.tuple #[x,.nilIface])∧RJ (fun k=>w.heap.size≤k) w' (zfx e) x∧Fr NoB w w':=by
 have ho:=zje hchk;have Hfine:=za hfine;obtain⟨AJ,hb,hg,BV,BP,CY,CW,BQ,ha⟩:=hfine;have hR:(w.alloc (.cells (e.cells pv sv).toArray 28)).rangeAt w.heap.size 0 (e.cells pv sv):=by simpa using jm (zh w (.cells (e.cells pv sv).toArray 28))
 have Bq:Fr NoB (w.alloc (.cells (e.cells pv sv).toArray 28)) ((w.alloc (.cells (e.cells pv sv).toArray 28)).alloc (.cells #[.int .i64 0,.int .i64 0,.string ⟨#[]⟩,.slice none 0 0,.slice none 0 0] 56)):=Fr.refl.alloc _;have hF:Fr NoB w ((w.alloc (.cells (e.cells pv sv).toArray 28)).alloc (.cells #[.int .i64 0,.int .i64 0,.string ⟨#[]⟩,.slice none 0 0,.slice none 0 0] 56)):=(Fr.refl.alloc _).alloc _;have hR:=ji hR Bq (by rw[zf];omega) (fun _ h=>h)
 have h2:((w.alloc (.cells (e.cells pv sv).toArray 28)).alloc (.cells #[.int .i64 0,.int .i64 0,.string ⟨#[]⟩,.slice none 0 0,.slice none 0 0] 56)).heap[w.heap.size+1]? = some (.cells #[.int .i64 0,.int .i64 0,.string ⟨#[]⟩,.slice none 0 0,.slice none 0 0] 56 (0,0)):=by
  have:=zh (w.alloc (.cells (e.cells pv sv).toArray 28)) (.cells #[.int .i64 0,.int .i64 0,.string ⟨#[]⟩,.slice none 0 0,.slice none 0 0] 56);rw[zf]at this;exact this
 have Ar:=fun V (h:Fr NoB w V)=>zqz zh2 S S' e pv sv V AJ (hb.fr h (fun _ _ _ _ h=>h)) (hg.fr h (fun _ _ _ h=>h)) ((zog hb BV CW).fr h) BP CY (by omega) BQ ha
 simp only[hchk]at Ar;have hz:(Tryz.prog.info? 28).map (·.size)=some (e.cells pv sv).length:=by rw[jc,En.size AJ]
 have hc:=fun V b (h:World.rangeAt V b 0 (e.cells pv sv))=>(En.parts AJ h).2.2.2.2.2.2.2
 have A7:=fun V (h:Fr NoB w V)=>z1p S S' e pv sv V (Hfine.out.fr h) ho
 obtain⟨a3,c3,rfl,Cc,hN⟩:=id hg;obtain⟨C,hC⟩:∃ C,e.cells pv (.slice a3 e.sigs.length c3)=C:=⟨_,rfl⟩;rw[hC]at hR hF h2 Ar hz A7 hc ⊢;have Hck:=za Ar;have Hz:=za hz;have Hbr:=za A7;have B0:=za hN;have AW:=za hc;have Hok:=za AJ;have Hsi:=za ha;have Ho:=za ho;obtain⟨d,hu,hd⟩:=zab;have Hu:=za hu;have Hd:=za hd;obtain⟨d2,BO,Bb⟩:=zdm;have Bz:=za BO;have B1:=za Bb;obtain⟨l,hl⟩:∃ l,e.sigs=l:=⟨_,rfl⟩;have Hl:=za hl;rw[hl]at AW B0 Hsi BQ Cc;clear Ar hz hu hd BO Bb hC hg hb hchk BP BV ha Bq A7 hc hN AJ ho hl;go_enter Tryz.func59,Tryz.ntmps59
 go_upto_region 1 with(fail)
 change Code.wp _ _ _ _ ((w.alloc (.cells C.toArray 28)).alloc (.cells #[.int .i64 0,.int .i64 0,.string ⟨#[]⟩,.slice none 0 0,.slice none 0 0] 56));obtain⟨W,Be⟩:∃ W,(w.alloc (.cells C.toArray 28)).alloc (.cells #[.int .i64 0,.int .i64 0,.string ⟨#[]⟩,.slice none 0 0,.slice none 0 0] 56)=W:=⟨_,rfl⟩;rw[Be]at hR hF h2 ⊢;obtain⟨p,hp⟩:∃ p,w.heap.size=p:=⟨_,rfl⟩;rw[hp]at hR h2 ⊢;obtain⟨q,hq⟩:∃ q,p+1=q:=⟨_,rfl⟩;rw[hq]at h2 ⊢;have Hpq:=za (And.intro hp hq);have HR:=za hR;have HF:=za hF;have H2:=za h2;clear hR hF h2 Be hp hq
 go_wp2_with((with_reducible refine zi ?_ 28 _ rfl p 0 ?_ C d HR.out Hu.out ?_ Hz.out ?_);rfl;rfl;exact Hd.out)
 refine(Hck.out _ HF.out).mono ?_;rintro r w1 ⟨rfl,AT⟩;unfold z1n;have x69:=Fr.cell AT (AW.out _ _ HR.out);have CX:p<W.heap.size:=by have:=Hpq.out;have:=jb H2.out;omega
 have Ch:=za (ji HR.out AT CX (fun _ h=>h));have CI:=za (AT.block _ _ H2.out (fun h=>h));have Aw:=za (HF.out.trans' AT);have hqw1:q<w1.heap.size:=jb CI.out;have A3:p<w1.heap.size:=by have:=Hpq.out;omega
 clear AT HF HR H2;obtain⟨B,hB⟩:∃ x,w1.heap.size=x:=⟨_,rfl⟩;have BE:=zh w1 (.cells #[.int .i64 4,.int .i64 0,.string ⟨#[]⟩,.slice none 0 0,.slice none 0 0] 56);have Bn:Fr (fun k _=>B≤k) w1 (w1.alloc (.cells #[.int .i64 4,.int .i64 0,.string ⟨#[]⟩,.slice none 0 0,.slice none 0 0] 56)):=Fr.refl.alloc _;rw[hB]at BE;have HB:=za hB;have Ck:=za BE;have Ci:=za Bn;obtain⟨i0,Ca,CN,CM,CL⟩:=info_parts zfw;clear BE Bn hB
 go_wp2_with fail
 rw[HB.out]
 go_loopg [19] (l.length+1) (fun gf vi wr=>∃ (i:Nat) (lv:Value),vi = .int .i64 i∧i≤l.length∧i+gf=l.length+1∧Hid (wr.heap[B]? = some (.cells #[.int .i64 4,.int .i64 0,.string ⟨#[]⟩,lv,.slice none 0 0] 56 (0,0)))∧Hid (LRow (fun _=>False) (B+1) ((l.take i).map sgJ) lv wr)∧Hid (Fr (fun k _=>B≤k) w1 wr))
 case atStart=>exact⟨0,_,rfl,by omega,by omega,Ck,za (LRow.nil _ _ _),Ci⟩
 case round =>
  obtain⟨i,lv,rfl,hi,hig,Ac,Au,AB⟩:=hrel;have CR:=AB.out.size;rw[HB.out]at CR;by_cases hw:i<l.length
  ·rcases B0.out with h0 | ⟨b,o,rfl,hS',hbw,hr⟩
   ·rw[h0]at hw;simp at hw
   have A4:decide ((i:Int)<l.length)=true:=decide_eq_true (by omega);have hil:(i:Int)<l.length:=by omega
   have hU:=(Hok.out.2.2) _ (by rw[Hl.out];exact List.getElem_mem hw);have ha:=Hsi.out _ (List.getElem_mem hw);have A6:b<B:=by have h:=Aw.out.size;have h1:=HB.out;omega
   have Bj:w1.rangeAt b (o+i * 97) l[i].cells.toList:=ji (hr i hw) Aw.out hbw (fun _ h=>h);have BA:wr.rangeAt b (o+i * 97) l[i].cells.toList:=ji Bj AB.out (by rw[HB.out];exact A6) (fun _ h=>by omega)
   have AD:(l.take (i+1)).map sgJ=(l.take i).map sgJ++[sgJ l[i]]:=by
    rw[List.take_add_one,List.getElem?_eq_getElem hw,List.map_append];rfl
   have hQ:((l.take i).map sgJ).length=i:=by simp;omega
   obtain⟨s,hs⟩:∃ s,l[i]=s:=⟨_,rfl⟩;rw[hs]at hU ha BA AD;have Af:=Sg.size hU;have Ag:=fun V=>zpz s V hU ha
   have B3:=za BA;have BG:=za (show(Tryz.prog.info? 115).map (·.size)=some s.cells.toList.length by rw[qv];simp[Af]);have At:=za (show(Tryz.prog.info? 115).map (·.size)=some s.cells.size by rw[qv,Af]);have Hzz:=za (show Tryz.zeroCells115.size=s.cells.size by rw[Af];rfl);have H1:=za (Sg.one s)
   have hT:∀ V bs,V.heap[bs]? = some (.cells s.cells 115 (0,0))→Calls Tryz.prog 125 #[.slice (some ⟨bs,33,none⟩) 64 64] V fun r w'=>r = .returned (.string ⟨(zhp s.sig).toArray⟩)∧Fr NoB V w':=fun V bs hV=>by
    have h1:=@zg9 ⟨bs+1⟩ (fun _=>True) s.sig _ V (SB.inRange (cap:=64) hV (Sg.range hU (jm hV)) (by rw[hU.2];omega)) (by rw[hU.2];omega);rw[hU.2]at h1;exact h1
   have hJ:sgJ s=zcz ([(nBy,zal s),(zxb,zhp s.sig)].map txP):=rfl;obtain⟨Y,hY⟩:∃ Y,zal s=Y:=⟨_,rfl⟩;obtain⟨X,hX⟩:∃ Y,zhp s.sig=Y:=⟨_,rfl⟩;rw[hY]at Ag hJ;rw[hX]at hT hJ;rw[hJ]at AD;obtain⟨O,hO⟩:∃ O,(l.take i).map sgJ=O:=⟨_,rfl⟩;rw[hO]at Au hQ AD;obtain⟨cs,Bc⟩:∃ cs,s.cells=cs:=⟨_,rfl⟩;rw[Bc]at B3 BG At H1 Hzz Ag hT;obtain⟨xs,hE,BS⟩:=Au.out;rw[hQ]at hE;obtain⟨ao,co,CS⟩:=qj hE;subst CS;have Hsg:=za Ag;have BI:=za hT;have Htk:=za AD;have BJ:=za hQ;have Hown:=za hE;have Hrc:=za BS;clear Bj BA hs hU ha Af Ag AD hQ hY hX hO Bc hr hT hJ hE BS Au
   go_upto_region 8 with(first
    | ((with_reducible refine zi ?_ 115 _ rfl b (o+i * 97) ?_ cs.toList d2 B3.out Bz.out ?_ BG.out ?_);rfl;rfl;exact B1.out)
    | ((with_reducible refine qe (w:=wr) rfl 115 _ _ rfl _ cs wr.heap.size rfl ?_ ?_ At.out Hzz.out H1.out ?_);rfl;rfl))
   have Am:Fr NoB wr (wr.alloc (.cells cs 115)):=Fr.refl.alloc _;have AF:=zh wr (.cells cs 115);have A8:=Am.block _ _ Ac.out (fun h=>h);change Code.wp _ _ _ _ (wr.alloc (.cells cs 115));obtain⟨W7,Bg⟩:∃ z,wr.alloc (.cells cs 115)=z:=⟨_,rfl⟩;rw[Bg]at Am AF A8 ⊢;obtain⟨bs,Bd⟩:∃ z,wr.heap.size=z:=⟨_,rfl⟩;rw[Bd]at AF ⊢;clear Bg Bd;have BT:=jm AF;have BU:=(VB.at A8).2.2.2.1;refine zc1 (S:=fun V=>Hid (V.cell? ⟨B,3,none⟩=some (.slice ao i co)∧V.rangeAt bs 0 cs.toList)) 12 (by kernel_rfl) (za ⟨by have:=BU;exact this,by have:=BT;exact this⟩) (fun hA=>?_);simp only[qV];have A5:Fr NoB wr W7.drew:=Am.drew;have Ak:W7.drew.heap[bs]? = some (.cells cs 115 (0,0)):=AF;obtain⟨V0,Bi⟩:∃ V,W7.drew=V:=⟨_,rfl⟩;rw[Bi]at hA A5 Ak ⊢;clear Bi Am AF A8 BT BU;have AS:Hid (∀ V V':World,Fr NoB V V'→Hid (V.cell? ⟨B,3,none⟩=some (.slice ao i co)∧V.rangeAt bs 0 cs.toList)→V.heap[bs]? = some (.cells cs 115 (0,0))→Hid (V'.cell? ⟨B,3,none⟩=some (.slice ao i co)∧V'.rangeAt bs 0 cs.toList)):=za (fun V V' hF h hs=>za ⟨Fr.cell hF h.out.1 (fun _ h=>h),ji h.out.2 hF (jb hs) (fun _ h=>h)⟩)
   iterate 2
    refine qtD (v:=?_) rfl (Or.inl ⟨by rfl,?_⟩) hA ?_;rotate_left
    ·intro W hy;obtain⟨z1,z2⟩:=hy.out
     try simp only[qQ]
     go_simp
     try rw[if_neg (by omega)]
     try with_reducible rfl
    try simp only[Act.put,qP]
   refine qiD (i:=2) rfl (yieldsIf_load_mid (by rfl) 115 _ rfl bs 0 rfl cs.toList d2 (fun V h=>h.out.2) Bz.out B1.out BG.out) hA ?_
   try simp only[Act.put,qP]
   refine qiD (i:=4) (v:=?_) rfl (Or.inl ⟨by rfl,?_⟩) hA ?_;rotate_left
   ·intro W hy;obtain⟨z1,z2⟩:=hy.out
    try simp only[qQ]
    go_simp
    try rw[if_neg (by omega)]
    try with_reducible rfl
   try simp only[Act.put,qP]
   refine qiD (i:=5) (v:=?_) rfl (Or.inl ⟨by rfl,?_⟩) hA ?_;rotate_left
   ·intro W hy;obtain⟨z1,z2⟩:=hy.out
    try simp only[qQ]
    go_simp
    try rw[if_neg (by omega)]
    try with_reducible rfl
   try simp only[Act.put,qP]
   refine qrD (i:=3) (by kernel_rfl) rfl (fun K hK=>?_)
   try simp only[qQ]
   go_simp;refine(Hsg.out V0).mono ?_;rintro r V1 ⟨rfl,Aq⟩;refine hK.out _ _ (AS.out _ _ Aq hA Ak) (fun hA=>?_);clear hK K
   try simp only[Act.put,qP]
   have Aj:=Aq.block _ _ Ak (fun h=>h);refine qrD (i:=6) (by kernel_rfl) rfl (fun K hK=>?_)
   try simp only[qQ]
   go_simp;refine(BI.out V1 bs Aj).mono ?_;rintro r V2 ⟨rfl,Ap⟩;refine hK.out _ _ (AS.out _ _ Ap hA Aj) (fun hA=>?_);clear hK K
   try simp only[Act.put,qP]
   have A0:=Ap.block _ _ Aj (fun h=>h);have AR:=(A5.trans' Aq).trans' Ap;clear A5 Aq Ap Ak Aj;refine qrD (i:=7) (by kernel_rfl) rfl (fun K hK=>?_)
   try simp only[qQ]
   go_simp;refine hK.out _ _ (AS.out _ _ ((Fr.refl (M:=NoB)).alloc _) hA A0) (fun hA=>?_);clear hK K
   try simp only[Act.put,qP]
   have Ao:=(Fr.refl (M:=NoB) (w:=V2)).alloc (.cells #[.string ⟨#[98,121]⟩,.string ⟨Y.toArray⟩,.string ⟨#[115,105,103]⟩,.string ⟨X.toArray⟩] 9);have hg:=zh V2 (.cells #[.string ⟨#[98,121]⟩,.string ⟨Y.toArray⟩,.string ⟨#[115,105,103]⟩,.string ⟨X.toArray⟩] 9);obtain⟨gb,BW⟩:∃ x,V2.heap.size=x:=⟨_,rfl⟩;obtain⟨V3,Bh⟩:∃ x,V2.alloc (.cells #[.string ⟨#[98,121]⟩,.string ⟨Y.toArray⟩,.string ⟨#[115,105,103]⟩,.string ⟨X.toArray⟩] 9)=x:=⟨_,rfl⟩;rw[BW]at hg ⊢;rw[Bh]at hg Ao hA ⊢;have Az:=Ao.block _ _ A0 (fun h=>h);have hj:=AR.trans' Ao;have hV3s:=hj.size;clear BW Bh Ao A0 AR;refine qrD (i:=8) (by kernel_rfl) rfl (fun K hK=>?_)
   try simp only[qQ]
   go_simp;refine(zcy [(nBy,Y),(zxb,X)] 4 gb 4 _ _ _ V3 hg rfl rfl (by simp) (Nat.le_refl _) (by decide)).mono ?_;rintro r V4 ⟨CK,rfl,hq,An⟩;refine hK.out _ _ (AS.out _ _ An hA Az) (fun hA=>?_);clear hK K
   try simp only[Act.put,qP]
   have Ai:=An.block _ _ Az (fun h=>h);have hP:=hj.trans' An;obtain⟨xa,xc,Al⟩:∃ a c,CK = .slice a 2 c:=hq.formT;subst Al;clear An Az hj hg;refine qrD (i:=9) (by kernel_rfl) rfl (fun K hK=>?_)
   try simp only[qQ]
   go_simp;refine hK.out _ _ (AS.out _ _ ((Fr.refl (M:=NoB)).alloc _) hA Ai) (fun hA=>?_);clear hK K
   try simp only[Act.put,qP]
   have Ad:=zh V4 (.cells #[.int .i64 5,.int .i64 0,.string ⟨#[]⟩,.slice none 0 0,.slice xa 2 xc] 56);have hh:∀ w3:World,(V4.alloc (.cells #[.int .i64 5,.int .i64 0,.string ⟨#[]⟩,.slice none 0 0,.slice xa 2 xc] 56)).grownBy w3 (Value.slice ao i co).ownBlock→(V4.alloc (.cells #[.int .i64 5,.int .i64 0,.string ⟨#[]⟩,.slice none 0 0,.slice xa 2 xc] 56)).grownBy w3 (Value.slice ao i co).ownBlock:=fun _ h=>h
   have AQ:Fr NoB V4 (V4.alloc (.cells #[.int .i64 5,.int .i64 0,.string ⟨#[]⟩,.slice none 0 0,.slice xa 2 xc] 56)):=Fr.refl.alloc _;have Ah:=AQ.block _ _ Ai (fun h=>h);have hZ:(V4.alloc (.cells #[.int .i64 5,.int .i64 0,.string ⟨#[]⟩,.slice none 0 0,.slice xa 2 xc] 56)).heap.size=V4.heap.size+1:=zf _ _;have hV4s:=hP.size;obtain⟨tb,Ax⟩:∃ x,V4.heap.size=x:=⟨_,rfl⟩;obtain⟨V5,A9⟩:∃ x,V4.alloc (.cells #[.int .i64 5,.int .i64 0,.string ⟨#[]⟩,.slice none 0 0,.slice xa 2 xc] 56)=x:=⟨_,rfl⟩;rw[Ax]at Ad hZ ⊢;rw[A9]at Ad hh AQ Ah hZ hA ⊢;have hM:=za9 Hown.out (hP.trans' AQ) (fun _ _ _ _ _ h=>h);have Bt:=(hP.trans' AQ).block _ _ Ac.out (fun h=>h);have hf:∀ k,(Value.slice ao i co).ownBlock=some k→B+1≤k:=fun k hk=>(zam hM k hk).1
   have AM:(Value.slice ao i co).ownBlock≠some bs:=fun he=>by
    obtain⟨-,o',hI,c',f',rfl⟩:=zam hM _ he;rw[Ah]at hI
    injection hI with hI
    injection hI with _ hI _
    revert hI
    decide
   have Bk:∀ w3:World,V5.grownBy w3 (Value.slice ao i co).ownBlock→w3.heap[B]? = some (.cells #[.int .i64 4,.int .i64 0,.string ⟨#[]⟩,.slice ao i co,.slice none 0 0] 56 (0,0))∧w3.heap[bs]? = some (.cells cs 115 (0,0)):=fun w3 hg =>
    ⟨zaq hg Bt (fun he=>by have:=hf _ he;omega),zaq hg Ah AM⟩
   have Av:=za Bk;have AX:=za hM;have Hgr0:=za hh;have BH:=za hf;have Hq:=za hq;have ht:=za hP;have Hs4:=za Ai;have Htb:=za Ax;have B2:=za A9;have hwBr:B<wr.heap.size:=jb Ac.out;have htbB:B<tb:=by omega
   clear Bk hf AM Bt hM Ah AQ hq hP Ai A9 hh Ax;refine qrD (i:=10) (by kernel_rfl) rfl (fun K hK=>?_)
   try simp only[qQ]
   rw[if_pos (by rfl)];refine zky (.tmp 24) (.tmp 32) 53 (by rfl) (B+1) 56 i0 (.agg #[.int .i64 0,.int .i64 0,.string ⟨#[]⟩,.slice none 0 0,.slice none 0 0]) 5 80 Tryz.underlying53 Ca CN CM CL rfl (by decide) (.slice ao i co) i xs (by rfl) AX.out ⟨tb,0,none⟩ 1 1 [.int .i64 5,.int .i64 0,.string ⟨#[]⟩,.slice none 0 0,.slice xa 2 xc] (by rfl) rfl (zg6 Ad) (by simp[Value.oneCell']) (by unfold maxLen;omega) (by omega) (by omega) (by decide) ?_;intro g hD w3 hH hG BY BX;refine hK.out _ _ (za ⟨(VB.at (Av.out _ hG).1).2.2.2.1,jm (Av.out _ hG).2⟩) (fun hA=>?_);clear hK K
   try simp only[Act.put,qP]
   obtain⟨b0,b1,b2,b3,b4,bz,Cd⟩:=VB.at (Av.out _ hG).1;have At:=za (Av.out _ hG).1;have AY:=za hH;have Ab:=za hG;have Cf:=za BY;clear hH hG BY Ad;refine qtD (v:=?_) rfl (Or.inl ⟨by rfl,?_⟩) hA ?_;rotate_left
   ·intro W hy
    try simp only[qQ]
    go_simp
    try rw[if_neg (by omega)]
    try with_reducible rfl
   try simp only[Act.put,qP]
   refine qzD (by kernel_rfl) rfl (fun K hK=>?_)
   try simp only[qQ]
   go_simp;refine hK.out _ _ ?_;clear hK K
   try simp only[Act.put,qP]
   refine ziw (by kernel_rfl) ?_ _;simp only[zbb];have Ae:=z7 (o:=3) (.slice (some ⟨g,0,none⟩) (i+1) hD) At.out
   have hL:=LRow.push (S:=fun _=>False) (N:=B+1) (M:=V3.heap.size) (bv:=B) (g:=g) (cap:=hD) (w1:=V4) (w2:=w3) (Z:=(.cells #[.int .i64 5,.int .i64 0,.string ⟨#[]⟩,.slice none 0 0,.slice xa 2 xc] 56)) (l:=O) (j:=zcz ([(nBy,Y),(zxb,X)].map txP)) (lv := .slice ao i co) (X := .slice (some ⟨g,0,none⟩) (i+1) hD) (xs:=xs)
    (by rw[BJ.out];exact za9 Hown.out ht.out (fun _ _ _ _ _ h=>h)) (RC.kp (Kp.ofFr ht.out) _ _ Hrc.out) (fun _ h=>h.elim) (RJ.kp (fun k o hk ho _=>⟨.inr hk,ho⟩) _ _ Hq.out.valT) (by omega) (fun k hk=>by
      obtain⟨-,o',hI,-⟩:=zam Hown.out k hk;have:=jb hI
      omega) (by rw[B2.out];exact Ab.out) (by rw[Htb.out,← hZ];exact Cf.out) (by rw[BJ.out];exact AY.out) (by omega) (fun h=>h) BX 3
   rw[BJ.out]at hL
   have hS:Fr (fun k _=>B≤k) w1 (w3.setCell ⟨B,3,none⟩ (.slice (some ⟨g,0,none⟩) (i+1) hD)) :=
    ((AB.out.trans ((ht.out.alloc (.cells #[.int .i64 5,.int .i64 0,.string ⟨#[]⟩,.slice none 0 0,.slice xa 2 xc] 56))) (fun _ _ h=>h.elim)).trans (Fr.ofGrown (by rw[B2.out];exact Ab.out)) (fun k o hm => .inl (by have:=BH.out k hm.symm;omega))).trans (Fr.refl.setCell (M:=fun k _=>k=B) _ _ (fun _ _=>rfl)) (fun k o hm => .inl (by omega))
   obtain⟨w9,hv⟩:∃ z,w3.setCell ⟨B,3,none⟩ (.slice (some ⟨g,0,none⟩) (i+1) hD)=z:=⟨_,rfl⟩;rw[hv]at hL hS ⊢;have Ae:w9.heap[B]? = some (.cells #[.int .i64 4,.int .i64 0,.string ⟨#[]⟩,.slice (some ⟨g,0,none⟩) (i+1) hD,.slice none 0 0] 56 (0,0)):=by rw[← hv];exact Ae
   have Ce:=za Ae;have Hpush:=za hL;have Cg:=za hS;clear hv Ae hL hS b0 b1 b2 b3 b4 bz Cd hA
   go_wp2_with fail
   go_roundg (gk - 1)
   case measure=>omega
   case rel=>exact⟨i+1,_,by simp,by omega,by omega,Ce,by rw[Htk.out];exact Hpush,Cg⟩
  obtain rfl:i=l.length:=by omega
  have A4:decide ((l.length:Int)<l.length)=false:=by simp
  have BB:=Au.out;rw[List.take_of_length_le (Nat.le_refl _)]at BB;obtain⟨ls,cl,Al,AG⟩:=BB.row;rw[List.length_map]at Al;subst Al;have hBr1:B<wr.heap.size:=jb Ac.out;have hpB:p<B:=by have:=HB.out;omega
  have hqB:q<B:=by have:=HB.out;omega
  have hJ:RJ (fun k=>q<k∧k<wr.heap.size) wr (zf1 l) (.agg #[.int .i64 4,.int .i64 0,.string ⟨#[]⟩,.slice ls l.length cl,.slice none 0 0]):=by
   have h1:RJ (fun k=>((fun _=>False) k∨B+1≤k)∧k<wr.heap.size) wr (zf1 l) (.agg #[.int .i64 4,.int .i64 0,.string ⟨#[]⟩,.slice ls l.length cl,.slice none 0 0]):=by
    unfold zf1 RJ;exact⟨ls,cl,none,0,by rw[List.length_map];rfl,AG,.inl rfl⟩
   exact RJ.kp (fun k o hk ho _=>⟨⟨by rcases hk.1 with h | h;exact h.elim;omega,hk.2⟩,ho⟩) _ _ h1
  have BZ:Fr NoB w wr:=Aw.out.trans AB.out (fun k o hm => .inr (by have:=Aw.out.size;have:=HB.out;omega));have B4:=za (ji Ch.out AB.out A3 (fun _ h=>by omega));have Bu:=AB.out.block _ _ CI.out (fun h=>by omega);have HJ:=za hJ;have Hfw:=za BZ;have Cl:=za Bu;have hwrq:q<wr.heap.size:=by omega
  clear BB AG hJ BZ Bu
  go_wp2_with((with_reducible refine zi ?_ 28 _ rfl p 0 ?_ C d B4.out Hu.out ?_ Hz.out ?_);rfl;rfl;exact Hd.out)
  refine(Hbr.out _ Hfw.out).mono ?_;rintro r w2 ⟨av,cv,lvb,rfl,A2,h8⟩;obtain⟨n,hn⟩:∃ n,(zbi e).length=n:=⟨_,rfl⟩
  have hnle:n≤5:=by
   rw[← hn];unfold zbi
   repeat' split
   all_goals simp
  obtain⟨xb,cb,AN⟩:=A2.formT;rw[hn]at AN;subst AN;have BD:=h8.block _ _ Ac.out (fun h=>h);obtain⟨s0,s1,s2,s3,s4,sz,BL⟩:=VB.at BD;have Bm:=RJ.kp (Kp.ofFr h8) _ _ HJ.out;have By:=h8.block _ _ Cl.out (fun h=>h);have BM:=h8.size;have CA:=za (Hfw.out.trans' h8);have B6:=za Bm;have CH:=za By;have CB:=za BD;have Hqb:=za A2;have Hn:=za hn;obtain⟨i1,CZ,CQ,CP,CO⟩:=info_parts zdb;clear h8 BD Bm By A2 hn B4 Hbr
  go_upto_region 11 with(fail)
  have h9:=zh w2 (.cells #[.int .i64 5,.int .i64 0,.string ⟨#[]⟩,.slice av 0 cv,.slice xb n cb] 56);have hW:Fr NoB w2 (w2.alloc (.cells #[.int .i64 5,.int .i64 0,.string ⟨#[]⟩,.slice av 0 cv,.slice xb n cb] 56)):=Fr.refl.alloc _;change Code.wp _ _ _ _ (w2.alloc (.cells #[.int .i64 5,.int .i64 0,.string ⟨#[]⟩,.slice av 0 cv,.slice xb n cb] 56));obtain⟨W8,Bf⟩:∃ z,w2.alloc (.cells #[.int .i64 5,.int .i64 0,.string ⟨#[]⟩,.slice av 0 cv,.slice xb n cb] 56)=z:=⟨_,rfl⟩;rw[Bf]at h9 hW ⊢;obtain⟨v8,BN⟩:∃ z,w2.heap.size=z:=⟨_,rfl⟩;rw[BN]at h9 BM ⊢;have Br:=hW.block _ _ (CB.out) (fun h=>h);have CV:=Hqb.out.frT hW;obtain⟨xs,hE,BR⟩:=CV;rw[List.length_map,Hn.out]at hE
  have AL:(Value.slice xb n cb).ownBlock≠some v8:=fun he=>by
   obtain⟨-,o',hI,c',f',rfl⟩:=zam hE _ he;rw[h9]at hI
   injection hI with hI
   injection hI with _ hI _
   revert hI
   decide
  have AK:∀ k,(Value.slice xb n cb).ownBlock=some k→wr.heap.size≤k:=fun k hk=>(zam hE k hk).1
  have Bl:=RJ.kp (Kp.ofFr hW) _ _ B6.out;have hw8:wr.heap.size≤W8.heap.size:=by have:=hW.size;omega
  obtain⟨t0,t1,t2,t3,t4,tz,CJ⟩:=VB.at h9;obtain⟨s0,s1,s2,s3,s4,sz,BL⟩:=VB.at Br;have CD:=za h9;have Hown:=za hE;have Hrp:=za BR;have Aa:=za AL;have AZ:=za AK;have B5:=za Bl;have B8:=za (CA.out.trans' hW);have CF:=za (hW.block _ _ CH.out (fun h=>h));clear Bf BN h9 hW Br hE BR AL AK Bl B6 CA CH
  go_wp2_with(at_builtin;refine z2f ?_)
  refine za ?_;refine wpList_append_own _ rfl _ _ 54 rfl wr.heap.size 133 i1 (.agg #[.string ⟨#[]⟩,.int .i64 0,.int .i64 0,.string ⟨#[]⟩,.slice none 0 0,.slice none 0 0]) 6 96 Tryz.underlying54 CZ CQ CP CO rfl (by decide) _ _ _ rfl (Hown.out.alloc _) ⟨_,0,none⟩ 1 1 [.string ⟨#[115,105,103,115]⟩,.int .i64 4,.int .i64 0,.string ⟨#[]⟩,.slice ls l.length cl,.slice none 0 0] rfl rfl ?c6 ?c7 ?c8 ?c9 ?c10 ?_
  case c6=>exact zck _ _ _ _ rfl
  case c7=>simp[Value.oneCell']
  case c8=>unfold maxLen;omega
  case c9=>omega
  case c10=>simp;omega
  intro v' w3 hH hG _;have Ba:Fr NoB W8 (W8.alloc (.cells #[.string ⟨#[115,105,103,115]⟩,.int .i64 4,.int .i64 0,.string ⟨#[]⟩,.slice ls l.length cl,.slice none 0 0] 133)):=Fr.refl.alloc _;have AP:Fr (fun k _=>wr.heap.size≤k∧k≠v8) W8 w3:=(Ba.mono (fun _ _ h=>h.elim)).trans ((Fr.ofGrown hG).mono (M':=fun k _=>wr.heap.size≤k∧k≠v8) (fun k _ hm=>⟨AZ.out k hm.symm,fun he=>by subst he;exact Aa.out hm.symm⟩)) (fun _ _ h => .inl h);have As:=AP.block _ _ CD.out (fun h=>h.2 rfl)
  obtain ⟨g,hD,AA,CT,BX,hN,AC,hxs⟩:∃ g hD AA,v' = .slice (some ⟨g,0,none⟩) (n+1) hD∧wr.heap.size≤g∧w3.heap[g]? = some (.cells AA 133 (0,0))∧AA.toList.take ((n+1) * 6)=xs++[.string ⟨#[115,105,103,115]⟩,.int .i64 4,.int .i64 0,.string ⟨#[]⟩,.slice ls l.length cl,.slice none 0 0]∧n+1≤hD:=by
   obtain⟨-,h3⟩:=hH;rcases h3 with⟨_,h0⟩ | ⟨g,hD,AA,h1,h2,h3,h4,h5,h6,h7⟩
   ·omega
   exact⟨g,hD,AA,h1,h2,h3,h7,h4⟩
  subst CT;have hv8r:wr.heap.size≤v8:=BM
  -- the pairs as they lie in w3
  have Cb:g≠v8:=fun he=>by
   subst he;rw[As]at hN
   injection hN with hN
   injection hN with _ hN _
   revert hN
   decide
  have AI:RJ (fun k=>q<k∧k≠v8) w3 (zcz ((zbi e).map txP++[(za6,zf1 l)])) (.agg #[.int .i64 5,.int .i64 0,.string ⟨#[]⟩,.slice av 0 cv,.slice (some ⟨g,0,none⟩) (n+1) hD]):=by
   unfold zcz RJ;refine⟨av,cv,some ⟨g,0,none⟩,hD,by rw[List.length_append,List.length_map,Hn.out];rfl,.inl rfl,.inr ⟨g,0,AA,(0,0),rfl,⟨by omega,Cb⟩,Blk.of hN,?_⟩⟩;rw[List.drop_zero,Nat.mul_comm,List.length_append,List.length_map,Hn.out,show [(za6,zf1 l)].length=1 from rfl,AC];refine RP.append _ xs _ _ (RP.txt _ _ Hrp.out) (RP.one ?_);exact RJ.kp (fun k o hk ho _=>⟨⟨hk.1,by omega⟩,AP.block k o ho (fun h=>by omega)⟩) _ _ B5.out
  have Bw:=AP.block _ _ CF.out (fun h=>by omega);have Bp:Fr NoB w w3:=B8.out.trans AP (fun k o hm => .inr (by have:=Hfw.out.size;omega));obtain⟨u0,u1,u2,u3,u4,uz,BK⟩:=VB.at As;have AV:=za AI;have CC:=za As;have CG:=za Bw;have B9:=za Bp;clear hH hG Ba AP As hN AC AI Bw Bp t0 t1 t2 t3 t4 tz CJ s0 s1 s2 s3 s4 sz BL Hown Hrp Aa AZ B5 B8 CF CD CB
  go_upto_region 12 with(fail)
  change Code.wp _ _ _ _ (w3.setCell ⟨v8,4,none⟩ (.slice (some ⟨g,0,none⟩) (n+1) hD));have AU:=z7 (o:=4) (.slice (some ⟨g,0,none⟩) (n+1) hD) CC.out;have hS:Fr (fun k _=>k=v8) w3 (w3.setCell ⟨v8,4,none⟩ (.slice (some ⟨g,0,none⟩) (n+1) hD)):=Fr.refl.setCell _ _ (fun _ _=>rfl);obtain⟨w9,hv⟩:∃ z,w3.setCell ⟨v8,4,none⟩ (.slice (some ⟨g,0,none⟩) (n+1) hD)=z:=⟨_,rfl⟩;rw[hv]at AU hS ⊢;have AU:w9.heap[v8]? = some (.cells #[.int .i64 5,.int .i64 0,.string ⟨#[]⟩,.slice av 0 cv,.slice (some ⟨g,0,none⟩) (n+1) hD] 56 (0,0)):=AU;have AH:=RJ.kp (fun k o hk ho _=>⟨hk.1,hS.block k o ho hk.2⟩:Kp (fun k=>q<k∧k≠v8) (fun k=>q<k) w3 w9) _ _ AV.out
  have AE:∀ b,zh2 b=true→b.length≤2048:=fun b hb=>by
   unfold zh2 za7 at hb;split at hb
   ·cases hb
   omega
  have AO:=zpv Ho.out Hok.out AE (N:=67108864) (by decide);have Ay:=zit 19 zfo _ _ _ w9 AH (by rw[← Hl.out];exact zk3 (by decide) AO) (by rw[← Hl.out];exact zmh (by decide));rw[← Hl.out,zs7]at Ay;obtain⟨u0,u1,u2,u3,u4,uz,BK⟩:=VB.at AU;have Bv:=hS.block _ _ CG.out (fun h=>by omega);have Bo:Fr NoB w w9:=B9.out.trans hS (fun k o hm => .inr (by have:=Hfw.out.size;omega));have Hsr:=za Ay;have CE:=za Bv;have B7:=za Bo;clear Ay AO AE AH hS hv AU AV Bv Bo CC CG B9
  go_wp2_with fail
  refine Hsr.out.mono ?_;rintro r w5 ⟨x,rfl,A1,BC,-⟩;obtain⟨k0,k1,k2,xa,xn,xc,ya,yn,yc,hx⟩:=A1.form;subst hx;have BF:=BC.block _ _ CE.out (fun h=>h);have Hrj:=za A1;have H25:=za BF;have Cj:=za (B7.out.trans' BC);obtain⟨a0,a1,a2,a3,a4,az,alt⟩:=VB.at BF;clear u0 u1 u2 u3 u4 uz BK A1 BC BF
  go_wp2_with fail
  refine bodyPost_ret (v := .tuple #[.agg #[.int .i64 k0,.int .i64 k1,.string k2,.slice xa xn xc,.slice ya yn yc],.nilIface]) (by simp[results,Tryz.results59,go_sem,a0,a1,a2,a3,a4]) rfl ?_;have CU:w.heap.size≤q:=by have:=Hpq.out;omega
  refine⟨_,rfl,?_,Cj.out.setV CU _ _ _ _ _⟩;exact RJ.kp (fun k o hk ho _=>⟨by rcases hk with h | h;omega;have:=B7.out.size;omega,(q9 _ _ _ _ _ _ _).block k o ho (by rcases hk with h | h;omega;have:=jb CE.out;omega)⟩) _ _ Hrj.out
end Go.Proofs.YtmgfncjfgkllcaaGreatDoor
