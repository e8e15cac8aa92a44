/-
 A nil table (package bind) answers as the new one does;its Take and its Copy.
-/
import Derived.Test.YtcddlemkimbkcaaGreatDoorKBindCheck
import Derived.Test.YtcddlemkimbkcaaGreatDoorKAlive17
import Derived.Test.YtcddlemkimbkcaaGreatDoorKStands
import Derived.Test.YtcddlemkimbkcaaGreatDoorKRefCheck
import Derived.Test.YtcddlemkimbkcaaGreatDoorKNum
import Derived.Test.YtcddlemkimbkcaaGreatDoorKReadEn
open Go.Lib renaming hid→za,byteCells→zb
open Go.Proofs.Tryz renaming prog→ze
open Go.World renaming size_alloc→zf
open Go renaming heap_alloc_new→zh,wpList_load_mid→zi
open Go.Value renaming int→zy
open Go.IntKind renaming u8→z6
namespace Go.Proofs.YtcddlemkimbkcaaGreatDoor
set_option linter.unusedVariables false
set_option linter.unusedSimpArgs false
set_option linter.unusedSectionVars false
set_option maxRecDepth 100000
set_option maxHeartbeats 8000000
section
open Go.RowKit Go.Shelf
variable [OldK]
theorem zqn (k:Bs)(w:World)(hk:k.length=32) :
 Calls ze 67 #[.pointer none,.agg (zb k).toArray] w fun e w'=>e = .returned (.int .i64 0)∧Fr NoB w w':=by
 have hF:Fr NoB w (w.alloc (.cells (zb k).toArray 24)):=Fr.refl.alloc _;have HF:=za hF;obtain⟨C,hC⟩:∃ C,zb k=C:=⟨_,rfl⟩;rw[hC]at HF ⊢;clear hF hC hk;go_enter Tryz.func67,Tryz.ntmps67
 go_wp2_with fail
 go_ret;exact⟨rfl,HF.out⟩
theorem zqo (x:Bs) (w:World) :
 Calls ze 66 #[.pointer none,.string ⟨x.toArray⟩] w fun e w'=>e = .returned (.agg Chg.zero.cells.toArray)∧Fr NoB w w':=by
 have hA:=zh w (.cells #[.int .i64 0,.bool false,zy z6 0,zy z6 0,zy z6 0,zy z6 0,zy z6 0,zy z6 0,zy z6 0,zy z6 0,zy z6 0,zy z6 0,zy z6 0,zy z6 0,zy z6 0,zy z6 0,zy z6 0,zy z6 0,zy z6 0,zy z6 0,zy z6 0,zy z6 0,zy z6 0,zy z6 0,zy z6 0,zy z6 0,zy z6 0,zy z6 0,zy z6 0,zy z6 0,zy z6 0,zy z6 0,zy z6 0,zy z6 0] 117);have hF:Fr NoB w (w.alloc (.cells #[.int .i64 0,.bool false,zy z6 0,zy z6 0,zy z6 0,zy z6 0,zy z6 0,zy z6 0,zy z6 0,zy z6 0,zy z6 0,zy z6 0,zy z6 0,zy z6 0,zy z6 0,zy z6 0,zy z6 0,zy z6 0,zy z6 0,zy z6 0,zy z6 0,zy z6 0,zy z6 0,zy z6 0,zy z6 0,zy z6 0,zy z6 0,zy z6 0,zy z6 0,zy z6 0,zy z6 0,zy z6 0,zy z6 0,zy z6 0] 117)):=Fr.refl.alloc _;obtain⟨d,hu,hd⟩:=zdp;have hC:=jr hA (n:=34) (by show 34≤34;omega);have Hsz:=za (show(Tryz.prog.info? 117).map (·.size)=some Chg.zero.cells.toArray.size by kernel_rfl);have Hsl:=za (show(Tryz.prog.info? 117).map (·.size)=some Chg.zero.cells.length by kernel_rfl);have H1:=za (Chg.one Chg.zero);have HT:Hid ((w.alloc (.cells #[.int .i64 0,.bool false,zy z6 0,zy z6 0,zy z6 0,zy z6 0,zy z6 0,zy z6 0,zy z6 0,zy z6 0,zy z6 0,zy z6 0,zy z6 0,zy z6 0,zy z6 0,zy z6 0,zy z6 0,zy z6 0,zy z6 0,zy z6 0,zy z6 0,zy z6 0,zy z6 0,zy z6 0,zy z6 0,zy z6 0,zy z6 0,zy z6 0,zy z6 0,zy z6 0,zy z6 0,zy z6 0,zy z6 0,zy z6 0] 117)).there w.heap.size 0 Chg.zero.cells.toArray.size):=za hC
 have hB:∀ (V:World) (p:Nat) (tm:Array Value),tm.getD 4 undef = .pointer (some ⟨p,0,none⟩)→V.rangeAt p 0 Chg.zero.cells→(results Tryz.f66 tm).run ze V = .ok (.agg Chg.zero.cells.toArray) V:=fun V p tm hD hr=>by
  rw[qg rfl,hD];have:=run_loadVar_mid (P:=ze) V p 0 117 Chg.zero.cells d hr hu hd Hsl.out;simp[asAddr,Result.andThen,this]
 have Hres:=za hB;clear hu hd hB hC hA;go_enter Tryz.func66,Tryz.ntmps66
 go_upto_region 1 with(fail)
 change Code.wp _ _ _ _ (w.alloc (.cells #[.int .i64 0,.bool false,zy z6 0,zy z6 0,zy z6 0,zy z6 0,zy z6 0,zy z6 0,zy z6 0,zy z6 0,zy z6 0,zy z6 0,zy z6 0,zy z6 0,zy z6 0,zy z6 0,zy z6 0,zy z6 0,zy z6 0,zy z6 0,zy z6 0,zy z6 0,zy z6 0,zy z6 0,zy z6 0,zy z6 0,zy z6 0,zy z6 0,zy z6 0,zy z6 0,zy z6 0,zy z6 0,zy z6 0,zy z6 0] 117));obtain⟨W,hW⟩:∃ W,w.alloc (.cells #[.int .i64 0,.bool false,zy z6 0,zy z6 0,zy z6 0,zy z6 0,zy z6 0,zy z6 0,zy z6 0,zy z6 0,zy z6 0,zy z6 0,zy z6 0,zy z6 0,zy z6 0,zy z6 0,zy z6 0,zy z6 0,zy z6 0,zy z6 0,zy z6 0,zy z6 0,zy z6 0,zy z6 0,zy z6 0,zy z6 0,zy z6 0,zy z6 0,zy z6 0,zy z6 0,zy z6 0,zy z6 0,zy z6 0,zy z6 0] 117)=W:=⟨_,rfl⟩;rw[hW]at hF HT ⊢;obtain⟨p,hp⟩:∃ p,w.heap.size=p:=⟨_,rfl⟩;rw[hp]at HT ⊢;have Hp:=za hp;have HF:=za hF;clear hW hp hF
 go_wp2_with (first
  | ((with_reducible refine wpList_buildTo ?_ 117 _ rfl _ rfl Chg.zero.cells.toArray ?_ ?_);rfl;kernel_rfl)
  | (with_reducible refine wpList_store_mid rfl 117 _ _ rfl p 0 Chg.zero.cells.toArray rfl rfl HT.out Hsz.out H1.out ?_))
 refine bodyPost_ret (v := .agg Chg.zero.cells.toArray) ?_ rfl ⟨rfl,HF.out.trans (jd _ _ _ _) (fun k _ hm => .inr (by have:=Hp.out;omega))⟩;exact Hres.out _ p _ rfl (World.rangeAt_setCells_same W p 0 _ (by simpa using HT.out))
theorem zqu (x:Bs)(w:World) :
 Calls ze 65 #[.pointer none,.string ⟨x.toArray⟩] w fun e w'=>e = .returned (.slice none 0 0)∧w'=w:=by
 go_enter Tryz.func65,Tryz.ntmps65
 go_wp2_with fail
 go_ret;exact⟨rfl,rfl⟩
theorem zld (w:World) :
 Calls ze 37 #[.pointer none] w fun e w'=>e = .returned (.pointer none)∧w'=w:=by
 go_enter Tryz.func37,Tryz.ntmps37
 go_wp2_with fail
 go_ret;exact⟨rfl,rfl⟩
theorem TV.nil (w:World):TV (.pointer none) Tb.new w where
 lastC x V hV _:=zqo x V
 lifeC k V hV hk:=zqn k V hk
 lastok _:=rfl
 histC x V hV _:=(zqu x V).mono (by
  rintro e w' ⟨rfl,rfl⟩
  exact⟨_,rfl,⟨rfl,.inl ⟨rfl,rfl⟩⟩,Fr.refl⟩)
 few _:=Nat.zero_le _
 keys _ _ h:=by cases h
theorem zpf (S S':Nat→Prop) (e:En) (pv sv:Value) (pos:Int) (w:World) (hf:Fine S S' e pv sv w) :
 Calls ze 28 #[.pointer none,.agg (e.cells pv sv).toArray,.int .i64 pos] w fun r w' =>
  r = .returned (zgf (if zb6 zhq Tb.new e=0 then 8 else zb6 zhq Tb.new e))∧Fr NoB w w':=by
 have hR:(w.alloc (.cells (e.cells pv sv).toArray 39)).rangeAt w.heap.size 0 (e.cells pv sv):=by simpa using jg (zh w (.cells (e.cells pv sv).toArray 39))
 have hF:Fr NoB w (w.alloc (.cells (e.cells pv sv).toArray 39)):=Fr.refl.alloc _;have hA:=fun V (hV:Fr NoB w V)=>ze5 S S' e pv sv V ((TV.nil w).toTL.keep hV) (hf.fr hV)
 have hG:=En.size hf.ok pv sv;obtain⟨d,hu,hd⟩:=qv;have hz:(Tryz.prog.info? 39).map (·.size)=some (e.cells pv sv).length:=by rw[ju,hG]
 obtain⟨R,hD⟩:∃ R,zb6 zhq Tb.new e=R:=⟨_,rfl⟩;simp only[hD]at hA;rw[hD];obtain⟨C,hC⟩:∃ C,e.cells pv sv=C:=⟨_,rfl⟩;simp only[hC]at hA;rw[hC]at hR hF hz ⊢;have Hu:=za hu;have Hd:=za hd;have Hz:=za hz;have HR:=za hR;have HF:=za hF;have Hchk:=za hA;clear hG hf hC hu hd hz hR hF hA;by_cases h0:R=0
 ·subst h0;rw[if_pos rfl];simp only[show zgf 0 = .nilIface from rfl]at Hchk;clear hD;go_enter Tryz.func28,Tryz.ntmps28
  go_wp2_with((with_reducible refine zi rfl 39 _ rfl w.heap.size 0 rfl C d HR.out Hu.out Hd.out Hz.out ?_))
  refine(Hchk.out _ HF.out).mono ?_;rintro r w2 ⟨rfl,hB⟩;have hE:=za (HF.out.trans' hB);clear hB
  go_wp2_with fail
  go_ret;exact⟨rfl,hE.out⟩
 rw[if_neg h0];obtain⟨n,rfl⟩:∃ n,R=n+1:=⟨R - 1,by omega⟩;have he:zgf (n+1) = .iface 56 (.int .i64 ((n+1:Nat):Int)):=by simp[zgf]
 rw[he];simp only[he]at Hchk;clear h0 hD he;go_enter Tryz.func28,Tryz.ntmps28
 go_wp2_with((with_reducible refine zi rfl 39 _ rfl w.heap.size 0 rfl C d HR.out Hu.out Hd.out Hz.out ?_))
 refine(Hchk.out _ HF.out).mono ?_;rintro r w2 ⟨rfl,hB⟩;have hE:=za (HF.out.trans' hB);clear hB
 go_wp2_with fail
 go_ret;exact⟨rfl,hE.out⟩
end
section
open Go.RowKit Go.Shelf
variable [OldK]
theorem zou (s:Sg):(jm s).isEmpty=false:=by
 unfold jm;split
 ·rfl
 rename_i h
 cases hq:s.id with
 | nil=>exact absurd hq h
 | cons x l=>rfl
def sAliceN:Bs:=[97,108,105,99,101]
theorem zxb (a b:Bs) (ha:a.length=32) (hb:b.length=32):Tryz.prog.builtSlice 24 2 [(0,.agg (zb a).toArray),(1,.agg (zb b).toArray)]=some (zb a++zb b).toArray:=by
 obtain⟨ik,hC,hB,hA,hk2⟩:=info_parts zlx
 have h:=zav (P:=ze) (len:=2) hC hB hA (by rfl) (by decide) (by decide) (by decide) [.agg (zb a).toArray,.agg (zb b).toArray] (fun v hv=>by
  have:v = .agg (zb a).toArray∨v = .agg (zb b).toArray:=by simpa using hv
  rcases this with rfl | rfl
  ·show(zb a).toArray.size=32;rw[List.size_toArray,ja,ha]
  show(zb b).toArray.size=32
  rw[List.size_toArray,ja,hb]) rfl
 have e:([Value.agg (zb a).toArray,.agg (zb b).toArray].flatMap fun v=>v.cells.toList).toArray=(zb a++zb b).toArray:=by simp[Value.cells]
 rw[e]at h;exact h
theorem zxa (a b c:Bs):Tryz.prog.builtSlice 9 3 [(0,.string ⟨a.toArray⟩),(1,.string ⟨b.toArray⟩),(2,.string ⟨c.toArray⟩)]=some #[.string ⟨a.toArray⟩,.string ⟨b.toArray⟩,.string ⟨c.toArray⟩]:=by kernel_rfl
theorem zv8 (e:En) (pv sv:Value) (s:Sg) (place:Int) (w:World) (hg:Gl w) (he:EnIn w e pv sv) (hs:s.ok) :
 Calls ze 8 #[.agg (e.cells pv sv).toArray,.agg s.cells,.int .i64 place] w fun r w'=>r = .returned (.bool true)∧Fr NoB w w':=by
 obtain⟨hf,hS,hR⟩:=he;obtain⟨a1,cp1,ea⟩:=hS.form;obtain⟨a3,cp3,es,-⟩:=id hR;have Az:pv.oneCell'=true:=by rw[ea];rfl
 have Ay:sv.oneCell'=true:=by rw[es];rfl
 clear ea es;have hA:=zh w (.cells (e.cells pv sv).toArray 39);have hB:=zh (w.alloc (.cells (e.cells pv sv).toArray 39)) (.cells s.cells 54);have hF:Fr NoB w ((w.alloc (.cells (e.cells pv sv).toArray 39)).alloc (.cells s.cells 54)):=(Fr.refl.alloc _).alloc _;have h9:=((Fr.refl (M:=NoB)).alloc (.cells s.cells 54)).block _ _ hA (fun h=>h);rw[zf]at hB;have Aj:(Tryz.prog.info? 39).map (·.size)=some (e.cells pv sv).length:=by rw[ju,En.size hf pv sv]
 have Ag:(Tryz.prog.info? 54).map (·.size)=some s.cells.toList.length:=by rw[jy,Array.length_toList,Sg.size hs]
 have AX:∀ V:World,V.heap[w.heap.size]? = some (.cells (e.cells pv sv).toArray 39 (0,0))→V.rangeAt w.heap.size 0 (e.cells pv sv)∧V.cell? ⟨w.heap.size,36,none⟩=some (.string ⟨e.ident.toArray⟩)∧V.rangeAt w.heap.size 37 (zb e.key):=fun V hV=>by
  have hr:V.rangeAt w.heap.size 0 (e.cells pv sv):=by simpa using jg hV
  obtain⟨-,-,-,-,-,BH,hK,-⟩:=En.parts hf hr;exact⟨hr,BH,hK⟩
 have AW:∀ V:World,V.heap[w.heap.size+1]? = some (.cells s.cells 54 (0,0))→V.rangeAt (w.heap.size+1) 0 s.cells.toList∧V.cell? ⟨w.heap.size+1,0,none⟩=some (.string ⟨s.id.toArray⟩)∧V.rangeAt (w.heap.size+1) 1 (zb s.key):=fun V hV=>by
  have hr:=jg hV;obtain⟨h0,hK⟩:=Sg.in_block hs hr;exact⟨hr,h0,hK⟩
 have Ai:(Tryz.prog.info? 24).map (·.size)=some (zb e.key).length:=by rw[jb,ja,hf.2.1]
 have hm:(Tryz.prog.info? 24).map (·.size)=some (zb s.key).length:=by rw[jb,ja,hs.1]
 have hD:=fun V (hV:Fr NoB w V)=>zu8 Old Old e pv sv V hf (hS.fr hV (fun _ _ _ _ h=>h)) (hR.fr hV (fun _ _ _ h=>h))
 have hO:=fun V (hV:Fr NoB w V)=>zrh V (hg.fr hV (fun _ _ _ h=>h.elim))
 have hN:=fun(hl:zev e=false)=>zq3 hf hS hR hg hl
 have Al:=zxb e.key s.key hf.2.1 hs.1;have Ak:=zxa e.ident s.id sAliceN;have hJ:=fun V (hi:s.id.length≤1000000)=>zbq s V hs hi
 have AH:=zou s;have A1:=hf.2.1;have AJ:=hs.1;obtain⟨SP,An⟩:∃ x,jm s=x:=⟨_,rfl⟩;simp only[An]at hJ;rw[An]at AH;obtain⟨d,hu,hd⟩:=qv;obtain⟨dS,Ax,A2⟩:=zai;obtain⟨C,hC⟩:∃ x,e.cells pv sv=x:=⟨_,rfl⟩;rw[hC]at h9 hB hF Aj ⊢;simp only[hC]at AX hD;obtain⟨SC,Ao⟩:∃ x,s.cells=x:=⟨_,rfl⟩;rw[Ao]at h9 hB hF Ag ⊢;simp only[Ao]at AW hJ;obtain⟨hG,hM⟩:∃ x,e.ident=x:=⟨_,rfl⟩;obtain⟨hE,hQ⟩:∃ x,s.id=x:=⟨_,rfl⟩;obtain⟨K1,AO⟩:∃ x,zb e.key=x:=⟨_,rfl⟩;obtain⟨K2,AN⟩:∃ x,zb s.key=x:=⟨_,rfl⟩;simp only[hM,AO]at AX;simp only[hQ,AN]at AW;rw[AO]at Ai;rw[AN]at hm;rw[AO,AN]at Al;rw[hM,hQ]at Ak;simp only[hQ]at hJ;obtain⟨L,hL⟩:∃ x,zev e=x:=⟨_,rfl⟩;simp only[hL]at hD hN;have A0:L=false→hG.length≤500:=fun h=>by rw[← hM];exact(zhs (hL.trans h)).2.2.2.1
 have HC:=za hC;have AB:=za (And.intro AO (And.intro A1 hM));have AA:=za (And.intro AN AJ);have Hu:=za hu;have Hd:=za hd;have Aa:=za Ax;have Ac:=za A2;have Hez:=za Aj;have Hsz:=za Ag;have Hkz:=za Ai;have AQ:=za hm;have Hep:=za AX;have Hsp:=za AW;have Hlarge:=za hD;have Halive:=za hO;have Hfine:=za hN;have Hbk:=za Al;have Hbs:=za Ak;have Hsgn:=za hJ;have Hne:=za AH;have Hll:=za A0;have Hg:=za hg;have Hps:=za (And.intro Az Ay);clear hu hd Ax A2 Aj Ag Ai hm AX AW hD hO hN Al Ak hJ AH A0 hL AO AN hM hQ A1 AJ An hC Ao hf hS hR hg hs hA Az Ay;go_enter Tryz.func8,Tryz.ntmps8
 go_upto_region 1 with(fail)
 change Code.wp _ _ _ _ ((w.alloc (.cells C.toArray 39)).alloc (.cells SC 54));obtain⟨W,hW⟩:∃ V,(w.alloc (.cells C.toArray 39)).alloc (.cells SC 54)=V:=⟨_,rfl⟩;rw[hW]at h9 hB hF ⊢;obtain⟨p,hp⟩:∃ x,w.heap.size=x:=⟨_,rfl⟩;rw[hp]at h9 hB ⊢;simp only[hp]at Hep Hsp;obtain⟨q,hq⟩:∃ x,p+1=x:=⟨_,rfl⟩;rw[hq]at hB ⊢;simp only[hq]at Hsp;have HA:=za h9;have HB:=za hB;have HF:=za hF;clear hW hp hq h9 hB hF
 go_wp2_with fail
 refine(Halive.out _ HF.out).mono ?_;rintro r w1 ⟨rfl,AZ⟩;have Aw:=za (AZ.block _ _ HA.out (fun h=>h));have Au:=za (AZ.block _ _ HB.out (fun h=>h));have As:=za (HF.out.trans' AZ);clear AZ HA HB HF;obtain⟨A7,AD,hZ⟩:=Hep.out _ Aw.out;obtain⟨-,k0,hY⟩:=Hsp.out _ Au.out;have A9:=za A7;clear A7 hZ hY AD
 go_wp2_with(with_reducible refine zi rfl 39 _ rfl p 0 rfl C d A9.out Hu.out Hd.out Hez.out ?_)
 refine(Hlarge.out _ As.out).mono ?_;rintro r w2 ⟨rfl,AP⟩;have BD:=Fr.cell AP k0;have Av:=za (AP.block _ _ Aw.out (fun h=>h));have BA:=za (AP.block _ _ Au.out (fun h=>h));have AS:=za (As.out.trans' AP);clear AP Aw Au As k0 A9;cases L with
 | true =>
   go_wp2_with fail
   go_ret;exact⟨rfl,AS.out⟩
 | false =>
   by_cases Am:500<hE.length
   ·have BG:decide ((500:Int)<(hE.length:Int))=true:=decide_eq_true (by omega)
    go_wp2_with fail
    go_ret;exact⟨rfl,AS.out⟩
   have BG:decide ((500:Int)<(hE.length:Int))=false:=decide_eq_false (by omega);have Hsl:Hid (hE.length≤500):=za (by omega);have Hfin:=za (Hfine.out rfl);have BE:CRow [] (.slice none 0 0) w2:=⟨Nat.zero_le _,fun _ h=>(by cases h),fun _ h=>(by cases h),_,_,rfl,.inl rfl⟩;have AG:=fun V (hV:Fr NoB w V)=>zop Old Old [] (.slice none 0 0) e pv sv V ⟨Nat.zero_le _,fun _ h=>(by cases h),fun _ h=>(by cases h),_,_,rfl,.inl rfl⟩ (Hfin.out.fr hV)
   simp only[List.map_nil,zp0 Tied.new,zqa zup zhq,HC.out]at AG;have AK:=fun V (hV:Fr NoB w V)=>ze5 Old Old e pv sv V (TV.nil V).toTL (Hfin.out.fr hV)
   have h8:=fun V (hV:Fr NoB w V)=>zpf Old Old e pv sv place V (Hfin.out.fr hV)
   simp only[HC.out]at AK h8;have ho:=zsl zhq Tb.new e;obtain⟨R,Ap⟩:∃ x,zb6 zhq Tb.new e=x:=⟨_,rfl⟩;simp only[Ap]at AG AK h8;rw[Ap]at ho;obtain⟨T,hT⟩:∃ x,(if R=0 then 8 else R)=x:=⟨_,rfl⟩;have AL:T≤20:=by rw[← hT];split<;>omega
   simp only[hT]at h8;have hU:=fun V=>zuy R ho V
   have hI:=fun V=>zuy T AL V
   obtain⟨rI,Ah⟩:∃ x:Int,(R:Int)=x:=⟨_,rfl⟩;obtain⟨tI,Af⟩:∃ x:Int,(T:Int)=x:=⟨_,rfl⟩;simp only[Ah]at AG hU;simp only[Af]at hI;obtain⟨bR,BF⟩:∃ x,(rI==0)=x:=⟨_,rfl⟩
   have Ab:Hid (tI=if bR=true then 8 else rI):=za (by
    rw[← BF,← Af,← Ah,← hT];by_cases h0:R=0
    ·subst h0;rfl
    rw[if_neg h0,if_neg (by simpa using h0)])
   obtain⟨VR,A4⟩:∃ x,zgf R=x:=⟨_,rfl⟩;obtain⟨VT,A3⟩:∃ x,zgf T=x:=⟨_,rfl⟩;simp only[A4]at AK hU;simp only[A3]at h8 hI;have Hrc:=za AG;have Hck:=za AK;have Htk:=za h8;have Hnum:=za hU;have hh:=za hI;obtain⟨A6,-,-⟩:=Hep.out _ Av.out;have A8:=za A6;clear AG AK h8 hU hI Ap hT AL ho A4 A3 BE A6 Am Ah Af
   go_wp2_with(with_reducible refine zi rfl 39 _ rfl p 0 rfl C d A8.out Hu.out Hd.out Hez.out ?_)
   refine(Hrc.out _ AS.out).mono ?_;rintro r w3 ⟨rfl,AY⟩;have AV:=za (AY.block _ _ Av.out (fun h=>h));have Ae:=za (AY.block _ _ BA.out (fun h=>h));have AC:=za (AS.out.trans' AY);obtain⟨A5,-,-⟩:=Hep.out _ AV.out;have Ad:=za A5;clear AY Av BA AS BD A8 A5 Hrc;cases bR with
   | true =>
     obtain rfl:tI=8:=Ab.out;clear Ab
     go_wp2_with(with_reducible refine zi rfl 39 _ rfl p 0 rfl C d Ad.out Hu.out Hd.out Hez.out ?_)
     refine(Hck.out _ AC.out).mono ?_;rintro r w4 ⟨rfl,hc⟩;have h7:=za (hc.block _ _ AV.out (fun h=>h));have AT:=za (hc.block _ _ Ae.out (fun h=>h));have h3:=za (AC.out.trans' hc);obtain⟨AM,-,-⟩:=Hep.out _ h7.out;have hw:=za AM;clear hc AV Ae AC Ad AM Hck
     go_wp2_with fail
     refine(Hnum.out _).mono ?_;rintro r w5 ⟨rfl,rfl⟩
     go_wp2_with (first
      | (with_reducible refine zi rfl 39 _ rfl p 0 rfl C d hw.out Hu.out Hd.out Hez.out ?_)
      | (with_reducible refine z8 39 _ rfl p 0 rfl C d hw.out Hu.out Hd.out Hez.out rfl ?_))
     refine(Htk.out _ h3.out).mono ?_;rintro r w6 ⟨rfl,hb⟩;have AU:=za (hb.block _ _ h7.out (fun h=>h));have h6:=za (hb.block _ _ AT.out (fun h=>h));have Ar:=za (h3.out.trans' hb);clear hb h7 AT h3 hw Htk
     go_wp2_with fail
     refine(hh.out _).mono ?_;rintro r w7 ⟨rfl,rfl⟩
     go_wp2_with fail
     refine(zld _).mono ?_;rintro r w8 ⟨rfl,rfl⟩;obtain⟨-,AD,hZ⟩:=Hep.out _ AU.out;obtain⟨hX,k0,hY⟩:=Hsp.out _ h6.out;have BJ:=za hZ;have BI:=za hY;have ha:=(Fr.refl (M:=NoB)).alloc (w:=w8) (.cells #[.string ⟨hG.toArray⟩,.string ⟨hE.toArray⟩,.string ⟨sAliceN.toArray⟩] 9);have ht:=ha.alloc (.cells (K1++K2).toArray 24);have hz:=za (je hZ ha (jq AU.out) (fun _ h=>h));have hy:=za (je hY ha (jq h6.out) (fun _ h=>h));have hj:=AB.out.2.1;have hk:=AA.out.2;have AI:=zne (zjh w8 w8.heap.size 9 1 3 [.string ⟨hG.toArray⟩,.string ⟨hE.toArray⟩,.string ⟨sAliceN.toArray⟩] (Nat.le_refl _) rfl (by decide)) ((Fr.refl (M:=NoB)).alloc (.cells (K1++K2).toArray 24));have hn:=zjh (w8.alloc (.cells #[.string ⟨hG.toArray⟩,.string ⟨hE.toArray⟩,.string ⟨sAliceN.toArray⟩] 9)) w8.heap.size 24 32 2 (K1++K2) (by rw[zf];omega) (by rw[List.length_append,← AB.out.1,← AA.out.1,ja,ja,hj,hk]) (by decide);rw[zf]at hn
     have AE:=znc (tv := .pointer none) [] (.slice none 0 0) _ _ [hG,hE,sAliceN] [e.key,s.key] place _ (TV.nil _) ⟨Nat.zero_le _,fun _ h=>(by cases h),fun _ h=>(by cases h),_,_,rfl,.inl rfl⟩ Tied.new AI (by rw[show [e.key,s.key].flatMap zb=K1++K2 by simp[AB.out.1,AA.out.1]];exact hn) (by simp) (by simp) (fun x hx=>by
      have h1:=Hll.out (by first | trivial | rfl);have h2:=Hsl.out;have:x=hG∨x=hE∨x=sAliceN:=by simpa using hx
      rcases this with rfl | rfl | rfl
      ·unfold maxLen;omega
      ·unfold maxLen;omega
      ·decide) (fun x hx=>by
      have:x=e.key∨x=s.key:=by simpa using hx
      rcases this with rfl | rfl
      ·exact hj
      exact hk)
     have Aq:=za (Ar.out.trans' ht);have Hst:=za AE;have At:=za (ht.block _ _ h6.out (fun h=>h));clear AE AI hn ha ht hZ hY hj hk hX
     go_wp2_with (first
      | ((with_reducible refine Great.wpList_buildSliceTo ?_ 63 9 3 _ rfl w8.heap.size rfl _ rfl Tryz.underlying63 #[.string ⟨hG.toArray⟩,.string ⟨hE.toArray⟩,.string ⟨sAliceN.toArray⟩] ?_ ?_);rfl;(refine Eq.trans (congrArg (Tryz.prog.builtSlice 9 3) ?_) Hbs.out;kernel_rfl))
      | (with_reducible refine zi rfl 24 _ rfl p 37 rfl K1 (.array 32 5) hz.out z7 rfl Hkz.out ?_)
      | (with_reducible refine zi rfl 24 _ rfl q 1 rfl K2 (.array 32 5) hy.out z7 rfl AQ.out ?_)
      | ((with_reducible refine Great.wpList_buildSliceTo ?_ 58 24 2 _ rfl (w8.alloc (.cells #[.string ⟨hG.toArray⟩,.string ⟨hE.toArray⟩,.string ⟨sAliceN.toArray⟩] 9)).heap.size rfl _ rfl Tryz.underlying58 (K1++K2).toArray ?_ ?_);rfl;(refine Eq.trans (congrArg (Tryz.prog.builtSlice 24 2) ?_) Hbk.out;kernel_rfl)))
     refine Hst.out.mono ?_;rintro r BC ⟨rfl,hH⟩;have h5:=za (Aq.out.trans' hH);obtain⟨hX,-,-⟩:=Hsp.out _ (hH.block _ _ At.out (fun h=>h));have AR:=za hX;have AF:=fun V=>Hsgn.out V (by have:=Hsl.out;omega)
     have Hsg:=za AF;clear hH hX AF AD k0
     go_wp2_with (first
      | (with_reducible refine zi rfl 54 _ rfl q 0 rfl SC.toList dS AR.out Aa.out Ac.out Hsz.out ?_)
      | (with_reducible refine z8 54 _ rfl q 0 rfl SC.toList dS AR.out Aa.out Ac.out Hsz.out rfl ?_))
     refine(Hsg.out _).mono ?_;rintro r BB ⟨rfl,hP⟩;have AH:=Hne.out;have h4:=za (h5.out.trans' hP);clear hP
     go_wp2_with fail
     go_ret;exact⟨rfl,h4.out⟩
   | false =>
     obtain rfl:tI=rI:=Ab.out;clear Ab
     go_wp2_with(with_reducible refine zi rfl 39 _ rfl p 0 rfl C d Ad.out Hu.out Hd.out Hez.out ?_)
     refine(Hck.out _ AC.out).mono ?_;rintro r w4 ⟨rfl,hc⟩;have h7:=za (hc.block _ _ AV.out (fun h=>h));have AT:=za (hc.block _ _ Ae.out (fun h=>h));have h3:=za (AC.out.trans' hc);obtain⟨AM,-,-⟩:=Hep.out _ h7.out;have hw:=za AM;clear hc AV Ae AC Ad AM Hck
     go_wp2_with fail
     refine(Hnum.out _).mono ?_;rintro r w5 ⟨rfl,rfl⟩
     go_wp2_with (first
      | (with_reducible refine zi rfl 39 _ rfl p 0 rfl C d hw.out Hu.out Hd.out Hez.out ?_)
      | (with_reducible refine z8 39 _ rfl p 0 rfl C d hw.out Hu.out Hd.out Hez.out rfl ?_))
     refine(Htk.out _ h3.out).mono ?_;rintro r w6 ⟨rfl,hb⟩;have AU:=za (hb.block _ _ h7.out (fun h=>h));have h6:=za (hb.block _ _ AT.out (fun h=>h));have Ar:=za (h3.out.trans' hb);clear hb h7 AT h3 hw Htk
     go_wp2_with fail
     refine(hh.out _).mono ?_;rintro r w7 ⟨rfl,rfl⟩
     go_wp2_with fail
     refine(zld _).mono ?_;rintro r w8 ⟨rfl,rfl⟩;obtain⟨-,AD,hZ⟩:=Hep.out _ AU.out;obtain⟨hX,k0,hY⟩:=Hsp.out _ h6.out;have BJ:=za hZ;have BI:=za hY;have ha:=(Fr.refl (M:=NoB)).alloc (w:=w8) (.cells #[.string ⟨hG.toArray⟩,.string ⟨hE.toArray⟩,.string ⟨sAliceN.toArray⟩] 9);have ht:=ha.alloc (.cells (K1++K2).toArray 24);have hz:=za (je hZ ha (jq AU.out) (fun _ h=>h));have hy:=za (je hY ha (jq h6.out) (fun _ h=>h));have hj:=AB.out.2.1;have hk:=AA.out.2;have AI:=zne (zjh w8 w8.heap.size 9 1 3 [.string ⟨hG.toArray⟩,.string ⟨hE.toArray⟩,.string ⟨sAliceN.toArray⟩] (Nat.le_refl _) rfl (by decide)) ((Fr.refl (M:=NoB)).alloc (.cells (K1++K2).toArray 24));have hn:=zjh (w8.alloc (.cells #[.string ⟨hG.toArray⟩,.string ⟨hE.toArray⟩,.string ⟨sAliceN.toArray⟩] 9)) w8.heap.size 24 32 2 (K1++K2) (by rw[zf];omega) (by rw[List.length_append,← AB.out.1,← AA.out.1,ja,ja,hj,hk]) (by decide);rw[zf]at hn
     have AE:=znc (tv := .pointer none) [] (.slice none 0 0) _ _ [hG,hE,sAliceN] [e.key,s.key] place _ (TV.nil _) ⟨Nat.zero_le _,fun _ h=>(by cases h),fun _ h=>(by cases h),_,_,rfl,.inl rfl⟩ Tied.new AI (by rw[show [e.key,s.key].flatMap zb=K1++K2 by simp[AB.out.1,AA.out.1]];exact hn) (by simp) (by simp) (fun x hx=>by
      have h1:=Hll.out (by first | trivial | rfl);have h2:=Hsl.out;have:x=hG∨x=hE∨x=sAliceN:=by simpa using hx
      rcases this with rfl | rfl | rfl
      ·unfold maxLen;omega
      ·unfold maxLen;omega
      ·decide) (fun x hx=>by
      have:x=e.key∨x=s.key:=by simpa using hx
      rcases this with rfl | rfl
      ·exact hj
      exact hk)
     have Aq:=za (Ar.out.trans' ht);have Hst:=za AE;have At:=za (ht.block _ _ h6.out (fun h=>h));clear AE AI hn ha ht hZ hY hj hk hX
     go_wp2_with (first
      | ((with_reducible refine Great.wpList_buildSliceTo ?_ 63 9 3 _ rfl w8.heap.size rfl _ rfl Tryz.underlying63 #[.string ⟨hG.toArray⟩,.string ⟨hE.toArray⟩,.string ⟨sAliceN.toArray⟩] ?_ ?_);rfl;(refine Eq.trans (congrArg (Tryz.prog.builtSlice 9 3) ?_) Hbs.out;kernel_rfl))
      | (with_reducible refine zi rfl 24 _ rfl p 37 rfl K1 (.array 32 5) hz.out z7 rfl Hkz.out ?_)
      | (with_reducible refine zi rfl 24 _ rfl q 1 rfl K2 (.array 32 5) hy.out z7 rfl AQ.out ?_)
      | ((with_reducible refine Great.wpList_buildSliceTo ?_ 58 24 2 _ rfl (w8.alloc (.cells #[.string ⟨hG.toArray⟩,.string ⟨hE.toArray⟩,.string ⟨sAliceN.toArray⟩] 9)).heap.size rfl _ rfl Tryz.underlying58 (K1++K2).toArray ?_ ?_);rfl;(refine Eq.trans (congrArg (Tryz.prog.builtSlice 24 2) ?_) Hbk.out;kernel_rfl)))
     refine Hst.out.mono ?_;rintro r BC ⟨rfl,hH⟩;have h5:=za (Aq.out.trans' hH);obtain⟨hX,-,-⟩:=Hsp.out _ (hH.block _ _ At.out (fun h=>h));have AR:=za hX;have AF:=fun V=>Hsgn.out V (by have:=Hsl.out;omega)
     have Hsg:=za AF;clear hH hX AF AD k0
     go_wp2_with (first
      | (with_reducible refine zi rfl 54 _ rfl q 0 rfl SC.toList dS AR.out Aa.out Ac.out Hsz.out ?_)
      | (with_reducible refine z8 54 _ rfl q 0 rfl SC.toList dS AR.out Aa.out Ac.out Hsz.out rfl ?_))
     refine(Hsg.out _).mono ?_;rintro r BB ⟨rfl,hP⟩;have AH:=Hne.out;have h4:=za (h5.out.trans' hP);clear hP
     go_wp2_with fail
     go_ret;exact⟨rfl,h4.out⟩
end
end Go.Proofs.YtcddlemkimbkcaaGreatDoor
