/-
 The walk of keys.Is.
-/
import Derived.Test.YtffggpplnjibgaaGreatDoorKCheckE
import Derived.Test.YtffggpplnjibgaaGreatDoorKKeysS
import Derived.Great.BuildSlice
import Derived.Great.Walk
open Go.Lib renaming hid→zi,byteCells→zj
open Go.World renaming size_alloc→zm
open Go renaming heap_alloc_new→zo
open List renaming size_toArray→zw,length_drop→z8
open Nat renaming le_refl→ja
open Go.Value renaming int→jf
open Go.IntKind renaming u8→jg
namespace Go.Proofs.YtffggpplnjibgaaGreatDoor
set_option linter.unusedVariables false
set_option linter.unusedSimpArgs false
set_option linter.unusedSectionVars false
set_option maxRecDepth 100000
set_option maxHeartbeats 2000000
open Go.RowKit
variable [OldK]
def zlb:Bs:=List.replicate 64 0
def sgZero:Sg:=⟨[],j0,zlb⟩
def zg9 (n:Bs):En:=⟨4,j0,[],[],3,n,j0,[sgZero]⟩
theorem zit:zai sgZero=sKey++za9 j0:=rfl
theorem zou (sub:Bs→Bool) (n:Bs):zae sub (zg9 n)=zbh n:=by
 have h1:qw [sgZero]=true:=by
  unfold qw qh zix;rw[zit];rfl
 have h2:zjc (qj (zg9 n)) (za7 4 [sgZero])=true:=by
  unfold zjc qj zg9 za7;simp[zcw]
 unfold zae;show(zip sub (zg9 n)&&(qw [sgZero]&&zjc (qj (zg9 n)) (za7 4 [sgZero])))=_;rw[h1,h2];simp[zip,zg9]
theorem zg8 (n:Bs):(zg9 n).ok:=⟨rfl,rfl,fun s hs=>by
 simp only[zg9,List.mem_singleton]at hs;subst hs
 exact⟨rfl,rfl⟩⟩
theorem zod (s:Bs) (w:World) (hlen:s.length≤1000000) :
 Calls Tryz.prog 17 #[.string ⟨s.toArray⟩] w fun e w'=>e = .returned (.bool (zbt s))∧Fr NoB w w':=by
 have hE:=fun(p:Bs) (W:World)=>Tryz.strings_CutPrefix ⟨s.toArray⟩ ⟨p.toArray⟩ W
 obtain⟨R,hR⟩:∃ R,zbt s=R:=⟨_,rfl⟩;rw[hR];unfold zbt at hR;obtain⟨b1,hJ⟩:∃ b,Lib.hasPrefix s sId=b:=⟨_,rfl⟩;cases b1 with
 | true =>
   have h1:=hE sId;rw[show(ByteArray.mk s.toArray).data.toList=s by simp,show(ByteArray.mk sId.toArray).data.toList=sId by simp,hJ]at h1;obtain⟨n,hn⟩:∃ n,Lib.trimPrefix s sId=n:=⟨_,rfl⟩;rw[hn]at h1;have hY:n=s.drop 3:=by rw[← hn];unfold Lib.trimPrefix;rw[hJ];rfl
   have h0:n.length≤1000000:=by rw[hY,z8];omega
   rw[hJ,if_pos rfl,← hY]at hR;obtain⟨b,hb⟩:∃ b,zbh n=b:=⟨_,rfl⟩;have HR:Hid (b=R):=zi (by rw[← hb];exact hR)
   have hM:∀ (S:Nat→Prop) (sv:Value) (W:World),GS S [sgZero] sv W→Calls Tryz.prog 52 #[.agg ((zg9 n).cells (.slice none 0 0) sv).toArray] W fun r w'=>r = .returned (zre b)∧Fr NoB W w':=fun S sv W hg=>by
    have:=zha (fun _=>false) (fun _=>True) S (zg9 n) (.slice none 0 0) sv W (zg8 n) (SB.nil _ W 0) hg (fun h=>absurd h (by show ¬ (4:Int)=3;omega)) (Nat.zero_le _) h0 (Nat.zero_le _) (by show 1≤1000;omega) (fun s hs=>by
     simp only[zg9,List.mem_singleton]at hs;subst hs
     exact Nat.zero_le _)
    rwa [zou,hb]at this
   have Hck:=zi hM;have H1:=zi h1;clear hE h1 hM hR hb hY hn hJ;obtain⟨d,hu,hd⟩:=qm;go_enter Tryz.func17,Tryz.ntmps17
   go_wp2_with fail
   refine(H1.out _).mono ?_;rintro e w1 ⟨rfl,rfl⟩
   have hU:=zi (show((w1.alloc (.cells sgZero.cells 40)).alloc (.cells Tryz.zeroCells28 28)).there (w1.heap.size+1) 0 ((zg9 n).cells (.slice none 0 0) (.slice (some ⟨w1.heap.size,0,none⟩) 1 1)).toArray.size by
    have:=jw (zo (w1.alloc (.cells sgZero.cells 40)) (.cells Tryz.zeroCells28 28)) (n:=((zg9 n).cells (.slice none 0 0) (.slice (some ⟨w1.heap.size,0,none⟩) 1 1)).toArray.size) (by rw[zw,En.size (zg8 n)];exact ja _)
    rwa [zm]at this)
   have Hu:=zi hu;have Hd:=zi hd;have Hz:=zi (show(Tryz.prog.info? 28).map (·.size)=some ((zg9 n).cells (.slice none 0 0) (.slice (some ⟨w1.heap.size,0,none⟩) 1 1)).length by rw[jm,En.size (zg8 n)]);have hx:=zi (show(Tryz.prog.info? 28).map (·.size)=some ((zg9 n).cells (.slice none 0 0) (.slice (some ⟨w1.heap.size,0,none⟩) 1 1)).toArray.size by rw[jm,zw,En.size (zg8 n)]);have HO:=zi (En.one (e:=zg9 n) (pv := .slice none 0 0) (sv := .slice (some ⟨w1.heap.size,0,none⟩) 1 1) rfl rfl);clear hu hd
   go_upto_region 4 with(first
    | ((with_reducible refine wpList_buildTo ?_ 40 _ rfl _ rfl sgZero.cells ?_ ?_);rfl;kernel_rfl)
    | ((with_reducible refine Great.wpList_buildSliceTo ?_ 26 40 1 _ rfl w1.heap.size rfl _ rfl Tryz.underlying26 sgZero.cells ?_ ?_);rfl;kernel_rfl)
    | ((with_reducible refine wpList_buildTo ?_ 28 _ rfl _ rfl ((zg9 n).cells (.slice none 0 0) (.slice (some ⟨w1.heap.size,0,none⟩) 1 1)).toArray ?_ ?_);rfl;kernel_rfl)
    | ((with_reducible refine wpList_store_mid ?_ 28 _ _ rfl (w1.heap.size+1) 0 ((zg9 n).cells (.slice none 0 0) (.slice (some ⟨w1.heap.size,0,none⟩) 1 1)).toArray ?_ ?_ hU.out hx.out HO.out ?_);rfl;rfl;rfl))
   obtain⟨C,hC⟩:∃ C,(zg9 n).cells (.slice none 0 0) (.slice (some ⟨w1.heap.size,0,none⟩) 1 1)=C:=⟨_,rfl⟩;have hM:=Hck.out (fun k=>k=w1.heap.size) (.slice (some ⟨w1.heap.size,0,none⟩) 1 1);rw[hC]at hU Hz hM ⊢
   have hA:((w1.alloc (.cells sgZero.cells 40)).alloc (.cells Tryz.zeroCells28 28)).heap[w1.heap.size]? = some (.cells sgZero.cells 40):=by
    rw[Below.heap_alloc _ _ _ (by rw[zm];omega)];exact zo w1 _
   have hR:=World.rangeAt_setCells_same _ (w1.heap.size+1) 0 C (by simpa using hU.out);have hF:Fr NoB w1 (((w1.alloc (.cells sgZero.cells 40)).alloc (.cells Tryz.zeroCells28 28)).setCells (w1.heap.size+1) 0 C):=((Fr.refl.alloc _).alloc _).trans (ji _ _ _ _) (fun k _ hm => .inr (by omega))
   have hw:GS (fun k=>k=w1.heap.size) [sgZero] (.slice (some ⟨w1.heap.size,0,none⟩) 1 1) ((w1.alloc (.cells sgZero.cells 40)).alloc (.cells Tryz.zeroCells28 28)):=by
    refine⟨_,_,rfl,ja _,.inr ⟨w1.heap.size,0,rfl,rfl,by rw[zm,zm];omega,fun i hi=>?_⟩⟩;obtain rfl:i=0:=by simpa using hi
    exact jz hA
   have hG:GS (fun k=>k=w1.heap.size) [sgZero] (.slice (some ⟨w1.heap.size,0,none⟩) 1 1) (((w1.alloc (.cells sgZero.cells 40)).alloc (.cells Tryz.zeroCells28 28)).setCells (w1.heap.size+1) 0 C) :=
    hw.fr (ji (w1.heap.size+1) C 0 _) (fun k _ hk hm=>by omega)
   obtain⟨W,hW⟩:∃ W,((w1.alloc (.cells sgZero.cells 40)).alloc (.cells Tryz.zeroCells28 28)).setCells (w1.heap.size+1) 0 C=W:=⟨_,rfl⟩;rw[hW]at hR hF hG ⊢;have hh:=zi (hM W hG);have h5:=zi hR;have HF:=zi hF;clear hM hR hF hG hw hA hW hU hx HO hC Hck H1;cases b
   all_goals
    go_wp2_with((with_reducible refine wpList_load_mid ?_ 28 _ rfl (w1.heap.size+1) 0 ?_ C d h5.out Hu.out ?_ Hz.out ?_);rfl;rfl;exact Hd.out)
    refine hh.out.mono ?_;rintro r w3 ⟨rfl,hD⟩;have hH:=zi (HF.out.trans' hD);clear hD;unfold zre
    go_wp2_with fail
    go_ret;exact⟨ju HR.out,hH.out⟩
 | false =>
   rw[hJ]at hR;simp only[Bool.false_eq_true,if_false]at hR;have h1:=fun W=>hE sId W
   have h7:=fun W=>hE sSha W
   have h4:=fun W=>hE sKey W
   obtain⟨b7,hP⟩:∃ b,Lib.hasPrefix s sSha=b:=⟨_,rfl⟩;obtain⟨b4,hQ⟩:∃ b,Lib.hasPrefix s sKey=b:=⟨_,rfl⟩;simp only[show(ByteArray.mk s.toArray).data.toList=s by simp,show(ByteArray.mk sId.toArray).data.toList=sId by simp,hJ]at h1;simp only[show(ByteArray.mk s.toArray).data.toList=s by simp,show(ByteArray.mk sSha.toArray).data.toList=sSha by simp,hP]at h7;simp only[show(ByteArray.mk s.toArray).data.toList=s by simp,show(ByteArray.mk sKey.toArray).data.toList=sKey by simp,hQ]at h4;have t7:b7=true→Lib.trimPrefix s sSha=s.drop 7:=fun h=>by unfold Lib.trimPrefix;rw[hP,h];rfl
   have t4:b4=true→Lib.trimPrefix s sKey=s.drop 4:=fun h=>by unfold Lib.trimPrefix;rw[hQ,h];rfl
   obtain⟨n1,ho⟩:∃ n,Lib.trimPrefix s sId=n:=⟨_,rfl⟩;obtain⟨n7,hj⟩:∃ n,Lib.trimPrefix s sSha=n:=⟨_,rfl⟩;obtain⟨n4,hl⟩:∃ n,Lib.trimPrefix s sKey=n:=⟨_,rfl⟩;rw[ho]at h1;rw[hj]at h7 t7;rw[hl]at h4 t4;rw[hP,hQ]at hR;have hq:b7=true→n7.length≤1000000:=fun h=>by rw[t7 h,z8];omega
   have hr:b4=true→n4.length≤1000000:=fun h=>by rw[t4 h,z8];omega
   have hS:(if b7=true then (zf3 n7).isSome else if b4=true then (zf3 n4).isSome else false)=R:=by
    rw[← hR];cases b7
    ·cases b4
     ·rfl
     rw[t4 rfl];rfl
    rw[t7 rfl];rfl
   have hV:=fun h W=>zpn n7 W (hq h)
   have hX:=fun h W=>zpn n4 W (hr h)
   obtain⟨m7,hZ⟩:∃ m,zf3 n7=m:=⟨_,rfl⟩;obtain⟨m4,ha⟩:∃ m,zf3 n4=m:=⟨_,rfl⟩;have k7:∀ b,m7=some b→b.length=32:=fun b h=>((zbd n7 b).1 (hZ.trans h)).2
   have k4:∀ b,m4=some b→b.length=32:=fun b h=>((zbd n4 b).1 (ha.trans h)).2
   rw[hZ]at hV hS;rw[ha]at hX hS;have HR:=zi hS;have H1:=zi h1;have H7:=zi h7;have H4:=zi h4;have h2:=zi hV;have h3:=zi hX;have K7:=zi k7;have K4:=zi k4;have hz:=zi (show((#[jf jg 0,jf jg 0,jf jg 0,jf jg 0,jf jg 0,jf jg 0,jf jg 0,jf jg 0,jf jg 0,jf jg 0,jf jg 0,jf jg 0,jf jg 0,jf jg 0,jf jg 0,jf jg 0,jf jg 0,jf jg 0,jf jg 0,jf jg 0,jf jg 0,jf jg 0,jf jg 0,jf jg 0,jf jg 0,jf jg 0,jf jg 0,jf jg 0,jf jg 0,jf jg 0,jf jg 0,jf jg 0]:Array Value).all (·.oneCell'))=true by simp[Value.oneCell']);clear hE h1 h7 h4 hR hS hV hX hJ hP hQ t7 t4 ho hj hl hq hr hZ ha k7 k4;go_enter Tryz.func17,Tryz.ntmps17
   go_wp2_with fail
   refine(H1.out _).mono ?_;rintro e w1 ⟨rfl,rfl⟩
   go_wp2_with fail
   have hc:Fr NoB w1 (w1.alloc (.cells #[.string ⟨sSha.toArray⟩,.string ⟨sKey.toArray⟩] 9)):=Fr.refl.alloc _;have hA:=zo w1 (.cells #[.string ⟨sSha.toArray⟩,.string ⟨sKey.toArray⟩] 9);change Code.wp _ _ _ _ (w1.alloc (.cells #[.string ⟨sSha.toArray⟩,.string ⟨sKey.toArray⟩] 9));obtain⟨W0,hv⟩:∃ W,w1.alloc (.cells #[.string ⟨sSha.toArray⟩,.string ⟨sKey.toArray⟩] 9)=W:=⟨_,rfl⟩;rw[hv]at hc hA ⊢;obtain⟨gl,ht⟩:∃ g,w1.heap.size=g:=⟨_,rfl⟩;rw[ht]at hA ⊢;have h8:=zi hc;have HA:=zi hA;have h6:Hid ((if (0:Nat)=0 then (if b7=true then m7.isSome else if b4=true then m4.isSome else false) else if (0:Nat)=1 then (if b4=true then m4.isSome else false) else false)=R):=zi (by rw[if_pos rfl];exact HR.out);clear hv ht hc hA
   go_loopg [27] 3 (fun gf vi wr=>∃ i:Nat,vi = .int .i64 i∧i+gf=3∧i≤2∧Fr NoB W0 wr∧Hid ((if i=0 then (if b7=true then m7.isSome else if b4=true then m4.isSome else false) else if i=1 then (if b4=true then m4.isSome else false) else false)=R))
   case atStart=>exact⟨0,rfl,rfl,by omega,Fr.refl,h6⟩
   case round =>
    obtain⟨i,rfl,hig,hi2,hT,HG⟩:=hrel;have he:=hT.block _ _ HA.out (fun h=>h);have k0:wr.cell? ⟨gl,0,none⟩=some (.string ⟨sSha.toArray⟩):=by simp[World.cell?,he]
    have k1:wr.cell? ⟨gl,1,none⟩=some (.string ⟨sKey.toArray⟩):=by simp[World.cell?,he]
    have hO:=zi (h8.out.trans' hT);have hy:=zi hT;clear hT he;have hf:i=0∨i=1∨i=2:=by omega
    rcases hf with rfl | rfl | rfl
    ·cases b7 with
     | false =>
       go_wp2_with fail
       refine(H7.out _).mono ?_;rintro e w2 ⟨rfl,rfl⟩
       go_wp2_with fail
       go_roundg (gk - 1)
       case measure=>omega
       case rel=>exact⟨0+1,by simp,by omega,by omega,hy.out,by simpa using HG⟩
     | true =>
       have hs:=h2.out rfl;have Hs:=zi hs;clear hs;cases m7 with
       | none =>
         go_wp2_with fail
         refine(H7.out _).mono ?_;rintro e w2 ⟨rfl,rfl⟩
         go_wp2_with fail
         refine(Hs.out _).mono ?_;rintro e w3 ⟨hp,hD⟩;obtain rfl:e=_:=hp;have hH:=zi (hO.out.trans' hD);obtain⟨L,hL⟩:∃ L,(#[jf jg 0,jf jg 0,jf jg 0,jf jg 0,jf jg 0,jf jg 0,jf jg 0,jf jg 0,jf jg 0,jf jg 0,jf jg 0,jf jg 0,jf jg 0,jf jg 0,jf jg 0,jf jg 0,jf jg 0,jf jg 0,jf jg 0,jf jg 0,jf jg 0,jf jg 0,jf jg 0,jf jg 0,jf jg 0,jf jg 0,jf jg 0,jf jg 0,jf jg 0,jf jg 0,jf jg 0,jf jg 0]:Array Value)=L:=⟨_,rfl⟩;have hB:L.size=32:=by rw[← hL];rfl
         have hI:=zi (show L.all (·.oneCell')=true by rw[← hL];exact hz.out);rw[hL];have HT:=zi (jw (zo w3 (.cells #[jf jg 0,jf jg 0,jf jg 0,jf jg 0,jf jg 0,jf jg 0,jf jg 0,jf jg 0,jf jg 0,jf jg 0,jf jg 0,jf jg 0,jf jg 0,jf jg 0,jf jg 0,jf jg 0,jf jg 0,jf jg 0,jf jg 0,jf jg 0,jf jg 0,jf jg 0,jf jg 0,jf jg 0,jf jg 0,jf jg 0,jf jg 0,jf jg 0,jf jg 0,jf jg 0,jf jg 0,jf jg 0] 23)) (n:=L.size) (by rw[hB];exact ja _));have hK:=zi (show(Tryz.prog.info? 23).map (·.size)=some L.size by rw[j4,hB]);clear hD hL hB
         go_wp2_with((with_reducible refine wpList_store_mid ?_ 23 _ _ rfl w3.heap.size 0 L ?_ ?_ HT.out hK.out hI.out ?_);rfl;rfl;rfl)
         go_ret;exact⟨ju (by simpa using HG.out),(hH.out.alloc _).trans (ji _ _ _ _) (fun k _ hm => .inr (by have:=hH.out.size;omega))⟩
       | some bb =>
         have hN:=K7.out bb rfl
         go_wp2_with fail
         refine(H7.out _).mono ?_;rintro e w2 ⟨rfl,rfl⟩
         go_wp2_with fail
         refine(Hs.out _).mono ?_;rintro e w3 ⟨hp,hD⟩;obtain rfl:e=_:=hp;have hH:=zi (hO.out.trans' hD);have hB:(zj bb).toArray.size=32:=by rw[zw,jj,hN]
         have hI:=zi (show(zj bb).toArray.all (·.oneCell')=true from all_oneCell_toArray (zaa _));obtain⟨L,hL⟩:∃ L,(zj bb).toArray=L:=⟨_,rfl⟩;rw[hL]at hB hI ⊢;have HT:=zi (jw (zo w3 (.cells #[jf jg 0,jf jg 0,jf jg 0,jf jg 0,jf jg 0,jf jg 0,jf jg 0,jf jg 0,jf jg 0,jf jg 0,jf jg 0,jf jg 0,jf jg 0,jf jg 0,jf jg 0,jf jg 0,jf jg 0,jf jg 0,jf jg 0,jf jg 0,jf jg 0,jf jg 0,jf jg 0,jf jg 0,jf jg 0,jf jg 0,jf jg 0,jf jg 0,jf jg 0,jf jg 0,jf jg 0,jf jg 0] 23)) (n:=L.size) (by rw[hB];exact ja _));have hK:=zi (show(Tryz.prog.info? 23).map (·.size)=some L.size by rw[j4,hB]);clear hD hL hB hN
         go_wp2_with((with_reducible refine wpList_store_mid ?_ 23 _ _ rfl w3.heap.size 0 L ?_ ?_ HT.out hK.out hI.out ?_);rfl;rfl;rfl)
         go_ret;exact⟨ju (by simpa using HG.out),(hH.out.alloc _).trans (ji _ _ _ _) (fun k _ hm => .inr (by have:=hH.out.size;omega))⟩
    ·cases b4 with
     | false =>
       go_wp2_with fail
       refine(H4.out _).mono ?_;rintro e w2 ⟨rfl,rfl⟩
       go_wp2_with fail
       go_roundg (gk - 1)
       case measure=>omega
       case rel=>exact⟨1+1,by simp,by omega,by omega,hy.out,by simpa using HG⟩
     | true =>
       have hs:=h3.out rfl;have Hs:=zi hs;clear hs;cases m4 with
       | none =>
         go_wp2_with fail
         refine(H4.out _).mono ?_;rintro e w2 ⟨rfl,rfl⟩
         go_wp2_with fail
         refine(Hs.out _).mono ?_;rintro e w3 ⟨hp,hD⟩;obtain rfl:e=_:=hp;have hH:=zi (hO.out.trans' hD);obtain⟨L,hL⟩:∃ L,(#[jf jg 0,jf jg 0,jf jg 0,jf jg 0,jf jg 0,jf jg 0,jf jg 0,jf jg 0,jf jg 0,jf jg 0,jf jg 0,jf jg 0,jf jg 0,jf jg 0,jf jg 0,jf jg 0,jf jg 0,jf jg 0,jf jg 0,jf jg 0,jf jg 0,jf jg 0,jf jg 0,jf jg 0,jf jg 0,jf jg 0,jf jg 0,jf jg 0,jf jg 0,jf jg 0,jf jg 0,jf jg 0]:Array Value)=L:=⟨_,rfl⟩;have hB:L.size=32:=by rw[← hL];rfl
         have hI:=zi (show L.all (·.oneCell')=true by rw[← hL];exact hz.out);rw[hL];have HT:=zi (jw (zo w3 (.cells #[jf jg 0,jf jg 0,jf jg 0,jf jg 0,jf jg 0,jf jg 0,jf jg 0,jf jg 0,jf jg 0,jf jg 0,jf jg 0,jf jg 0,jf jg 0,jf jg 0,jf jg 0,jf jg 0,jf jg 0,jf jg 0,jf jg 0,jf jg 0,jf jg 0,jf jg 0,jf jg 0,jf jg 0,jf jg 0,jf jg 0,jf jg 0,jf jg 0,jf jg 0,jf jg 0,jf jg 0,jf jg 0] 23)) (n:=L.size) (by rw[hB];exact ja _));have hK:=zi (show(Tryz.prog.info? 23).map (·.size)=some L.size by rw[j4,hB]);clear hD hL hB
         go_wp2_with((with_reducible refine wpList_store_mid ?_ 23 _ _ rfl w3.heap.size 0 L ?_ ?_ HT.out hK.out hI.out ?_);rfl;rfl;rfl)
         go_ret;exact⟨ju (by simpa using HG.out),(hH.out.alloc _).trans (ji _ _ _ _) (fun k _ hm => .inr (by have:=hH.out.size;omega))⟩
       | some bb =>
         have hN:=K4.out bb rfl
         go_wp2_with fail
         refine(H4.out _).mono ?_;rintro e w2 ⟨rfl,rfl⟩
         go_wp2_with fail
         refine(Hs.out _).mono ?_;rintro e w3 ⟨hp,hD⟩;obtain rfl:e=_:=hp;have hH:=zi (hO.out.trans' hD);have hB:(zj bb).toArray.size=32:=by rw[zw,jj,hN]
         have hI:=zi (show(zj bb).toArray.all (·.oneCell')=true from all_oneCell_toArray (zaa _));obtain⟨L,hL⟩:∃ L,(zj bb).toArray=L:=⟨_,rfl⟩;rw[hL]at hB hI ⊢;have HT:=zi (jw (zo w3 (.cells #[jf jg 0,jf jg 0,jf jg 0,jf jg 0,jf jg 0,jf jg 0,jf jg 0,jf jg 0,jf jg 0,jf jg 0,jf jg 0,jf jg 0,jf jg 0,jf jg 0,jf jg 0,jf jg 0,jf jg 0,jf jg 0,jf jg 0,jf jg 0,jf jg 0,jf jg 0,jf jg 0,jf jg 0,jf jg 0,jf jg 0,jf jg 0,jf jg 0,jf jg 0,jf jg 0,jf jg 0,jf jg 0] 23)) (n:=L.size) (by rw[hB];exact ja _));have hK:=zi (show(Tryz.prog.info? 23).map (·.size)=some L.size by rw[j4,hB]);clear hD hL hB hN
         go_wp2_with((with_reducible refine wpList_store_mid ?_ 23 _ _ rfl w3.heap.size 0 L ?_ ?_ HT.out hK.out hI.out ?_);rfl;rfl;rfl)
         go_ret;exact⟨ju (by simpa using HG.out),(hH.out.alloc _).trans (ji _ _ _ _) (fun k _ hm => .inr (by have:=hH.out.size;omega))⟩
    clear k0 k1
    go_wp2_with fail
    go_ret;exact⟨ju HG.out,hO.out⟩
end Go.Proofs.YtffggpplnjibgaaGreatDoor
