/-
 How things lie while chapter 17's laws let bindings come: a table,the bindings that came,names and keys,in rows that grow beside one another.
-/
import Derived.Test.YtcddlemkimbkcaaGreatDoorKRefRows2
import Derived.Test.YtcddlemkimbkcaaGreatDoorKRefAt
import Derived.Deep.CutRange
import Derived.Test.YtcddlemkimbkcaaGreatDoorKStands
import Derived.Test.YtcddlemkimbkcaaGreatDoorKRefCheck
import Derived.Test.YtcddlemkimbkcaaGreatDoorKBackward
open Go.Lib renaming hid→za,byteCells→zb
open Go.World renaming size_alloc→zf
open Go renaming heap_alloc_new→zh,wpList_load_mid→zi
open Go.AllReadyH renaming cons→zl
open List renaming size_toArray→zn,length_append→zq
open Or renaming inl→zv
open Go.Value renaming int→zy
open Go.IntKind renaming u8→z6
namespace Go.Proofs.YtcddlemkimbkcaaGreatDoor
set_option linter.unusedVariables false
set_option linter.unusedSimpArgs false
set_option linter.unusedSectionVars false
set_option maxRecDepth 100000
set_option maxHeartbeats 8000000
section
open Go.RowKit Go.Shelf
variable [OldK]

theorem zmj:(Tryz.prog.info? 9).map (fun i=>(i.zero,i.size,i.bytes))=some (some (.string ⟨#[]⟩),1,16):=by kernel_rfl
def zpz (ns:List Bs):List Value:=ns.map (fun s => .string ⟨s.toArray⟩)
def MNK (k:Nat) (o:Obj):Prop:=OfTy 9 o∨OfTy 24 o
structure CpS (bT bN tb bc bl bnd:Nat) (t:Tb) (ms:List CameV) (ns ks:List Bs) (vm vn vk:Value) (g lv:Bs→Option Value) (w wc V:World):Prop where
 t:TBL bT tb bnd bc bl t g lv V
 m:V.ownsRow bT 67 71 vm ms.length (ms.flatMap CameV.cells)
 n:V.ownsRow bN 9 1 vn ns.length (zpz ns)
 k:V.ownsRow bN 24 32 vk ks.length (ks.flatMap zb)
 fr:Fr NoB w V
 fc:Fr MNK wc V
 gl:Gl V
 low:3≤bT∧3≤bN∧w.heap.size≤bT∧w.heap.size≤bN∧wc.heap.size≤bT∧bN≤bT
section
variable {bT bN tb bc bl bnd:Nat} {t t':Tb} {ms:List CameV} {ns ks:List Bs} {vm vn vk v':Value} {g lv g' lv':Bs→Option Value} {w wc V W:World}
theorem CpS.keep (h:CpS bT bN tb bc bl bnd t ms ns ks vm vn vk g lv w wc V)(hF:Fr NoB V W):CpS bT bN tb bc bl bnd t ms ns ks vm vn vk g lv w wc W :=
 ⟨h.t.keep hF,zfr h.m hF,zfr h.n hF,zfr h.k hF,h.fr.trans' hF,h.fc.trans hF (fun _ _ h=>h.elim),h.gl.fr hF (fun _ _ _ h=>h.elim),h.low⟩
theorem CpS.took (h:CpS bT bN tb bc bl bnd t ms ns ks vm vn vk g lv w wc V) (hF:Fr (TM bT bc bl) V W) {bnd':Nat} (ht:TBL bT tb bnd' bc bl t' g' lv' W):CpS bT bN tb bc bl bnd' t' ms ns ks vm vn vk g' lv' w wc W :=
 ⟨ht,zj1 h.t h.m (by decide) hF,zj1 h.t h.n (by decide) hF,zj1 h.t h.k (by decide) hF,h.fr.took h.t h.low.2.2.1 hF,h.fc.trans hF (fun k o hm => .inr (by
  have hl:=h.t.low;have hb:=h.low.2.2.2.2.1
  rcases hm with rfl | rfl | ⟨hm,-⟩<;>omega)),h.gl.took h.t h.low.1 hF,h.low⟩
theorem CpS.bT_le (h:CpS bT bN tb bc bl bnd t ms ns ks vm vn vk g lv w wc V):bT≤V.heap.size:=Nat.le_of_lt (Nat.lt_of_le_of_lt h.t.low.1 (jo h.t.cells))
theorem CpS.bN_le (h:CpS bT bN tb bc bl bnd t ms ns ks vm vn vk g lv w wc V):bN≤V.heap.size:=Nat.le_trans h.low.2.2.2.2.2 h.bT_le
theorem CpS.grown {b e s m:Nat}{v:Value}{xs:List Value}(h:CpS bT bN tb bc bl bnd t ms ns ks vm vn vk g lv w wc V)(ho:V.ownsRow b e s v m xs)(hb:w.heap.size≤b∧3≤b)(h1:e≠117)(h2:e≠115)(hm:(∀ o,OfTy e o→∀ k,MNK k o)∨wc.heap.size≤b)(hg:V.grownBy W v.ownBlock) :
 TBL bT tb bnd bc bl t g lv W∧Fr NoB w W∧Fr MNK wc W∧Gl W:=by
 have hF:Fr (fun k o=>some k=v.ownBlock∧V.heap[k]? = some o) V W:=(Fr.ofGrown hg).mono2 (fun k o hk hm=>⟨hm,hk⟩);refine⟨h.t.beside ho h1 h2 hg,zkz ho hb.1 h.fr hg,h.fc.trans hF (fun k o hk=>?_),zwe ho hb.2 h.gl hg⟩;obtain⟨h3,o',h4,h5⟩:=zbj ho hk.1;rw[hk.2]at h4;cases h4;rcases hm with hm | hm
 ·exact .inl (hm _ h5 _)
 exact .inr (Nat.le_trans hm h3)
theorem CpS.growN (h:CpS bT bN tb bc bl bnd t ms ns ks vm vn vk g lv w wc V){ns':List Bs}(hn:W.ownsRow bN 9 1 v' ns'.length (zpz ns'))(hg:V.grownBy W vn.ownBlock):CpS bT bN tb bc bl bnd t ms ns' ks vm v' vk g lv w wc W:=by
 obtain⟨h1,h2,h3,h4⟩:=h.grown h.n ⟨h.low.2.2.2.1,h.low.2.1⟩ (by decide) (by decide) (.inl fun _ h _ => .inl h) hg;exact⟨h1,zci h.m h.n (by decide) hg,hn,zci h.k h.n (by decide) hg,h2,h3,h4,h.low⟩
theorem CpS.growK (h:CpS bT bN tb bc bl bnd t ms ns ks vm vn vk g lv w wc V){ks':List Bs}(hn:W.ownsRow bN 24 32 v' ks'.length (ks'.flatMap zb))(hg:V.grownBy W vk.ownBlock):CpS bT bN tb bc bl bnd t ms ns ks' vm vn v' g lv w wc W:=by
 obtain⟨h1,h2,h3,h4⟩:=h.grown h.k ⟨h.low.2.2.2.1,h.low.2.1⟩ (by decide) (by decide) (.inl fun _ h _ => .inr h) hg;exact⟨h1,zci h.m h.k (by decide) hg,zci h.n h.k (by decide) hg,hn,h2,h3,h4,h.low⟩
theorem CpS.growM (h:CpS bT bN tb bc bl bnd t ms ns ks vm vn vk g lv w wc V){ms':List CameV}(hn:W.ownsRow bT 67 71 v' ms'.length (ms'.flatMap CameV.cells))(hg:V.grownBy W vm.ownBlock):CpS bT bN tb bc bl bnd t ms' ns ks v' vn vk g lv w wc W:=by
 obtain⟨h1,h2,h3,h4⟩:=h.grown h.m ⟨h.low.2.2.1,h.low.1⟩ (by decide) (by decide) (.inr h.low.2.2.2.2.1) hg;exact⟨h1,hn,zci h.n h.m (by decide) hg,zci h.k h.m (by decide) hg,h2,h3,h4,h.low⟩
end
structure CpD (t:Tb) (ms:List CameV) (ns ks:List Bs) (n:Nat):Prop where
 tied:Tied t (ms.map CameV.cm)
 right:t.right
 ml:ms.length≤n
 nl:ns.length=n
 kl:ks.length=n
 ok:∀ c∈ms,c.e.ok
 one:∀ c∈ms,c.pv.oneCell'=true∧c.sv.oneCell'=true
 ns:∀ s∈ns,s.length≤500
 ks:∀ k∈ks,k.length=32
theorem CpD.new:CpD Tb.new [] [] [] 0:=⟨Tied.new,Tb.new_right,Nat.le_refl _,rfl,rfl,fun _ h=>(by cases h),fun _ h=>(by cases h),fun _ h=>(by cases h),fun _ h=>(by cases h)⟩
theorem CpD.step {t:Tb} {ms:List CameV} {ns ks:List Bs} {n:Nat} (h:CpD t ms ns ks n) {c:CameV} (hok:c.e.ok) (h1:c.pv.oneCell'=true∧c.sv.oneCell'=true) (hid:c.e.ident.length≤500) (hz:zbk zgx t c.e=0→c.e.op=3→c.e.key=ji) :
 CpD (t.take zgx c.e c.pos) (if zbk zgx t c.e=0 then ms++[c] else ms) (ns++[c.e.ident]) (ks++[c.e.key]) (n+1):=by
 have e:t.take zgx c.e c.pos=if zbk zgx t c.e=0 then t.came c.e c.pos else t:=rfl;rw[e];have hl:(ns++[c.e.ident]).length=n+1:=by rw[zq,h.nl];rfl
 have hk:(ks++[c.e.key]).length=n+1:=by rw[zq,h.kl];rfl
 have hA:∀ s∈ns++[c.e.ident],s.length≤500:=fun s hs=>by
  rcases List.mem_append.1 hs with hs | hs
  ·exact h.ns s hs
  obtain rfl:s=c.e.ident:=by simpa using hs
  exact hid
 have hB:∀ k∈ks++[c.e.key],k.length=32:=fun k hs=>by
  rcases List.mem_append.1 hs with hs | hs
  ·exact h.ks k hs
  obtain rfl:k=c.e.key:=by simpa using hs
  exact hok.2.1
 by_cases hb:zbk zgx t c.e=0
 ·rw [if_pos hb,if_pos hb];refine⟨?_,zpk hb h.right c.pos,by rw[zq];have:=h.ml;simp;omega,hl,hk,fun d hd=>?_,fun d hd=>?_,hA,hB⟩
  ·rw[List.map_append];exact h.tied.came h.right hb (hz hb) c.pos
  ·rcases List.mem_append.1 hd with hd | hd
   ·exact h.ok d hd
   obtain rfl:d=c:=by simpa using hd
   exact hok
  rcases List.mem_append.1 hd with hd | hd
  ·exact h.one d hd
  obtain rfl:d=c:=by simpa using hd
  exact h1
 rw[if_neg hb,if_neg hb];exact⟨h.tied,h.right,Nat.le_succ_of_le h.ml,hl,hk,h.ok,h.one,hA,hB⟩
end
section
open Go.RowKit Go.Shelf
variable [OldK]
theorem zl2 (e:En)(pv sv:Value)(pos:Int)(h:e.ok):Tryz.prog.built 67 [(0,.agg (e.cells pv sv).toArray),(1,.int .i64 pos)]=some (CameV.cells ⟨e,pv,sv,pos⟩).toArray:=by
 obtain⟨k,dg,ty,pl,op,id,ky,sg⟩:=e;obtain⟨h1,h2,-⟩:=h;simp only at h1 h2;obtain⟨x0,x1,x2,x3,x4,x5,x6,x7,x8,x9,x10,x11,x12,x13,x14,x15,x16,x17,x18,x19,x20,x21,x22,x23,x24,x25,x26,x27,x28,x29,x30,x31,rfl⟩:=zh7 dg h1;obtain⟨y0,y1,y2,y3,y4,y5,y6,y7,y8,y9,y10,y11,y12,y13,y14,y15,y16,y17,y18,y19,y20,y21,y22,y23,y24,y25,y26,y27,y28,y29,y30,y31,rfl⟩:=zh7 ky h2
 kernel_rfl
theorem zrx {sub:Bs→Bool} {t:Tb} {e:En} (h:zbk sub t e=0) (h3:e.op=3):e.key=ji:=by
 unfold zbk at h;split at h
 ·cases h
 rename_i hn
 have h1:zcb sub e=true:=by
  cases hp:zcb sub e with
  | true=>rfl
  | false=>exact absurd (.inl hp) hn
 have h4:e.kind=4:=Decidable.byContradiction fun hk=>hn (.inr hk)
 unfold zcb zr8 za3 ze1 at h1;simp[h4,h3]at h1;exact h1.2.2.2.2.2.1
theorem zjd {V:World}{b:Nat}{cs:List Value}{T:TypeId}{f:Nat × Nat}(h:V.heap[b]? = some (.cells cs.toArray T f)):∀ (j:Nat) (u:Value),cs[j]? = some u→V.cell? ((⟨b,0,none⟩:Addr).add j)=some u:=by
 intro j u hj;have h1:=jf h j u (by simpa using hj);rw[Addr.add_lit];exact h1
theorem zjn {V W:World}{b bb s m:Nat}{cs:Array Value}{T e:TypeId}{f:Nat × Nat}{v:Value}{xs:List Value}(h:V.heap[b]? = some (.cells cs T f))(ho:V.ownsRow bb e s v m xs)(hne:T≠e)(hg:V.grownBy W v.ownBlock):W.heap[b]? = some (.cells cs T f):=by
 refine(hg.block _ (jo h) (fun hb=>?_)).trans h;obtain⟨-,o,h1,h2⟩:=zbj ho hb;rw[h]at h1;cases h1;exact hne (OfTy.one ⟨_,_,rfl⟩ h2)
theorem zet {w V W:World}{bb s m:Nat}{e:TypeId}{v:Value}{xs:List Value}(hF:Fr MNK w V)(ho:V.ownsRow bb e s v m xs)(he:∀ o,OfTy e o→∀ k,MNK k o)(hg:V.grownBy W v.ownBlock):Fr MNK w W:=by
 have hA:Fr (fun k o=>some k=v.ownBlock∧V.heap[k]? = some o) V W:=(Fr.ofGrown hg).mono2 (fun k o hk hm=>⟨hm,hk⟩);refine hF.trans hA (fun k o hk => .inl ?_);obtain⟨-,o',h4,h5⟩:=zbj ho hk.1;rw[hk.2]at h4;cases h4;exact he _ h5 _
theorem zca {k:Nat}{cs:Array Value}{f:Nat × Nat}:¬ MNK k (.cells cs 41 f):=by
 rintro(⟨c,f,h⟩ | ⟨c,f,h⟩)
 ·injection h with _ h _;revert h;decide
 injection h with _ h _;revert h;decide
theorem zgj (ns:List Bs)(s:Bs):zpz (ns++[s])=zpz ns++[.string ⟨s.toArray⟩]:=by simp[zpz]
theorem zh9 (ks:List Bs)(k:Bs):(ks++[k]).flatMap zb=ks.flatMap zb++zb k:=by simp
theorem zpj (ms:List CameV)(c:CameV):(ms++[c]).flatMap CameV.cells=ms.flatMap CameV.cells++c.cells:=by simp
theorem zcz {α:Type}(l:List α)(x:α):(l++[x]).length=l.length+1:=by simp
end
section
open Go.RowKit Go.Shelf
variable [OldK]
theorem zqt (s s':Bs→Bool) (t:Tb) (e:En):zbk s t e=zbk s' t e:=by
 unfold zbk;by_cases h4:e.kind=4
 ·have:zcb s e=zcb s' e:=by unfold zcb zm4;rw[h4];rfl
  rw[this]
 rw[if_pos (.inr h4),if_pos (.inr h4)]
theorem zs3 (s:Bs→Bool)(t:Tb)(e:En):zbk s t e≤20:=by
 unfold zbk;split
 ·omega
 split<;>omega
theorem zqa (w:World)(base e size n:Nat)(cs:List Value)(hb:base≤w.heap.size)(hl:cs.length=n * size)(hn:n≤maxLen):(w.alloc (.cells cs.toArray e)).ownsRow base e size (.slice (some ⟨w.heap.size,0,none⟩) n n) n cs :=
 ⟨hl,.inr ⟨w.heap.size,n,cs.toArray,rfl,hb,zh _ _,Nat.le_refl _,hn,by simpa using hl,by rw[List.toList_toArray,← hl,List.take_length]⟩⟩
theorem zxn {t:Tb}{ms:List CameV}{ns ks:List Bs}{n:Nat}(h:CpD t ms ns ks n)(hn:n≤100):ms.length≤1000∧ns.length≤1000∧ks.length≤1000∧∀ s∈ns,s.length≤maxLen:=by
 have h1:=h.ml;have h2:=h.nl;have h3:=h.kl;refine⟨by omega,by omega,by omega,fun s hs=>?_⟩;have:=h.ns s hs;unfold maxLen;omega
theorem zhu {bT bN tb bc bl bnd n:Nat}{t:Tb}{ms:List CameV}{ns ks:List Bs}{vm vn vk:Value}{g lv:Bs→Option Value}{w wc V:World}(h:CpS bT bN tb bc bl bnd t ms ns ks vm vn vk g lv w wc V)(hd:CpD t ms ns ks n)(hn:n≤100)(hb:bnd≤1000000)(place:Int) :
 Calls Tryz.prog 36 #[.pointer (some ⟨tb,0,none⟩),vm,vn,vk,.int .i64 place] V fun e w'=>e = .returned (.bool true)∧Fr NoB V w':=by
 obtain⟨f1,f2,f3,f4⟩:=zxn hd hn;exact zsh ms vm vn vk ns ks place V h.t hb (CRow.ofRow h.m f1 hd.ok hd.one) hd.tied h.n h.k f2 f3 f4 hd.ks
def sAlice:Bs:=[97,108,105,99,101]
def zgp:Bs:=1 :: List.replicate 31 0
theorem zx0:Tryz.prog.built 24 [(0,.int .u8 1)]=some (zb zgp).toArray:=by kernel_rfl
theorem zxz:Tryz.prog.builtSlice 24 2 [(0,.agg #[zy z6 0,zy z6 0,zy z6 0,zy z6 0,zy z6 0,zy z6 0,zy z6 0,zy z6 0,zy z6 0,zy z6 0,zy z6 0,zy z6 0,zy z6 0,zy z6 0,zy z6 0,zy z6 0,zy z6 0,zy z6 0,zy z6 0,zy z6 0,zy z6 0,zy z6 0,zy z6 0,zy z6 0,zy z6 0,zy z6 0,zy z6 0,zy z6 0,zy z6 0,zy z6 0,zy z6 0,zy z6 0]),(1,.agg (zb zgp).toArray)]=some (zb ji++zb zgp).toArray:=by kernel_rfl
theorem zu7 (la:List CameV) (va:Value) (place:Int) (w:World) (hg:Gl w) (hsa:zxh la va w) :
 Calls Tryz.prog 6 #[va,.int .i64 place] w fun e w'=>e = .returned (.bool true)∧Fr NoB w w':=by
 obtain⟨a,cap,rfl,Ak,BG⟩:=hsa;have Halive:=za (zry w hg)
 have h6:∀ i (hi:i<la.length),∃ b o,a=some ⟨b,o,none⟩∧b<w.heap.size∧w.rangeAt b (o+i * 71) la[i].cells∧EnIn w la[i].e la[i].pv la[i].sv:=fun i hi=>by
  rcases BG with h | ⟨b,o,h1,-,h2,h3⟩
  ·subst h;cases hi
  exact⟨b,o,h1,h2,h3 i hi⟩
 have Hrow:=za h6;have Hg:=za hg;clear BG h6 hg Ak;by_cases Am:40<la.length
 ·have hy:decide ((40:Int)<(la.length:Int))=true:=decide_eq_true (by omega);go_enter Tryz.func6,Tryz.ntmps6
  go_wp2_with fail
  refine Halive.out.mono ?_;rintro r w1 ⟨rfl,hs⟩;have AX:=za hs;clear hs
  go_wp2_with fail
  go_ret;exact⟨rfl,AX.out⟩
 have BY:la.length≤40:=by omega
 have hy:decide ((40:Int)<(la.length:Int))=false:=decide_eq_false (by omega);clear Am;go_enter Tryz.func6,Tryz.ntmps6
 go_wp2_with fail
 refine Halive.out.mono ?_;rintro r w1 ⟨rfl,hs⟩;have AX:=za hs;have AP:=Hg.out.fr hs (fun _ _ _ h=>h.elim);have AA:=zwq w1 AP.old;have A9:=AP.size;have h5:=hs.size;have Ba:=za AP;have Hnew:=za AA;have Hng:=za A9;have ha:=za h5;clear hs AP AA Halive A9 h5
 go_wp2_with fail
 refine Hnew.out.mono ?_;rintro r w2 ⟨rfl,hT,AT⟩;have A5:=AT.size;have AS:Fr NoB w2 (((w2.alloc (.cells #[] 67)).alloc (.cells #[.string ⟨sAlice.toArray⟩,.string ⟨#[]⟩] 9)).alloc (.cells (zb ji++zb zgp).toArray 24)):=((Fr.refl.alloc _).alloc _).alloc _;have hF:=AX.out.trans' (AT.trans' AS);have BB:=zfr (World.ownsRow_made (e:=67) (size:=71) (base:=w1.heap.size) w2 #[] 0 A5 (Nat.zero_le _) rfl) (((Fr.refl (M:=NoB)).alloc (.cells #[.string ⟨sAlice.toArray⟩,.string ⟨#[]⟩] 9)).alloc (.cells (zb ji++zb zgp).toArray 24));have Ae:=zfr (zqa (w2.alloc (.cells #[] 67)) w1.heap.size 9 1 2 [.string ⟨sAlice.toArray⟩,.string ⟨#[]⟩] (by rw[zf];omega) rfl (by decide)) ((Fr.refl (M:=NoB)).alloc (.cells (zb ji++zb zgp).toArray 24));have hf:=zqa ((w2.alloc (.cells #[] 67)).alloc (.cells #[.string ⟨sAlice.toArray⟩,.string ⟨#[]⟩] 9)) w1.heap.size 24 32 2 (zb ji++zb zgp) (by rw[zf,zf];omega) rfl (by decide);rw[zf]at Ae;rw[zf,zf]at hf;have hC:CpS w1.heap.size w1.heap.size (w1.heap.size+2) w1.heap.size (w1.heap.size+1) 0 Tb.new [] [sAlice,[]] [ji,zgp] _ _ _ (fun _=>none) (fun _=>none) w w _:=⟨hT.keep AS,BB,Ae,hf,hF,hF.mono (fun _ _ h=>h.elim),Ba.out.fr (AT.trans' AS) (fun _ _ _ h=>h.elim),Hng.out,Hng.out,ha.out,ha.out,ha.out,Nat.le_refl _⟩;clear hT AT Hnew AS hF BB Ae hf
 go_upto_region 8 with(first
  | ((with_reducible refine wpList_buildTo ?_ 24 _ rfl _ rfl (zb zgp).toArray ?_ ?_);rfl;(refine Eq.trans (congrArg (Tryz.prog.built 24) ?_) zx0;rfl))
  | ((with_reducible refine Great.wpList_buildSliceTo ?_ 58 24 2 _ rfl ((w2.alloc (.cells #[] 67)).alloc (.cells #[.string ⟨sAlice.toArray⟩,.string ⟨#[]⟩] 9)).heap.size rfl _ rfl Tryz.underlying58 (zb ji++zb zgp).toArray ?_ ?_);rfl;(refine Eq.trans (congrArg (Tryz.prog.builtSlice 24 2) ?_) zxz;kernel_rfl)))
 change Code.wp _ _ _ _ (((w2.alloc (.cells #[] 67)).alloc (.cells #[.string ⟨sAlice.toArray⟩,.string ⟨#[]⟩] 9)).alloc (.cells (zb ji++zb zgp).toArray 24));obtain⟨W0,BN⟩:∃ V,((w2.alloc (.cells #[] 67)).alloc (.cells #[.string ⟨sAlice.toArray⟩,.string ⟨#[]⟩] 9)).alloc (.cells (zb ji++zb zgp).toArray 24)=V:=⟨_,rfl⟩;rw[BN]at hC ⊢;obtain⟨base,BK⟩:∃ x,w1.heap.size=x:=⟨_,rfl⟩;rw[BK]at hC ⊢;obtain⟨tb,AZ⟩:∃ x,base+2=x:=⟨_,rfl⟩;obtain⟨bl,BJ⟩:∃ x,base+1=x:=⟨_,rfl⟩;rw[AZ,BJ]at hC;rw[AZ];have HC:=za hC;obtain⟨d,hu,hd⟩:=zaf;have Hu:=za hu;have Hd:=za hd;obtain⟨d1,A8,BH⟩:=zl9;have Br:=za A8;have Bt:=za BH;have Hla:=za BY;obtain⟨ik,AO,hf,hY,Ag⟩:=info_parts zmk;obtain⟨is,AN,AL,hW,Aa⟩:=info_parts zmj;obtain⟨ic,BD,BI,AE,Bm⟩:=info_parts zgd;have Bz:Hid (CpD Tb.new [] [sAlice,[]] [ji,zgp] 2):=za ⟨Tied.new,Tb.new_right,Nat.zero_le _,rfl,rfl,fun _ h=>(by cases h),fun _ h=>(by cases h),(by decide),(by decide)⟩;clear A5 BN BK AZ BJ AX Ba Hng ha hu hd A8 BH BY hy hC
 go_wp2_with fail
 go_loopg [6,7,8,25] (la.length+1) (fun gf vm vn vk vi wr=>∃ i:Nat,vi = .int .i64 i∧i≤la.length∧i+gf=la.length+1∧∃ (t:Tb) (ms:List CameV) (ns ks:List Bs) (g lv:Bs→Option Value),Hid (CpS base base tb base bl i t ms ns ks vm vn vk g lv w w wr)∧Hid (CpD t ms ns ks (i+2))∧Hid (∃ g c,vm = .slice (some ⟨g,0,none⟩) ms.length c))
 case atStart=>exact⟨0,rfl,by omega,by omega,_,_,_,_,_,_,HC,Bz,za ⟨_,_,rfl⟩⟩
 case round =>
  obtain⟨i,rfl,hi,Bl,t,ms,ns,ks,g,lv,HC,HD,Hvm⟩:=hrel;obtain⟨BZ,Ai⟩:∃ x,x=gk:=⟨_,rfl⟩;subst Ai;by_cases BC:i<la.length
  ·have Af:decide ((i:Int)<la.length)=true:=decide_eq_true (by omega);have Hlim:Hid (i+2≤90):=za (by have:=Hla.out;omega);have Ax:Hid (i≤90):=za (by have:=Hla.out;omega);have hj:Hid (i+2+1≤100):=za (by have:=Hla.out;omega);have AI:Hid (i+1≤1000000):=za (by have:=Hla.out;omega);obtain⟨b,o,rfl,hb,hR,hE⟩:=Hrow.out i BC;have AR:=je hR HC.out.fr hb (fun _ h=>h);obtain⟨c,hc⟩:∃ c,la[i]=c:=⟨_,rfl⟩;rw[hc]at AR hE;clear hR hc;obtain⟨e,pv,sv,hO⟩:=c;simp only at hE;have Bo:=hE.fr HC.out.fr (fun _ _ _ h=>h);have Bd:=za hE;obtain⟨hw,hn,hk⟩:=Bo;obtain⟨a1,c1,ea⟩:=hn.form;obtain⟨a3,c3,es,-⟩:=id hk;have Ad:pv.oneCell'=true:=by rw[ea];rfl
   have Ab:sv.oneCell'=true:=by rw[es];rfl
   have Hps:=za (And.intro Ad Ab);have hx:(CameV.cells ⟨e,pv,sv,hO⟩).length=71:=CameV.size hw;have Al:=CameV.one (c:=⟨e,pv,sv,hO⟩) Ad Ab;have Aj:CameV.cells ⟨e,pv,sv,hO⟩=e.cells pv sv++[.int .i64 hO]:=rfl;have BF:=En.size hw pv sv;have AQ:=zl2 e pv sv hO hw;obtain⟨CC,At⟩:∃ x,CameV.cells ⟨e,pv,sv,hO⟩=x:=⟨_,rfl⟩;have Be:=za At;rw[At]at AR hx Al Aj AQ;have Hcl:=za hx;have Hcz:Hid ((Tryz.prog.info? 41).map (·.size)=some CC.length):=za (by rw[zgb,hx]);have Ay:Hid ((Tryz.prog.info? 41).map (·.size)=some CC.toArray.size):=za (by rw[zgb,zn,hx]);have Hzz:Hid (Tryz.zeroCells41.size=CC.toArray.size):=za (by rw[show CC.toArray.size=71 by rw[zn,hx]];rfl);have Hez:Hid ((Tryz.prog.info? 39).map (·.size)=some (e.cells pv sv).length):=za (by rw[jw,BF]);have Bu:=za Al;have Hce:=za Aj;have Bv:=za AR;have h9:=zh wr (.cells CC.toArray 41);have AG:Fr NoB wr (wr.alloc (.cells CC.toArray 41)):=Fr.refl.alloc _;clear hx Al At BF AR ea es Ad Ab Aj hE
   go_upto_region 11 with(first
    | (with_reducible refine zi rfl 41 _ rfl b (o+i * 71) rfl CC d1 Bv.out Br.out Bt.out Hcz.out ?_)
    | ((with_reducible refine jg (w:=wr) rfl 41 _ _ rfl _ CC.toArray wr.heap.size rfl ?_ ?_ Ay.out Hzz.out Bu.out ?_);rfl;rfl))
   change Code.wp _ _ _ _ (wr.alloc (.cells CC.toArray 41));obtain⟨Wq,BM⟩:∃ V,wr.alloc (.cells CC.toArray 41)=V:=⟨_,rfl⟩;rw[BM]at h9 AG ⊢;obtain⟨q,Ac⟩:∃ x,wr.heap.size=x:=⟨_,rfl⟩;rw[Ac]at h9 ⊢;have AB:base<q∧bl<q:=by rw[← Ac];exact⟨HC.out.t.ch.lt,HC.out.t.li.lt⟩
   have Hqq:=za AB;clear BM Ac AB;have hN:=zvn Old Old e pv sv Wq hw (hn.fr AG (fun _ _ _ _ h=>h)) (hk.fr AG (fun _ _ _ h=>h));obtain⟨L,hL⟩:∃ x,zfw e=x:=⟨_,rfl⟩;rw[hL]at hN;have hq:=jf h9;rw[List.toList_toArray,Hce.out,range_append]at hq;have HL:=za hL;have Hlarge:=za hN;have HQ:=za hq.1;have Hqo:=za h9;have Bc:=za AG;have Hok:=za hw;clear hL hN hq h9 AG hw hn hk;obtain⟨EC,As⟩:∃ x,e.cells pv sv=x:=⟨_,rfl⟩;rw[As]at Hlarge HQ Hez Hce AQ;have Az:=za As;have Hbc:=za AQ;clear As AQ
   go_wp2_with(with_reducible refine zi rfl 39 _ rfl q 0 rfl EC d HQ.out Hu.out Hd.out Hez.out ?_)
   refine Hlarge.out.mono ?_;rintro r w3 ⟨rfl,Ar⟩;have A1:=za (HC.out.keep (Bc.out.trans' Ar));have hG:=za (Ar.block _ _ Hqo.out (fun h=>h));clear Ar Hlarge HQ Bc Hqo HC;cases L
   ·obtain ⟨hH,hp⟩:∃ x,e.ident=x:=⟨_,rfl⟩;obtain⟨ky,hX⟩:∃ x,e.key=x:=⟨_,rfl⟩;have AM:(zb ky).length=32:=by rw[ja,← hX];exact Hok.out.2.1
    have Ah:=jz ky
    have hM:∀ V:World,V.heap[q]? = some (.cells CC.toArray 41 (0,0))→V.rangeAt q 0 EC∧V.cell? ⟨q,36,none⟩=some (.string ⟨hH.toArray⟩)∧V.rangeAt q 37 (zb ky)∧V.cell? ⟨q,70,none⟩=some (.int .i64 hO):=fun V hV=>by
     have h1:=jf hV;rw[List.toList_toArray,Hce.out,range_append]at h1;have h2:=h1.1;rw[← Az.out]at h2;obtain⟨-,-,-,-,-,A4,kK,-⟩:=En.parts Hok.out h2;rw[hp]at A4;rw[hX]at kK;refine⟨h1.1,A4,kK,?_⟩;have h3:=h1.2 0 _ rfl;rw[← Az.out,En.size Hok.out]at h3;exact h3
    obtain⟨KC,Ao⟩:∃ x,zb ky=x:=⟨_,rfl⟩;simp only[Ao]at AM Ah hM;have Hparts:=za hM;have Hkl:=za AM;have Aw:=za Ah;have Hky:=za Ao;have Hidn:=za hp;have Hkye:=za hX;have Hkz:Hid ((Tryz.prog.info? 24).map (·.size)=some KC.length):=za (by rw[jc,AM])
    have hy:=zaj (P:=Tryz.prog) AO hf hY (by rfl) (by decide) (by decide:0<1) (by decide) [.agg KC.toArray] (fun v hv=>by
     obtain rfl:v = .agg KC.toArray:=by simpa using hv
     show KC.toArray.size=32
     rw[zn,Hkl.out]) rfl
    have Hbk:Hid (Tryz.prog.builtSlice 24 1 [(0,.agg KC.toArray)]=some KC.toArray):=za (by
     have e:([Value.agg KC.toArray].flatMap fun v=>v.cells.toList).toArray=KC.toArray:=by simp[Value.cells]
     rw[e]at hy
     exact hy)
    have BL:=zaj (P:=Tryz.prog) AN AL hW (by rfl) (by decide) (by decide:0<1) (by decide) [.string ⟨hH.toArray⟩] (fun v hv=>by
     obtain rfl:v = .string ⟨hH.toArray⟩:=by simpa using hv
     rfl) rfl
    have Hbn:Hid (Tryz.prog.builtSlice 9 1 [(0,.string ⟨hH.toArray⟩)]=some #[.string ⟨hH.toArray⟩]):=za BL;have Hnl:Hid (ns.length≤100):=za (by rw[HD.out.nl];have:=Hlim.out;omega);have Hkn:Hid (ks.length≤100):=za (by rw[HD.out.kl];have:=Hlim.out;omega);have Hml:Hid (ms.length≤100):=za (by have:=HD.out.ml;have:=Hlim.out;omega);clear AM Ah hM hp hX Ao hy BL
    go_upto_region 13 with(fail)
    go_cut [7,8] from 32 to 43 (fun v7 v8 wv=>CpS base base tb base bl i t ms (ns++[hH]) (ks++[ky]) u6 v7 v8 g lv w w wv∧Fr MNK w3 wv)
    case first =>
     as_aux_lemma =>
      have Bh:=za (A1.out.keep (Fr.refl (M:=NoB)).drew);refine wp_region_held_drew (S:=fun V=>Hid (Fr MNK w3 V)) (by kernel_rfl) (za Fr.refl.drew) (fun hA=>?_);simp only[qV]
      iterate 4
       refine qt (v:=?_) rfl (zv ⟨by rfl,?_⟩) hA ?_;rotate_left
       ·intro W hJ;obtain⟨-,hZ,-,-⟩:=Hparts.out _ (hJ.out.block _ _ hG.out zca)
        try simp only[qQ]
        go_simp
        try rw[if_neg (by omega)]
        try with_reducible rfl
       try simp only[Act.put,qP]
      refine qi (i:=6) (v:=?_) rfl (zv ⟨by rfl,?_⟩) hA ?_;rotate_left
      ·intro W hJ;obtain⟨-,hZ,-,-⟩:=Hparts.out _ (hJ.out.block _ _ hG.out zca)
       try simp only[qQ]
       go_simp
       try rw[if_neg (by omega)]
       try with_reducible rfl
      try simp only[Act.put,qP]
      refine qi (i:=7) (v:=?_) rfl (zv ⟨by rfl,?_⟩) hA ?_;rotate_left
      ·intro W hJ;obtain⟨-,hZ,-,-⟩:=Hparts.out _ (hJ.out.block _ _ hG.out zca)
       try simp only[qQ]
       go_simp
       try rw[if_neg (by omega)]
       try with_reducible rfl
      try simp only[Act.put,qP]
      refine qi (i:=8) (v:=?_) rfl (zv ⟨by rfl,?_⟩) hA ?_;rotate_left
      ·intro W hJ;obtain⟨-,hZ,-,-⟩:=Hparts.out _ (hJ.out.block _ _ hG.out zca)
       try simp only[qQ]
       go_simp
       try rw[if_neg (by omega)]
       try with_reducible rfl
      try simp only[Act.put,qP]
      refine qi (i:=9) rfl (yieldsIf_load_mid (by rfl) 24 _ rfl q 37 rfl KC (.array 32 5) (fun V h=>(Hparts.out _ (h.out.block _ _ hG.out zca)).2.2.1) z7 rfl Hkz.out) hA ?_
      try simp only[Act.put,qP]
      refine wpAnyH_ready (rs:=[4,10]) (by kernel_rfl) (by simp) (zl rfl (fun K hK=>?_) (zl rfl (fun K hK=>?_) AllReadyH.nil))
      ·try simp only[qQ]
       rw[if_pos (by rfl)];refine j3 63 9 1 _ rfl Tryz.underlying63 #[.string ⟨hH.toArray⟩] (Eq.trans (congrArg (Tryz.prog.builtSlice 9 1) (by kernel_rfl)) Hbn.out) ?_;refine hK.out _ _ (za (hA.out.alloc _)) (fun hA=>?_);clear hK K;have HA:=za (Bh.out.keep (Fr.refl.alloc (.cells #[.string ⟨hH.toArray⟩] 9)));have La:=za (zh w3.drew (.cells #[.string ⟨hH.toArray⟩] 9))
       try simp only[Act.put,qP]
       refine wpAnyH_ready (rs:=[5,10]) (by kernel_rfl) (by simp) (zl rfl (fun K hK=>?_) (zl rfl (fun K hK=>?_) AllReadyH.nil))
       ·try simp only[qQ]
        rw[if_pos (by rfl)];refine j9 _ _ 63 (by rfl) base 9 is (.string ⟨#[]⟩) 1 16 Tryz.underlying63 AN AL hW Aa rfl (by decide) _ _ _ (by rfl) HA.out.n ⟨w3.drew.heap.size,0,none⟩ 1 1 [.string ⟨hH.toArray⟩] (by rfl) rfl (zjd La.out) (fun u hu=>by obtain rfl:u = .string ⟨hH.toArray⟩:=(by simpa using hu);rfl) (by have:=Hnl.out;unfold maxLen;omega) (by have:=Hnl.out;omega) HA.out.bN_le ?_;intro v7 V2 hB hg _;refine hK.out _ _ (za (zet hA.out HA.out.n (fun _ h _ => .inl h) hg)) (fun hA=>?_);clear hK K;have HB:=za (HA.out.growN (ns':=ns++[hH]) (by rw[zgj,zcz];exact hB) hg)
        try simp only[Act.put,qP]
        refine qr (i:=10) (by kernel_rfl) rfl (fun K hK=>?_)
        try simp only[qQ]
        rw[if_pos (by rfl)];refine j3 58 24 1 _ rfl Tryz.underlying58 KC.toArray (Eq.trans (congrArg (Tryz.prog.builtSlice 24 1) (by kernel_rfl)) Hbk.out) ?_;refine hK.out _ _ (za (hA.out.alloc _)) (fun hA=>?_);clear hK K;have hQ:=za (HB.out.keep (Fr.refl.alloc (.cells KC.toArray 24)));have Lb:=za (zh V2 (.cells KC.toArray 24))
        try simp only[Act.put,qP]
        refine qr (i:=11) (by kernel_rfl) rfl (fun K hK=>?_)
        try simp only[qQ]
        rw[if_pos (by rfl)];refine j9 _ _ 58 (by rfl) base 24 ik (.agg #[zy z6 0,zy z6 0,zy z6 0,zy z6 0,zy z6 0,zy z6 0,zy z6 0,zy z6 0,zy z6 0,zy z6 0,zy z6 0,zy z6 0,zy z6 0,zy z6 0,zy z6 0,zy z6 0,zy z6 0,zy z6 0,zy z6 0,zy z6 0,zy z6 0,zy z6 0,zy z6 0,zy z6 0,zy z6 0,zy z6 0,zy z6 0,zy z6 0,zy z6 0,zy z6 0,zy z6 0,zy z6 0]) 32 32 Tryz.underlying58 AO hf hY Ag rfl (by decide) _ _ _ (by rfl) hQ.out.k ⟨V2.heap.size,0,none⟩ 1 1 KC (by rfl) (by rw[Hkl.out]) (zjd Lb.out) Aw.out (by have:=Hkn.out;unfold maxLen;omega) (by have:=Hkn.out;omega) hQ.out.bN_le ?_;intro v8 V3 hB hg _;refine hK.out _ _ (za (zet hA.out hQ.out.k (fun _ h _ => .inr h) hg)) (fun hA=>?_);clear hK K;have AJ:=za (hQ.out.growK (ks':=ks++[ky]) (by rw[zh9,zcz,Hky.out];exact hB) hg)
        try simp only[Act.put,qP]
        refine qi (i:=12) (v:=?_) rfl (zv ⟨by rfl,?_⟩) hA ?_;rotate_left
        ·intro W hJ;obtain⟨-,hZ,-,-⟩:=Hparts.out _ (hJ.out.block _ _ hG.out zca)
         try simp only[qQ]
         go_simp
         try rw[if_neg (by omega)]
         try with_reducible rfl
        try simp only[Act.put,qP]
        refine qi (i:=13) (v:=?_) rfl (zv ⟨by rfl,?_⟩) hA ?_;rotate_left
        ·intro W hJ;obtain⟨-,hZ,-,-⟩:=Hparts.out _ (hJ.out.block _ _ hG.out zca)
         try simp only[qQ]
         go_simp
         try rw[if_neg (by omega)]
         try with_reducible rfl
        try simp only[Act.put,qP]
        refine wpAnyH_done (by kernel_rfl) ?_ _;have HE:=za (And.intro AJ.out hA.out);clear hA
        go_wp2_with fail
        go_meet
        case rel=>exact HE.out
       try simp only[qQ]
       rw[if_pos (by rfl)];refine j3 58 24 1 _ rfl Tryz.underlying58 KC.toArray (Eq.trans (congrArg (Tryz.prog.builtSlice 24 1) (by kernel_rfl)) Hbk.out) ?_;refine hK.out _ _ (za (hA.out.alloc _)) (fun hA=>?_);clear hK K;have HB:=za (HA.out.keep (Fr.refl.alloc (.cells KC.toArray 24)));have Lb:=za (zh (w3.drew.alloc (.cells #[.string ⟨hH.toArray⟩] 9)) (.cells KC.toArray 24))
       try simp only[Act.put,qP]
       have Bq:=za ((Fr.alloc (M:=NoB) Fr.refl (.cells KC.toArray 24)).block _ _ La.out (fun h=>h));refine qr (i:=5) (by kernel_rfl) rfl (fun K hK=>?_)
       try simp only[qQ]
       rw[if_pos (by rfl)];refine j9 _ _ 63 (by rfl) base 9 is (.string ⟨#[]⟩) 1 16 Tryz.underlying63 AN AL hW Aa rfl (by decide) _ _ _ (by rfl) HB.out.n ⟨w3.drew.heap.size,0,none⟩ 1 1 [.string ⟨hH.toArray⟩] (by rfl) rfl (zjd Bq.out) (fun u hu=>by obtain rfl:u = .string ⟨hH.toArray⟩:=(by simpa using hu);rfl) (by have:=Hnl.out;unfold maxLen;omega) (by have:=Hnl.out;omega) HB.out.bN_le ?_;intro v7 V2 hB hg _;refine hK.out _ _ (za (zet hA.out HB.out.n (fun _ h _ => .inl h) hg)) (fun hA=>?_);clear hK K;have hQ:=za (HB.out.growN (ns':=ns++[hH]) (by rw[zgj,zcz];exact hB) hg)
       try simp only[Act.put,qP]
       have Au:=za (zjn Lb.out HB.out.n (by decide) hg);refine qr (i:=11) (by kernel_rfl) rfl (fun K hK=>?_)
       try simp only[qQ]
       rw[if_pos (by rfl)];refine j9 _ _ 58 (by rfl) base 24 ik (.agg #[zy z6 0,zy z6 0,zy z6 0,zy z6 0,zy z6 0,zy z6 0,zy z6 0,zy z6 0,zy z6 0,zy z6 0,zy z6 0,zy z6 0,zy z6 0,zy z6 0,zy z6 0,zy z6 0,zy z6 0,zy z6 0,zy z6 0,zy z6 0,zy z6 0,zy z6 0,zy z6 0,zy z6 0,zy z6 0,zy z6 0,zy z6 0,zy z6 0,zy z6 0,zy z6 0,zy z6 0,zy z6 0]) 32 32 Tryz.underlying58 AO hf hY Ag rfl (by decide) _ _ _ (by rfl) hQ.out.k ⟨(w3.drew.alloc (.cells #[.string ⟨hH.toArray⟩] 9)).heap.size,0,none⟩ 1 1 KC (by rfl) (by rw[Hkl.out]) (zjd Au.out) Aw.out (by have:=Hkn.out;unfold maxLen;omega) (by have:=Hkn.out;omega) hQ.out.bN_le ?_;intro v8 V3 hB hg _;refine hK.out _ _ (za (zet hA.out hQ.out.k (fun _ h _ => .inr h) hg)) (fun hA=>?_);clear hK K;have AJ:=za (hQ.out.growK (ks':=ks++[ky]) (by rw[zh9,zcz,Hky.out];exact hB) hg)
       try simp only[Act.put,qP]
       refine qi (i:=12) (v:=?_) rfl (zv ⟨by rfl,?_⟩) hA ?_;rotate_left
       ·intro W hJ;obtain⟨-,hZ,-,-⟩:=Hparts.out _ (hJ.out.block _ _ hG.out zca)
        try simp only[qQ]
        go_simp
        try rw[if_neg (by omega)]
        try with_reducible rfl
       try simp only[Act.put,qP]
       refine qi (i:=13) (v:=?_) rfl (zv ⟨by rfl,?_⟩) hA ?_;rotate_left
       ·intro W hJ;obtain⟨-,hZ,-,-⟩:=Hparts.out _ (hJ.out.block _ _ hG.out zca)
        try simp only[qQ]
        go_simp
        try rw[if_neg (by omega)]
        try with_reducible rfl
       try simp only[Act.put,qP]
       refine wpAnyH_done (by kernel_rfl) ?_ _;have HE:=za (And.intro AJ.out hA.out);clear hA
       go_wp2_with fail
       go_meet
       case rel=>exact HE.out
      try simp only[qQ]
      rw[if_pos (by rfl)];refine j3 58 24 1 _ rfl Tryz.underlying58 KC.toArray (Eq.trans (congrArg (Tryz.prog.builtSlice 24 1) (by kernel_rfl)) Hbk.out) ?_;refine hK.out _ _ (za (hA.out.alloc _)) (fun hA=>?_);clear hK K;have HA:=za (Bh.out.keep (Fr.refl.alloc (.cells KC.toArray 24)));have Lb:=za (zh w3.drew (.cells KC.toArray 24))
      try simp only[Act.put,qP]
      refine qr (i:=4) (by kernel_rfl) rfl (fun K hK=>?_)
      try simp only[qQ]
      rw[if_pos (by rfl)];refine j3 63 9 1 _ rfl Tryz.underlying63 #[.string ⟨hH.toArray⟩] (Eq.trans (congrArg (Tryz.prog.builtSlice 9 1) (by kernel_rfl)) Hbn.out) ?_;refine hK.out _ _ (za (hA.out.alloc _)) (fun hA=>?_);clear hK K;have HB:=za (HA.out.keep (Fr.refl.alloc (.cells #[.string ⟨hH.toArray⟩] 9)));have La:=za (zh (w3.drew.alloc (.cells KC.toArray 24)) (.cells #[.string ⟨hH.toArray⟩] 9))
      try simp only[Act.put,qP]
      have Bp:=za ((Fr.alloc (M:=NoB) Fr.refl (.cells #[.string ⟨hH.toArray⟩] 9)).block _ _ Lb.out (fun h=>h));refine qr (i:=5) (by kernel_rfl) rfl (fun K hK=>?_)
      try simp only[qQ]
      rw[if_pos (by rfl)];refine j9 _ _ 63 (by rfl) base 9 is (.string ⟨#[]⟩) 1 16 Tryz.underlying63 AN AL hW Aa rfl (by decide) _ _ _ (by rfl) HB.out.n ⟨(w3.drew.alloc (.cells KC.toArray 24)).heap.size,0,none⟩ 1 1 [.string ⟨hH.toArray⟩] (by rfl) rfl (zjd La.out) (fun u hu=>by obtain rfl:u = .string ⟨hH.toArray⟩:=(by simpa using hu);rfl) (by have:=Hnl.out;unfold maxLen;omega) (by have:=Hnl.out;omega) HB.out.bN_le ?_;intro v7 V2 hB hg _;refine hK.out _ _ (za (zet hA.out HB.out.n (fun _ h _ => .inl h) hg)) (fun hA=>?_);clear hK K;have hQ:=za (HB.out.growN (ns':=ns++[hH]) (by rw[zgj,zcz];exact hB) hg)
      try simp only[Act.put,qP]
      have Au:=za (zjn Bp.out HB.out.n (by decide) hg);refine qr (i:=11) (by kernel_rfl) rfl (fun K hK=>?_)
      try simp only[qQ]
      rw[if_pos (by rfl)];refine j9 _ _ 58 (by rfl) base 24 ik (.agg #[zy z6 0,zy z6 0,zy z6 0,zy z6 0,zy z6 0,zy z6 0,zy z6 0,zy z6 0,zy z6 0,zy z6 0,zy z6 0,zy z6 0,zy z6 0,zy z6 0,zy z6 0,zy z6 0,zy z6 0,zy z6 0,zy z6 0,zy z6 0,zy z6 0,zy z6 0,zy z6 0,zy z6 0,zy z6 0,zy z6 0,zy z6 0,zy z6 0,zy z6 0,zy z6 0,zy z6 0,zy z6 0]) 32 32 Tryz.underlying58 AO hf hY Ag rfl (by decide) _ _ _ (by rfl) hQ.out.k ⟨w3.drew.heap.size,0,none⟩ 1 1 KC (by rfl) (by rw[Hkl.out]) (zjd Au.out) Aw.out (by have:=Hkn.out;unfold maxLen;omega) (by have:=Hkn.out;omega) hQ.out.bN_le ?_;intro v8 V3 hB hg _;refine hK.out _ _ (za (zet hA.out hQ.out.k (fun _ h _ => .inr h) hg)) (fun hA=>?_);clear hK K;have AJ:=za (hQ.out.growK (ks':=ks++[ky]) (by rw[zh9,zcz,Hky.out];exact hB) hg)
      try simp only[Act.put,qP]
      refine qi (i:=12) (v:=?_) rfl (zv ⟨by rfl,?_⟩) hA ?_;rotate_left
      ·intro W hJ;obtain⟨-,hZ,-,-⟩:=Hparts.out _ (hJ.out.block _ _ hG.out zca)
       try simp only[qQ]
       go_simp
       try rw[if_neg (by omega)]
       try with_reducible rfl
      try simp only[Act.put,qP]
      refine qi (i:=13) (v:=?_) rfl (zv ⟨by rfl,?_⟩) hA ?_;rotate_left
      ·intro W hJ;obtain⟨-,hZ,-,-⟩:=Hparts.out _ (hJ.out.block _ _ hG.out zca)
       try simp only[qQ]
       go_simp
       try rw[if_neg (by omega)]
       try with_reducible rfl
      try simp only[Act.put,qP]
      refine wpAnyH_done (by kernel_rfl) ?_ _;have HE:=za (And.intro AJ.out hA.out);clear hA
      go_wp2_with fail
      go_meet
      case rel=>exact HE.out
    case rest =>
     obtain⟨hh,Aq⟩:=hcut;obtain⟨w4,A7⟩:∃ x,x=wc:=⟨_,rfl⟩;rw[← A7]at hh Aq ⊢;clear A7 wc;have hm:=Aq.block _ _ hG.out zca;obtain⟨BU,-,-,-⟩:=Hparts.out _ hm;have AU:=Bd.out.fr hh.fr (fun _ _ _ h=>h);have hP:=zrl AU.1 AU.2.1 AU.2.2 hh.gl HL.out;have AC:e.ident.length≤500:=(zh4 HL.out).2.2.2.1;have hD:=HD.out.step (c:=⟨e,pv,sv,hO⟩) Hok.out Hps.out AC (fun h1 h2=>zrx h1 h2);simp only[Hidn.out,Hkye.out]at hD;have h7:=zo8 Old Old ms _ e pv sv w4 (CRow.ofRow hh.m (by have:=HD.out.ml;have:=Hlim.out;omega) HD.out.ok HD.out.one) hP;rw[zqj HD.out.tied,zqt zu4 zgx]at h7;have AD:=fun V (hV:Fr NoB w4 V)=>zio Old Old e pv sv V (hh.keep hV).t (hP.fr hV)
     have hI:=fun V (hV:Fr NoB w4 V)=>zpy Old Old e pv sv hO V (hh.keep hV).t (hP.fr hV) (by have:=Hlim.out;omega)
     simp only[Az.out]at h7 AD hI;have hr:=zs3 zgx t e;obtain⟨R,BR⟩:∃ x,zbk zgx t e=x:=⟨_,rfl⟩;simp only[BR]at h7 AD hI hD hr;have ho:=fun V=>zwn R hr V
     obtain⟨T2,BQ⟩:∃ x,t.take zgx e hO=x:=⟨_,rfl⟩;simp only[BQ]at hI hD;obtain⟨bR,Bn⟩:∃ x,((R:Int)==0)=x:=⟨_,rfl⟩;have Bb:Hid (decide (R=0)=bR):=za (by rw[← Bn,show((0:Int))=((0:Nat):Int) from rfl,leq]);obtain⟨VR,BO⟩:∃ x,zix R=x:=⟨_,rfl⟩;simp only[BO]at AD hI ho;have Bg:=za hh;have hS:=za BU;have ht:=za hm;have AY:=za hD;have Hrc:=za h7;have Hck:=za AD;have Htake:=za hI;have Hnum:=za ho;have Hmone:=za (CameV.one (c:=⟨e,pv,sv,hO⟩) Hps.out.1 Hps.out.2);rw[Be.out]at Hmone;have A6:wrap64 ((i:Int)+1)=(i:Int)+1:=by have:=Ax.out;unfold wrap64;omega
     clear hh Aq hm BU AU hP AC hI hD BR BQ h7 AD ho hr BO A1 hG HD Bd
     go_wp2_with(with_reducible refine zi rfl 39 _ rfl q 0 rfl EC d hS.out Hu.out Hd.out Hez.out ?_)
     refine Hrc.out.mono ?_;rintro r w5 ⟨rfl,BX⟩;have AW:=za BX;clear BX hS Hrc;have hS:=za (Hparts.out _ (AW.out.block _ _ ht.out (fun h=>h))).1
     go_wp2_with(with_reducible refine zi rfl 39 _ rfl q 0 rfl EC d hS.out Hu.out Hd.out Hez.out ?_)
     refine(Hck.out _ AW.out).mono ?_;rintro r w6 ⟨rfl,BW⟩;have AV:=za (AW.out.trans' BW);clear BW hS Hck;have hl:=AV.out.block _ _ ht.out (fun h=>h);obtain⟨BT,-,-,A3⟩:=Hparts.out _ hl;have hS:=za BT;have AH:=za hl;clear BT hl
     go_wp2_with fail
     refine(Hnum.out _).mono ?_;rintro r w7 ⟨rfl,rfl⟩
     go_wp2_with (first
      | (with_reducible refine zi rfl 39 _ rfl q 0 rfl EC d hS.out Hu.out Hd.out Hez.out ?_)
      | (with_reducible refine z8 39 _ rfl q 0 rfl EC d hS.out Hu.out Hd.out Hez.out rfl ?_))
     refine(Htake.out _ AV.out).mono ?_;rintro r w8 ⟨rfl,⟨g6,A2,BP⟩,Ap⟩;have hz:=za ((Bg.out.keep AV.out).took Ap BP)
     have BA:¬ TM base base bl q (.cells CC.toArray 41 (0,0)):=by
      have:=Hqq.out;rintro(h | h | ⟨-,c,f,h⟩)
      ·omega
      ·omega
      injection h with _ h _;revert h;decide
     have h8:=Ap.block _ _ AH.out BA;clear A3 hS;obtain⟨BS,-,-,A3⟩:=Hparts.out _ h8;have hS:=za BS;clear BP Ap BA h8 BS AH ht Bg Htake AW AV
     go_wp2_with fail
     refine(Hnum.out _).mono ?_;rintro r w9 ⟨rfl,rfl⟩;cases bR
     ·have AF:¬ R=0:=of_decide_eq_false Bb.out;have AK:Hid (CpD T2 ms (ns++[hH]) (ks++[ky]) (i+2+1)):=za (by have h:=AY.out;rw[if_neg AF]at h;exact h);clear AY AF
      go_upto_region 19 with fail
      have he:=zhu hz.out AK.out hj.out AI.out place;have Hst:=za he;clear he
      go_wp2_with fail
      refine Hst.out.mono ?_;rintro r Bi ⟨rfl,hU⟩;have A0:=za (hz.out.keep hU);clear hU Hst
      go_wp2_with fail
      go_roundg (BZ - 1)
      case measure=>omega
      case rel=>exact⟨i+1,by simp[A6],by omega,by omega,T2,_,_,_,g6,A2,A0,AK,Hvm⟩
     have AF:R=0:=of_decide_eq_true Bb.out;have AK:Hid (CpD T2 (ms++[(⟨e,pv,sv,hO⟩:CameV)]) (ns++[hH]) (ks++[ky]) (i+2+1)):=za (by have h:=AY.out;rw[if_pos AF]at h;exact h)
     have An:=zaj (P:=Tryz.prog) BD BI AE (by rfl) (by decide) (by decide:0<1) (by decide) [.agg CC.toArray] (fun v hv=>by
      obtain rfl:v = .agg CC.toArray:=by simpa using hv
      show CC.toArray.size=71
      rw[zn,Hcl.out]) rfl
     have Hbs:Hid (Tryz.prog.builtSlice 67 1 [(0,.agg CC.toArray)]=some CC.toArray):=za (by
      have e:([Value.agg CC.toArray].flatMap fun v=>v.cells.toList).toArray=CC.toArray:=by simp[Value.cells]
      rw[e]at An
      exact An)
     clear AY AF An
     go_wp2_with (first
      | (with_reducible refine zi rfl 39 _ rfl q 0 rfl EC d hS.out Hu.out Hd.out Hez.out ?_)
      | ((with_reducible refine wpList_buildTo ?_ 67 _ rfl _ rfl CC.toArray ?_ ?_);rfl;(refine Eq.trans (congrArg (Tryz.prog.built 67) ?_) Hbc.out;kernel_rfl))
      | ((with_reducible refine Great.wpList_buildSliceTo ?_ 62 67 1 _ rfl w8.heap.size rfl _ rfl Tryz.underlying62 CC.toArray ?_ ?_);rfl;(refine Eq.trans (congrArg (Tryz.prog.builtSlice 67 1) ?_) Hbs.out;kernel_rfl))
      | (at_builtin;refine zfm ?_))
     refine za ?_
     refine wpList_append_own _ rfl _ _ 62 rfl base 67 ic (.agg Tryz.zeroCells67) 71 168 Tryz.underlying62 BD BI AE Bm rfl (by decide) _ ms.length (ms.flatMap CameV.cells) rfl (hz.out.m.alloc _) ⟨w8.heap.size,0,none⟩ 1 1 CC rfl (by rw[Hcl.out]) (zar w8 CC 67) (fun u hu=>by
      have h:=Hmone.out;rw[List.all_toArray,List.all_eq_true]at h
      exact h u hu) (by have:=Hml.out;unfold maxLen;omega) (by have:=Hml.out;omega) (Nat.le_trans hz.out.bT_le (by rw[zf];omega)) ?_
     intro Bj w10 hB BE _
     have h4:∃ g c,Bj = .slice (some ⟨g,0,none⟩) (ms++[(⟨e,pv,sv,hO⟩:CameV)]).length c:=by
      rcases zdb hB with⟨-,h0⟩ | ⟨g,c,h0,-⟩
      ·omega
      exact⟨g,c,by rw[zcz];exact h0⟩
     have Bf:=za ((hz.out.keep (Fr.refl.alloc (.cells CC.toArray 67))).growM (ms':=ms++[⟨e,pv,sv,hO⟩]) (by rw[zpj,zcz,Be.out];exact hB) BE);have Av:=za h4;clear hB BE h4 hz hS Hvm;have he:=zhu Bf.out AK.out hj.out AI.out place;have Hst:=za he;clear he
     go_wp2_with fail
     refine Hst.out.mono ?_;rintro r Bi ⟨rfl,hU⟩;have A0:=za (Bf.out.keep hU);clear hU Hst
     go_wp2_with fail
     go_roundg (BZ - 1)
     case measure=>omega
     case rel=>exact⟨i+1,by simp[A6],by omega,by omega,T2,_,_,_,g6,A2,A0,AK,Av⟩
   go_wp2_with fail
   go_ret;exact⟨rfl,A1.out.fr⟩
  obtain rfl:i=la.length:=by omega
  have Af:decide ((la.length:Int)<la.length)=false:=decide_eq_false (by omega);have Bk:=Hla.out;have he:=zhu HC.out HD.out (by omega) (by omega) place;have Hst:=za he;have Bw:=za HC.out.fr;clear he Bk hi Bl BC HC HD Hvm
  go_wp2_with fail
  refine Hst.out.mono ?_;rintro r w7 ⟨rfl,BV⟩;have By:=za BV;clear BV
  go_wp2_with fail
  go_ret;exact⟨rfl,Bw.out.trans' By.out⟩
end
end Go.Proofs.YtcddlemkimbkcaaGreatDoor
