/-
 The walks of the reference's place,Unhex and Sum.
-/
import Derived.Test.YtffggpplnjibgaaGreatDoorKRefTyped
import Derived.Test.YtffggpplnjibgaaGreatDoorKConcat
open Go.Lib renaming hid→zi,byteCells→zj
open Go.World renaming size_alloc→zm,rangeAt_setCells_same→zn
open List renaming size_toArray→zw,length_cons→zx
open Nat renaming le_refl→ja
open Or renaming inl→jc
open Go.Value renaming int→jf
open Go.IntKind renaming u8→jg
namespace Go.Proofs.YtffggpplnjibgaaGreatDoor
set_option linter.unusedVariables false
set_option linter.unusedSimpArgs false
set_option linter.unusedSectionVars false
set_option maxRecDepth 100000
set_option maxHeartbeats 2000000
open Go.RowKit
variable [OldK]
def zbd (c:UInt8):Bs→Nat→Int
 | [],_ => -1
 | x :: r,n=>if x=c then n else zbd c r (n+1)
def zes (c:UInt8):Int:=zbd c hexes 0
theorem zfr (c:UInt8):∀ (l:Bs) (n:Nat),n+l.length≤16 → -1≤zbd c l n∧zbd c l n≤15
 | [],n,h=>by simp[zbd]
 | x :: r,n,h=>by
   unfold zbd;rw[zx]at h;split
   ·omega
   exact zfr c r (n+1) (by omega)
theorem zlq:∀ n:Fin 16,zes (sgn hexes n.val)=n.val:=by decide +kernel
theorem zrg (c:UInt8) (w:World):Calls Tryz.prog 142 #[.int .u8 c.toNat,.int .i64 4] w fun e w'=>e = .returned (.int .i64 (zes c))∧w=w':=by
 obtain⟨R,hR⟩:∃ R,zes c=R:=⟨_,rfl⟩;rw[hR];have HR:Hid (zbd c (hexes.drop 0) 0=R):=zi hR;clear hR;go_enter Tryz.func142,Tryz.ntmps142
 go_wp2_with fail
 go_loopg [5] 65 (fun g vi wr=>∃ n:Nat,vi = .int .i64 n∧n≤64∧n+g=65∧w=wr∧Hid (zbd c (hexes.drop n) n=R))
 case atStart=>exact⟨0,rfl,by omega,by omega,rfl,HR⟩
 case round =>
  obtain⟨n,rfl,hn,hng,rfl,HS⟩:=hrel;by_cases h64:n<64
  ·have hE:decide ((n:Int)<64)=true:=decide_eq_true (by omega);by_cases hG:n<16
   ·have hF:decide ((n:Int)<16)=true:=decide_eq_true (by omega)
    have hd:hexes.drop n=sgn hexes n :: hexes.drop (n+1):=by
     have:n<hexes.length:=hG;rw[List.drop_eq_getElem_cons this]
     congr 1
     unfold sgn;rw[List.getD_eq_getElem?_getD,List.getElem?_eq_getElem this];rfl
    have hS:=HS.out;rw[hd,zbd]at hS;have hb:=zkq hG;obtain⟨x,hx⟩:∃ x,sgn hexes n=x:=⟨_,rfl⟩;rw[hx]at hS hb;cases hD:(x==c) with
    | true =>
      have hB:x=c:=by simpa using hD
      rw[if_pos hB]at hS;have ht:((x.toNat:Int)==(c.toNat:Int))=true:=by rw[hB];simp
      have hC:=zi hS;clear hS HS hd hx hB hD
      go_wp2_with fail
      go_ret;exact⟨zbi hC.out,rfl⟩
    | false =>
      have hB:¬ x=c:=by simpa using hD
      rw[if_neg hB]at hS
      have ht:((x.toNat:Int)==(c.toNat:Int))=false:=by
       rw[beq_eq_false_iff_ne];intro e;exact hB (UInt8.toNat_inj.1 (by omega))
      have hC:=zi hS;clear hS HS hd hx hB hD
      go_wp2_with fail
      go_roundg (gk - 1)
      case measure=>omega
      case rel=>exact⟨n+1,by simp,by omega,by omega,rfl,hC⟩
   have hF:decide ((n:Int)<16)=false:=decide_eq_false (by omega);have hS:=HS.out;rw[List.drop_eq_nil_of_le (show hexes.length≤n from by show 16≤n;omega)]at hS;have hC:Hid (zbd c (hexes.drop (n+1)) (n+1)=R):=zi (by rw[List.drop_eq_nil_of_le (show hexes.length≤n+1 from by show 16≤n+1;omega)];exact hS);clear hS HS
   go_wp2_with fail
   go_roundg (gk - 1)
   case measure=>omega
   case rel=>exact⟨n+1,by simp,by omega,by omega,rfl,hC⟩
  have hE:decide ((n:Int)<64)=false:=decide_eq_false (by omega);have hS:=HS.out;rw[List.drop_eq_nil_of_le (show hexes.length≤n from by show 16≤n;omega)]at hS;have hC:=zi hS;clear hS HS
  go_wp2_with fail
  go_ret;exact⟨zbi hC.out,rfl⟩
def rUn:Bs→Bs
 | a :: b :: r=>UInt8.ofNat ((16 * zes a+zes b) % 256).toNat :: rUn r
 | _=>[]
theorem zq8:∀ m:Bs,rUn (zat m)=m
 | []=>rfl
 | c :: m=>by
   have h8:=c.toNat_lt;have h1:=zlq ⟨c.toNat / 16,by omega⟩;have h2:=zlq ⟨c.toNat % 16,by omega⟩;simp only at h1 h2;unfold zat rUn;rw[h1,h2,zq8 m]
   congr 1
   rw[show((16 * ((c.toNat / 16:Nat):Int)+((c.toNat % 16:Nat):Int)) % 256).toNat=c.toNat by omega];simp
theorem zq7:∀ s:Bs,(rUn s).length≤s.length
 | []=>ja _
 | [_]=>Nat.zero_le _
 | a :: b :: r=>by
   have:=zq7 r;unfold rUn;simp only[zx];omega
def zw4 (B:Nat) (r:Option Bs) (e:Ending) (w':World):Prop :=
 match r with
 | some b=>∃ a c,e = .returned (.tuple #[.slice a b.length c,.bool true])∧SB (fun k=>B≤k) b (.slice a b.length c) w'
 | none=>e = .returned (.tuple #[.slice none 0 0,.bool false])
theorem zpl (s:Bs) (w:World) (hlen:s.length≤1000000) :
 Calls Tryz.prog 141 #[.string ⟨s.toArray⟩] w fun e w'=>zw4 w.heap.size (zep s) e w'∧Fr NoB w w':=by
 rw[← zqi rUn zq8 s];have hsz:(ByteArray.mk s.toArray).size=s.length:=rfl;obtain⟨F,hF⟩:∃ F,rUn s=F:=⟨_,rfl⟩;have hP:=zq7 s;rw[hF]at hP ⊢;have HG:Hid (([]:Bs)++rUn (s.drop 0)=F):=zi (by simpa using hF);have hY:OB w.heap.size [] (.slice none 0 0) w:=⟨rfl,.inl ⟨rfl,rfl⟩⟩;have hu:=zi hY;obtain⟨i0,hp,he,hc,ha⟩:=info_parts zbv;clear hF hY;go_enter Tryz.func141,Tryz.ntmps141
 go_wp2_with fail
 go_loopg [4,5] (s.length+2) (fun g vo vi wr=>∃ (i:Nat) (out:Bs),vi = .int .i64 i∧i≤s.length+1∧s.length+2≤i+g∧out.length≤i∧Hid (OB w.heap.size out vo wr)∧Hid (Fr NoB w wr)∧Hid (out++rUn (s.drop i)=F))
 case atStart=>exact⟨0,[],rfl,by omega,by omega,ja _,hu,zi Fr.refl,HG⟩
 case round =>
  obtain⟨i,out,rfl,hi,hgk,hG,HO,HF,HS⟩:=hrel;have hwB:=HF.out.size;by_cases ho:i+1<s.length
  ·have hO:decide ((i:Int)+1<(s.length:Int))=true:=decide_eq_true (by omega);obtain⟨c1,hR⟩:∃ c,s[i]? = some c:=⟨_,List.getElem?_eq_getElem (by omega)⟩;obtain⟨c2,hQ⟩:∃ c,s[i+1]? = some c:=⟨_,List.getElem?_eq_getElem ho⟩
   have hb1:∀ h,(ByteArray.mk s.toArray)[i]'h=c1:=by
    intro h;obtain⟨h1,h2⟩:=List.getElem?_eq_some_iff.1 hR;exact h2
   have hV:∀ h,(ByteArray.mk s.toArray)[i+1]'h=c2:=by
    intro h;obtain⟨h1,h2⟩:=List.getElem?_eq_some_iff.1 hQ;exact h2
   have hS:=HS.out;rw[zeb hR,zeb hQ,rUn]at hS;have hN:=fun W=>zrg c1 W
   have hM:=fun W=>zrg c2 W
   obtain⟨l1,l2⟩:=zfr c1 hexes 0 (by decide);obtain⟨l3,l4⟩:=zfr c2 hexes 0 (by decide);change -1≤zes c1 at l1;change zes c1≤15 at l2;change -1≤zes c2 at l3;change zes c2≤15 at l4;obtain⟨p1,hU⟩:∃ p,zes c1=p:=⟨_,rfl⟩;obtain⟨p2,hT⟩:∃ p,zes c2=p:=⟨_,rfl⟩;rw[hU]at hS hN l1 l2;rw[hT]at hS hM l3 l4;obtain⟨y,hy⟩:∃ y,UInt8.ofNat ((16 * p1+p2) % 256).toNat=y:=⟨_,rfl⟩;rw[hy]at hS
   have hn:IntKind.u8.wrap (16 * p1+p2)=(y.toNat:Int):=by
    rw[← hy]
    have:(UInt8.ofNat ((16 * p1+p2) % 256).toNat).toNat=((16 * p1+p2) % 256).toNat:=by
     rw[UInt8.toNat_ofNat'];omega
    rw[this];simp[IntKind.wrap,IntKind.signed,IntKind.bits];omega
   have hm:IntKind.i64.wrap (16 * p1)=16 * p1:=IntWalk.i64_in _ (by omega);have hl:IntKind.i64.wrap (16 * p1+p2)=16 * p1+p2:=IntWalk.i64_in _ (by omega);have hk:IntKind.i64.wrap ((i:Int)+1)=(i:Int)+1:=IntWalk.i64_in _ (by omega);have hj:(0:Int)≤(i:Int)+1:=by omega
   have hh:((i:Int)+1).toNat=i+1:=by omega
   have hg:(i:Int)+1<(s.length:Int):=by omega
   have hf:(i:Int)<(s.length:Int):=by omega
   have hs:=zi hS;have hr:=zi hN;have hq:=zi hM;obtain⟨ao,co,hL⟩:=HO.out.form;subst hL;have hI:=zi hG;clear hR hQ hS HS hN hM hU hT hy hG
   go_upto_region 5 with(fail)
   refine wp_region_held_drew (S:=fun _=>True) (by kernel_rfl) trivial (fun hB=>?_);simp only[qV]
   iterate 4
    refine qt (v:=?_) rfl (jc ⟨by rfl,?_⟩) hB ?_;rotate_left
    ·intro W hE
     try simp only[qQ]
     go_simp
     try rw[if_neg (by omega)]
     try with_reducible rfl
    try simp only[Act.put,qP]
   refine qi (i:=6) (v:=?_) rfl (jc ⟨by rfl,?_⟩) hB ?_;rotate_left
   ·intro W hE
    try simp only[qQ]
    go_simp
    try rw[if_neg (by omega)]
    try with_reducible rfl
   try simp only[Act.put,qP]
   refine qi (i:=7) (v:=?_) rfl (jc ⟨by rfl,?_⟩) hB ?_;rotate_left
   ·intro W hE
    try simp only[qQ]
    go_simp
    try rw[if_neg (by omega)]
    try with_reducible rfl
   try simp only[Act.put,qP]
   refine qi (i:=8) (v:=?_) rfl (jc ⟨by rfl,?_⟩) hB ?_;rotate_left
   ·intro W hE
    try simp only[qQ]
    go_simp
    try rw[if_neg (by omega)]
    try with_reducible rfl
   try simp only[Act.put,qP]
   refine qi (i:=9) (v:=?_) rfl (jc ⟨by rfl,?_⟩) hB ?_;rotate_left
   ·intro W hE
    try simp only[qQ]
    go_simp
    try rw[if_neg (by omega)]
    try with_reducible rfl
   try simp only[Act.put,qP]
   refine qr (i:=4) (by kernel_rfl) rfl (fun K hK=>?_)
   try simp only[qQ]
   go_simp;refine(hr.out _).mono ?_;rintro e w1 ⟨rfl,rfl⟩;refine hK.out _ _ trivial (fun hB=>?_);clear hK K
   try simp only[Act.put,qP]
   refine qt (v:=?_) rfl (jc ⟨by rfl,?_⟩) hB ?_;rotate_left
   ·intro W hE
    try simp only[qQ]
    go_simp
    try rw[if_neg (by omega)]
    try with_reducible rfl
   try simp only[Act.put,qP]
   refine qr (i:=10) (by kernel_rfl) rfl (fun K hK=>?_)
   try simp only[qQ]
   go_simp;refine(hq.out _).mono ?_;rintro e w1 ⟨rfl,rfl⟩;refine hK.out _ _ trivial (fun hB=>?_);clear hK K
   try simp only[Act.put,qP]
   iterate 2
    refine qt (v:=?_) rfl (jc ⟨by rfl,?_⟩) hB ?_;rotate_left
    ·intro W hE
     try simp only[qQ]
     go_simp
     try rw[if_neg (by omega)]
     try with_reducible rfl
    try simp only[Act.put,qP]
   refine qr (i:=13) (by kernel_rfl) rfl (fun K hK=>?_)
   try simp only[qQ]
   go_simp;refine hK.out _ _ trivial (fun hB=>?_);clear hK K
   try simp only[Act.put,qP]
   refine qr (i:=14) (by kernel_rfl) rfl (fun K hK=>?_)
   try simp only[qQ]
   rw[if_pos (by rfl)];refine zff (.tmp 13) (.tmp 26) 24 (by rfl) w.heap.size 5 i0 (jf jg 0) 1 1 Tryz.underlying24 hp he hc ha rfl (by decide) (.slice ao out.length co) out.length (zj out) (by rfl) (by exact HO.out.alloc (.cells #[.int .u8 y.toNat] 5)) ⟨wr.heap.size,0,none⟩ 1 1 [.int .u8 y.toNat] (by rfl) rfl (by exact q6 wr 5 [.int .u8 y.toNat] _ rfl) (by simp[Value.oneCell']) (by have:=hI.out;unfold maxLen;omega) (by have:=hI.out;omega) (by simp;omega) ?_;intro v' w2 hC hD;refine hK.out _ _ trivial (fun hB=>?_);clear hK K
   try simp only[Act.put,qP]
   obtain⟨hW,hZ⟩:=HO.out.push (news:=[y]) (Fr.refl.alloc (.cells #[.int .u8 y.toNat] 5)).drew hC hD;have ht:=zi hW;have hv:=zi (HF.out.trans hZ (fun _ _ h => .inr h));clear hC hD hW hZ hn hm hl hk hj hh hg hf;refine qt (v:=?_) rfl (jc ⟨by rfl,?_⟩) hB ?_;rotate_left
   ·intro W hE
    try simp only[qQ]
    go_simp
    try rw[if_neg (by omega)]
    try with_reducible rfl
   try simp only[Act.put,qP]
   refine wpAnyH_done (by kernel_rfl) ?_ _;clear hB
   go_wp2_with fail
   go_roundg (gk - 1)
   case measure=>omega
   case rel=>exact⟨i+2,out++[y],by simp,by omega,by omega,by have:=hI.out;simp;omega,ht,hv,by have:=hs.out;simpa using zi this⟩
  have hO:decide ((i:Int)+1<(s.length:Int))=false:=decide_eq_false (by omega);have hS:=HS.out
  have hd:rUn (s.drop i)=[]:=by
   rcases hx:s.drop i with _ | ⟨a,_ | ⟨b,r⟩⟩
   ·rfl
   ·rfl
   have:=congrArg List.length hx;rw[List.length_drop]at this;simp only[zx]at this;omega
  rw[hd,List.append_nil]at hS;subst hS;have hx:=fun W (h:Fr NoB wr W)=>zhx (fun k=>w.heap.size≤k) out _ W (HO.out.sb.fr h (fun _ _ _ _ h=>h)) (by omega)
  obtain⟨ao,co,hL⟩:=HO.out.form;subst hL;obtain⟨X,hX⟩:∃ X,zat out=X:=⟨_,rfl⟩;have hI:=zi hG;rw[hX]at hx;have Hx:=zi hx;have HX:=zi hX;cases hb:(X==s) with
  | true =>
    have hV:(X != s)=false:=by rw[bne,hb];rfl
    have Hb:Hid (zat out=s):=zi (by rw[hX];simpa using hb);clear hd hx hX hG HS hP
    go_wp2_with fail
    refine(Hx.out _ Fr.refl).mono ?_;rintro e w1 ⟨rfl,hH⟩;have hJ:=zi hH;clear hH
    go_wp2_with fail
    go_ret2
    try rw[if_pos Hb.out]
    exact⟨⟨ao,co,rfl,HO.out.sb.fr hJ.out (fun _ _ _ _ h=>h)⟩,HF.out.trans' hJ.out⟩
  | false =>
    have hV:(X != s)=true:=by rw[bne,hb];rfl
    have Hb:Hid (¬ zat out=s):=zi (by rw[hX];simpa using hb);clear hd hx hX hG HS hP
    go_wp2_with fail
    refine(Hx.out _ Fr.refl).mono ?_;rintro e w1 ⟨rfl,hH⟩;have hJ:=zi hH;clear hH
    go_wp2_with fail
    go_ret2
    try rw[if_neg Hb.out]
    exact⟨rfl,HF.out.trans' hJ.out⟩
def RSumPost (r:Option Bs) (e:Ending):Prop :=
 match r with
 | some b=>e = .returned (.tuple #[.agg (zj b).toArray,.bool true])
 | none=>e = .returned (.tuple #[.agg #[jf jg 0,jf jg 0,jf jg 0,jf jg 0,jf jg 0,jf jg 0,jf jg 0,jf jg 0,jf jg 0,jf jg 0,jf jg 0,jf jg 0,jf jg 0,jf jg 0,jf jg 0,jf jg 0,jf jg 0,jf jg 0,jf jg 0,jf jg 0,jf jg 0,jf jg 0,jf jg 0,jf jg 0,jf jg 0,jf jg 0,jf jg 0,jf jg 0,jf jg 0,jf jg 0,jf jg 0,jf jg 0],.bool false])
theorem ztq (s:Bs) (w:World) (hlen:s.length≤1000000) :
 Calls Tryz.prog 94 #[.string ⟨s.toArray⟩] w fun e w'=>RSumPost (zkb s) e∧Fr NoB w w':=by
 have hc:=fun W=>zpl s W hlen
 unfold zkb;obtain⟨U,hU⟩:∃ U,zep s=U:=⟨_,rfl⟩;rw[hU]at hc ⊢;have Hc:=zi hc;clear hc hU
 have hA:((w.alloc (.cells #[jf jg 0,jf jg 0,jf jg 0,jf jg 0,jf jg 0,jf jg 0,jf jg 0,jf jg 0,jf jg 0,jf jg 0,jf jg 0,jf jg 0,jf jg 0,jf jg 0,jf jg 0,jf jg 0,jf jg 0,jf jg 0,jf jg 0,jf jg 0,jf jg 0,jf jg 0,jf jg 0,jf jg 0,jf jg 0,jf jg 0,jf jg 0,jf jg 0,jf jg 0,jf jg 0,jf jg 0,jf jg 0] 23)).alloc (.cells #[jf jg 0,jf jg 0,jf jg 0,jf jg 0,jf jg 0,jf jg 0,jf jg 0,jf jg 0,jf jg 0,jf jg 0,jf jg 0,jf jg 0,jf jg 0,jf jg 0,jf jg 0,jf jg 0,jf jg 0,jf jg 0,jf jg 0,jf jg 0,jf jg 0,jf jg 0,jf jg 0,jf jg 0,jf jg 0,jf jg 0,jf jg 0,jf jg 0,jf jg 0,jf jg 0,jf jg 0,jf jg 0] 23)).heap[w.heap.size]? = some (.cells #[jf jg 0,jf jg 0,jf jg 0,jf jg 0,jf jg 0,jf jg 0,jf jg 0,jf jg 0,jf jg 0,jf jg 0,jf jg 0,jf jg 0,jf jg 0,jf jg 0,jf jg 0,jf jg 0,jf jg 0,jf jg 0,jf jg 0,jf jg 0,jf jg 0,jf jg 0,jf jg 0,jf jg 0,jf jg 0,jf jg 0,jf jg 0,jf jg 0,jf jg 0,jf jg 0,jf jg 0,jf jg 0] 23 (0,0)):=by
  rw[Below.heap_alloc _ _ _ (by rw[zm];omega)];exact heap_alloc_new w _
 have hD:((w.alloc (.cells #[jf jg 0,jf jg 0,jf jg 0,jf jg 0,jf jg 0,jf jg 0,jf jg 0,jf jg 0,jf jg 0,jf jg 0,jf jg 0,jf jg 0,jf jg 0,jf jg 0,jf jg 0,jf jg 0,jf jg 0,jf jg 0,jf jg 0,jf jg 0,jf jg 0,jf jg 0,jf jg 0,jf jg 0,jf jg 0,jf jg 0,jf jg 0,jf jg 0,jf jg 0,jf jg 0,jf jg 0,jf jg 0] 23)).alloc (.cells #[jf jg 0,jf jg 0,jf jg 0,jf jg 0,jf jg 0,jf jg 0,jf jg 0,jf jg 0,jf jg 0,jf jg 0,jf jg 0,jf jg 0,jf jg 0,jf jg 0,jf jg 0,jf jg 0,jf jg 0,jf jg 0,jf jg 0,jf jg 0,jf jg 0,jf jg 0,jf jg 0,jf jg 0,jf jg 0,jf jg 0,jf jg 0,jf jg 0,jf jg 0,jf jg 0,jf jg 0,jf jg 0] 23)).heap[w.heap.size+1]? = some (.cells #[jf jg 0,jf jg 0,jf jg 0,jf jg 0,jf jg 0,jf jg 0,jf jg 0,jf jg 0,jf jg 0,jf jg 0,jf jg 0,jf jg 0,jf jg 0,jf jg 0,jf jg 0,jf jg 0,jf jg 0,jf jg 0,jf jg 0,jf jg 0,jf jg 0,jf jg 0,jf jg 0,jf jg 0,jf jg 0,jf jg 0,jf jg 0,jf jg 0,jf jg 0,jf jg 0,jf jg 0,jf jg 0] 23 (0,0)):=by
  have:=heap_alloc_new (w.alloc (.cells #[jf jg 0,jf jg 0,jf jg 0,jf jg 0,jf jg 0,jf jg 0,jf jg 0,jf jg 0,jf jg 0,jf jg 0,jf jg 0,jf jg 0,jf jg 0,jf jg 0,jf jg 0,jf jg 0,jf jg 0,jf jg 0,jf jg 0,jf jg 0,jf jg 0,jf jg 0,jf jg 0,jf jg 0,jf jg 0,jf jg 0,jf jg 0,jf jg 0,jf jg 0,jf jg 0,jf jg 0,jf jg 0] 23)) (.cells #[jf jg 0,jf jg 0,jf jg 0,jf jg 0,jf jg 0,jf jg 0,jf jg 0,jf jg 0,jf jg 0,jf jg 0,jf jg 0,jf jg 0,jf jg 0,jf jg 0,jf jg 0,jf jg 0,jf jg 0,jf jg 0,jf jg 0,jf jg 0,jf jg 0,jf jg 0,jf jg 0,jf jg 0,jf jg 0,jf jg 0,jf jg 0,jf jg 0,jf jg 0,jf jg 0,jf jg 0,jf jg 0] 23)
  rwa [zm]at this
 have hF:Fr NoB w ((w.alloc (.cells #[jf jg 0,jf jg 0,jf jg 0,jf jg 0,jf jg 0,jf jg 0,jf jg 0,jf jg 0,jf jg 0,jf jg 0,jf jg 0,jf jg 0,jf jg 0,jf jg 0,jf jg 0,jf jg 0,jf jg 0,jf jg 0,jf jg 0,jf jg 0,jf jg 0,jf jg 0,jf jg 0,jf jg 0,jf jg 0,jf jg 0,jf jg 0,jf jg 0,jf jg 0,jf jg 0,jf jg 0,jf jg 0] 23)).alloc (.cells #[jf jg 0,jf jg 0,jf jg 0,jf jg 0,jf jg 0,jf jg 0,jf jg 0,jf jg 0,jf jg 0,jf jg 0,jf jg 0,jf jg 0,jf jg 0,jf jg 0,jf jg 0,jf jg 0,jf jg 0,jf jg 0,jf jg 0,jf jg 0,jf jg 0,jf jg 0,jf jg 0,jf jg 0,jf jg 0,jf jg 0,jf jg 0,jf jg 0,jf jg 0,jf jg 0,jf jg 0,jf jg 0] 23)):=(Fr.refl.alloc _).alloc _;have hG:((w.alloc (.cells #[jf jg 0,jf jg 0,jf jg 0,jf jg 0,jf jg 0,jf jg 0,jf jg 0,jf jg 0,jf jg 0,jf jg 0,jf jg 0,jf jg 0,jf jg 0,jf jg 0,jf jg 0,jf jg 0,jf jg 0,jf jg 0,jf jg 0,jf jg 0,jf jg 0,jf jg 0,jf jg 0,jf jg 0,jf jg 0,jf jg 0,jf jg 0,jf jg 0,jf jg 0,jf jg 0,jf jg 0,jf jg 0] 23)).alloc (.cells #[jf jg 0,jf jg 0,jf jg 0,jf jg 0,jf jg 0,jf jg 0,jf jg 0,jf jg 0,jf jg 0,jf jg 0,jf jg 0,jf jg 0,jf jg 0,jf jg 0,jf jg 0,jf jg 0,jf jg 0,jf jg 0,jf jg 0,jf jg 0,jf jg 0,jf jg 0,jf jg 0,jf jg 0,jf jg 0,jf jg 0,jf jg 0,jf jg 0,jf jg 0,jf jg 0,jf jg 0,jf jg 0] 23)).heap.size=w.heap.size+2:=by rw[zm,zm]
 have H32:=zi (show((#[jf jg 0,jf jg 0,jf jg 0,jf jg 0,jf jg 0,jf jg 0,jf jg 0,jf jg 0,jf jg 0,jf jg 0,jf jg 0,jf jg 0,jf jg 0,jf jg 0,jf jg 0,jf jg 0,jf jg 0,jf jg 0,jf jg 0,jf jg 0,jf jg 0,jf jg 0,jf jg 0,jf jg 0,jf jg 0,jf jg 0,jf jg 0,jf jg 0,jf jg 0,jf jg 0,jf jg 0,jf jg 0]:Array Value).all (·.oneCell'))=true by simp[Value.oneCell']);cases U with
 | none =>
   go_enter Tryz.func94,Tryz.ntmps94
   go_upto_region 2 with(fail)
   change Code.wp _ _ _ _ ((w.alloc (.cells #[jf jg 0,jf jg 0,jf jg 0,jf jg 0,jf jg 0,jf jg 0,jf jg 0,jf jg 0,jf jg 0,jf jg 0,jf jg 0,jf jg 0,jf jg 0,jf jg 0,jf jg 0,jf jg 0,jf jg 0,jf jg 0,jf jg 0,jf jg 0,jf jg 0,jf jg 0,jf jg 0,jf jg 0,jf jg 0,jf jg 0,jf jg 0,jf jg 0,jf jg 0,jf jg 0,jf jg 0,jf jg 0] 23)).alloc (.cells #[jf jg 0,jf jg 0,jf jg 0,jf jg 0,jf jg 0,jf jg 0,jf jg 0,jf jg 0,jf jg 0,jf jg 0,jf jg 0,jf jg 0,jf jg 0,jf jg 0,jf jg 0,jf jg 0,jf jg 0,jf jg 0,jf jg 0,jf jg 0,jf jg 0,jf jg 0,jf jg 0,jf jg 0,jf jg 0,jf jg 0,jf jg 0,jf jg 0,jf jg 0,jf jg 0,jf jg 0,jf jg 0] 23));obtain⟨W,hW⟩:∃ W,(w.alloc (.cells #[jf jg 0,jf jg 0,jf jg 0,jf jg 0,jf jg 0,jf jg 0,jf jg 0,jf jg 0,jf jg 0,jf jg 0,jf jg 0,jf jg 0,jf jg 0,jf jg 0,jf jg 0,jf jg 0,jf jg 0,jf jg 0,jf jg 0,jf jg 0,jf jg 0,jf jg 0,jf jg 0,jf jg 0,jf jg 0,jf jg 0,jf jg 0,jf jg 0,jf jg 0,jf jg 0,jf jg 0,jf jg 0] 23)).alloc (.cells #[jf jg 0,jf jg 0,jf jg 0,jf jg 0,jf jg 0,jf jg 0,jf jg 0,jf jg 0,jf jg 0,jf jg 0,jf jg 0,jf jg 0,jf jg 0,jf jg 0,jf jg 0,jf jg 0,jf jg 0,jf jg 0,jf jg 0,jf jg 0,jf jg 0,jf jg 0,jf jg 0,jf jg 0,jf jg 0,jf jg 0,jf jg 0,jf jg 0,jf jg 0,jf jg 0,jf jg 0,jf jg 0] 23)=W:=⟨_,rfl⟩;rw[hW]at hA hD hF hG ⊢;obtain⟨r,hr⟩:∃ r,w.heap.size=r:=⟨_,rfl⟩;obtain⟨d,hd⟩:∃ d,r+1=d:=⟨_,rfl⟩;have hj:w.heap.size≤r:=by omega
   rw[hr]at hA hD hG;rw[hr,hd];rw[hd]at hD;have hn:r<d:=by omega
   have hq:d<W.heap.size:=by omega
   have HA:=zi hA;have HD:=zi hD;have HF:=zi hF;clear hW hr hd hA hD hF hG
   go_wp2_with fail
   refine(Hc.out _).mono ?_;rintro e w1 ⟨hp,hB⟩;obtain rfl:e=_:=hp;have hI:=hB.block _ _ HA.out (fun h=>h);have hH:=hB.block _ _ HD.out (fun h=>h);obtain⟨L,hL⟩:∃ L,zj jz=L:=⟨_,rfl⟩;have hC:w1.rangeAt d 0 L:=by rw[← hL];exact j8 hH
   have hl:L.length=32:=by rw[← hL];rfl
   have hJ:=zi hC;have hE:=zi (show w1.there r 0 L.toArray.size from qa hI (by rw[zw,hl];exact ja _));have hR:=zi (HF.out.trans' hB);have hQ:=zi (show L.toArray.all (·.oneCell')=true by rw[← hL];exact all_oneCell_toArray (qv _));have HL:=zi hL;have HZ:=zi (show(Tryz.prog.info? 23).map (·.size)=some L.length by rw[j3,hl]);have hP:=zi (show(Tryz.prog.info? 23).map (·.size)=some L.toArray.size by rw[j3,zw,hl]);clear hL hl
   go_wp2_with(first | ((with_reducible refine wpList_load_mid ?_ 23 _ rfl d 0 ?_ L (.array 32 5) hJ.out ji ?_ HZ.out ?_);rfl;rfl;rfl) | ((with_reducible refine wpList_store_mid ?_ 23 _ _ rfl r 0 L.toArray ?_ ?_ hE.out hP.out hQ.out ?_);rfl;rfl;rfl))
   have hN:=run_loadVar_mid (P:=Tryz.prog) _ r 0 23 L (.array 32 5) (zn _ r 0 L (by simpa using hE.out)) ji rfl HZ.out;refine bodyPost_ret (v := .tuple #[.agg L.toArray,.bool false]) ?_ rfl ⟨?_,hR.out.trans (jr _ _ _ _) (fun k _ hm => .inr (by omega))⟩
   ·rw[results_cell_tmp rfl];simp[asAddr,Result.andThen,hN,Act.put]
   rw[← HL.out];rfl
 | some b =>
   simp only;by_cases hO:b.length=32
   ·rw [if_pos hO];have H:=zi hO;clear hO;go_enter Tryz.func94,Tryz.ntmps94
    go_upto_region 2 with(fail)
    change Code.wp _ _ _ _ ((w.alloc (.cells #[jf jg 0,jf jg 0,jf jg 0,jf jg 0,jf jg 0,jf jg 0,jf jg 0,jf jg 0,jf jg 0,jf jg 0,jf jg 0,jf jg 0,jf jg 0,jf jg 0,jf jg 0,jf jg 0,jf jg 0,jf jg 0,jf jg 0,jf jg 0,jf jg 0,jf jg 0,jf jg 0,jf jg 0,jf jg 0,jf jg 0,jf jg 0,jf jg 0,jf jg 0,jf jg 0,jf jg 0,jf jg 0] 23)).alloc (.cells #[jf jg 0,jf jg 0,jf jg 0,jf jg 0,jf jg 0,jf jg 0,jf jg 0,jf jg 0,jf jg 0,jf jg 0,jf jg 0,jf jg 0,jf jg 0,jf jg 0,jf jg 0,jf jg 0,jf jg 0,jf jg 0,jf jg 0,jf jg 0,jf jg 0,jf jg 0,jf jg 0,jf jg 0,jf jg 0,jf jg 0,jf jg 0,jf jg 0,jf jg 0,jf jg 0,jf jg 0,jf jg 0] 23));obtain⟨W,hW⟩:∃ W,(w.alloc (.cells #[jf jg 0,jf jg 0,jf jg 0,jf jg 0,jf jg 0,jf jg 0,jf jg 0,jf jg 0,jf jg 0,jf jg 0,jf jg 0,jf jg 0,jf jg 0,jf jg 0,jf jg 0,jf jg 0,jf jg 0,jf jg 0,jf jg 0,jf jg 0,jf jg 0,jf jg 0,jf jg 0,jf jg 0,jf jg 0,jf jg 0,jf jg 0,jf jg 0,jf jg 0,jf jg 0,jf jg 0,jf jg 0] 23)).alloc (.cells #[jf jg 0,jf jg 0,jf jg 0,jf jg 0,jf jg 0,jf jg 0,jf jg 0,jf jg 0,jf jg 0,jf jg 0,jf jg 0,jf jg 0,jf jg 0,jf jg 0,jf jg 0,jf jg 0,jf jg 0,jf jg 0,jf jg 0,jf jg 0,jf jg 0,jf jg 0,jf jg 0,jf jg 0,jf jg 0,jf jg 0,jf jg 0,jf jg 0,jf jg 0,jf jg 0,jf jg 0,jf jg 0] 23)=W:=⟨_,rfl⟩;rw[hW]at hA hD hF hG ⊢;obtain⟨r,hr⟩:∃ r,w.heap.size=r:=⟨_,rfl⟩;obtain⟨d,hd⟩:∃ d,r+1=d:=⟨_,rfl⟩;have hj:w.heap.size≤r:=by omega
    rw[hr]at hA hD hG;rw[hr,hd];rw[hd]at hD;have hn:r<d:=by omega
    have hq:d<W.heap.size:=by omega
    have HA:=zi hA;have HD:=zi hD;have HF:=zi hF;clear hW hr hd hA hD hF hG
    go_wp2_with fail
    refine(Hc.out _).mono ?_;rintro e w1 ⟨⟨a,c,rfl,hK⟩,hB⟩;have hI:=hB.block _ _ HA.out (fun h=>h);have hH:=hB.block _ _ HD.out (fun h=>h);obtain⟨g,o,c',e1,-,hgW,-,-⟩:=hK.cellsAt (by intro h;have:=H.out;rw[h]at this;simp at this);obtain⟨rfl,rfl⟩:a=some ⟨g,o,none⟩∧c=c':=by simpa using e1
    have hb:((b.length:Int) != 32)=false:=by rw[H.out];rfl
    have hC:w1.rangeAt d 0 (zj (b.take 0)++zj (List.replicate (32 - 0) 0)):=j8 hH;have hJ:=zi hC;have hE:=zi (show w1.there r 0 32 from qa hI (ja _));have hv:=zi (show w1.there d 0 32 from qa hH (ja _));have hR:=zi (HF.out.trans' hB);have Hsb:=zi hK;have hsz1:=hB.size;clear hB hI hH hC hK e1
    go_wp2_with fail
    go_loopg [7] 33 (fun gf vi wr=>∃ i:Nat,vi = .int .i64 i∧i≤32∧i+gf=33∧Hid (Fr NoB w wr)∧Hid (wr.rangeAt d 0 (zj (b.take i)++zj (List.replicate (32 - i) 0)))∧Hid (wr.there r 0 32)∧Hid (wr.there d 0 32)∧Hid (SB (fun k=>W.heap.size≤k) b (.slice (some ⟨g,o,none⟩) b.length c) wr))
    case atStart=>exact⟨0,rfl,by omega,by omega,hR,hJ,hE,hv,Hsb⟩
    case round =>
     obtain⟨i,rfl,hi,hig,hg,hX,hS,hT,hV⟩:=hrel;by_cases ht:i<32
     ·have hY:decide ((i:Int)<32)=true:=decide_eq_true (by omega);have hu:i<b.length:=by rw[H.out];exact ht
      obtain⟨x,hx⟩:∃ x,b[i]? = some x:=⟨_,List.getElem?_eq_getElem hu⟩;obtain⟨g',o',he,e1,k1⟩:=hV.out.at hx;obtain⟨⟨rfl,rfl⟩,rfl⟩:(g=g'∧o=o')∧c=he:=by simpa using e1
      have ho:(zj (b.take i)).length=i:=by rw[jm,List.length_take];omega
      have hM:zj (List.replicate (32 - i) 0)=[jf jg 0]++zj (List.replicate (32 - (i+1)) 0):=by
       rw[show 32 - i=(32 - (i+1))+1 by omega,List.replicate_succ];rfl
      have hZ:=hX.out;rw[hM]at hZ;have ha:=zcx (zj (b.take i)) [jf jg 0] (zj (List.replicate (32 - (i+1)) 0)) [.int .u8 x.toNat] hZ rfl;rw[ho]at ha
      have hh:zj (b.take (i+1))=zj (b.take i)++[.int .u8 x.toNat]:=by
       rw[List.take_add_one,hx];simp[zj]
      have hs:(wr.setCell ⟨d,i,none⟩ (.int .u8 x.toNat)).rangeAt d 0 (zj (b.take (i+1))++zj (List.replicate (32 - (i+1)) 0)):=by
       rw[hh,List.append_assoc];exact ha
      have hz:=zi hs;have kd:=(hT.out i (by omega));rw[Nat.zero_add]at kd;obtain⟨vd,hvd⟩:=Option.isSome_iff_exists.1 kd.1;have hfd:=kd.2;have hib2:(i:Int)<b.length:=by omega
      have hw:=zi (zai hS.out d i (.int .u8 x.toNat));have hf:=zi (zai hT.out d i (.int .u8 x.toNat));have h0:=zi (hg.out.setNew ⟨d,i,none⟩ (.int .u8 x.toNat) (by show w.heap.size≤d;omega));have hy:=zi (hV.out.fr ((Fr.refl (M:=fun k _=>k=d)).setCell ⟨d,i,none⟩ (.int .u8 x.toNat) (fun _ _=>rfl)) (fun k _ hk _ hm=>by omega));clear hZ ha hs hh hM ho e1 hx kd hX hS hT hV hg
      go_wp2_with fail
      go_roundg (gk - 1)
      case measure=>omega
      case rel=>exact⟨i+1,by simp,by omega,by omega,h0,hz,hw,hf,hy⟩
     obtain rfl:i=32:=by omega
     obtain⟨L,hL⟩:∃ L,zj b=L:=⟨_,rfl⟩
     have hC:wr.rangeAt d 0 L:=by
      have:=hX.out;rw[List.take_of_length_le (by rw[H.out];exact ja _)]at this;rw[← hL];simpa[zj] using this
     have hl:L.length=32:=by rw[← hL,jm,H.out]
     have hJ:=zi hC;have hE:=zi (show wr.there r 0 L.toArray.size by rw[zw,hl];exact hS.out);have hQ:=zi (show L.toArray.all (·.oneCell')=true by rw[← hL];exact all_oneCell_toArray (qv _));have hY:decide ((32:Int)<32)=false:=rfl;clear hC hX hS hT hV;have HL:=zi hL;have HZ:=zi (show(Tryz.prog.info? 23).map (·.size)=some L.length by rw[j3,hl]);have hP:=zi (show(Tryz.prog.info? 23).map (·.size)=some L.toArray.size by rw[j3,zw,hl]);clear hL hl
     go_wp2_with(first | ((with_reducible refine wpList_load_mid ?_ 23 _ rfl d 0 ?_ L (.array 32 5) hJ.out ji ?_ HZ.out ?_);rfl;rfl;rfl) | ((with_reducible refine wpList_store_mid ?_ 23 _ _ rfl r 0 L.toArray ?_ ?_ hE.out hP.out hQ.out ?_);rfl;rfl;rfl))
     have hN:=run_loadVar_mid (P:=Tryz.prog) _ r 0 23 L (.array 32 5) (zn _ r 0 L (by simpa using hE.out)) ji rfl HZ.out;refine bodyPost_ret (v := .tuple #[.agg L.toArray,.bool true]) ?_ rfl ⟨?_,hg.out.trans (jr _ _ _ _) (fun k _ hm => .inr (by omega))⟩
     ·rw[results_cell_tmp rfl];simp[asAddr,Result.andThen,hN,Act.put]
     rw[← HL.out];rfl
   rw[if_neg hO];have hb:((b.length:Int) != 32)=true:=by simp;omega
   have h32n:(b.length != 32)=true:=by simp;omega
   clear hO;go_enter Tryz.func94,Tryz.ntmps94
   go_upto_region 2 with(fail)
   change Code.wp _ _ _ _ ((w.alloc (.cells #[jf jg 0,jf jg 0,jf jg 0,jf jg 0,jf jg 0,jf jg 0,jf jg 0,jf jg 0,jf jg 0,jf jg 0,jf jg 0,jf jg 0,jf jg 0,jf jg 0,jf jg 0,jf jg 0,jf jg 0,jf jg 0,jf jg 0,jf jg 0,jf jg 0,jf jg 0,jf jg 0,jf jg 0,jf jg 0,jf jg 0,jf jg 0,jf jg 0,jf jg 0,jf jg 0,jf jg 0,jf jg 0] 23)).alloc (.cells #[jf jg 0,jf jg 0,jf jg 0,jf jg 0,jf jg 0,jf jg 0,jf jg 0,jf jg 0,jf jg 0,jf jg 0,jf jg 0,jf jg 0,jf jg 0,jf jg 0,jf jg 0,jf jg 0,jf jg 0,jf jg 0,jf jg 0,jf jg 0,jf jg 0,jf jg 0,jf jg 0,jf jg 0,jf jg 0,jf jg 0,jf jg 0,jf jg 0,jf jg 0,jf jg 0,jf jg 0,jf jg 0] 23));obtain⟨W,hW⟩:∃ W,(w.alloc (.cells #[jf jg 0,jf jg 0,jf jg 0,jf jg 0,jf jg 0,jf jg 0,jf jg 0,jf jg 0,jf jg 0,jf jg 0,jf jg 0,jf jg 0,jf jg 0,jf jg 0,jf jg 0,jf jg 0,jf jg 0,jf jg 0,jf jg 0,jf jg 0,jf jg 0,jf jg 0,jf jg 0,jf jg 0,jf jg 0,jf jg 0,jf jg 0,jf jg 0,jf jg 0,jf jg 0,jf jg 0,jf jg 0] 23)).alloc (.cells #[jf jg 0,jf jg 0,jf jg 0,jf jg 0,jf jg 0,jf jg 0,jf jg 0,jf jg 0,jf jg 0,jf jg 0,jf jg 0,jf jg 0,jf jg 0,jf jg 0,jf jg 0,jf jg 0,jf jg 0,jf jg 0,jf jg 0,jf jg 0,jf jg 0,jf jg 0,jf jg 0,jf jg 0,jf jg 0,jf jg 0,jf jg 0,jf jg 0,jf jg 0,jf jg 0,jf jg 0,jf jg 0] 23)=W:=⟨_,rfl⟩;rw[hW]at hA hD hF hG ⊢;obtain⟨r,hr⟩:∃ r,w.heap.size=r:=⟨_,rfl⟩;obtain⟨d,hd⟩:∃ d,r+1=d:=⟨_,rfl⟩;have hj:w.heap.size≤r:=by omega
   rw[hr]at hA hD hG;rw[hr,hd];rw[hd]at hD;have hn:r<d:=by omega
   have hq:d<W.heap.size:=by omega
   have HA:=zi hA;have HD:=zi hD;have HF:=zi hF;clear hW hr hd hA hD hF hG
   go_wp2_with fail
   refine(Hc.out _).mono ?_;rintro e w1 ⟨⟨a,c,rfl,hK⟩,hB⟩;have hI:=hB.block _ _ HA.out (fun h=>h);have hH:=hB.block _ _ HD.out (fun h=>h);obtain⟨L,hL⟩:∃ L,zj jz=L:=⟨_,rfl⟩;have hC:w1.rangeAt d 0 L:=by rw[← hL];exact j8 hH
   have hl:L.length=32:=by rw[← hL];rfl
   have hJ:=zi hC;have hE:=zi (show w1.there r 0 L.toArray.size from qa hI (by rw[zw,hl];exact ja _));have hR:=zi (HF.out.trans' hB);have hQ:=zi (show L.toArray.all (·.oneCell')=true by rw[← hL];exact all_oneCell_toArray (qv _));clear hK hB hI hH hC;have HL:=zi hL;have HZ:=zi (show(Tryz.prog.info? 23).map (·.size)=some L.length by rw[j3,hl]);have hP:=zi (show(Tryz.prog.info? 23).map (·.size)=some L.toArray.size by rw[j3,zw,hl]);clear hL hl
   go_wp2_with(first | ((with_reducible refine wpList_load_mid ?_ 23 _ rfl d 0 ?_ L (.array 32 5) hJ.out ji ?_ HZ.out ?_);rfl;rfl;rfl) | ((with_reducible refine wpList_store_mid ?_ 23 _ _ rfl r 0 L.toArray ?_ ?_ hE.out hP.out hQ.out ?_);rfl;rfl;rfl))
   have hN:=run_loadVar_mid (P:=Tryz.prog) _ r 0 23 L (.array 32 5) (zn _ r 0 L (by simpa using hE.out)) ji rfl HZ.out;refine bodyPost_ret (v := .tuple #[.agg L.toArray,.bool false]) ?_ rfl ⟨?_,hR.out.trans (jr _ _ _ _) (fun k _ hm => .inr (by omega))⟩
   ·rw[results_cell_tmp rfl];simp[asAddr,Result.andThen,hN,Act.put]
   rw[← HL.out];rfl
end Go.Proofs.YtffggpplnjibgaaGreatDoor
