/-
 The walks of the reference's place,Unhex and Sum.
-/
import Derived.Test.YtcddlemkimbkcaaGreatDoorKRefTyped
import Derived.Test.YtcddlemkimbkcaaGreatDoorKEnAt
open Go.Lib renaming hid→za,byteCells→zb
open Go.World renaming size_alloc→zf,rangeAt_setCells_same→zg
open List renaming size_toArray→zn,length_cons→zo
open Nat renaming le_refl→zt
open Or renaming inl→zv
open Go.Value renaming int→zy
open Go.IntKind renaming u8→z6
namespace Go.Proofs.YtcddlemkimbkcaaGreatDoor
set_option linter.unusedVariables false
set_option linter.unusedSimpArgs false
set_option linter.unusedSectionVars false
set_option maxRecDepth 100000
set_option maxHeartbeats 2000000
open Go.RowKit
variable [OldK]
def zaz (c:UInt8):Bs→Nat→Int
 | [],_ => -1
 | x :: r,n=>if x=c then n else zaz c r (n+1)
def zd7 (c:UInt8):Int:=zaz c hexes 0
theorem ze1 (c:UInt8):∀ (l:Bs) (n:Nat),n+l.length≤16 → -1≤zaz c l n∧zaz c l n≤15
 | [],n,h=>by simp[zaz]
 | x :: r,n,h=>by
   unfold zaz;rw[zo]at h;split
   ·omega
   exact ze1 c r (n+1) (by omega)
theorem zks:∀ n:Fin 16,zd7 (sgn hexes n.val)=n.val:=by decide +kernel
theorem zp3 (c:UInt8) (w:World):Calls Tryz.prog 165 #[.int .u8 c.toNat,.int .i64 4] w fun e w'=>e = .returned (.int .i64 (zd7 c))∧w=w':=by
 obtain⟨R,hR⟩:∃ R,zd7 c=R:=⟨_,rfl⟩;rw[hR];have HR:Hid (zaz c (hexes.drop 0) 0=R):=za hR;clear hR;go_enter Tryz.func165,Tryz.ntmps165
 go_wp2_with fail
 go_loopg [5] 65 (fun g vi wr=>∃ n:Nat,vi = .int .i64 n∧n≤64∧n+g=65∧w=wr∧Hid (zaz c (hexes.drop n) n=R))
 case atStart=>exact⟨0,rfl,by omega,by omega,rfl,HR⟩
 case round =>
  obtain⟨n,rfl,hn,hng,rfl,HS⟩:=hrel;by_cases h64:n<64
  ·have hD:decide ((n:Int)<64)=true:=decide_eq_true (by omega);by_cases hF:n<16
   ·have hE:decide ((n:Int)<16)=true:=decide_eq_true (by omega)
    have hd:hexes.drop n=sgn hexes n :: hexes.drop (n+1):=by
     have:n<hexes.length:=hF;rw[List.drop_eq_getElem_cons this]
     congr 1
     unfold sgn;rw[List.getD_eq_getElem?_getD,List.getElem?_eq_getElem this];rfl
    have hS:=HS.out;rw[hd,zaz]at hS;have hb:=zjr hF;obtain⟨x,hx⟩:∃ x,sgn hexes n=x:=⟨_,rfl⟩;rw[hx]at hS hb;cases hC:(x==c) with
    | true =>
      have hA:x=c:=by simpa using hC
      rw[if_pos hA]at hS;have ht:((x.toNat:Int)==(c.toNat:Int))=true:=by rw[hA];simp
      have hB:=za hS;clear hS HS hd hx hA hC
      go_wp2_with fail
      go_ret;exact⟨za5 hB.out,rfl⟩
    | false =>
      have hA:¬ x=c:=by simpa using hC
      rw[if_neg hA]at hS
      have ht:((x.toNat:Int)==(c.toNat:Int))=false:=by
       rw[beq_eq_false_iff_ne];intro e;exact hA (UInt8.toNat_inj.1 (by omega))
      have hB:=za hS;clear hS HS hd hx hA hC
      go_wp2_with fail
      go_roundg (gk - 1)
      case measure=>omega
      case rel=>exact⟨n+1,by simp,by omega,by omega,rfl,hB⟩
   have hE:decide ((n:Int)<16)=false:=decide_eq_false (by omega);have hS:=HS.out;rw[List.drop_eq_nil_of_le (show hexes.length≤n from by show 16≤n;omega)]at hS;have hB:Hid (zaz c (hexes.drop (n+1)) (n+1)=R):=za (by rw[List.drop_eq_nil_of_le (show hexes.length≤n+1 from by show 16≤n+1;omega)];exact hS);clear hS HS
   go_wp2_with fail
   go_roundg (gk - 1)
   case measure=>omega
   case rel=>exact⟨n+1,by simp,by omega,by omega,rfl,hB⟩
  have hD:decide ((n:Int)<64)=false:=decide_eq_false (by omega);have hS:=HS.out;rw[List.drop_eq_nil_of_le (show hexes.length≤n from by show 16≤n;omega)]at hS;have hB:=za hS;clear hS HS
  go_wp2_with fail
  go_ret;exact⟨za5 hB.out,rfl⟩
def rUn:Bs→Bs
 | a :: b :: r=>UInt8.ofNat ((16 * zd7 a+zd7 b) % 256).toNat :: rUn r
 | _=>[]
theorem zpv:∀ m:Bs,rUn (zcl m)=m
 | []=>rfl
 | c :: m=>by
   have h8:=c.toNat_lt;have h1:=zks ⟨c.toNat / 16,by omega⟩;have h2:=zks ⟨c.toNat % 16,by omega⟩;simp only at h1 h2;unfold zcl rUn;rw[h1,h2,zpv m]
   congr 1
   rw[show((16 * ((c.toNat / 16:Nat):Int)+((c.toNat % 16:Nat):Int)) % 256).toNat=c.toNat by omega];simp
theorem zpu:∀ s:Bs,(rUn s).length≤s.length
 | []=>zt _
 | [_]=>Nat.zero_le _
 | a :: b :: r=>by
   have:=zpu r;unfold rUn;simp only[zo];omega
def zvo (B:Nat) (r:Option Bs) (e:Ending) (w':World):Prop :=
 match r with
 | some b=>∃ a c,e = .returned (.tuple #[.slice a b.length c,.bool true])∧SB (fun k=>B≤k) b (.slice a b.length c) w'
 | none=>e = .returned (.tuple #[.slice none 0 0,.bool false])
theorem zom (s:Bs) (w:World) (hlen:s.length≤1000000) :
 Calls Tryz.prog 112 #[.string ⟨s.toArray⟩] w fun e w'=>zvo w.heap.size (zd3 s) e w'∧Fr NoB w w':=by
 rw[← zo8 rUn zpv s];have hsz:(ByteArray.mk s.toArray).size=s.length:=rfl;obtain⟨F,hF⟩:∃ F,rUn s=F:=⟨_,rfl⟩;have hO:=zpu s;rw[hF]at hO ⊢;have HG:Hid (([]:Bs)++rUn (s.drop 0)=F):=za (by simpa using hF);have hW:OB w.heap.size [] (.slice none 0 0) w:=⟨rfl,.inl ⟨rfl,rfl⟩⟩;have ht:=za hW;obtain⟨i0,ho,hc,ha,hZ⟩:=info_parts zbk;clear hF hW;go_enter Tryz.func112,Tryz.ntmps112
 go_wp2_with fail
 go_loopg [4,5] (s.length+2) (fun g vo vi wr=>∃ (i:Nat) (out:Bs),vi = .int .i64 i∧i≤s.length+1∧s.length+2≤i+g∧out.length≤i∧Hid (OB w.heap.size out vo wr)∧Hid (Fr NoB w wr)∧Hid (out++rUn (s.drop i)=F))
 case atStart=>exact⟨0,[],rfl,by omega,by omega,zt _,ht,za Fr.refl,HG⟩
 case round =>
  obtain⟨i,out,rfl,hi,hgk,hE,HO,HF,HS⟩:=hrel;have hwB:=HF.out.size;by_cases hn:i+1<s.length
  ·have hN:decide ((i:Int)+1<(s.length:Int))=true:=decide_eq_true (by omega);obtain⟨c1,hQ⟩:∃ c,s[i]? = some c:=⟨_,List.getElem?_eq_getElem (by omega)⟩;obtain⟨c2,hP⟩:∃ c,s[i+1]? = some c:=⟨_,List.getElem?_eq_getElem hn⟩
   have hb1:∀ h,(ByteArray.mk s.toArray)[i]'h=c1:=by
    intro h;obtain⟨h1,h2⟩:=List.getElem?_eq_some_iff.1 hQ;exact h2
   have hU:∀ h,(ByteArray.mk s.toArray)[i+1]'h=c2:=by
    intro h;obtain⟨h1,h2⟩:=List.getElem?_eq_some_iff.1 hP;exact h2
   have hS:=HS.out;rw[zc2 hQ,zc2 hP,rUn]at hS;have hM:=fun W=>zp3 c1 W
   have hL:=fun W=>zp3 c2 W
   obtain⟨l1,l2⟩:=ze1 c1 hexes 0 (by decide);obtain⟨l3,l4⟩:=ze1 c2 hexes 0 (by decide);change -1≤zd7 c1 at l1;change zd7 c1≤15 at l2;change -1≤zd7 c2 at l3;change zd7 c2≤15 at l4;obtain⟨p1,hT⟩:∃ p,zd7 c1=p:=⟨_,rfl⟩;obtain⟨p2,hR⟩:∃ p,zd7 c2=p:=⟨_,rfl⟩;rw[hT]at hS hM l1 l2;rw[hR]at hS hL l3 l4;obtain⟨y,hy⟩:∃ y,UInt8.ofNat ((16 * p1+p2) % 256).toNat=y:=⟨_,rfl⟩;rw[hy]at hS
   have hm:IntKind.u8.wrap (16 * p1+p2)=(y.toNat:Int):=by
    rw[← hy]
    have:(UInt8.ofNat ((16 * p1+p2) % 256).toNat).toNat=((16 * p1+p2) % 256).toNat:=by
     rw[UInt8.toNat_ofNat'];omega
    rw[this];simp[IntKind.wrap,IntKind.signed,IntKind.bits];omega
   have hl:IntKind.i64.wrap (16 * p1)=16 * p1:=IntWalk.i64_in _ (by omega);have hk:IntKind.i64.wrap (16 * p1+p2)=16 * p1+p2:=IntWalk.i64_in _ (by omega);have hj:IntKind.i64.wrap ((i:Int)+1)=(i:Int)+1:=IntWalk.i64_in _ (by omega);have hh:(0:Int)≤(i:Int)+1:=by omega
   have hg:((i:Int)+1).toNat=i+1:=by omega
   have hf:(i:Int)+1<(s.length:Int):=by omega
   have he:(i:Int)<(s.length:Int):=by omega
   have hr:=za hS;have hq:=za hM;have hp:=za hL;obtain⟨ao,co,hJ⟩:=HO.out.form;subst hJ;have hH:=za hE;clear hQ hP hS HS hM hL hT hR hy hE
   go_upto_region 5 with(fail)
   refine wp_region_held_drew (S:=fun _=>True) (by kernel_rfl) trivial (fun hA=>?_);simp only[qV]
   iterate 4
    refine qt (v:=?_) rfl (zv ⟨by rfl,?_⟩) hA ?_;rotate_left
    ·intro W hD
     try simp only[qQ]
     go_simp
     try rw[if_neg (by omega)]
     try with_reducible rfl
    try simp only[Act.put,qP]
   refine qi (i:=6) (v:=?_) rfl (zv ⟨by rfl,?_⟩) hA ?_;rotate_left
   ·intro W hD
    try simp only[qQ]
    go_simp
    try rw[if_neg (by omega)]
    try with_reducible rfl
   try simp only[Act.put,qP]
   refine qi (i:=7) (v:=?_) rfl (zv ⟨by rfl,?_⟩) hA ?_;rotate_left
   ·intro W hD
    try simp only[qQ]
    go_simp
    try rw[if_neg (by omega)]
    try with_reducible rfl
   try simp only[Act.put,qP]
   refine qi (i:=8) (v:=?_) rfl (zv ⟨by rfl,?_⟩) hA ?_;rotate_left
   ·intro W hD
    try simp only[qQ]
    go_simp
    try rw[if_neg (by omega)]
    try with_reducible rfl
   try simp only[Act.put,qP]
   refine qi (i:=9) (v:=?_) rfl (zv ⟨by rfl,?_⟩) hA ?_;rotate_left
   ·intro W hD
    try simp only[qQ]
    go_simp
    try rw[if_neg (by omega)]
    try with_reducible rfl
   try simp only[Act.put,qP]
   refine qr (i:=4) (by kernel_rfl) rfl (fun K hK=>?_)
   try simp only[qQ]
   go_simp;refine(hq.out _).mono ?_;rintro e w1 ⟨rfl,rfl⟩;refine hK.out _ _ trivial (fun hA=>?_);clear hK K
   try simp only[Act.put,qP]
   refine qt (v:=?_) rfl (zv ⟨by rfl,?_⟩) hA ?_;rotate_left
   ·intro W hD
    try simp only[qQ]
    go_simp
    try rw[if_neg (by omega)]
    try with_reducible rfl
   try simp only[Act.put,qP]
   refine qr (i:=10) (by kernel_rfl) rfl (fun K hK=>?_)
   try simp only[qQ]
   go_simp;refine(hp.out _).mono ?_;rintro e w1 ⟨rfl,rfl⟩;refine hK.out _ _ trivial (fun hA=>?_);clear hK K
   try simp only[Act.put,qP]
   iterate 2
    refine qt (v:=?_) rfl (zv ⟨by rfl,?_⟩) hA ?_;rotate_left
    ·intro W hD
     try simp only[qQ]
     go_simp
     try rw[if_neg (by omega)]
     try with_reducible rfl
    try simp only[Act.put,qP]
   refine qr (i:=13) (by kernel_rfl) rfl (fun K hK=>?_)
   try simp only[qQ]
   go_simp;refine hK.out _ _ trivial (fun hA=>?_);clear hK K
   try simp only[Act.put,qP]
   refine qr (i:=14) (by kernel_rfl) rfl (fun K hK=>?_)
   try simp only[qQ]
   rw[if_pos (by rfl)];refine zet (.tmp 13) (.tmp 26) 36 (by rfl) w.heap.size 5 i0 (zy z6 0) 1 1 Tryz.underlying36 ho hc ha hZ rfl (by decide) (.slice ao out.length co) out.length (zb out) (by rfl) (by exact HO.out.alloc (.cells #[.int .u8 y.toNat] 5)) ⟨wr.heap.size,0,none⟩ 1 1 [.int .u8 y.toNat] (by rfl) rfl (by exact zdm wr 5 [.int .u8 y.toNat] _ rfl) (by simp[Value.oneCell']) (by have:=hH.out;unfold maxLen;omega) (by have:=hH.out;omega) (by simp;omega) ?_;intro v' w2 hB hC;refine hK.out _ _ trivial (fun hA=>?_);clear hK K
   try simp only[Act.put,qP]
   obtain⟨hV,hY⟩:=HO.out.push (news:=[y]) (Fr.refl.alloc (.cells #[.int .u8 y.toNat] 5)).drew hB hC;have hs:=za hV;have hu:=za (HF.out.trans hY (fun _ _ h => .inr h));clear hB hC hV hY hm hl hk hj hh hg hf he;refine qt (v:=?_) rfl (zv ⟨by rfl,?_⟩) hA ?_;rotate_left
   ·intro W hD
    try simp only[qQ]
    go_simp
    try rw[if_neg (by omega)]
    try with_reducible rfl
   try simp only[Act.put,qP]
   refine wpAnyH_done (by kernel_rfl) ?_ _;clear hA
   go_wp2_with fail
   go_roundg (gk - 1)
   case measure=>omega
   case rel=>exact⟨i+2,out++[y],by simp,by omega,by omega,by have:=hH.out;simp;omega,hs,hu,by have:=hr.out;simpa using za this⟩
  have hN:decide ((i:Int)+1<(s.length:Int))=false:=decide_eq_false (by omega);have hS:=HS.out
  have hd:rUn (s.drop i)=[]:=by
   rcases hx:s.drop i with _ | ⟨a,_ | ⟨b,r⟩⟩
   ·rfl
   ·rfl
   have:=congrArg List.length hx;rw[List.length_drop]at this;simp only[zo]at this;omega
  rw[hd,List.append_nil]at hS;subst hS;have hx:=fun W (h:Fr NoB wr W)=>znf (fun k=>w.heap.size≤k) out _ W (HO.out.sb.fr h (fun _ _ _ _ h=>h)) (by omega)
  obtain⟨ao,co,hJ⟩:=HO.out.form;subst hJ;obtain⟨X,hX⟩:∃ X,zcl out=X:=⟨_,rfl⟩;have hH:=za hE;rw[hX]at hx;have Hx:=za hx;have HX:=za hX;cases hb:(X==s) with
  | true =>
    have hU:(X != s)=false:=by rw[bne,hb];rfl
    have Hb:Hid (zcl out=s):=za (by rw[hX];simpa using hb);clear hd hx hX hE HS hO
    go_wp2_with fail
    refine(Hx.out _ Fr.refl).mono ?_;rintro e w1 ⟨rfl,hG⟩;have hI:=za hG;clear hG
    go_wp2_with fail
    go_ret2
    try rw[if_pos Hb.out]
    exact⟨⟨ao,co,rfl,HO.out.sb.fr hI.out (fun _ _ _ _ h=>h)⟩,HF.out.trans' hI.out⟩
  | false =>
    have hU:(X != s)=true:=by rw[bne,hb];rfl
    have Hb:Hid (¬ zcl out=s):=za (by rw[hX];simpa using hb);clear hd hx hX hE HS hO
    go_wp2_with fail
    refine(Hx.out _ Fr.refl).mono ?_;rintro e w1 ⟨rfl,hG⟩;have hI:=za hG;clear hG
    go_wp2_with fail
    go_ret2
    try rw[if_neg Hb.out]
    exact⟨rfl,HF.out.trans' hI.out⟩
def RSumPost (r:Option Bs) (e:Ending):Prop :=
 match r with
 | some b=>e = .returned (.tuple #[.agg (zb b).toArray,.bool true])
 | none=>e = .returned (.tuple #[.agg #[zy z6 0,zy z6 0,zy z6 0,zy z6 0,zy z6 0,zy z6 0,zy z6 0,zy z6 0,zy z6 0,zy z6 0,zy z6 0,zy z6 0,zy z6 0,zy z6 0,zy z6 0,zy z6 0,zy z6 0,zy z6 0,zy z6 0,zy z6 0,zy z6 0,zy z6 0,zy z6 0,zy z6 0,zy z6 0,zy z6 0,zy z6 0,zy z6 0,zy z6 0,zy z6 0,zy z6 0,zy z6 0],.bool false])
theorem zsb (s:Bs) (w:World) (hlen:s.length≤1000000) :
 Calls Tryz.prog 61 #[.string ⟨s.toArray⟩] w fun e w'=>RSumPost (zj6 s) e∧Fr NoB w w':=by
 have hc:=fun W=>zom s W hlen
 unfold zj6;obtain⟨U,hU⟩:∃ U,zd3 s=U:=⟨_,rfl⟩;rw[hU]at hc ⊢;have Hc:=za hc;clear hc hU
 have hA:((w.alloc (.cells #[zy z6 0,zy z6 0,zy z6 0,zy z6 0,zy z6 0,zy z6 0,zy z6 0,zy z6 0,zy z6 0,zy z6 0,zy z6 0,zy z6 0,zy z6 0,zy z6 0,zy z6 0,zy z6 0,zy z6 0,zy z6 0,zy z6 0,zy z6 0,zy z6 0,zy z6 0,zy z6 0,zy z6 0,zy z6 0,zy z6 0,zy z6 0,zy z6 0,zy z6 0,zy z6 0,zy z6 0,zy z6 0] 23)).alloc (.cells #[zy z6 0,zy z6 0,zy z6 0,zy z6 0,zy z6 0,zy z6 0,zy z6 0,zy z6 0,zy z6 0,zy z6 0,zy z6 0,zy z6 0,zy z6 0,zy z6 0,zy z6 0,zy z6 0,zy z6 0,zy z6 0,zy z6 0,zy z6 0,zy z6 0,zy z6 0,zy z6 0,zy z6 0,zy z6 0,zy z6 0,zy z6 0,zy z6 0,zy z6 0,zy z6 0,zy z6 0,zy z6 0] 23)).heap[w.heap.size]? = some (.cells #[zy z6 0,zy z6 0,zy z6 0,zy z6 0,zy z6 0,zy z6 0,zy z6 0,zy z6 0,zy z6 0,zy z6 0,zy z6 0,zy z6 0,zy z6 0,zy z6 0,zy z6 0,zy z6 0,zy z6 0,zy z6 0,zy z6 0,zy z6 0,zy z6 0,zy z6 0,zy z6 0,zy z6 0,zy z6 0,zy z6 0,zy z6 0,zy z6 0,zy z6 0,zy z6 0,zy z6 0,zy z6 0] 23 (0,0)):=by
  rw[Below.heap_alloc _ _ _ (by rw[zf];omega)];exact heap_alloc_new w _
 have hD:((w.alloc (.cells #[zy z6 0,zy z6 0,zy z6 0,zy z6 0,zy z6 0,zy z6 0,zy z6 0,zy z6 0,zy z6 0,zy z6 0,zy z6 0,zy z6 0,zy z6 0,zy z6 0,zy z6 0,zy z6 0,zy z6 0,zy z6 0,zy z6 0,zy z6 0,zy z6 0,zy z6 0,zy z6 0,zy z6 0,zy z6 0,zy z6 0,zy z6 0,zy z6 0,zy z6 0,zy z6 0,zy z6 0,zy z6 0] 23)).alloc (.cells #[zy z6 0,zy z6 0,zy z6 0,zy z6 0,zy z6 0,zy z6 0,zy z6 0,zy z6 0,zy z6 0,zy z6 0,zy z6 0,zy z6 0,zy z6 0,zy z6 0,zy z6 0,zy z6 0,zy z6 0,zy z6 0,zy z6 0,zy z6 0,zy z6 0,zy z6 0,zy z6 0,zy z6 0,zy z6 0,zy z6 0,zy z6 0,zy z6 0,zy z6 0,zy z6 0,zy z6 0,zy z6 0] 23)).heap[w.heap.size+1]? = some (.cells #[zy z6 0,zy z6 0,zy z6 0,zy z6 0,zy z6 0,zy z6 0,zy z6 0,zy z6 0,zy z6 0,zy z6 0,zy z6 0,zy z6 0,zy z6 0,zy z6 0,zy z6 0,zy z6 0,zy z6 0,zy z6 0,zy z6 0,zy z6 0,zy z6 0,zy z6 0,zy z6 0,zy z6 0,zy z6 0,zy z6 0,zy z6 0,zy z6 0,zy z6 0,zy z6 0,zy z6 0,zy z6 0] 23 (0,0)):=by
  have:=heap_alloc_new (w.alloc (.cells #[zy z6 0,zy z6 0,zy z6 0,zy z6 0,zy z6 0,zy z6 0,zy z6 0,zy z6 0,zy z6 0,zy z6 0,zy z6 0,zy z6 0,zy z6 0,zy z6 0,zy z6 0,zy z6 0,zy z6 0,zy z6 0,zy z6 0,zy z6 0,zy z6 0,zy z6 0,zy z6 0,zy z6 0,zy z6 0,zy z6 0,zy z6 0,zy z6 0,zy z6 0,zy z6 0,zy z6 0,zy z6 0] 23)) (.cells #[zy z6 0,zy z6 0,zy z6 0,zy z6 0,zy z6 0,zy z6 0,zy z6 0,zy z6 0,zy z6 0,zy z6 0,zy z6 0,zy z6 0,zy z6 0,zy z6 0,zy z6 0,zy z6 0,zy z6 0,zy z6 0,zy z6 0,zy z6 0,zy z6 0,zy z6 0,zy z6 0,zy z6 0,zy z6 0,zy z6 0,zy z6 0,zy z6 0,zy z6 0,zy z6 0,zy z6 0,zy z6 0] 23)
  rwa [zf]at this
 have hF:Fr NoB w ((w.alloc (.cells #[zy z6 0,zy z6 0,zy z6 0,zy z6 0,zy z6 0,zy z6 0,zy z6 0,zy z6 0,zy z6 0,zy z6 0,zy z6 0,zy z6 0,zy z6 0,zy z6 0,zy z6 0,zy z6 0,zy z6 0,zy z6 0,zy z6 0,zy z6 0,zy z6 0,zy z6 0,zy z6 0,zy z6 0,zy z6 0,zy z6 0,zy z6 0,zy z6 0,zy z6 0,zy z6 0,zy z6 0,zy z6 0] 23)).alloc (.cells #[zy z6 0,zy z6 0,zy z6 0,zy z6 0,zy z6 0,zy z6 0,zy z6 0,zy z6 0,zy z6 0,zy z6 0,zy z6 0,zy z6 0,zy z6 0,zy z6 0,zy z6 0,zy z6 0,zy z6 0,zy z6 0,zy z6 0,zy z6 0,zy z6 0,zy z6 0,zy z6 0,zy z6 0,zy z6 0,zy z6 0,zy z6 0,zy z6 0,zy z6 0,zy z6 0,zy z6 0,zy z6 0] 23)):=(Fr.refl.alloc _).alloc _;have hG:((w.alloc (.cells #[zy z6 0,zy z6 0,zy z6 0,zy z6 0,zy z6 0,zy z6 0,zy z6 0,zy z6 0,zy z6 0,zy z6 0,zy z6 0,zy z6 0,zy z6 0,zy z6 0,zy z6 0,zy z6 0,zy z6 0,zy z6 0,zy z6 0,zy z6 0,zy z6 0,zy z6 0,zy z6 0,zy z6 0,zy z6 0,zy z6 0,zy z6 0,zy z6 0,zy z6 0,zy z6 0,zy z6 0,zy z6 0] 23)).alloc (.cells #[zy z6 0,zy z6 0,zy z6 0,zy z6 0,zy z6 0,zy z6 0,zy z6 0,zy z6 0,zy z6 0,zy z6 0,zy z6 0,zy z6 0,zy z6 0,zy z6 0,zy z6 0,zy z6 0,zy z6 0,zy z6 0,zy z6 0,zy z6 0,zy z6 0,zy z6 0,zy z6 0,zy z6 0,zy z6 0,zy z6 0,zy z6 0,zy z6 0,zy z6 0,zy z6 0,zy z6 0,zy z6 0] 23)).heap.size=w.heap.size+2:=by rw[zf,zf]
 have H32:=za (show((#[zy z6 0,zy z6 0,zy z6 0,zy z6 0,zy z6 0,zy z6 0,zy z6 0,zy z6 0,zy z6 0,zy z6 0,zy z6 0,zy z6 0,zy z6 0,zy z6 0,zy z6 0,zy z6 0,zy z6 0,zy z6 0,zy z6 0,zy z6 0,zy z6 0,zy z6 0,zy z6 0,zy z6 0,zy z6 0,zy z6 0,zy z6 0,zy z6 0,zy z6 0,zy z6 0,zy z6 0,zy z6 0]:Array Value).all (·.oneCell'))=true by simp[Value.oneCell']);cases U with
 | none =>
   go_enter Tryz.func61,Tryz.ntmps61
   go_upto_region 2 with(fail)
   change Code.wp _ _ _ _ ((w.alloc (.cells #[zy z6 0,zy z6 0,zy z6 0,zy z6 0,zy z6 0,zy z6 0,zy z6 0,zy z6 0,zy z6 0,zy z6 0,zy z6 0,zy z6 0,zy z6 0,zy z6 0,zy z6 0,zy z6 0,zy z6 0,zy z6 0,zy z6 0,zy z6 0,zy z6 0,zy z6 0,zy z6 0,zy z6 0,zy z6 0,zy z6 0,zy z6 0,zy z6 0,zy z6 0,zy z6 0,zy z6 0,zy z6 0] 23)).alloc (.cells #[zy z6 0,zy z6 0,zy z6 0,zy z6 0,zy z6 0,zy z6 0,zy z6 0,zy z6 0,zy z6 0,zy z6 0,zy z6 0,zy z6 0,zy z6 0,zy z6 0,zy z6 0,zy z6 0,zy z6 0,zy z6 0,zy z6 0,zy z6 0,zy z6 0,zy z6 0,zy z6 0,zy z6 0,zy z6 0,zy z6 0,zy z6 0,zy z6 0,zy z6 0,zy z6 0,zy z6 0,zy z6 0] 23));obtain⟨W,hW⟩:∃ W,(w.alloc (.cells #[zy z6 0,zy z6 0,zy z6 0,zy z6 0,zy z6 0,zy z6 0,zy z6 0,zy z6 0,zy z6 0,zy z6 0,zy z6 0,zy z6 0,zy z6 0,zy z6 0,zy z6 0,zy z6 0,zy z6 0,zy z6 0,zy z6 0,zy z6 0,zy z6 0,zy z6 0,zy z6 0,zy z6 0,zy z6 0,zy z6 0,zy z6 0,zy z6 0,zy z6 0,zy z6 0,zy z6 0,zy z6 0] 23)).alloc (.cells #[zy z6 0,zy z6 0,zy z6 0,zy z6 0,zy z6 0,zy z6 0,zy z6 0,zy z6 0,zy z6 0,zy z6 0,zy z6 0,zy z6 0,zy z6 0,zy z6 0,zy z6 0,zy z6 0,zy z6 0,zy z6 0,zy z6 0,zy z6 0,zy z6 0,zy z6 0,zy z6 0,zy z6 0,zy z6 0,zy z6 0,zy z6 0,zy z6 0,zy z6 0,zy z6 0,zy z6 0,zy z6 0] 23)=W:=⟨_,rfl⟩;rw[hW]at hA hD hF hG ⊢;obtain⟨r,hr⟩:∃ r,w.heap.size=r:=⟨_,rfl⟩;obtain⟨d,hd⟩:∃ d,r+1=d:=⟨_,rfl⟩;have hj:w.heap.size≤r:=by omega
   rw[hr]at hA hD hG;rw[hr,hd];rw[hd]at hD;have hn:r<d:=by omega
   have hq:d<W.heap.size:=by omega
   have HA:=za hA;have HD:=za hD;have HF:=za hF;clear hW hr hd hA hD hF hG
   go_wp2_with fail
   refine(Hc.out _).mono ?_;rintro e w1 ⟨hp,hB⟩;obtain rfl:e=_:=hp;have hI:=hB.block _ _ HA.out (fun h=>h);have hH:=hB.block _ _ HD.out (fun h=>h);obtain⟨L,hL⟩:∃ L,zb jo=L:=⟨_,rfl⟩;have hC:w1.rangeAt d 0 L:=by rw[← hL];exact jg hH
   have hl:L.length=32:=by rw[← hL];rfl
   have hJ:=za hC;have hE:=za (show w1.there r 0 L.toArray.size from jr hI (by rw[zn,hl];exact zt _));have hR:=za (HF.out.trans' hB);have hQ:=za (show L.toArray.all (·.oneCell')=true by rw[← hL];exact all_oneCell_toArray (j0 _));have HL:=za hL;have HZ:=za (show(Tryz.prog.info? 23).map (·.size)=some L.length by rw[jz,hl]);have hP:=za (show(Tryz.prog.info? 23).map (·.size)=some L.toArray.size by rw[jz,zn,hl]);clear hL hl
   go_wp2_with(first | ((with_reducible refine wpList_load_mid ?_ 23 _ rfl d 0 ?_ L (.array 32 5) hJ.out ji ?_ HZ.out ?_);rfl;rfl;rfl) | ((with_reducible refine wpList_store_mid ?_ 23 _ _ rfl r 0 L.toArray ?_ ?_ hE.out hP.out hQ.out ?_);rfl;rfl;rfl))
   have hN:=run_loadVar_mid (P:=Tryz.prog) _ r 0 23 L (.array 32 5) (zg _ r 0 L (by simpa using hE.out)) ji rfl HZ.out;refine bodyPost_ret (v := .tuple #[.agg L.toArray,.bool false]) ?_ rfl ⟨?_,hR.out.trans (jd _ _ _ _) (fun k _ hm => .inr (by omega))⟩
   ·rw[results_cell_tmp rfl];simp[asAddr,Result.andThen,hN,Act.put]
   rw[← HL.out];rfl
 | some b =>
   simp only;by_cases hO:b.length=32
   ·rw [if_pos hO];have H:=za hO;clear hO;go_enter Tryz.func61,Tryz.ntmps61
    go_upto_region 2 with(fail)
    change Code.wp _ _ _ _ ((w.alloc (.cells #[zy z6 0,zy z6 0,zy z6 0,zy z6 0,zy z6 0,zy z6 0,zy z6 0,zy z6 0,zy z6 0,zy z6 0,zy z6 0,zy z6 0,zy z6 0,zy z6 0,zy z6 0,zy z6 0,zy z6 0,zy z6 0,zy z6 0,zy z6 0,zy z6 0,zy z6 0,zy z6 0,zy z6 0,zy z6 0,zy z6 0,zy z6 0,zy z6 0,zy z6 0,zy z6 0,zy z6 0,zy z6 0] 23)).alloc (.cells #[zy z6 0,zy z6 0,zy z6 0,zy z6 0,zy z6 0,zy z6 0,zy z6 0,zy z6 0,zy z6 0,zy z6 0,zy z6 0,zy z6 0,zy z6 0,zy z6 0,zy z6 0,zy z6 0,zy z6 0,zy z6 0,zy z6 0,zy z6 0,zy z6 0,zy z6 0,zy z6 0,zy z6 0,zy z6 0,zy z6 0,zy z6 0,zy z6 0,zy z6 0,zy z6 0,zy z6 0,zy z6 0] 23));obtain⟨W,hW⟩:∃ W,(w.alloc (.cells #[zy z6 0,zy z6 0,zy z6 0,zy z6 0,zy z6 0,zy z6 0,zy z6 0,zy z6 0,zy z6 0,zy z6 0,zy z6 0,zy z6 0,zy z6 0,zy z6 0,zy z6 0,zy z6 0,zy z6 0,zy z6 0,zy z6 0,zy z6 0,zy z6 0,zy z6 0,zy z6 0,zy z6 0,zy z6 0,zy z6 0,zy z6 0,zy z6 0,zy z6 0,zy z6 0,zy z6 0,zy z6 0] 23)).alloc (.cells #[zy z6 0,zy z6 0,zy z6 0,zy z6 0,zy z6 0,zy z6 0,zy z6 0,zy z6 0,zy z6 0,zy z6 0,zy z6 0,zy z6 0,zy z6 0,zy z6 0,zy z6 0,zy z6 0,zy z6 0,zy z6 0,zy z6 0,zy z6 0,zy z6 0,zy z6 0,zy z6 0,zy z6 0,zy z6 0,zy z6 0,zy z6 0,zy z6 0,zy z6 0,zy z6 0,zy z6 0,zy z6 0] 23)=W:=⟨_,rfl⟩;rw[hW]at hA hD hF hG ⊢;obtain⟨r,hr⟩:∃ r,w.heap.size=r:=⟨_,rfl⟩;obtain⟨d,hd⟩:∃ d,r+1=d:=⟨_,rfl⟩;have hj:w.heap.size≤r:=by omega
    rw[hr]at hA hD hG;rw[hr,hd];rw[hd]at hD;have hn:r<d:=by omega
    have hq:d<W.heap.size:=by omega
    have HA:=za hA;have HD:=za hD;have HF:=za hF;clear hW hr hd hA hD hF hG
    go_wp2_with fail
    refine(Hc.out _).mono ?_;rintro e w1 ⟨⟨a,c,rfl,hK⟩,hB⟩;have hI:=hB.block _ _ HA.out (fun h=>h);have hH:=hB.block _ _ HD.out (fun h=>h);obtain⟨g,o,c',e1,-,hgW,-,-⟩:=hK.cellsAt (by intro h;have:=H.out;rw[h]at this;simp at this);obtain⟨rfl,rfl⟩:a=some ⟨g,o,none⟩∧c=c':=by simpa using e1
    have hb:((b.length:Int) != 32)=false:=by rw[H.out];rfl
    have hC:w1.rangeAt d 0 (zb (b.take 0)++zb (List.replicate (32 - 0) 0)):=jg hH;have hJ:=za hC;have hE:=za (show w1.there r 0 32 from jr hI (zt _));have hw:=za (show w1.there d 0 32 from jr hH (zt _));have hR:=za (HF.out.trans' hB);have Hsb:=za hK;have hsz1:=hB.size;clear hB hI hH hC hK e1
    go_wp2_with fail
    go_loopg [7] 33 (fun gf vi wr=>∃ i:Nat,vi = .int .i64 i∧i≤32∧i+gf=33∧Hid (Fr NoB w wr)∧Hid (wr.rangeAt d 0 (zb (b.take i)++zb (List.replicate (32 - i) 0)))∧Hid (wr.there r 0 32)∧Hid (wr.there d 0 32)∧Hid (SB (fun k=>W.heap.size≤k) b (.slice (some ⟨g,o,none⟩) b.length c) wr))
    case atStart=>exact⟨0,rfl,by omega,by omega,hR,hJ,hE,hw,Hsb⟩
    case round =>
     obtain⟨i,rfl,hi,hig,hg,hX,hS,hT,hV⟩:=hrel;by_cases ht:i<32
     ·have hY:decide ((i:Int)<32)=true:=decide_eq_true (by omega);have hu:i<b.length:=by rw[H.out];exact ht
      obtain⟨x,hx⟩:∃ x,b[i]? = some x:=⟨_,List.getElem?_eq_getElem hu⟩;obtain⟨g',o',he,e1,k1⟩:=hV.out.at hx;obtain⟨⟨rfl,rfl⟩,rfl⟩:(g=g'∧o=o')∧c=he:=by simpa using e1
      have ho:(zb (b.take i)).length=i:=by rw[ja,List.length_take];omega
      have hM:zb (List.replicate (32 - i) 0)=[zy z6 0]++zb (List.replicate (32 - (i+1)) 0):=by
       rw[show 32 - i=(32 - (i+1))+1 by omega,List.replicate_succ];rfl
      have hZ:=hX.out;rw[hM]at hZ;have ha:=zap (zb (b.take i)) [zy z6 0] (zb (List.replicate (32 - (i+1)) 0)) [.int .u8 x.toNat] hZ rfl;rw[ho]at ha
      have hh:zb (b.take (i+1))=zb (b.take i)++[.int .u8 x.toNat]:=by
       rw[List.take_add_one,hx];simp[zb]
      have hs:(wr.setCell ⟨d,i,none⟩ (.int .u8 x.toNat)).rangeAt d 0 (zb (b.take (i+1))++zb (List.replicate (32 - (i+1)) 0)):=by
       rw[hh,List.append_assoc];exact ha
      have h0:=za hs;have kd:=(hT.out i (by omega));rw[Nat.zero_add]at kd;obtain⟨vd,hvd⟩:=Option.isSome_iff_exists.1 kd.1;have hfd:=kd.2;have hib2:(i:Int)<b.length:=by omega
      have hy:=za (qf hS.out d i (.int .u8 x.toNat));have hf:=za (qf hT.out d i (.int .u8 x.toNat));have h1:=za (hg.out.setNew ⟨d,i,none⟩ (.int .u8 x.toNat) (by show w.heap.size≤d;omega));have hz:=za (hV.out.fr ((Fr.refl (M:=fun k _=>k=d)).setCell ⟨d,i,none⟩ (.int .u8 x.toNat) (fun _ _=>rfl)) (fun k _ hk _ hm=>by omega));clear hZ ha hs hh hM ho e1 hx kd hX hS hT hV hg
      go_wp2_with fail
      go_roundg (gk - 1)
      case measure=>omega
      case rel=>exact⟨i+1,by simp,by omega,by omega,h1,h0,hy,hf,hz⟩
     obtain rfl:i=32:=by omega
     obtain⟨L,hL⟩:∃ L,zb b=L:=⟨_,rfl⟩
     have hC:wr.rangeAt d 0 L:=by
      have:=hX.out;rw[List.take_of_length_le (by rw[H.out];exact zt _)]at this;rw[← hL];simpa[zb] using this
     have hl:L.length=32:=by rw[← hL,ja,H.out]
     have hJ:=za hC;have hE:=za (show wr.there r 0 L.toArray.size by rw[zn,hl];exact hS.out);have hQ:=za (show L.toArray.all (·.oneCell')=true by rw[← hL];exact all_oneCell_toArray (j0 _));have hY:decide ((32:Int)<32)=false:=rfl;clear hC hX hS hT hV;have HL:=za hL;have HZ:=za (show(Tryz.prog.info? 23).map (·.size)=some L.length by rw[jz,hl]);have hP:=za (show(Tryz.prog.info? 23).map (·.size)=some L.toArray.size by rw[jz,zn,hl]);clear hL hl
     go_wp2_with(first | ((with_reducible refine wpList_load_mid ?_ 23 _ rfl d 0 ?_ L (.array 32 5) hJ.out ji ?_ HZ.out ?_);rfl;rfl;rfl) | ((with_reducible refine wpList_store_mid ?_ 23 _ _ rfl r 0 L.toArray ?_ ?_ hE.out hP.out hQ.out ?_);rfl;rfl;rfl))
     have hN:=run_loadVar_mid (P:=Tryz.prog) _ r 0 23 L (.array 32 5) (zg _ r 0 L (by simpa using hE.out)) ji rfl HZ.out;refine bodyPost_ret (v := .tuple #[.agg L.toArray,.bool true]) ?_ rfl ⟨?_,hg.out.trans (jd _ _ _ _) (fun k _ hm => .inr (by omega))⟩
     ·rw[results_cell_tmp rfl];simp[asAddr,Result.andThen,hN,Act.put]
     rw[← HL.out];rfl
   rw[if_neg hO];have hb:((b.length:Int) != 32)=true:=by simp;omega
   have h32n:(b.length != 32)=true:=by simp;omega
   clear hO;go_enter Tryz.func61,Tryz.ntmps61
   go_upto_region 2 with(fail)
   change Code.wp _ _ _ _ ((w.alloc (.cells #[zy z6 0,zy z6 0,zy z6 0,zy z6 0,zy z6 0,zy z6 0,zy z6 0,zy z6 0,zy z6 0,zy z6 0,zy z6 0,zy z6 0,zy z6 0,zy z6 0,zy z6 0,zy z6 0,zy z6 0,zy z6 0,zy z6 0,zy z6 0,zy z6 0,zy z6 0,zy z6 0,zy z6 0,zy z6 0,zy z6 0,zy z6 0,zy z6 0,zy z6 0,zy z6 0,zy z6 0,zy z6 0] 23)).alloc (.cells #[zy z6 0,zy z6 0,zy z6 0,zy z6 0,zy z6 0,zy z6 0,zy z6 0,zy z6 0,zy z6 0,zy z6 0,zy z6 0,zy z6 0,zy z6 0,zy z6 0,zy z6 0,zy z6 0,zy z6 0,zy z6 0,zy z6 0,zy z6 0,zy z6 0,zy z6 0,zy z6 0,zy z6 0,zy z6 0,zy z6 0,zy z6 0,zy z6 0,zy z6 0,zy z6 0,zy z6 0,zy z6 0] 23));obtain⟨W,hW⟩:∃ W,(w.alloc (.cells #[zy z6 0,zy z6 0,zy z6 0,zy z6 0,zy z6 0,zy z6 0,zy z6 0,zy z6 0,zy z6 0,zy z6 0,zy z6 0,zy z6 0,zy z6 0,zy z6 0,zy z6 0,zy z6 0,zy z6 0,zy z6 0,zy z6 0,zy z6 0,zy z6 0,zy z6 0,zy z6 0,zy z6 0,zy z6 0,zy z6 0,zy z6 0,zy z6 0,zy z6 0,zy z6 0,zy z6 0,zy z6 0] 23)).alloc (.cells #[zy z6 0,zy z6 0,zy z6 0,zy z6 0,zy z6 0,zy z6 0,zy z6 0,zy z6 0,zy z6 0,zy z6 0,zy z6 0,zy z6 0,zy z6 0,zy z6 0,zy z6 0,zy z6 0,zy z6 0,zy z6 0,zy z6 0,zy z6 0,zy z6 0,zy z6 0,zy z6 0,zy z6 0,zy z6 0,zy z6 0,zy z6 0,zy z6 0,zy z6 0,zy z6 0,zy z6 0,zy z6 0] 23)=W:=⟨_,rfl⟩;rw[hW]at hA hD hF hG ⊢;obtain⟨r,hr⟩:∃ r,w.heap.size=r:=⟨_,rfl⟩;obtain⟨d,hd⟩:∃ d,r+1=d:=⟨_,rfl⟩;have hj:w.heap.size≤r:=by omega
   rw[hr]at hA hD hG;rw[hr,hd];rw[hd]at hD;have hn:r<d:=by omega
   have hq:d<W.heap.size:=by omega
   have HA:=za hA;have HD:=za hD;have HF:=za hF;clear hW hr hd hA hD hF hG
   go_wp2_with fail
   refine(Hc.out _).mono ?_;rintro e w1 ⟨⟨a,c,rfl,hK⟩,hB⟩;have hI:=hB.block _ _ HA.out (fun h=>h);have hH:=hB.block _ _ HD.out (fun h=>h);obtain⟨L,hL⟩:∃ L,zb jo=L:=⟨_,rfl⟩;have hC:w1.rangeAt d 0 L:=by rw[← hL];exact jg hH
   have hl:L.length=32:=by rw[← hL];rfl
   have hJ:=za hC;have hE:=za (show w1.there r 0 L.toArray.size from jr hI (by rw[zn,hl];exact zt _));have hR:=za (HF.out.trans' hB);have hQ:=za (show L.toArray.all (·.oneCell')=true by rw[← hL];exact all_oneCell_toArray (j0 _));clear hK hB hI hH hC;have HL:=za hL;have HZ:=za (show(Tryz.prog.info? 23).map (·.size)=some L.length by rw[jz,hl]);have hP:=za (show(Tryz.prog.info? 23).map (·.size)=some L.toArray.size by rw[jz,zn,hl]);clear hL hl
   go_wp2_with(first | ((with_reducible refine wpList_load_mid ?_ 23 _ rfl d 0 ?_ L (.array 32 5) hJ.out ji ?_ HZ.out ?_);rfl;rfl;rfl) | ((with_reducible refine wpList_store_mid ?_ 23 _ _ rfl r 0 L.toArray ?_ ?_ hE.out hP.out hQ.out ?_);rfl;rfl;rfl))
   have hN:=run_loadVar_mid (P:=Tryz.prog) _ r 0 23 L (.array 32 5) (zg _ r 0 L (by simpa using hE.out)) ji rfl HZ.out;refine bodyPost_ret (v := .tuple #[.agg L.toArray,.bool false]) ?_ rfl ⟨?_,hR.out.trans (jd _ _ _ _) (fun k _ hm => .inr (by omega))⟩
   ·rw[results_cell_tmp rfl];simp[asAddr,Result.andThen,hN,Act.put]
   rw[← HL.out];rfl
end Go.Proofs.YtcddlemkimbkcaaGreatDoor
