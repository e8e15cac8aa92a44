/-
 The walk of the reference's Hex.
-/
import Derived.Test.YtmgfncjfgkllcaaGreatDoorKNum
import Derived.Test.YtmgfncjfgkllcaaGreatDoorKSpecB64
import Derived.Test.YtmgfncjfgkllcaaGreatDoorKUnhex
import Derived.Test.YtmgfncjfgkllcaaGreatDoorKEnAt
import Derived.OrdersHeld
import Derived.Deep.RegionHeld3
import Derived.Deep.LoopGhost
import Derived.Test.YtmgfncjfgkllcaaGreatDoorKSeen
open Go.Lib renaming hid→za,byteCells→zb
open Go.Proofs.Tryz renaming prog→ze
open Go.World renaming size_alloc→zf,rangeAt_setCells_same→zg
open List renaming size_toArray→zn,length_cons→zo
open Nat renaming le_refl→zt
open Or renaming inl→zv
open Go.Value renaming int→zy
open Go.IntKind renaming u8→z6
namespace Go.Proofs.YtmgfncjfgkllcaaGreatDoor
set_option linter.unusedVariables false
set_option linter.unusedSimpArgs false
set_option linter.unusedSectionVars false
set_option maxRecDepth 100000
set_option maxHeartbeats 4000000
section
open Go.RowKit
variable [OldK]
theorem zls {k:Nat}(hk:k<16):∀ h,(ByteArray.mk #[48,49,50,51,52,53,54,55,56,57,97,98,99,100,101,102])[k]'h=sgn hexes k:=by
 have:k=0∨k=1∨k=2∨k=3∨k=4∨k=5∨k=6∨k=7∨k=8∨k=9∨k=10∨k=11∨k=12∨k=13∨k=14∨k=15:=by omega
 rcases this with rfl | rfl | rfl | rfl | rfl | rfl | rfl | rfl | rfl | rfl | rfl | rfl | rfl | rfl | rfl | rfl
 all_goals exact fun _=>rfl
theorem zbu {P:Program}{o:Oper}{a:Act}{w:World}{K:Act→World→Prop}{Q:Exit→Act→World→Prop}
 (s x:Operand) (t:TypeId) (hop:o.op=Op.call { callee:=Callee.builtin Builtin.append,args:=#[s,x],argTypes:=#[t,t] })
 (base:Nat) (e:TypeId) (i:TypeInfo) (z:Value) (size bytes:Nat) (ht:P.underlying t=some (.slice e)) (hi:P.info? e=some i) (hz:i.zero=some z)
 (hsize:i.size=size) (hby:i.bytes=bytes) (hzs:z.cells.size=size) (hsz:0<size)
 (v:Value) (n:Nat) (xs:List Value) (hs:a.eval s=v) (hown:w.ownsRow base e size v n xs)
 (ad:Addr) (m c:Nat) (news:List Value) (hx:a.eval x = .slice (some ad) m c) (hl:news.length=m * size) (hnews:∀ j u,news[j]? = some u→w.cell? (ad.add j)=some u) (h1:∀ u∈news,u.oneCell'=true)
 (h63:n+m≤maxLen) (hbytes:(n+m) * bytes≤140737488355328) (hbase:base≤w.heap.size)
 (hK:∀ v' w',w'.ownsRow base e size v' (n+m) (xs++news)→w.grownBy w' v.ownBlock→K (a.put o.dst v') w') :
 Oper.wp P o a w K Q:=by
 obtain⟨v',w',hr,ho,hA,_⟩:=zeu (P:=P) w base t o.type e i z size bytes ht hi hz hsize hby hzs hsz v n xs hown ad m c news hl hnews h1 h63 hbytes hbase;unfold Oper.wp execOp;simp only[hop,resolve,invoke,builtin,Sem.run_bind,Sem.run_pure,Result.andThen_ok,List.map_toArray,List.map_cons,List.map_nil,hs,hx,hr];exact hK v' w' ho hA
theorem zwx (S:Nat→Prop) (l:Bs) (v:Value) (w:World) (hv:SB S l v w) (hlen:l.length≤1000000) :
 Calls ze 164 #[v] w fun e w'=>e = .returned (.string ⟨(zdf l).toArray⟩)∧Fr NoB w w':=by
 obtain⟨a,c,rfl⟩:=hv.form;obtain⟨G,hG⟩:∃ G,zdf l=G:=⟨_,rfl⟩;rw[hG];have HG:Hid (([]:Bs)++zdf (l.drop 0)=G):=za (by simpa using hG);have Hv:=za hv;have hU:OB w.heap.size [] (.slice none 0 0) w:=⟨rfl,.inl ⟨rfl,rfl⟩⟩;have hh:=za hU;obtain⟨i0,hb,hY,hX,hW⟩:=info_parts zbp;clear hG hv hU;go_enter Tryz.func164,Tryz.ntmps164
 go_wp2_with fail
 go_loopg [4,5] (l.length+1) (fun g vo vi wr=>∃ (i:Nat) (out:Bs),vi = .int .i64 i∧i≤l.length∧i+g=l.length+1∧out.length=2 * i∧Hid (OB w.heap.size out vo wr)∧Hid (Fr NoB w wr)∧Hid (out++zdf (l.drop i)=G))
 case atStart=>exact⟨0,[],rfl,by omega,by omega,rfl,hh,za Fr.refl,HG⟩
 case round =>
  obtain⟨i,out,rfl,hi,hgk,hD,HO,HF,HS⟩:=hrel;rcases Nat.lt_or_ge i l.length with hlt | hge
  ·obtain ⟨c',hJ⟩:∃ c',l[i]? = some c':=⟨_,List.getElem?_eq_getElem hlt⟩;have hP:=Hv.out.fr HF.out (fun _ _ _ _ h=>h);obtain⟨b,o,hf,hQ,k1⟩:=hP.at hJ;obtain⟨rfl,rfl⟩:a=some ⟨b,o,none⟩∧c=hf:=by simpa using hQ
   obtain⟨b',o',hL,e1,-,-,hbw,-⟩:=Hv.out.cellsAt (by intro h;rw[h]at hlt;simp at hlt);obtain⟨⟨rfl,rfl⟩,rfl⟩:(b=b'∧o=o')∧c=hL:=by simpa using e1
   have hS:=HS.out;rw[zdj hJ,zdf]at hS;obtain⟨q1,hI⟩:∃ q1,c'.toNat / 16=q1:=⟨_,rfl⟩;obtain⟨q2,hH⟩:∃ q2,c'.toNat % 16=q2:=⟨_,rfl⟩;have hc8:c'.toNat<256:=c'.toNat_lt;have ha:q1<16:=by omega
   have hZ:q2<16:=by omega
   have hw1:(c'.toNat:Int) / 16=(q1:Int):=by omega
   have hw1t:(c'.toNat:Int).tdiv 16=(q1:Int):=by rw[← hI];rfl
   have hw2:(c'.toNat:Int).tmod 16=(q2:Int):=by rw[← hH];rfl
   have hw3:IntKind.u8.wrap (q1:Int)=q1:=by simp[IntKind.wrap,IntKind.signed,IntKind.bits];omega
   have hw4:IntKind.u8.wrap (q2:Int)=q2:=by simp[IntKind.wrap,IntKind.signed,IntKind.bits];omega
   have hw5:(q1:Int)<16:=by omega
   have hw6:(q2:Int)<16:=by omega
   rw[hI,hH]at hS;have hd:=zls ha;have hc:=zls hZ;obtain⟨x1,hO⟩:∃ x,sgn hexes q1=x:=⟨_,rfl⟩;obtain⟨x2,hN⟩:∃ x,sgn hexes q2=x:=⟨_,rfl⟩;rw[hO]at hS hd;rw[hN]at hS hc;have hM:=za hS;have hwB:=HF.out.size;have hlti:(i:Int)<l.length:=by omega
   have K1:=za k1;obtain⟨ao,co,hF⟩:=HO.out.form;subst hF;have hE:=za hD;clear hD e1 hI hH hO hN hS HS hP hQ hJ k1
   go_upto_region 6 with(fail)
   refine wp_region_held_drew (S:=fun V=>V.cell? ⟨b,o+i,none⟩=some (.int .u8 c'.toNat)) (by kernel_rfl) (by simpa using K1.out) (fun hA=>?_);simp only[qV]
   iterate 15
    refine qt (v:=?_) rfl (zv ⟨by rfl,?_⟩) hA ?_;rotate_left
    ·intro W he
     try simp only[qQ]
     go_simp
     try rw[if_neg (by omega)]
     try with_reducible rfl
    try simp only[Act.put,qP]
   refine qr (i:=15) (by kernel_rfl) rfl (fun K hK=>?_)
   try simp only[qQ]
   go_simp;refine hK.out _ _ (by first | exact Fr.cell ((Fr.refl (M:=NoB)).alloc _) hA | exact Fr.cell ((Fr.refl (M:=NoB)).alloc _).drew (by simpa using hA)) (fun hA=>?_);clear hK K
   try simp only[Act.put,qP]
   refine qr (i:=16) (by kernel_rfl) rfl (fun K hK=>?_)
   try simp only[qQ]
   rw[if_pos (by rfl)];refine zbu (.tmp 12) (.tmp 27) 24 (by rfl) w.heap.size 5 i0 (zy z6 0) 1 1 Tryz.underlying24 hb hY hX hW rfl (by decide) (.slice ao out.length co) out.length (zb out) (by rfl) (by exact HO.out.alloc (.cells #[.int .u8 x1.toNat,.int .u8 x2.toNat] 5)) ⟨wr.heap.size,0,none⟩ 2 2 [.int .u8 x1.toNat,.int .u8 x2.toNat] (by rfl) rfl (by exact zck wr 5 [.int .u8 x1.toNat,.int .u8 x2.toNat] _ rfl) (by simp[Value.oneCell']) (by have:=hE.out;unfold maxLen;omega) (by have:=hE.out;omega) (by simp;omega) ?_;intro v' w2 hB hC;refine hK.out _ _ (Fr.cell (HO.out.push (news:=[x1,x2]) (Fr.refl.alloc (.cells #[.int .u8 x1.toNat,.int .u8 x2.toNat] 5)).drew hB hC).2 K1.out (fun _ h=>by omega)) (fun hA=>?_);clear hK K
   try simp only[Act.put,qP]
   obtain⟨hR,hV⟩:=HO.out.push (news:=[x1,x2]) (Fr.refl.alloc (.cells #[.int .u8 x1.toNat,.int .u8 x2.toNat] 5)).drew hB hC;have hg:=za hR;have hj:=za (HF.out.trans hV (fun _ _ h => .inr h));clear hB hC hR hV;refine qt (v:=?_) rfl (zv ⟨by rfl,?_⟩) hA ?_;rotate_left
   ·intro W he
    try simp only[qQ]
    go_simp
    try rw[if_neg (by omega)]
    try with_reducible rfl
   try simp only[Act.put,qP]
   refine wpAnyH_done (by kernel_rfl) ?_ _;clear hA
   go_wp2_with fail
   go_roundg (gk - 1)
   case measure=>omega
   case rel=>exact⟨i+1,out++[x1,x2],by simp,by omega,by omega,by have:=hE.out;simp;omega,hg,hj,by have:=hM.out;simpa using za this⟩
  obtain rfl:i=l.length:=by omega
  have hS:=HS.out;simp only[List.drop_length,zdf,List.append_nil]at hS;have hM:=za hS;have HT:=za (HO.out.sb.text);obtain⟨ao,co,hF⟩:=HO.out.form;subst hF;have hT:=HT.out;have hE:=za hD;clear hS HS hD
  go_wp2_with fail
  go_ret;exact⟨by rw[hM.out]<;>rfl,HF.out⟩
end
section
open Go.RowKit
end
section
open Go.RowKit
theorem z11 (s:Bs):((ByteArray.mk s.toArray).extract 0 7).toList=s.take 7:=by
 rw[ByteArray.toList_eq];simp[ByteArray.data_extract]
theorem zr2 (s:Bs) (w:World) (hlen:s.length≤1000000) :
 Calls ze 72 #[.string ⟨s.toArray⟩] w fun e w'=>e = .returned (.bool (zcd s))∧w=w':=by
 obtain⟨R,hR⟩:∃ R,zcd s=R:=⟨_,rfl⟩;rw[hR];unfold zcd at hR;have hsz:(ByteArray.mk s.toArray).size=s.length:=rfl;by_cases h0:s.length<1
 ·have hL:decide ((s.length:Int)<1)=true:=decide_eq_true (by omega);obtain rfl:s=[]:=List.length_eq_zero_iff.1 (by omega);have HR:Hid (false=R):=za (by simpa using hR);clear hR h0;go_enter Tryz.func72,Tryz.ntmps72
  go_wp2_with fail
  go_ret;exact⟨jy HR.out,rfl⟩
 have hL:decide ((s.length:Int)<1)=false:=decide_eq_false (by omega)
 have hC:s.isEmpty=false:=by
  cases s with
  | nil=>exact absurd (by simp) h0
  | cons a r=>rfl
 rw[hC]at hR;by_cases hH:64<s.length
 ·have hE:decide ((64:Int)<(s.length:Int))=true:=decide_eq_true (by omega);have hA:decide (s.length≤64)=false:=decide_eq_false (by omega);rw[hA]at hR;have HR:Hid (false=R):=za (by simpa using hR);clear hR h0 hC hH hA;go_enter Tryz.func72,Tryz.ntmps72
  go_wp2_with fail
  go_ret;exact⟨jy HR.out,rfl⟩
 have hE:decide ((64:Int)<(s.length:Int))=false:=decide_eq_false (by omega);have hA:decide (s.length≤64)=true:=decide_eq_true (by omega);rw[hA]at hR;obtain⟨g7,hD⟩:∃ b,decide ((s.length:Int)<7)=b:=⟨_,rfl⟩;obtain⟨p7,hI⟩:∃ b,(((ByteArray.mk s.toArray).extract 0 7).toList==[99,97,99,104,101,116,47])=b:=⟨_,rfl⟩
 have hB:Lib.hasPrefix s sReserved=(!g7&&p7):=by
  rw[← Lib.hasPrefix_of_take,← hD,← hI,z11]
  have e:decide (sReserved.length≤s.length) = !decide ((s.length:Int)<7):=by
   rw[show sReserved.length=7 from rfl];by_cases h:7≤s.length
   ·rw[decide_eq_true h,decide_eq_false (by omega)];rfl
   rw[decide_eq_false h,decide_eq_true (by omega)];rfl
  rw[e];rfl
 rw[hB]at hR;have HR:Hid (((s.drop 0).all (fun c=>zf0 c.toNat) && !(!g7&&p7))=R):=za (by simpa using hR);have H7:Hid (g7=false→7≤s.length):=za (fun h=>by rw[h]at hD;have:=of_decide_eq_false hD;omega);clear hR h0 hC hH hA hB;go_enter Tryz.func72,Tryz.ntmps72
 go_wp2_with fail
 go_loopg [3] (s.length+1) (fun gf vi wr=>∃ i:Nat,vi = .int .i64 i∧i≤s.length∧i+gf=s.length+1∧w=wr∧Hid (((s.drop i).all (fun c=>zf0 c.toNat) && !(!g7&&p7))=R))
 case atStart=>exact⟨0,rfl,by omega,by omega,rfl,HR⟩
 case round =>
  obtain⟨i,rfl,hi,hig,rfl,HS⟩:=hrel;rcases Nat.lt_or_ge i s.length with hlt | hge
  ·obtain ⟨c,hc⟩:∃ c,s[i]? = some c:=⟨_,List.getElem?_eq_getElem hlt⟩
   have hcb:∀ h,(ByteArray.mk s.toArray)[i]'h=c:=by
    intro h;obtain⟨h1,h2⟩:=List.getElem?_eq_some_iff.1 hc;exact h2
   have hS:=HS.out;rw[zdj hc,List.all_cons]at hS;have hc8:(c.toNat:Int)<256:=by have:=c.toNat_lt;omega
   obtain⟨b1,hK⟩:∃ b,decide ((c.toNat:Int)<33)=b:=⟨_,rfl⟩;obtain⟨b2,hJ⟩:∃ b,decide ((126:Int)<(c.toNat:Int))=b:=⟨_,rfl⟩
   have hn:zf0 c.toNat=(!b1 && !b2):=by
    unfold zf0;rw[← hK,← hJ,← decide_not,← decide_not]
    congr 1<;>exact decide_eq_decide.2 (by omega)
   rw[hn]at hS;have hF:=za hS;clear hc hS HS hn;cases b1
   ·cases b2
    ·go_wp2_with fail
     go_roundg (gk - 1)
     case measure=>omega
     case rel=>exact⟨i+1,by simp,by omega,by omega,rfl,za (by simpa using hF.out)⟩
    go_wp2_with fail
    go_ret;exact⟨jy (by simpa using hF.out),rfl⟩
   go_wp2_with fail
   go_ret;exact⟨jy (by simpa using hF.out),rfl⟩
  obtain rfl:i=s.length:=by omega
  have hS:=HS.out;rw[List.drop_length]at hS;have hG:=za hS;clear hS HS;cases g7
  ·have h7:=H7.out rfl;cases p7
   ·go_wp2_with fail
    go_ret;exact⟨jy (by simpa using hG.out),rfl⟩
   go_wp2_with fail
   go_ret;exact⟨jy (by simpa using hG.out),rfl⟩
  go_wp2_with fail
  go_ret;exact⟨jy (by simpa using hG.out),rfl⟩
section
variable [OldK]
end
end
section
open Go.RowKit
variable [OldK]
def zbx (c:UInt8):Bs→Nat→Int
 | [],_ => -1
 | x :: r,n=>if x=c then n else zbx c r (n+1)
def zfd (c:UInt8):Int:=zbx c hexes 0
theorem zf7 (c:UInt8):∀ (l:Bs) (n:Nat),n+l.length≤16 → -1≤zbx c l n∧zbx c l n≤15
 | [],n,h=>by simp[zbx]
 | x :: r,n,h=>by
   unfold zbx;rw[zo]at h;split
   ·omega
   exact zf7 c r (n+1) (by omega)
theorem zmv:∀ n:Fin 16,zfd (sgn hexes n.val)=n.val:=by decide +kernel
theorem zua (c:UInt8) (w:World):Calls ze 152 #[.int .u8 c.toNat,.int .i64 4] w fun e w'=>e = .returned (.int .i64 (zfd c))∧w=w':=by
 obtain⟨R,hR⟩:∃ R,zfd c=R:=⟨_,rfl⟩;rw[hR];have HR:Hid (zbx c (hexes.drop 0) 0=R):=za hR;clear hR;go_enter Tryz.func152,Tryz.ntmps152
 go_wp2_with fail
 go_loopg [5] 65 (fun g vi wr=>∃ n:Nat,vi = .int .i64 n∧n≤64∧n+g=65∧w=wr∧Hid (zbx c (hexes.drop n) n=R))
 case atStart=>exact⟨0,rfl,by omega,by omega,rfl,HR⟩
 case round =>
  obtain⟨n,rfl,hn,hng,rfl,HS⟩:=hrel;by_cases h64:n<64
  ·have hD:decide ((n:Int)<64)=true:=decide_eq_true (by omega);by_cases hF:n<16
   ·have hE:decide ((n:Int)<16)=true:=decide_eq_true (by omega)
    have hd:hexes.drop n=sgn hexes n :: hexes.drop (n+1):=by
     have:n<hexes.length:=hF;rw[List.drop_eq_getElem_cons this]
     congr 1
     unfold sgn;rw[List.getD_eq_getElem?_getD,List.getElem?_eq_getElem this];rfl
    have hS:=HS.out;rw[hd,zbx]at hS;have hb:=zls hF;obtain⟨x,hx⟩:∃ x,sgn hexes n=x:=⟨_,rfl⟩;rw[hx]at hS hb;cases hC:(x==c) with
    | true =>
      have hA:x=c:=by simpa using hC
      rw[if_pos hA]at hS;have ht:((x.toNat:Int)==(c.toNat:Int))=true:=by rw[hA];simp
      have hB:=za hS;clear hS HS hd hx hA hC
      go_wp2_with fail
      go_ret;exact⟨zb2 hB.out,rfl⟩
    | false =>
      have hA:¬ x=c:=by simpa using hC
      rw[if_neg hA]at hS
      have ht:((x.toNat:Int)==(c.toNat:Int))=false:=by
       rw[beq_eq_false_iff_ne];intro e;exact hA (UInt8.toNat_inj.1 (by omega))
      have hB:=za hS;clear hS HS hd hx hA hC
      go_wp2_with fail
      go_roundg (gk - 1)
      case measure=>omega
      case rel=>exact⟨n+1,by simp,by omega,by omega,rfl,hB⟩
   have hE:decide ((n:Int)<16)=false:=decide_eq_false (by omega);have hS:=HS.out;rw[List.drop_eq_nil_of_le (show hexes.length≤n from by show 16≤n;omega)]at hS;have hB:Hid (zbx c (hexes.drop (n+1)) (n+1)=R):=za (by rw[List.drop_eq_nil_of_le (show hexes.length≤n+1 from by show 16≤n+1;omega)];exact hS);clear hS HS
   go_wp2_with fail
   go_roundg (gk - 1)
   case measure=>omega
   case rel=>exact⟨n+1,by simp,by omega,by omega,rfl,hB⟩
  have hD:decide ((n:Int)<64)=false:=decide_eq_false (by omega);have hS:=HS.out;rw[List.drop_eq_nil_of_le (show hexes.length≤n from by show 16≤n;omega)]at hS;have hB:=za hS;clear hS HS
  go_wp2_with fail
  go_ret;exact⟨zb2 hB.out,rfl⟩
def rUn:Bs→Bs
 | a :: b :: r=>UInt8.ofNat ((16 * zfd a+zfd b) % 256).toNat :: rUn r
 | _=>[]
theorem zt3:∀ m:Bs,rUn (zdf m)=m
 | []=>rfl
 | c :: m=>by
   have h8:=c.toNat_lt;have h1:=zmv ⟨c.toNat / 16,by omega⟩;have h2:=zmv ⟨c.toNat % 16,by omega⟩;simp only at h1 h2;unfold zdf rUn;rw[h1,h2,zt3 m]
   congr 1
   rw[show((16 * ((c.toNat / 16:Nat):Int)+((c.toNat % 16:Nat):Int)) % 256).toNat=c.toNat by omega];simp
theorem zt2:∀ s:Bs,(rUn s).length≤s.length
 | []=>zt _
 | [_]=>Nat.zero_le _
 | a :: b :: r=>by
   have:=zt2 r;unfold rUn;simp only[zo];omega
def z0m (B:Nat) (r:Option Bs) (e:Ending) (w':World):Prop :=
 match r with
 | some b=>∃ a c,e = .returned (.tuple #[.slice a b.length c,.bool true])∧SB (fun k=>B≤k) b (.slice a b.length c) w'
 | none=>e = .returned (.tuple #[.slice none 0 0,.bool false])
theorem zr1 (s:Bs) (w:World) (hlen:s.length≤1000000) :
 Calls ze 138 #[.string ⟨s.toArray⟩] w fun e w'=>z0m w.heap.size (ze6 s) e w'∧Fr NoB w w':=by
 rw[← zta rUn zt3 s];have hsz:(ByteArray.mk s.toArray).size=s.length:=rfl;obtain⟨F,hF⟩:∃ F,rUn s=F:=⟨_,rfl⟩;have hO:=zt2 s;rw[hF]at hO ⊢;have HG:Hid (([]:Bs)++rUn (s.drop 0)=F):=za (by simpa using hF);have hW:OB w.heap.size [] (.slice none 0 0) w:=⟨rfl,.inl ⟨rfl,rfl⟩⟩;have ht:=za hW;obtain⟨i0,ho,hc,ha,hZ⟩:=info_parts zbp;clear hF hW;go_enter Tryz.func138,Tryz.ntmps138
 go_wp2_with fail
 go_loopg [4,5] (s.length+2) (fun g vo vi wr=>∃ (i:Nat) (out:Bs),vi = .int .i64 i∧i≤s.length+1∧s.length+2≤i+g∧out.length≤i∧Hid (OB w.heap.size out vo wr)∧Hid (Fr NoB w wr)∧Hid (out++rUn (s.drop i)=F))
 case atStart=>exact⟨0,[],rfl,by omega,by omega,zt _,ht,za Fr.refl,HG⟩
 case round =>
  obtain⟨i,out,rfl,hi,hgk,hE,HO,HF,HS⟩:=hrel;have hwB:=HF.out.size;by_cases hn:i+1<s.length
  ·have hN:decide ((i:Int)+1<(s.length:Int))=true:=decide_eq_true (by omega);obtain⟨c1,hQ⟩:∃ c,s[i]? = some c:=⟨_,List.getElem?_eq_getElem (by omega)⟩;obtain⟨c2,hP⟩:∃ c,s[i+1]? = some c:=⟨_,List.getElem?_eq_getElem hn⟩
   have hb1:∀ h,(ByteArray.mk s.toArray)[i]'h=c1:=by
    intro h;obtain⟨h1,h2⟩:=List.getElem?_eq_some_iff.1 hQ;exact h2
   have hU:∀ h,(ByteArray.mk s.toArray)[i+1]'h=c2:=by
    intro h;obtain⟨h1,h2⟩:=List.getElem?_eq_some_iff.1 hP;exact h2
   have hS:=HS.out;rw[zdj hQ,zdj hP,rUn]at hS;have hM:=fun W=>zua c1 W
   have hL:=fun W=>zua c2 W
   obtain⟨l1,l2⟩:=zf7 c1 hexes 0 (by decide);obtain⟨l3,l4⟩:=zf7 c2 hexes 0 (by decide);change -1≤zfd c1 at l1;change zfd c1≤15 at l2;change -1≤zfd c2 at l3;change zfd c2≤15 at l4;obtain⟨p1,hT⟩:∃ p,zfd c1=p:=⟨_,rfl⟩;obtain⟨p2,hR⟩:∃ p,zfd c2=p:=⟨_,rfl⟩;rw[hT]at hS hM l1 l2;rw[hR]at hS hL l3 l4;obtain⟨y,hy⟩:∃ y,UInt8.ofNat ((16 * p1+p2) % 256).toNat=y:=⟨_,rfl⟩;rw[hy]at hS
   have hm:IntKind.u8.wrap (16 * p1+p2)=(y.toNat:Int):=by
    rw[← hy]
    have:(UInt8.ofNat ((16 * p1+p2) % 256).toNat).toNat=((16 * p1+p2) % 256).toNat:=by
     rw[UInt8.toNat_ofNat'];omega
    rw[this];simp[IntKind.wrap,IntKind.signed,IntKind.bits];omega
   have hl:IntKind.i64.wrap (16 * p1)=16 * p1:=IntWalk.i64_in _ (by omega);have hk:IntKind.i64.wrap (16 * p1+p2)=16 * p1+p2:=IntWalk.i64_in _ (by omega);have hj:IntKind.i64.wrap ((i:Int)+1)=(i:Int)+1:=IntWalk.i64_in _ (by omega);have hh:(0:Int)≤(i:Int)+1:=by omega
   have hg:((i:Int)+1).toNat=i+1:=by omega
   have hf:(i:Int)+1<(s.length:Int):=by omega
   have he:(i:Int)<(s.length:Int):=by omega
   have hr:=za hS;have hq:=za hM;have hp:=za hL;obtain⟨ao,co,hJ⟩:=HO.out.form;subst hJ;have hH:=za hE;clear hQ hP hS HS hM hL hT hR hy hE
   go_upto_region 5 with(fail)
   refine wp_region_held_drew (S:=fun _=>True) (by kernel_rfl) trivial (fun hA=>?_);simp only[qV]
   iterate 4
    refine qt (v:=?_) rfl (zv ⟨by rfl,?_⟩) hA ?_;rotate_left
    ·intro W hD
     try simp only[qQ]
     go_simp
     try rw[if_neg (by omega)]
     try with_reducible rfl
    try simp only[Act.put,qP]
   refine qi (i:=6) (v:=?_) rfl (zv ⟨by rfl,?_⟩) hA ?_;rotate_left
   ·intro W hD
    try simp only[qQ]
    go_simp
    try rw[if_neg (by omega)]
    try with_reducible rfl
   try simp only[Act.put,qP]
   refine qi (i:=7) (v:=?_) rfl (zv ⟨by rfl,?_⟩) hA ?_;rotate_left
   ·intro W hD
    try simp only[qQ]
    go_simp
    try rw[if_neg (by omega)]
    try with_reducible rfl
   try simp only[Act.put,qP]
   refine qi (i:=8) (v:=?_) rfl (zv ⟨by rfl,?_⟩) hA ?_;rotate_left
   ·intro W hD
    try simp only[qQ]
    go_simp
    try rw[if_neg (by omega)]
    try with_reducible rfl
   try simp only[Act.put,qP]
   refine qi (i:=9) (v:=?_) rfl (zv ⟨by rfl,?_⟩) hA ?_;rotate_left
   ·intro W hD
    try simp only[qQ]
    go_simp
    try rw[if_neg (by omega)]
    try with_reducible rfl
   try simp only[Act.put,qP]
   refine qr (i:=4) (by kernel_rfl) rfl (fun K hK=>?_)
   try simp only[qQ]
   go_simp;refine(hq.out _).mono ?_;rintro e w1 ⟨rfl,rfl⟩;refine hK.out _ _ trivial (fun hA=>?_);clear hK K
   try simp only[Act.put,qP]
   refine qt (v:=?_) rfl (zv ⟨by rfl,?_⟩) hA ?_;rotate_left
   ·intro W hD
    try simp only[qQ]
    go_simp
    try rw[if_neg (by omega)]
    try with_reducible rfl
   try simp only[Act.put,qP]
   refine qr (i:=10) (by kernel_rfl) rfl (fun K hK=>?_)
   try simp only[qQ]
   go_simp;refine(hp.out _).mono ?_;rintro e w1 ⟨rfl,rfl⟩;refine hK.out _ _ trivial (fun hA=>?_);clear hK K
   try simp only[Act.put,qP]
   iterate 2
    refine qt (v:=?_) rfl (zv ⟨by rfl,?_⟩) hA ?_;rotate_left
    ·intro W hD
     try simp only[qQ]
     go_simp
     try rw[if_neg (by omega)]
     try with_reducible rfl
    try simp only[Act.put,qP]
   refine qr (i:=13) (by kernel_rfl) rfl (fun K hK=>?_)
   try simp only[qQ]
   go_simp;refine hK.out _ _ trivial (fun hA=>?_);clear hK K
   try simp only[Act.put,qP]
   refine qr (i:=14) (by kernel_rfl) rfl (fun K hK=>?_)
   try simp only[qQ]
   rw[if_pos (by rfl)];refine zbu (.tmp 13) (.tmp 26) 24 (by rfl) w.heap.size 5 i0 (zy z6 0) 1 1 Tryz.underlying24 ho hc ha hZ rfl (by decide) (.slice ao out.length co) out.length (zb out) (by rfl) (by exact HO.out.alloc (.cells #[.int .u8 y.toNat] 5)) ⟨wr.heap.size,0,none⟩ 1 1 [.int .u8 y.toNat] (by rfl) rfl (by exact zck wr 5 [.int .u8 y.toNat] _ rfl) (by simp[Value.oneCell']) (by have:=hH.out;unfold maxLen;omega) (by have:=hH.out;omega) (by simp;omega) ?_;intro v' w2 hB hC;refine hK.out _ _ trivial (fun hA=>?_);clear hK K
   try simp only[Act.put,qP]
   obtain⟨hV,hY⟩:=HO.out.push (news:=[y]) (Fr.refl.alloc (.cells #[.int .u8 y.toNat] 5)).drew hB hC;have hs:=za hV;have hu:=za (HF.out.trans hY (fun _ _ h => .inr h));clear hB hC hV hY hm hl hk hj hh hg hf he;refine qt (v:=?_) rfl (zv ⟨by rfl,?_⟩) hA ?_;rotate_left
   ·intro W hD
    try simp only[qQ]
    go_simp
    try rw[if_neg (by omega)]
    try with_reducible rfl
   try simp only[Act.put,qP]
   refine wpAnyH_done (by kernel_rfl) ?_ _;clear hA
   go_wp2_with fail
   go_roundg (gk - 1)
   case measure=>omega
   case rel=>exact⟨i+2,out++[y],by simp,by omega,by omega,by have:=hH.out;simp;omega,hs,hu,by have:=hr.out;simpa using za this⟩
  have hN:decide ((i:Int)+1<(s.length:Int))=false:=decide_eq_false (by omega);have hS:=HS.out
  have hd:rUn (s.drop i)=[]:=by
   rcases hx:s.drop i with _ | ⟨a,_ | ⟨b,r⟩⟩
   ·rfl
   ·rfl
   have:=congrArg List.length hx;rw[List.length_drop]at this;simp only[zo]at this;omega
  rw[hd,List.append_nil]at hS;subst hS;have hx:=fun W (h:Fr NoB wr W)=>zwx (fun k=>w.heap.size≤k) out _ W (HO.out.sb.fr h (fun _ _ _ _ h=>h)) (by omega)
  obtain⟨ao,co,hJ⟩:=HO.out.form;subst hJ;obtain⟨X,hX⟩:∃ X,zdf out=X:=⟨_,rfl⟩;have hH:=za hE;rw[hX]at hx;have Hx:=za hx;have HX:=za hX;cases hb:(X==s) with
  | true =>
    have hU:(X != s)=false:=by rw[bne,hb];rfl
    have Hb:Hid (zdf out=s):=za (by rw[hX];simpa using hb);clear hd hx hX hE HS hO
    go_wp2_with fail
    refine(Hx.out _ Fr.refl).mono ?_;rintro e w1 ⟨rfl,hG⟩;have hI:=za hG;clear hG
    go_wp2_with fail
    go_ret2
    try rw[if_pos Hb.out]
    exact⟨⟨ao,co,rfl,HO.out.sb.fr hI.out (fun _ _ _ _ h=>h)⟩,HF.out.trans' hI.out⟩
  | false =>
    have hU:(X != s)=true:=by rw[bne,hb];rfl
    have Hb:Hid (¬ zdf out=s):=za (by rw[hX];simpa using hb);clear hd hx hX hE HS hO
    go_wp2_with fail
    refine(Hx.out _ Fr.refl).mono ?_;rintro e w1 ⟨rfl,hG⟩;have hI:=za hG;clear hG
    go_wp2_with fail
    go_ret2
    try rw[if_neg Hb.out]
    exact⟨rfl,HF.out.trans' hI.out⟩
def RSumPost (r:Option Bs) (e:Ending):Prop :=
 match r with
 | some b=>e = .returned (.tuple #[.agg (zb b).toArray,.bool true])
 | none=>e = .returned (.tuple #[.agg #[zy z6 0,zy z6 0,zy z6 0,zy z6 0,zy z6 0,zy z6 0,zy z6 0,zy z6 0,zy z6 0,zy z6 0,zy z6 0,zy z6 0,zy z6 0,zy z6 0,zy z6 0,zy z6 0,zy z6 0,zy z6 0,zy z6 0,zy z6 0,zy z6 0,zy z6 0,zy z6 0,zy z6 0,zy z6 0,zy z6 0,zy z6 0,zy z6 0,zy z6 0,zy z6 0,zy z6 0,zy z6 0],.bool false])
theorem zww (s:Bs) (w:World) (hlen:s.length≤1000000) :
 Calls ze 73 #[.string ⟨s.toArray⟩] w fun e w'=>RSumPost (zii s) e∧Fr NoB w w':=by
 have hc:=fun W=>zr1 s W hlen
 unfold zii;obtain⟨U,hU⟩:∃ U,ze6 s=U:=⟨_,rfl⟩;rw[hU]at hc ⊢;have Hc:=za hc;clear hc hU
 have hA:((w.alloc (.cells #[zy z6 0,zy z6 0,zy z6 0,zy z6 0,zy z6 0,zy z6 0,zy z6 0,zy z6 0,zy z6 0,zy z6 0,zy z6 0,zy z6 0,zy z6 0,zy z6 0,zy z6 0,zy z6 0,zy z6 0,zy z6 0,zy z6 0,zy z6 0,zy z6 0,zy z6 0,zy z6 0,zy z6 0,zy z6 0,zy z6 0,zy z6 0,zy z6 0,zy z6 0,zy z6 0,zy z6 0,zy z6 0] 23)).alloc (.cells #[zy z6 0,zy z6 0,zy z6 0,zy z6 0,zy z6 0,zy z6 0,zy z6 0,zy z6 0,zy z6 0,zy z6 0,zy z6 0,zy z6 0,zy z6 0,zy z6 0,zy z6 0,zy z6 0,zy z6 0,zy z6 0,zy z6 0,zy z6 0,zy z6 0,zy z6 0,zy z6 0,zy z6 0,zy z6 0,zy z6 0,zy z6 0,zy z6 0,zy z6 0,zy z6 0,zy z6 0,zy z6 0] 23)).heap[w.heap.size]? = some (.cells #[zy z6 0,zy z6 0,zy z6 0,zy z6 0,zy z6 0,zy z6 0,zy z6 0,zy z6 0,zy z6 0,zy z6 0,zy z6 0,zy z6 0,zy z6 0,zy z6 0,zy z6 0,zy z6 0,zy z6 0,zy z6 0,zy z6 0,zy z6 0,zy z6 0,zy z6 0,zy z6 0,zy z6 0,zy z6 0,zy z6 0,zy z6 0,zy z6 0,zy z6 0,zy z6 0,zy z6 0,zy z6 0] 23 (0,0)):=by
  rw[Below.heap_alloc _ _ _ (by rw[zf];omega)];exact heap_alloc_new w _
 have hD:((w.alloc (.cells #[zy z6 0,zy z6 0,zy z6 0,zy z6 0,zy z6 0,zy z6 0,zy z6 0,zy z6 0,zy z6 0,zy z6 0,zy z6 0,zy z6 0,zy z6 0,zy z6 0,zy z6 0,zy z6 0,zy z6 0,zy z6 0,zy z6 0,zy z6 0,zy z6 0,zy z6 0,zy z6 0,zy z6 0,zy z6 0,zy z6 0,zy z6 0,zy z6 0,zy z6 0,zy z6 0,zy z6 0,zy z6 0] 23)).alloc (.cells #[zy z6 0,zy z6 0,zy z6 0,zy z6 0,zy z6 0,zy z6 0,zy z6 0,zy z6 0,zy z6 0,zy z6 0,zy z6 0,zy z6 0,zy z6 0,zy z6 0,zy z6 0,zy z6 0,zy z6 0,zy z6 0,zy z6 0,zy z6 0,zy z6 0,zy z6 0,zy z6 0,zy z6 0,zy z6 0,zy z6 0,zy z6 0,zy z6 0,zy z6 0,zy z6 0,zy z6 0,zy z6 0] 23)).heap[w.heap.size+1]? = some (.cells #[zy z6 0,zy z6 0,zy z6 0,zy z6 0,zy z6 0,zy z6 0,zy z6 0,zy z6 0,zy z6 0,zy z6 0,zy z6 0,zy z6 0,zy z6 0,zy z6 0,zy z6 0,zy z6 0,zy z6 0,zy z6 0,zy z6 0,zy z6 0,zy z6 0,zy z6 0,zy z6 0,zy z6 0,zy z6 0,zy z6 0,zy z6 0,zy z6 0,zy z6 0,zy z6 0,zy z6 0,zy z6 0] 23 (0,0)):=by
  have:=heap_alloc_new (w.alloc (.cells #[zy z6 0,zy z6 0,zy z6 0,zy z6 0,zy z6 0,zy z6 0,zy z6 0,zy z6 0,zy z6 0,zy z6 0,zy z6 0,zy z6 0,zy z6 0,zy z6 0,zy z6 0,zy z6 0,zy z6 0,zy z6 0,zy z6 0,zy z6 0,zy z6 0,zy z6 0,zy z6 0,zy z6 0,zy z6 0,zy z6 0,zy z6 0,zy z6 0,zy z6 0,zy z6 0,zy z6 0,zy z6 0] 23)) (.cells #[zy z6 0,zy z6 0,zy z6 0,zy z6 0,zy z6 0,zy z6 0,zy z6 0,zy z6 0,zy z6 0,zy z6 0,zy z6 0,zy z6 0,zy z6 0,zy z6 0,zy z6 0,zy z6 0,zy z6 0,zy z6 0,zy z6 0,zy z6 0,zy z6 0,zy z6 0,zy z6 0,zy z6 0,zy z6 0,zy z6 0,zy z6 0,zy z6 0,zy z6 0,zy z6 0,zy z6 0,zy z6 0] 23)
  rwa [zf]at this
 have hF:Fr NoB w ((w.alloc (.cells #[zy z6 0,zy z6 0,zy z6 0,zy z6 0,zy z6 0,zy z6 0,zy z6 0,zy z6 0,zy z6 0,zy z6 0,zy z6 0,zy z6 0,zy z6 0,zy z6 0,zy z6 0,zy z6 0,zy z6 0,zy z6 0,zy z6 0,zy z6 0,zy z6 0,zy z6 0,zy z6 0,zy z6 0,zy z6 0,zy z6 0,zy z6 0,zy z6 0,zy z6 0,zy z6 0,zy z6 0,zy z6 0] 23)).alloc (.cells #[zy z6 0,zy z6 0,zy z6 0,zy z6 0,zy z6 0,zy z6 0,zy z6 0,zy z6 0,zy z6 0,zy z6 0,zy z6 0,zy z6 0,zy z6 0,zy z6 0,zy z6 0,zy z6 0,zy z6 0,zy z6 0,zy z6 0,zy z6 0,zy z6 0,zy z6 0,zy z6 0,zy z6 0,zy z6 0,zy z6 0,zy z6 0,zy z6 0,zy z6 0,zy z6 0,zy z6 0,zy z6 0] 23)):=(Fr.refl.alloc _).alloc _;have hG:((w.alloc (.cells #[zy z6 0,zy z6 0,zy z6 0,zy z6 0,zy z6 0,zy z6 0,zy z6 0,zy z6 0,zy z6 0,zy z6 0,zy z6 0,zy z6 0,zy z6 0,zy z6 0,zy z6 0,zy z6 0,zy z6 0,zy z6 0,zy z6 0,zy z6 0,zy z6 0,zy z6 0,zy z6 0,zy z6 0,zy z6 0,zy z6 0,zy z6 0,zy z6 0,zy z6 0,zy z6 0,zy z6 0,zy z6 0] 23)).alloc (.cells #[zy z6 0,zy z6 0,zy z6 0,zy z6 0,zy z6 0,zy z6 0,zy z6 0,zy z6 0,zy z6 0,zy z6 0,zy z6 0,zy z6 0,zy z6 0,zy z6 0,zy z6 0,zy z6 0,zy z6 0,zy z6 0,zy z6 0,zy z6 0,zy z6 0,zy z6 0,zy z6 0,zy z6 0,zy z6 0,zy z6 0,zy z6 0,zy z6 0,zy z6 0,zy z6 0,zy z6 0,zy z6 0] 23)).heap.size=w.heap.size+2:=by rw[zf,zf]
 have H32:=za (show((#[zy z6 0,zy z6 0,zy z6 0,zy z6 0,zy z6 0,zy z6 0,zy z6 0,zy z6 0,zy z6 0,zy z6 0,zy z6 0,zy z6 0,zy z6 0,zy z6 0,zy z6 0,zy z6 0,zy z6 0,zy z6 0,zy z6 0,zy z6 0,zy z6 0,zy z6 0,zy z6 0,zy z6 0,zy z6 0,zy z6 0,zy z6 0,zy z6 0,zy z6 0,zy z6 0,zy z6 0,zy z6 0]:Array Value).all (·.oneCell'))=true by simp[Value.oneCell']);cases U with
 | none =>
   go_enter Tryz.func73,Tryz.ntmps73
   go_upto_region 2 with(fail)
   change Code.wp _ _ _ _ ((w.alloc (.cells #[zy z6 0,zy z6 0,zy z6 0,zy z6 0,zy z6 0,zy z6 0,zy z6 0,zy z6 0,zy z6 0,zy z6 0,zy z6 0,zy z6 0,zy z6 0,zy z6 0,zy z6 0,zy z6 0,zy z6 0,zy z6 0,zy z6 0,zy z6 0,zy z6 0,zy z6 0,zy z6 0,zy z6 0,zy z6 0,zy z6 0,zy z6 0,zy z6 0,zy z6 0,zy z6 0,zy z6 0,zy z6 0] 23)).alloc (.cells #[zy z6 0,zy z6 0,zy z6 0,zy z6 0,zy z6 0,zy z6 0,zy z6 0,zy z6 0,zy z6 0,zy z6 0,zy z6 0,zy z6 0,zy z6 0,zy z6 0,zy z6 0,zy z6 0,zy z6 0,zy z6 0,zy z6 0,zy z6 0,zy z6 0,zy z6 0,zy z6 0,zy z6 0,zy z6 0,zy z6 0,zy z6 0,zy z6 0,zy z6 0,zy z6 0,zy z6 0,zy z6 0] 23));obtain⟨W,hW⟩:∃ W,(w.alloc (.cells #[zy z6 0,zy z6 0,zy z6 0,zy z6 0,zy z6 0,zy z6 0,zy z6 0,zy z6 0,zy z6 0,zy z6 0,zy z6 0,zy z6 0,zy z6 0,zy z6 0,zy z6 0,zy z6 0,zy z6 0,zy z6 0,zy z6 0,zy z6 0,zy z6 0,zy z6 0,zy z6 0,zy z6 0,zy z6 0,zy z6 0,zy z6 0,zy z6 0,zy z6 0,zy z6 0,zy z6 0,zy z6 0] 23)).alloc (.cells #[zy z6 0,zy z6 0,zy z6 0,zy z6 0,zy z6 0,zy z6 0,zy z6 0,zy z6 0,zy z6 0,zy z6 0,zy z6 0,zy z6 0,zy z6 0,zy z6 0,zy z6 0,zy z6 0,zy z6 0,zy z6 0,zy z6 0,zy z6 0,zy z6 0,zy z6 0,zy z6 0,zy z6 0,zy z6 0,zy z6 0,zy z6 0,zy z6 0,zy z6 0,zy z6 0,zy z6 0,zy z6 0] 23)=W:=⟨_,rfl⟩;rw[hW]at hA hD hF hG ⊢;obtain⟨r,hr⟩:∃ r,w.heap.size=r:=⟨_,rfl⟩;obtain⟨d,hd⟩:∃ d,r+1=d:=⟨_,rfl⟩;have hj:w.heap.size≤r:=by omega
   rw[hr]at hA hD hG;rw[hr,hd];rw[hd]at hD;have hn:r<d:=by omega
   have hq:d<W.heap.size:=by omega
   have HA:=za hA;have HD:=za hD;have HF:=za hF;clear hW hr hd hA hD hF hG
   go_wp2_with fail
   refine(Hc.out _).mono ?_;rintro e w1 ⟨hp,hB⟩;obtain rfl:e=_:=hp;have hI:=hB.block _ _ HA.out (fun h=>h);have hH:=hB.block _ _ HD.out (fun h=>h);obtain⟨L,hL⟩:∃ L,zb jd=L:=⟨_,rfl⟩;have hC:w1.rangeAt d 0 L:=by rw[← hL];exact jm hH
   have hl:L.length=32:=by rw[← hL];rfl
   have hJ:=za hC;have hE:=za (show w1.there r 0 L.toArray.size from jf hI (by rw[zn,hl];exact zt _));have hR:=za (HF.out.trans' hB);have hQ:=za (show L.toArray.all (·.oneCell')=true by rw[← hL];exact all_oneCell_toArray (zau _));have HL:=za hL;have HZ:=za (show(Tryz.prog.info? 23).map (·.size)=some L.length by rw[jr,hl]);have hP:=za (show(Tryz.prog.info? 23).map (·.size)=some L.toArray.size by rw[jr,zn,hl]);clear hL hl
   go_wp2_with(first | ((with_reducible refine wpList_load_mid ?_ 23 _ rfl d 0 ?_ L (.array 32 5) hJ.out jh ?_ HZ.out ?_);rfl;rfl;rfl) | ((with_reducible refine wpList_store_mid ?_ 23 _ _ rfl r 0 L.toArray ?_ ?_ hE.out hP.out hQ.out ?_);rfl;rfl;rfl))
   have hN:=run_loadVar_mid (P:=ze) _ r 0 23 L (.array 32 5) (zg _ r 0 L (by simpa using hE.out)) jh rfl HZ.out;refine bodyPost_ret (v := .tuple #[.agg L.toArray,.bool false]) ?_ rfl ⟨?_,hR.out.trans (z8 _ _ _ _) (fun k _ hm => .inr (by omega))⟩
   ·rw[results_cell_tmp rfl];simp[asAddr,Result.andThen,hN,Act.put]
   rw[← HL.out];rfl
 | some b =>
   simp only;by_cases hO:b.length=32
   ·rw [if_pos hO];have H:=za hO;clear hO;go_enter Tryz.func73,Tryz.ntmps73
    go_upto_region 2 with(fail)
    change Code.wp _ _ _ _ ((w.alloc (.cells #[zy z6 0,zy z6 0,zy z6 0,zy z6 0,zy z6 0,zy z6 0,zy z6 0,zy z6 0,zy z6 0,zy z6 0,zy z6 0,zy z6 0,zy z6 0,zy z6 0,zy z6 0,zy z6 0,zy z6 0,zy z6 0,zy z6 0,zy z6 0,zy z6 0,zy z6 0,zy z6 0,zy z6 0,zy z6 0,zy z6 0,zy z6 0,zy z6 0,zy z6 0,zy z6 0,zy z6 0,zy z6 0] 23)).alloc (.cells #[zy z6 0,zy z6 0,zy z6 0,zy z6 0,zy z6 0,zy z6 0,zy z6 0,zy z6 0,zy z6 0,zy z6 0,zy z6 0,zy z6 0,zy z6 0,zy z6 0,zy z6 0,zy z6 0,zy z6 0,zy z6 0,zy z6 0,zy z6 0,zy z6 0,zy z6 0,zy z6 0,zy z6 0,zy z6 0,zy z6 0,zy z6 0,zy z6 0,zy z6 0,zy z6 0,zy z6 0,zy z6 0] 23));obtain⟨W,hW⟩:∃ W,(w.alloc (.cells #[zy z6 0,zy z6 0,zy z6 0,zy z6 0,zy z6 0,zy z6 0,zy z6 0,zy z6 0,zy z6 0,zy z6 0,zy z6 0,zy z6 0,zy z6 0,zy z6 0,zy z6 0,zy z6 0,zy z6 0,zy z6 0,zy z6 0,zy z6 0,zy z6 0,zy z6 0,zy z6 0,zy z6 0,zy z6 0,zy z6 0,zy z6 0,zy z6 0,zy z6 0,zy z6 0,zy z6 0,zy z6 0] 23)).alloc (.cells #[zy z6 0,zy z6 0,zy z6 0,zy z6 0,zy z6 0,zy z6 0,zy z6 0,zy z6 0,zy z6 0,zy z6 0,zy z6 0,zy z6 0,zy z6 0,zy z6 0,zy z6 0,zy z6 0,zy z6 0,zy z6 0,zy z6 0,zy z6 0,zy z6 0,zy z6 0,zy z6 0,zy z6 0,zy z6 0,zy z6 0,zy z6 0,zy z6 0,zy z6 0,zy z6 0,zy z6 0,zy z6 0] 23)=W:=⟨_,rfl⟩;rw[hW]at hA hD hF hG ⊢;obtain⟨r,hr⟩:∃ r,w.heap.size=r:=⟨_,rfl⟩;obtain⟨d,hd⟩:∃ d,r+1=d:=⟨_,rfl⟩;have hj:w.heap.size≤r:=by omega
    rw[hr]at hA hD hG;rw[hr,hd];rw[hd]at hD;have hn:r<d:=by omega
    have hq:d<W.heap.size:=by omega
    have HA:=za hA;have HD:=za hD;have HF:=za hF;clear hW hr hd hA hD hF hG
    go_wp2_with fail
    refine(Hc.out _).mono ?_;rintro e w1 ⟨⟨a,c,rfl,hK⟩,hB⟩;have hI:=hB.block _ _ HA.out (fun h=>h);have hH:=hB.block _ _ HD.out (fun h=>h);obtain⟨g,o,c',e1,-,hgW,-,-⟩:=hK.cellsAt (by intro h;have:=H.out;rw[h]at this;simp at this);obtain⟨rfl,rfl⟩:a=some ⟨g,o,none⟩∧c=c':=by simpa using e1
    have hb:((b.length:Int) != 32)=false:=by rw[H.out];rfl
    have hC:w1.rangeAt d 0 (zb (b.take 0)++zb (List.replicate (32 - 0) 0)):=jm hH;have hJ:=za hC;have hE:=za (show w1.there r 0 32 from jf hI (zt _));have hv:=za (show w1.there d 0 32 from jf hH (zt _));have hR:=za (HF.out.trans' hB);have Hsb:=za hK;have hsz1:=hB.size;clear hB hI hH hC hK e1
    go_wp2_with fail
    go_loopg [7] 33 (fun gf vi wr=>∃ i:Nat,vi = .int .i64 i∧i≤32∧i+gf=33∧Hid (Fr NoB w wr)∧Hid (wr.rangeAt d 0 (zb (b.take i)++zb (List.replicate (32 - i) 0)))∧Hid (wr.there r 0 32)∧Hid (wr.there d 0 32)∧Hid (SB (fun k=>W.heap.size≤k) b (.slice (some ⟨g,o,none⟩) b.length c) wr))
    case atStart=>exact⟨0,rfl,by omega,by omega,hR,hJ,hE,hv,Hsb⟩
    case round =>
     obtain⟨i,rfl,hi,hig,hg,hX,hS,hT,hV⟩:=hrel;by_cases ht:i<32
     ·have hY:decide ((i:Int)<32)=true:=decide_eq_true (by omega);have hu:i<b.length:=by rw[H.out];exact ht
      obtain⟨x,hx⟩:∃ x,b[i]? = some x:=⟨_,List.getElem?_eq_getElem hu⟩;obtain⟨g',o',he,e1,k1⟩:=hV.out.at hx;obtain⟨⟨rfl,rfl⟩,rfl⟩:(g=g'∧o=o')∧c=he:=by simpa using e1
      have ho:(zb (b.take i)).length=i:=by rw[je,List.length_take];omega
      have hM:zb (List.replicate (32 - i) 0)=[zy z6 0]++zb (List.replicate (32 - (i+1)) 0):=by
       rw[show 32 - i=(32 - (i+1))+1 by omega,List.replicate_succ];rfl
      have hZ:=hX.out;rw[hM]at hZ;have ha:=zbf (zb (b.take i)) [zy z6 0] (zb (List.replicate (32 - (i+1)) 0)) [.int .u8 x.toNat] hZ rfl;rw[ho]at ha
      have hh:zb (b.take (i+1))=zb (b.take i)++[.int .u8 x.toNat]:=by
       rw[List.take_add_one,hx];simp[zb]
      have hs:(wr.setCell ⟨d,i,none⟩ (.int .u8 x.toNat)).rangeAt d 0 (zb (b.take (i+1))++zb (List.replicate (32 - (i+1)) 0)):=by
       rw[hh,List.append_assoc];exact ha
      have hz:=za hs;have kd:=(hT.out i (by omega));rw[Nat.zero_add]at kd;obtain⟨vd,hvd⟩:=Option.isSome_iff_exists.1 kd.1;have hfd:=kd.2;have hib2:(i:Int)<b.length:=by omega
      have hw:=za (zar hS.out d i (.int .u8 x.toNat));have hf:=za (zar hT.out d i (.int .u8 x.toNat));have h0:=za (hg.out.setNew ⟨d,i,none⟩ (.int .u8 x.toNat) (by show w.heap.size≤d;omega));have hy:=za (hV.out.fr ((Fr.refl (M:=fun k _=>k=d)).setCell ⟨d,i,none⟩ (.int .u8 x.toNat) (fun _ _=>rfl)) (fun k _ hk _ hm=>by omega));clear hZ ha hs hh hM ho e1 hx kd hX hS hT hV hg
      go_wp2_with fail
      go_roundg (gk - 1)
      case measure=>omega
      case rel=>exact⟨i+1,by simp,by omega,by omega,h0,hz,hw,hf,hy⟩
     obtain rfl:i=32:=by omega
     obtain⟨L,hL⟩:∃ L,zb b=L:=⟨_,rfl⟩
     have hC:wr.rangeAt d 0 L:=by
      have:=hX.out;rw[List.take_of_length_le (by rw[H.out];exact zt _)]at this;rw[← hL];simpa[zb] using this
     have hl:L.length=32:=by rw[← hL,je,H.out]
     have hJ:=za hC;have hE:=za (show wr.there r 0 L.toArray.size by rw[zn,hl];exact hS.out);have hQ:=za (show L.toArray.all (·.oneCell')=true by rw[← hL];exact all_oneCell_toArray (zau _));have hY:decide ((32:Int)<32)=false:=rfl;clear hC hX hS hT hV;have HL:=za hL;have HZ:=za (show(Tryz.prog.info? 23).map (·.size)=some L.length by rw[jr,hl]);have hP:=za (show(Tryz.prog.info? 23).map (·.size)=some L.toArray.size by rw[jr,zn,hl]);clear hL hl
     go_wp2_with(first | ((with_reducible refine wpList_load_mid ?_ 23 _ rfl d 0 ?_ L (.array 32 5) hJ.out jh ?_ HZ.out ?_);rfl;rfl;rfl) | ((with_reducible refine wpList_store_mid ?_ 23 _ _ rfl r 0 L.toArray ?_ ?_ hE.out hP.out hQ.out ?_);rfl;rfl;rfl))
     have hN:=run_loadVar_mid (P:=ze) _ r 0 23 L (.array 32 5) (zg _ r 0 L (by simpa using hE.out)) jh rfl HZ.out;refine bodyPost_ret (v := .tuple #[.agg L.toArray,.bool true]) ?_ rfl ⟨?_,hg.out.trans (z8 _ _ _ _) (fun k _ hm => .inr (by omega))⟩
     ·rw[results_cell_tmp rfl];simp[asAddr,Result.andThen,hN,Act.put]
     rw[← HL.out];rfl
   rw[if_neg hO];have hb:((b.length:Int) != 32)=true:=by simp;omega
   have h32n:(b.length != 32)=true:=by simp;omega
   clear hO;go_enter Tryz.func73,Tryz.ntmps73
   go_upto_region 2 with(fail)
   change Code.wp _ _ _ _ ((w.alloc (.cells #[zy z6 0,zy z6 0,zy z6 0,zy z6 0,zy z6 0,zy z6 0,zy z6 0,zy z6 0,zy z6 0,zy z6 0,zy z6 0,zy z6 0,zy z6 0,zy z6 0,zy z6 0,zy z6 0,zy z6 0,zy z6 0,zy z6 0,zy z6 0,zy z6 0,zy z6 0,zy z6 0,zy z6 0,zy z6 0,zy z6 0,zy z6 0,zy z6 0,zy z6 0,zy z6 0,zy z6 0,zy z6 0] 23)).alloc (.cells #[zy z6 0,zy z6 0,zy z6 0,zy z6 0,zy z6 0,zy z6 0,zy z6 0,zy z6 0,zy z6 0,zy z6 0,zy z6 0,zy z6 0,zy z6 0,zy z6 0,zy z6 0,zy z6 0,zy z6 0,zy z6 0,zy z6 0,zy z6 0,zy z6 0,zy z6 0,zy z6 0,zy z6 0,zy z6 0,zy z6 0,zy z6 0,zy z6 0,zy z6 0,zy z6 0,zy z6 0,zy z6 0] 23));obtain⟨W,hW⟩:∃ W,(w.alloc (.cells #[zy z6 0,zy z6 0,zy z6 0,zy z6 0,zy z6 0,zy z6 0,zy z6 0,zy z6 0,zy z6 0,zy z6 0,zy z6 0,zy z6 0,zy z6 0,zy z6 0,zy z6 0,zy z6 0,zy z6 0,zy z6 0,zy z6 0,zy z6 0,zy z6 0,zy z6 0,zy z6 0,zy z6 0,zy z6 0,zy z6 0,zy z6 0,zy z6 0,zy z6 0,zy z6 0,zy z6 0,zy z6 0] 23)).alloc (.cells #[zy z6 0,zy z6 0,zy z6 0,zy z6 0,zy z6 0,zy z6 0,zy z6 0,zy z6 0,zy z6 0,zy z6 0,zy z6 0,zy z6 0,zy z6 0,zy z6 0,zy z6 0,zy z6 0,zy z6 0,zy z6 0,zy z6 0,zy z6 0,zy z6 0,zy z6 0,zy z6 0,zy z6 0,zy z6 0,zy z6 0,zy z6 0,zy z6 0,zy z6 0,zy z6 0,zy z6 0,zy z6 0] 23)=W:=⟨_,rfl⟩;rw[hW]at hA hD hF hG ⊢;obtain⟨r,hr⟩:∃ r,w.heap.size=r:=⟨_,rfl⟩;obtain⟨d,hd⟩:∃ d,r+1=d:=⟨_,rfl⟩;have hj:w.heap.size≤r:=by omega
   rw[hr]at hA hD hG;rw[hr,hd];rw[hd]at hD;have hn:r<d:=by omega
   have hq:d<W.heap.size:=by omega
   have HA:=za hA;have HD:=za hD;have HF:=za hF;clear hW hr hd hA hD hF hG
   go_wp2_with fail
   refine(Hc.out _).mono ?_;rintro e w1 ⟨⟨a,c,rfl,hK⟩,hB⟩;have hI:=hB.block _ _ HA.out (fun h=>h);have hH:=hB.block _ _ HD.out (fun h=>h);obtain⟨L,hL⟩:∃ L,zb jd=L:=⟨_,rfl⟩;have hC:w1.rangeAt d 0 L:=by rw[← hL];exact jm hH
   have hl:L.length=32:=by rw[← hL];rfl
   have hJ:=za hC;have hE:=za (show w1.there r 0 L.toArray.size from jf hI (by rw[zn,hl];exact zt _));have hR:=za (HF.out.trans' hB);have hQ:=za (show L.toArray.all (·.oneCell')=true by rw[← hL];exact all_oneCell_toArray (zau _));clear hK hB hI hH hC;have HL:=za hL;have HZ:=za (show(Tryz.prog.info? 23).map (·.size)=some L.length by rw[jr,hl]);have hP:=za (show(Tryz.prog.info? 23).map (·.size)=some L.toArray.size by rw[jr,zn,hl]);clear hL hl
   go_wp2_with(first | ((with_reducible refine wpList_load_mid ?_ 23 _ rfl d 0 ?_ L (.array 32 5) hJ.out jh ?_ HZ.out ?_);rfl;rfl;rfl) | ((with_reducible refine wpList_store_mid ?_ 23 _ _ rfl r 0 L.toArray ?_ ?_ hE.out hP.out hQ.out ?_);rfl;rfl;rfl))
   have hN:=run_loadVar_mid (P:=ze) _ r 0 23 L (.array 32 5) (zg _ r 0 L (by simpa using hE.out)) jh rfl HZ.out;refine bodyPost_ret (v := .tuple #[.agg L.toArray,.bool false]) ?_ rfl ⟨?_,hR.out.trans (z8 _ _ _ _) (fun k _ hm => .inr (by omega))⟩
   ·rw[results_cell_tmp rfl];simp[asAddr,Result.andThen,hN,Act.put]
   rw[← HL.out];rfl
end
end Go.Proofs.YtmgfncjfgkllcaaGreatDoor
