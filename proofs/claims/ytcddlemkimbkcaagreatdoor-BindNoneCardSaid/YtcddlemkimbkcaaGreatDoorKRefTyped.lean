/-
 The walk of the reference's Named.
-/
import Derived.Test.YtcddlemkimbkcaaGreatDoorKSpecEntry
import Derived.Test.YtcddlemkimbkcaaGreatDoorKSeen
import Derived.Deep.LoopGhost
import Derived.Test.YtcddlemkimbkcaaGreatDoorKOwn
import Derived.Test.YtcddlemkimbkcaaGreatDoorKUnhex
import Derived.Test.YtcddlemkimbkcaaGreatDoorKEnAt
import Derived.OrdersHeld
import Derived.Deep.RegionHeld3
open Go.Lib renaming hid→za
namespace Go.Proofs.YtcddlemkimbkcaaGreatDoor
set_option linter.unusedVariables false
set_option linter.unusedSimpArgs false
set_option linter.unusedSectionVars false
set_option maxRecDepth 100000
set_option maxHeartbeats 4000000
section
open Go.RowKit
theorem ziu (s:Bs) (w:World) (hlen:s.length≤1000000) :
 Calls Tryz.prog 23 #[.string ⟨s.toArray⟩] w fun e w'=>e = .returned (.bool (zbn s))∧w=w':=by
 obtain⟨R,hR⟩:∃ R,zbn s=R:=⟨_,rfl⟩;rw[hR];unfold zbn at hR;have hsz:(ByteArray.mk s.toArray).size=s.length:=rfl;by_cases h0:s.length<1
 ·have hT:decide ((s.length:Int)<1)=true:=decide_eq_true (by omega);obtain rfl:s=[]:=List.length_eq_zero_iff.1 (by omega);have HR:Hid (false=R):=za (by simpa using hR);clear hR h0;go_enter Tryz.func23,Tryz.ntmps23
  go_wp2_with fail
  go_ret;exact⟨jf HR.out,rfl⟩
 have hT:decide ((s.length:Int)<1)=false:=decide_eq_false (by omega)
 have hG:s.isEmpty=false:=by
  cases s with
  | nil=>exact absurd (by simp) h0
  | cons a r=>rfl
 rw[hG]at hR;by_cases hM:64<s.length
 ·have hL:decide ((64:Int)<(s.length:Int))=true:=decide_eq_true (by omega);have hB:decide (s.length≤64)=false:=decide_eq_false (by omega);rw[hB]at hR;have HR:Hid (false=R):=za (by simpa using hR);clear hR h0 hG hM hB;go_enter Tryz.func23,Tryz.ntmps23
  go_wp2_with fail
  go_ret;exact⟨jf HR.out,rfl⟩
 have hL:decide ((64:Int)<(s.length:Int))=false:=decide_eq_false (by omega);have hB:decide (s.length≤64)=true:=decide_eq_true (by omega);rw[hB]at hR;have HR:Hid ((s.drop 0).all (fun c=>zcs c.toNat)=R):=za (by simpa using hR);clear hR h0 hG hM hB;go_enter Tryz.func23,Tryz.ntmps23
 go_wp2_with fail
 go_loopg [3] (s.length+1) (fun gf vi wr=>∃ i:Nat,vi = .int .i64 i∧i≤s.length∧i+gf=s.length+1∧w=wr∧Hid ((s.drop i).all (fun c=>zcs c.toNat)=R))
 case atStart=>exact⟨0,rfl,by omega,by omega,rfl,HR⟩
 case round =>
  obtain⟨i,rfl,hi,hig,rfl,HS⟩:=hrel;rcases Nat.lt_or_ge i s.length with hlt | hge
  ·obtain ⟨c, hc⟩:∃ c,s[i]? = some c:=⟨_,List.getElem?_eq_getElem hlt⟩
   have hcb:∀ h,(ByteArray.mk s.toArray)[i]'h=c:=by
    intro h;obtain⟨h1,h2⟩:=List.getElem?_eq_some_iff.1 hc;exact h2
   have hS:=HS.out;rw[zc2 hc,List.all_cons]at hS;have hc8:(c.toNat:Int)<256:=by have:=c.toNat_lt;omega
   obtain⟨b1,hQ⟩:∃ b,decide ((97:Int)≤(c.toNat:Int))=b:=⟨_,rfl⟩;obtain⟨b2,hP⟩:∃ b,decide ((c.toNat:Int)≤122)=b:=⟨_,rfl⟩;obtain⟨b3,hO⟩:∃ b,decide ((48:Int)≤(c.toNat:Int))=b:=⟨_,rfl⟩;obtain⟨b4,hN⟩:∃ b,decide ((c.toNat:Int)≤57)=b:=⟨_,rfl⟩;obtain⟨hE,hJ⟩:∃ b,((c.toNat:Int)==46)=b:=⟨_,rfl⟩;obtain⟨hF,hK⟩:∃ b,((c.toNat:Int)==45)=b:=⟨_,rfl⟩;obtain⟨hC,hH⟩:∃ b,((c.toNat:Int)==95)=b:=⟨_,rfl⟩;obtain⟨hD,hI⟩:∃ b,((c.toNat:Int)==64)=b:=⟨_,rfl⟩
   have hn:zcs c.toNat=((b1&&b2)||((b3&&b4)||(hE||(hF||(hC||hD))))):=by
    unfold zcs
    have f:∀ k:Nat,(c.toNat==k)=((c.toNat:Int)==(k:Int)):=fun k=>by
     rw[Bool.eq_iff_iff,beq_iff_eq,beq_iff_eq];omega
    rw[← hQ,← hP,← hO,← hN,← hJ,← hK,← hH,← hI,f,f,f,f]
    congr 1
    ·congr 1<;>exact decide_eq_decide.2 (by omega)
    congr 1
    congr 1<;>exact decide_eq_decide.2 (by omega)
   rw[hn]at hS;have hA:=za hS;clear hc hS HS hn;cases b1
   ·cases b3
    ·cases hE
     ·cases hF
      ·cases hC
       ·cases hD
        ·(go_wp2_with fail
          first
          | (go_ret
             exact⟨jf (by simpa using hA.out),rfl⟩)
          | (go_roundg (gk - 1)
             case measure=>omega
             case rel=>exact⟨i+1,by simp,by omega,by omega,rfl,za (by simpa using hA.out)⟩))
        (go_wp2_with fail
         first
         | (go_ret
            exact⟨jf (by simpa using hA.out),rfl⟩)
         | (go_roundg (gk - 1)
            case measure=>omega
            case rel=>exact⟨i+1,by simp,by omega,by omega,rfl,za (by simpa using hA.out)⟩))
       (go_wp2_with fail
        first
        | (go_ret
           exact⟨jf (by simpa using hA.out),rfl⟩)
        | (go_roundg (gk - 1)
           case measure=>omega
           case rel=>exact⟨i+1,by simp,by omega,by omega,rfl,za (by simpa using hA.out)⟩))
      (go_wp2_with fail
       first
       | (go_ret
          exact⟨jf (by simpa using hA.out),rfl⟩)
       | (go_roundg (gk - 1)
          case measure=>omega
          case rel=>exact⟨i+1,by simp,by omega,by omega,rfl,za (by simpa using hA.out)⟩))
     (go_wp2_with fail
      first
      | (go_ret
         exact⟨jf (by simpa using hA.out),rfl⟩)
      | (go_roundg (gk - 1)
         case measure=>omega
         case rel=>exact⟨i+1,by simp,by omega,by omega,rfl,za (by simpa using hA.out)⟩))
    cases b4
    ·cases hE
     ·cases hF
      ·cases hC
       ·cases hD
        ·(go_wp2_with fail
          first
          | (go_ret
             exact⟨jf (by simpa using hA.out),rfl⟩)
          | (go_roundg (gk - 1)
             case measure=>omega
             case rel=>exact⟨i+1,by simp,by omega,by omega,rfl,za (by simpa using hA.out)⟩))
        (go_wp2_with fail
         first
         | (go_ret
            exact⟨jf (by simpa using hA.out),rfl⟩)
         | (go_roundg (gk - 1)
            case measure=>omega
            case rel=>exact⟨i+1,by simp,by omega,by omega,rfl,za (by simpa using hA.out)⟩))
       (go_wp2_with fail
        first
        | (go_ret
           exact⟨jf (by simpa using hA.out),rfl⟩)
        | (go_roundg (gk - 1)
           case measure=>omega
           case rel=>exact⟨i+1,by simp,by omega,by omega,rfl,za (by simpa using hA.out)⟩))
      (go_wp2_with fail
       first
       | (go_ret
          exact⟨jf (by simpa using hA.out),rfl⟩)
       | (go_roundg (gk - 1)
          case measure=>omega
          case rel=>exact⟨i+1,by simp,by omega,by omega,rfl,za (by simpa using hA.out)⟩))
     (go_wp2_with fail
      first
      | (go_ret
         exact⟨jf (by simpa using hA.out),rfl⟩)
      | (go_roundg (gk - 1)
         case measure=>omega
         case rel=>exact⟨i+1,by simp,by omega,by omega,rfl,za (by simpa using hA.out)⟩))
    (go_wp2_with fail
     first
     | (go_ret
        exact⟨jf (by simpa using hA.out),rfl⟩)
     | (go_roundg (gk - 1)
        case measure=>omega
        case rel=>exact⟨i+1,by simp,by omega,by omega,rfl,za (by simpa using hA.out)⟩))
   cases b2
   ·cases b3
    ·cases hE
     ·cases hF
      ·cases hC
       ·cases hD
        ·(go_wp2_with fail
          first
          | (go_ret
             exact⟨jf (by simpa using hA.out),rfl⟩)
          | (go_roundg (gk - 1)
             case measure=>omega
             case rel=>exact⟨i+1,by simp,by omega,by omega,rfl,za (by simpa using hA.out)⟩))
        (go_wp2_with fail
         first
         | (go_ret
            exact⟨jf (by simpa using hA.out),rfl⟩)
         | (go_roundg (gk - 1)
            case measure=>omega
            case rel=>exact⟨i+1,by simp,by omega,by omega,rfl,za (by simpa using hA.out)⟩))
       (go_wp2_with fail
        first
        | (go_ret
           exact⟨jf (by simpa using hA.out),rfl⟩)
        | (go_roundg (gk - 1)
           case measure=>omega
           case rel=>exact⟨i+1,by simp,by omega,by omega,rfl,za (by simpa using hA.out)⟩))
      (go_wp2_with fail
       first
       | (go_ret
          exact⟨jf (by simpa using hA.out),rfl⟩)
       | (go_roundg (gk - 1)
          case measure=>omega
          case rel=>exact⟨i+1,by simp,by omega,by omega,rfl,za (by simpa using hA.out)⟩))
     (go_wp2_with fail
      first
      | (go_ret
         exact⟨jf (by simpa using hA.out),rfl⟩)
      | (go_roundg (gk - 1)
         case measure=>omega
         case rel=>exact⟨i+1,by simp,by omega,by omega,rfl,za (by simpa using hA.out)⟩))
    cases b4
    ·cases hE
     ·cases hF
      ·cases hC
       ·cases hD
        ·(go_wp2_with fail
          first
          | (go_ret
             exact⟨jf (by simpa using hA.out),rfl⟩)
          | (go_roundg (gk - 1)
             case measure=>omega
             case rel=>exact⟨i+1,by simp,by omega,by omega,rfl,za (by simpa using hA.out)⟩))
        (go_wp2_with fail
         first
         | (go_ret
            exact⟨jf (by simpa using hA.out),rfl⟩)
         | (go_roundg (gk - 1)
            case measure=>omega
            case rel=>exact⟨i+1,by simp,by omega,by omega,rfl,za (by simpa using hA.out)⟩))
       (go_wp2_with fail
        first
        | (go_ret
           exact⟨jf (by simpa using hA.out),rfl⟩)
        | (go_roundg (gk - 1)
           case measure=>omega
           case rel=>exact⟨i+1,by simp,by omega,by omega,rfl,za (by simpa using hA.out)⟩))
      (go_wp2_with fail
       first
       | (go_ret
          exact⟨jf (by simpa using hA.out),rfl⟩)
       | (go_roundg (gk - 1)
          case measure=>omega
          case rel=>exact⟨i+1,by simp,by omega,by omega,rfl,za (by simpa using hA.out)⟩))
     (go_wp2_with fail
      first
      | (go_ret
         exact⟨jf (by simpa using hA.out),rfl⟩)
      | (go_roundg (gk - 1)
         case measure=>omega
         case rel=>exact⟨i+1,by simp,by omega,by omega,rfl,za (by simpa using hA.out)⟩))
    (go_wp2_with fail
     first
     | (go_ret
        exact⟨jf (by simpa using hA.out),rfl⟩)
     | (go_roundg (gk - 1)
        case measure=>omega
        case rel=>exact⟨i+1,by simp,by omega,by omega,rfl,za (by simpa using hA.out)⟩))
   (go_wp2_with fail
    first
    | (go_ret
       exact⟨jf (by simpa using hA.out),rfl⟩)
    | (go_roundg (gk - 1)
       case measure=>omega
       case rel=>exact⟨i+1,by simp,by omega,by omega,rfl,za (by simpa using hA.out)⟩))
  obtain rfl:i=s.length:=by omega
  have hS:=HS.out;rw[List.drop_length]at hS;have hU:=za hS;clear hS HS
  go_wp2_with fail
  go_ret;exact⟨jf (by simpa using hU.out),rfl⟩
end
section
open Go.RowKit
variable [OldK]
theorem zjr {k:Nat}(hk:k<16):∀ h,(ByteArray.mk #[48,49,50,51,52,53,54,55,56,57,97,98,99,100,101,102])[k]'h=sgn hexes k:=by
 have:k=0∨k=1∨k=2∨k=3∨k=4∨k=5∨k=6∨k=7∨k=8∨k=9∨k=10∨k=11∨k=12∨k=13∨k=14∨k=15:=by omega
 rcases this with rfl | rfl | rfl | rfl | rfl | rfl | rfl | rfl | rfl | rfl | rfl | rfl | rfl | rfl | rfl | rfl
 all_goals exact fun _=>rfl
theorem zet {P:Program}{o:Oper}{a:Act}{w:World}{K:Act→World→Prop}{Q:Exit→Act→World→Prop}
 (s x:Operand) (t:TypeId) (hop:o.op=Op.call { callee:=Callee.builtin Builtin.append,args:=#[s,x],argTypes:=#[t,t] })
 (base:Nat) (e:TypeId) (i:TypeInfo) (z:Value) (size bytes:Nat) (ht:P.underlying t=some (.slice e)) (hi:P.info? e=some i) (hz:i.zero=some z)
 (hsize:i.size=size) (hby:i.bytes=bytes) (hzs:z.cells.size=size) (hsz:0<size)
 (v:Value) (n:Nat) (xs:List Value) (hs:a.eval s=v) (hown:w.ownsRow base e size v n xs)
 (ad:Addr) (m c:Nat) (news:List Value) (hx:a.eval x = .slice (some ad) m c) (hl:news.length=m * size) (hnews:∀ j u,news[j]? = some u→w.cell? (ad.add j)=some u) (h1:∀ u∈news,u.oneCell'=true)
 (h63:n+m≤maxLen) (hbytes:(n+m) * bytes≤140737488355328) (hbase:base≤w.heap.size)
 (hK:∀ v' w',w'.ownsRow base e size v' (n+m) (xs++news)→w.grownBy w' v.ownBlock→K (a.put o.dst v') w') :
 Oper.wp P o a w K Q:=by
 obtain⟨v',w',hr,ho,hA,_⟩:=zds (P:=P) w base t o.type e i z size bytes ht hi hz hsize hby hzs hsz v n xs hown ad m c news hl hnews h1 h63 hbytes hbase;unfold Oper.wp execOp;simp only[hop,resolve,invoke,builtin,Sem.run_bind,Sem.run_pure,Result.andThen_ok,List.map_toArray,List.map_cons,List.map_nil,hs,hx,hr];exact hK v' w' ho hA
theorem znf (S:Nat→Prop) (l:Bs) (v:Value) (w:World) (hv:SB S l v w) (hlen:l.length≤1000000) :
 Calls Tryz.prog 63 #[v] w fun e w'=>e = .returned (.string ⟨(zcl l).toArray⟩)∧Fr NoB w w':=by
 obtain⟨a,c,rfl⟩:=hv.form;obtain⟨G,hG⟩:∃ G,zcl l=G:=⟨_,rfl⟩;rw[hG];have HG:Hid (([]:Bs)++zcl (l.drop 0)=G):=za (by simpa using hG);have Hv:=za hv;have hU:OB w.heap.size [] (.slice none 0 0) w:=⟨rfl,.inl ⟨rfl,rfl⟩⟩;have hh:=za hU;obtain⟨i0,hb,hY,hX,hW⟩:=info_parts zbk;clear hG hv hU;go_enter Tryz.func63,Tryz.ntmps63
 go_wp2_with fail
 go_loopg [4,5] (l.length+1) (fun g vo vi wr=>∃ (i:Nat) (out:Bs),vi = .int .i64 i∧i≤l.length∧i+g=l.length+1∧out.length=2 * i∧Hid (OB w.heap.size out vo wr)∧Hid (Fr NoB w wr)∧Hid (out++zcl (l.drop i)=G))
 case atStart=>exact⟨0,[],rfl,by omega,by omega,rfl,hh,za Fr.refl,HG⟩
 case round =>
  obtain⟨i,out,rfl,hi,hgk,hD,HO,HF,HS⟩:=hrel;rcases Nat.lt_or_ge i l.length with hlt | hge
  ·obtain ⟨c',hJ⟩:∃ c',l[i]? = some c':=⟨_,List.getElem?_eq_getElem hlt⟩;have hP:=Hv.out.fr HF.out (fun _ _ _ _ h=>h);obtain⟨b,o,hf,hQ,k1⟩:=hP.at hJ;obtain⟨rfl,rfl⟩:a=some ⟨b,o,none⟩∧c=hf:=by simpa using hQ
   obtain⟨b',o',hL,e1,-,-,hbw,-⟩:=Hv.out.cellsAt (by intro h;rw[h]at hlt;simp at hlt);obtain⟨⟨rfl,rfl⟩,rfl⟩:(b=b'∧o=o')∧c=hL:=by simpa using e1
   have hS:=HS.out;rw[zc2 hJ,zcl]at hS;obtain⟨q1,hI⟩:∃ q1,c'.toNat / 16=q1:=⟨_,rfl⟩;obtain⟨q2,hH⟩:∃ q2,c'.toNat % 16=q2:=⟨_,rfl⟩;have hc8:c'.toNat<256:=c'.toNat_lt;have ha:q1<16:=by omega
   have hZ:q2<16:=by omega
   have hw1:(c'.toNat:Int) / 16=(q1:Int):=by omega
   have hw1t:(c'.toNat:Int).tdiv 16=(q1:Int):=by rw[← hI];rfl
   have hw2:(c'.toNat:Int).tmod 16=(q2:Int):=by rw[← hH];rfl
   have hw3:IntKind.u8.wrap (q1:Int)=q1:=by simp[IntKind.wrap,IntKind.signed,IntKind.bits];omega
   have hw4:IntKind.u8.wrap (q2:Int)=q2:=by simp[IntKind.wrap,IntKind.signed,IntKind.bits];omega
   have hw5:(q1:Int)<16:=by omega
   have hw6:(q2:Int)<16:=by omega
   rw[hI,hH]at hS;have hd:=zjr ha;have hc:=zjr hZ;obtain⟨x1,hO⟩:∃ x,sgn hexes q1=x:=⟨_,rfl⟩;obtain⟨x2,hN⟩:∃ x,sgn hexes q2=x:=⟨_,rfl⟩;rw[hO]at hS hd;rw[hN]at hS hc;have hM:=za hS;have hwB:=HF.out.size;have hlti:(i:Int)<l.length:=by omega
   have K1:=za k1;obtain⟨ao,co,hF⟩:=HO.out.form;subst hF;have hE:=za hD;clear hD e1 hI hH hO hN hS HS hP hQ hJ k1
   go_upto_region 6 with(fail)
   refine wp_region_held_drew (S:=fun V=>V.cell? ⟨b,o+i,none⟩=some (.int .u8 c'.toNat)) (by kernel_rfl) (by simpa using K1.out) (fun hA=>?_);simp only[qV]
   iterate 15
    refine qt (v:=?_) rfl (Or.inl ⟨by rfl,?_⟩) hA ?_;rotate_left
    ·intro W he
     try simp only[qQ]
     go_simp
     try rw[if_neg (by omega)]
     try with_reducible rfl
    try simp only[Act.put,qP]
   refine qr (i:=15) (by kernel_rfl) rfl (fun K hK=>?_)
   try simp only[qQ]
   go_simp;refine hK.out _ _ (by first | exact Fr.cell ((Fr.refl (M:=NoB)).alloc _) hA | exact Fr.cell ((Fr.refl (M:=NoB)).alloc _).drew (by simpa using hA)) (fun hA=>?_);clear hK K
   try simp only[Act.put,qP]
   refine qr (i:=16) (by kernel_rfl) rfl (fun K hK=>?_)
   try simp only[qQ]
   rw[if_pos (by rfl)];refine zet (.tmp 12) (.tmp 27) 36 (by rfl) w.heap.size 5 i0 (.int .u8 0) 1 1 Tryz.underlying36 hb hY hX hW rfl (by decide) (.slice ao out.length co) out.length (Lib.byteCells out) (by rfl) (by exact HO.out.alloc (.cells #[.int .u8 x1.toNat,.int .u8 x2.toNat] 5)) ⟨wr.heap.size,0,none⟩ 2 2 [.int .u8 x1.toNat,.int .u8 x2.toNat] (by rfl) rfl (by exact zdm wr 5 [.int .u8 x1.toNat,.int .u8 x2.toNat] _ rfl) (by simp[Value.oneCell']) (by have:=hE.out;unfold maxLen;omega) (by have:=hE.out;omega) (by simp;omega) ?_;intro v' w2 hB hC;refine hK.out _ _ (Fr.cell (HO.out.push (news:=[x1,x2]) (Fr.refl.alloc (.cells #[.int .u8 x1.toNat,.int .u8 x2.toNat] 5)).drew hB hC).2 K1.out (fun _ h=>by omega)) (fun hA=>?_);clear hK K
   try simp only[Act.put,qP]
   obtain⟨hR,hV⟩:=HO.out.push (news:=[x1,x2]) (Fr.refl.alloc (.cells #[.int .u8 x1.toNat,.int .u8 x2.toNat] 5)).drew hB hC;have hg:=za hR;have hj:=za (HF.out.trans hV (fun _ _ h => .inr h));clear hB hC hR hV;refine qt (v:=?_) rfl (Or.inl ⟨by rfl,?_⟩) hA ?_;rotate_left
   ·intro W he
    try simp only[qQ]
    go_simp
    try rw[if_neg (by omega)]
    try with_reducible rfl
   try simp only[Act.put,qP]
   refine wpAnyH_done (by kernel_rfl) ?_ _;clear hA
   go_wp2_with fail
   go_roundg (gk - 1)
   case measure=>omega
   case rel=>exact⟨i+1,out++[x1,x2],by simp,by omega,by omega,by have:=hE.out;simp;omega,hg,hj,by have:=hM.out;simpa using za this⟩
  obtain rfl:i=l.length:=by omega
  have hS:=HS.out;simp only[List.drop_length,zcl,List.append_nil]at hS;have hM:=za hS;have HT:=za (HO.out.sb.text);obtain⟨ao,co,hF⟩:=HO.out.form;subst hF;have hT:=HT.out;have hE:=za hD;clear hS HS hD
  go_wp2_with fail
  go_ret;exact⟨by rw[hM.out]<;>rfl,HF.out⟩
end
section
open Go.RowKit
theorem zw6 (s:Bs):((ByteArray.mk s.toArray).extract 0 7).toList=s.take 7:=by
 rw[ByteArray.toList_eq];simp[ByteArray.data_extract]
theorem zir (s:Bs) (w:World) (hlen:s.length≤1000000) :
 Calls Tryz.prog 99 #[.string ⟨s.toArray⟩] w fun e w'=>e = .returned (.bool (zck s))∧w=w':=by
 obtain⟨R,hR⟩:∃ R,zck s=R:=⟨_,rfl⟩;rw[hR];unfold zck at hR;have hsz:(ByteArray.mk s.toArray).size=s.length:=rfl;by_cases h0:s.length<1
 ·have hL:decide ((s.length:Int)<1)=true:=decide_eq_true (by omega);obtain rfl:s=[]:=List.length_eq_zero_iff.1 (by omega);have HR:Hid (false=R):=za (by simpa using hR);clear hR h0;go_enter Tryz.func99,Tryz.ntmps99
  go_wp2_with fail
  go_ret;exact⟨jf HR.out,rfl⟩
 have hL:decide ((s.length:Int)<1)=false:=decide_eq_false (by omega)
 have hC:s.isEmpty=false:=by
  cases s with
  | nil=>exact absurd (by simp) h0
  | cons a r=>rfl
 rw[hC]at hR;by_cases hH:64<s.length
 ·have hE:decide ((64:Int)<(s.length:Int))=true:=decide_eq_true (by omega);have hA:decide (s.length≤64)=false:=decide_eq_false (by omega);rw[hA]at hR;have HR:Hid (false=R):=za (by simpa using hR);clear hR h0 hC hH hA;go_enter Tryz.func99,Tryz.ntmps99
  go_wp2_with fail
  go_ret;exact⟨jf HR.out,rfl⟩
 have hE:decide ((64:Int)<(s.length:Int))=false:=decide_eq_false (by omega);have hA:decide (s.length≤64)=true:=decide_eq_true (by omega);rw[hA]at hR;obtain⟨g7,hD⟩:∃ b,decide ((s.length:Int)<7)=b:=⟨_,rfl⟩;obtain⟨p7,hI⟩:∃ b,(((ByteArray.mk s.toArray).extract 0 7).toList==[99,97,99,104,101,116,47])=b:=⟨_,rfl⟩
 have hB:Lib.hasPrefix s sReserved=(!g7&&p7):=by
  rw[← Lib.hasPrefix_of_take,← hD,← hI,zw6]
  have e:decide (sReserved.length≤s.length) = !decide ((s.length:Int)<7):=by
   rw[show sReserved.length=7 from rfl];by_cases h:7≤s.length
   ·rw[decide_eq_true h,decide_eq_false (by omega)];rfl
   rw[decide_eq_false h,decide_eq_true (by omega)];rfl
  rw[e];rfl
 rw[hB]at hR;have HR:Hid (((s.drop 0).all (fun c=>zfb c.toNat) && !(!g7&&p7))=R):=za (by simpa using hR);have H7:Hid (g7=false→7≤s.length):=za (fun h=>by rw[h]at hD;have:=of_decide_eq_false hD;omega);clear hR h0 hC hH hA hB;go_enter Tryz.func99,Tryz.ntmps99
 go_wp2_with fail
 go_loopg [3] (s.length+1) (fun gf vi wr=>∃ i:Nat,vi = .int .i64 i∧i≤s.length∧i+gf=s.length+1∧w=wr∧Hid (((s.drop i).all (fun c=>zfb c.toNat) && !(!g7&&p7))=R))
 case atStart=>exact⟨0,rfl,by omega,by omega,rfl,HR⟩
 case round =>
  obtain⟨i,rfl,hi,hig,rfl,HS⟩:=hrel;rcases Nat.lt_or_ge i s.length with hlt | hge
  ·obtain ⟨c,hc⟩:∃ c,s[i]? = some c:=⟨_,List.getElem?_eq_getElem hlt⟩
   have hcb:∀ h,(ByteArray.mk s.toArray)[i]'h=c:=by
    intro h;obtain⟨h1,h2⟩:=List.getElem?_eq_some_iff.1 hc;exact h2
   have hS:=HS.out;rw[zc2 hc,List.all_cons]at hS;have hc8:(c.toNat:Int)<256:=by have:=c.toNat_lt;omega
   obtain⟨b1,hK⟩:∃ b,decide ((c.toNat:Int)<33)=b:=⟨_,rfl⟩;obtain⟨b2,hJ⟩:∃ b,decide ((126:Int)<(c.toNat:Int))=b:=⟨_,rfl⟩
   have hn:zfb c.toNat=(!b1 && !b2):=by
    unfold zfb;rw[← hK,← hJ,← decide_not,← decide_not]
    congr 1<;>exact decide_eq_decide.2 (by omega)
   rw[hn]at hS;have hF:=za hS;clear hc hS HS hn;cases b1
   ·cases b2
    ·go_wp2_with fail
     go_roundg (gk - 1)
     case measure=>omega
     case rel=>exact⟨i+1,by simp,by omega,by omega,rfl,za (by simpa using hF.out)⟩
    go_wp2_with fail
    go_ret;exact⟨jf (by simpa using hF.out),rfl⟩
   go_wp2_with fail
   go_ret;exact⟨jf (by simpa using hF.out),rfl⟩
  obtain rfl:i=s.length:=by omega
  have hS:=HS.out;rw[List.drop_length]at hS;have hG:=za hS;clear hS HS;cases g7
  ·have h7:=H7.out rfl;cases p7
   ·go_wp2_with fail
    go_ret;exact⟨jf (by simpa using hG.out),rfl⟩
   go_wp2_with fail
   go_ret;exact⟨jf (by simpa using hG.out),rfl⟩
  go_wp2_with fail
  go_ret;exact⟨jf (by simpa using hG.out),rfl⟩
section
variable [OldK]
theorem zbq (s:Sg) (w:World) (hok:s.ok) (hlen:s.id.length≤1000000) :
 Calls Tryz.prog 38 #[.agg s.cells] w fun e w'=>e = .returned (.string ⟨(jm s).toArray⟩)∧Fr NoB w w':=by
 have hI:=Sg.size hok;have h0:=Sg.cell0 s;have hk:∀ j x,s.key[j]? = some x→s.cells[1+j]? = some (.int .u8 x.toNat):=Sg.cellK;have hB:=hok.1;obtain⟨cs,hD⟩:∃ cs,s.cells=cs:=⟨_,rfl⟩;rw[hD]at hI h0 hk ⊢
 have hG:∀ h,cs[0]'h = .string ⟨s.id.toArray⟩:=fun h=>by
  rw[Array.getElem?_eq_getElem h]at h0;exact Option.some.inj h0
 clear h0 hD hok;obtain⟨id,hC⟩:∃ id,s.id=id:=⟨_,rfl⟩;unfold jm;rw[hC]at hG hlen ⊢;obtain⟨key,hA⟩:∃ key,s.key=key:=⟨_,rfl⟩;rw[hA]at hk hB ⊢;clear hC hA;have hF:=(Fr.refl (M:=NoB)).alloc (w:=w) (.cells cs 54);have HF:=za hF;clear hF;cases id with
 | cons c r =>
   have hJ:(c :: r:Bs).isEmpty=false:=rfl;rw[if_neg (by simp)];obtain⟨l,hl⟩:∃ l,(c :: r:Bs)=l:=⟨_,rfl⟩;rw[hl]at hG hJ hlen ⊢;clear hl;go_enter Tryz.func38,Tryz.ntmps38
   go_wp2_with fail
   go_ret;exact⟨rfl,HF.out⟩
 | nil =>
   rw[if_pos rfl];go_enter Tryz.func38,Tryz.ntmps38
   go_wp2_with fail
   have hx:=@znf ⟨w.heap.size+1⟩ (fun _=>True) key (.slice (some ⟨w.heap.size,1,none⟩) 32 32) (w.alloc (.cells cs 54)) ⟨some ⟨w.heap.size,1,none⟩,32,by rw[hB],by omega,.inr ⟨w.heap.size,1,cs,_,_,rfl,trivial,⟨heap_alloc_new w _,.inr (Nat.lt_succ_self _)⟩,fun j hj=>hk j _ (List.getElem?_eq_getElem hj)⟩⟩ (by omega);refine hx.mono ?_;rintro e w2 ⟨rfl,hE⟩;have hK:=za (HF.out.trans' hE);have hH:(zcl key).length≤100:=by rw[znt];omega
   obtain⟨X,hX⟩:∃ X,zcl key=X:=⟨_,rfl⟩;rw[hX]at hH ⊢;have HX:=za hX;clear hE hx hX hk hB
   go_wp2_with fail
   go_ret;refine⟨?_,hK.out⟩
   have hs:(ByteArray.mk #[107,101,121,58])++(ByteArray.mk X.toArray)=⟨(zje++X).toArray⟩:=by
    apply ByteArray.ext;simp[zje]
   simp[hs,HX.out]
end
end
end Go.Proofs.YtcddlemkimbkcaaGreatDoor
