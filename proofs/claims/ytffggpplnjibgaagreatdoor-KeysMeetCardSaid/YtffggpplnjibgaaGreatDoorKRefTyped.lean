/-
 The walk of the reference's Hex.
-/
import Derived.Test.YtffggpplnjibgaaGreatDoorKOwn
import Derived.Test.YtffggpplnjibgaaGreatDoorKSpecEntry
import Derived.Test.YtffggpplnjibgaaGreatDoorKUnhex
import Derived.Test.YtffggpplnjibgaaGreatDoorKConcat
import Derived.OrdersHeld
import Derived.Deep.RegionHeld3
import Derived.Deep.LoopGhost
import Derived.Test.YtffggpplnjibgaaGreatDoorKSeen
import Derived.Test.YtffggpplnjibgaaGreatDoorKSpecBind
open Go.Lib renaming hid→zi
namespace Go.Proofs.YtffggpplnjibgaaGreatDoor
set_option linter.unusedVariables false
set_option linter.unusedSimpArgs false
set_option linter.unusedSectionVars false
set_option maxRecDepth 100000
set_option maxHeartbeats 4000000
section
open Go.RowKit
variable [OldK]
theorem zkq {k:Nat}(hk:k<16):∀ h,(ByteArray.mk #[48,49,50,51,52,53,54,55,56,57,97,98,99,100,101,102])[k]'h=sgn hexes k:=by
 have:k=0∨k=1∨k=2∨k=3∨k=4∨k=5∨k=6∨k=7∨k=8∨k=9∨k=10∨k=11∨k=12∨k=13∨k=14∨k=15:=by omega
 rcases this with rfl | rfl | rfl | rfl | rfl | rfl | rfl | rfl | rfl | rfl | rfl | rfl | rfl | rfl | rfl | rfl
 all_goals exact fun _=>rfl
theorem zff {P:Program}{o:Oper}{a:Act}{w:World}{K:Act→World→Prop}{Q:Exit→Act→World→Prop}
 (s x:Operand) (t:TypeId) (hop:o.op=Op.call { callee:=Callee.builtin Builtin.append,args:=#[s,x],argTypes:=#[t,t] })
 (base:Nat) (e:TypeId) (i:TypeInfo) (z:Value) (size bytes:Nat) (ht:P.underlying t=some (.slice e)) (hi:P.info? e=some i) (hz:i.zero=some z)
 (hsize:i.size=size) (hby:i.bytes=bytes) (hzs:z.cells.size=size) (hsz:0<size)
 (v:Value) (n:Nat) (xs:List Value) (hs:a.eval s=v) (hown:w.ownsRow base e size v n xs)
 (ad:Addr) (m c:Nat) (news:List Value) (hx:a.eval x = .slice (some ad) m c) (hl:news.length=m * size) (hnews:∀ j u,news[j]? = some u→w.cell? (ad.add j)=some u) (h1:∀ u∈news,u.oneCell'=true)
 (h63:n+m≤maxLen) (hbytes:(n+m) * bytes≤140737488355328) (hbase:base≤w.heap.size)
 (hK:∀ v' w',w'.ownsRow base e size v' (n+m) (xs++news)→w.grownBy w' v.ownBlock→K (a.put o.dst v') w') :
 Oper.wp P o a w K Q:=by
 obtain⟨v',w',hr,ho,hB,_⟩:=zeh (P:=P) w base t o.type e i z size bytes ht hi hz hsize hby hzs hsz v n xs hown ad m c news hl hnews h1 h63 hbytes hbase;unfold Oper.wp execOp;simp only[hop,resolve,invoke,builtin,Sem.run_bind,Sem.run_pure,Result.andThen_ok,List.map_toArray,List.map_cons,List.map_nil,hs,hx,hr];exact hK v' w' ho hB
theorem zhx (S:Nat→Prop) (l:Bs) (v:Value) (w:World) (hv:SB S l v w) (hlen:l.length≤1000000) :
 Calls Tryz.prog 106 #[v] w fun e w'=>e = .returned (.string ⟨(zat l).toArray⟩)∧Fr NoB w w':=by
 obtain⟨a,c,rfl⟩:=hv.form;obtain⟨G,hG⟩:∃ G,zat l=G:=⟨_,rfl⟩;rw[hG];have HG:Hid (([]:Bs)++zat (l.drop 0)=G):=zi (by simpa using hG);have Hv:=zi hv;have hV:OB w.heap.size [] (.slice none 0 0) w:=⟨rfl,.inl ⟨rfl,rfl⟩⟩;have hj:=zi hV;obtain⟨i0,hc,hZ,hY,hX⟩:=info_parts zbv;clear hG hv hV;go_enter Tryz.func106,Tryz.ntmps106
 go_wp2_with fail
 go_loopg [4,5] (l.length+1) (fun g vo vi wr=>∃ (i:Nat) (out:Bs),vi = .int .i64 i∧i≤l.length∧i+g=l.length+1∧out.length=2 * i∧Hid (OB w.heap.size out vo wr)∧Hid (Fr NoB w wr)∧Hid (out++zat (l.drop i)=G))
 case atStart=>exact⟨0,[],rfl,by omega,by omega,rfl,hj,zi Fr.refl,HG⟩
 case round =>
  obtain⟨i,out,rfl,hi,hgk,hE,HO,HF,HS⟩:=hrel;rcases Nat.lt_or_ge i l.length with hlt | hge
  ·obtain ⟨c',hL⟩:∃ c',l[i]? = some c':=⟨_,List.getElem?_eq_getElem hlt⟩;have hQ:=Hv.out.fr HF.out (fun _ _ _ _ h=>h);obtain⟨b,o,hg,hR,k1⟩:=hQ.at hL;obtain⟨rfl,rfl⟩:a=some ⟨b,o,none⟩∧c=hg:=by simpa using hR
   obtain⟨b',o',hM,e1,-,-,hbw,-⟩:=Hv.out.cellsAt (by intro h;rw[h]at hlt;simp at hlt);obtain⟨⟨rfl,rfl⟩,rfl⟩:(b=b'∧o=o')∧c=hM:=by simpa using e1
   have hS:=HS.out;rw[zeb hL,zat]at hS;obtain⟨q1,hJ⟩:∃ q1,c'.toNat / 16=q1:=⟨_,rfl⟩;obtain⟨q2,hI⟩:∃ q2,c'.toNat % 16=q2:=⟨_,rfl⟩;have hc8:c'.toNat<256:=c'.toNat_lt;have hb:q1<16:=by omega
   have ha:q2<16:=by omega
   have hw1:(c'.toNat:Int) / 16=(q1:Int):=by omega
   have hw1t:(c'.toNat:Int).tdiv 16=(q1:Int):=by rw[← hJ];rfl
   have hw2:(c'.toNat:Int).tmod 16=(q2:Int):=by rw[← hI];rfl
   have hw3:IntKind.u8.wrap (q1:Int)=q1:=by simp[IntKind.wrap,IntKind.signed,IntKind.bits];omega
   have hw4:IntKind.u8.wrap (q2:Int)=q2:=by simp[IntKind.wrap,IntKind.signed,IntKind.bits];omega
   have hw5:(q1:Int)<16:=by omega
   have hw6:(q2:Int)<16:=by omega
   rw[hJ,hI]at hS;have he:=zkq hb;have hd:=zkq ha;obtain⟨x1,hP⟩:∃ x,sgn hexes q1=x:=⟨_,rfl⟩;obtain⟨x2,hO⟩:∃ x,sgn hexes q2=x:=⟨_,rfl⟩;rw[hP]at hS he;rw[hO]at hS hd;have hN:=zi hS;have hwB:=HF.out.size;have hlti:(i:Int)<l.length:=by omega
   have K1:=zi k1;obtain⟨ao,co,hH⟩:=HO.out.form;subst hH;have hF:=zi hE;clear hE e1 hJ hI hP hO hS HS hQ hR hL k1
   go_upto_region 6 with(fail)
   refine wp_region_held_drew (S:=fun V=>V.cell? ⟨b,o+i,none⟩=some (.int .u8 c'.toNat)) (by kernel_rfl) (by simpa using K1.out) (fun hB=>?_);simp only[qV]
   iterate 15
    refine qt (v:=?_) rfl (Or.inl ⟨by rfl,?_⟩) hB ?_;rotate_left
    ·intro W hf
     try simp only[qQ]
     go_simp
     try rw[if_neg (by omega)]
     try with_reducible rfl
    try simp only[Act.put,qP]
   refine qr (i:=15) (by kernel_rfl) rfl (fun K hK=>?_)
   try simp only[qQ]
   go_simp;refine hK.out _ _ (by first | exact Fr.cell ((Fr.refl (M:=NoB)).alloc _) hB | exact Fr.cell ((Fr.refl (M:=NoB)).alloc _).drew (by simpa using hB)) (fun hB=>?_);clear hK K
   try simp only[Act.put,qP]
   refine qr (i:=16) (by kernel_rfl) rfl (fun K hK=>?_)
   try simp only[qQ]
   rw[if_pos (by rfl)];refine zff (.tmp 12) (.tmp 27) 24 (by rfl) w.heap.size 5 i0 (.int .u8 0) 1 1 Tryz.underlying24 hc hZ hY hX rfl (by decide) (.slice ao out.length co) out.length (Lib.byteCells out) (by rfl) (by exact HO.out.alloc (.cells #[.int .u8 x1.toNat,.int .u8 x2.toNat] 5)) ⟨wr.heap.size,0,none⟩ 2 2 [.int .u8 x1.toNat,.int .u8 x2.toNat] (by rfl) rfl (by exact q6 wr 5 [.int .u8 x1.toNat,.int .u8 x2.toNat] _ rfl) (by simp[Value.oneCell']) (by have:=hF.out;unfold maxLen;omega) (by have:=hF.out;omega) (by simp;omega) ?_;intro v' w2 hC hD;refine hK.out _ _ (Fr.cell (HO.out.push (news:=[x1,x2]) (Fr.refl.alloc (.cells #[.int .u8 x1.toNat,.int .u8 x2.toNat] 5)).drew hC hD).2 K1.out (fun _ h=>by omega)) (fun hB=>?_);clear hK K
   try simp only[Act.put,qP]
   obtain⟨hU,hW⟩:=HO.out.push (news:=[x1,x2]) (Fr.refl.alloc (.cells #[.int .u8 x1.toNat,.int .u8 x2.toNat] 5)).drew hC hD;have hh:=zi hU;have hk:=zi (HF.out.trans hW (fun _ _ h => .inr h));clear hC hD hU hW;refine qt (v:=?_) rfl (Or.inl ⟨by rfl,?_⟩) hB ?_;rotate_left
   ·intro W hf
    try simp only[qQ]
    go_simp
    try rw[if_neg (by omega)]
    try with_reducible rfl
   try simp only[Act.put,qP]
   refine wpAnyH_done (by kernel_rfl) ?_ _;clear hB
   go_wp2_with fail
   go_roundg (gk - 1)
   case measure=>omega
   case rel=>exact⟨i+1,out++[x1,x2],by simp,by omega,by omega,by have:=hF.out;simp;omega,hh,hk,by have:=hN.out;simpa using zi this⟩
  obtain rfl:i=l.length:=by omega
  have hS:=HS.out;simp only[List.drop_length,zat,List.append_nil]at hS;have hN:=zi hS;have HT:=zi (HO.out.sb.text);obtain⟨ao,co,hH⟩:=HO.out.form;subst hH;have hT:=HT.out;have hF:=zi hE;clear hS HS hE
  go_wp2_with fail
  go_ret;exact⟨by rw[hN.out]<;>rfl,HF.out⟩
end
section
open Go.RowKit
theorem zjq (s:Bs) (w:World) (hlen:s.length≤1000000) :
 Calls Tryz.prog 63 #[.string ⟨s.toArray⟩] w fun e w'=>e = .returned (.bool (zcn s))∧w=w':=by
 obtain⟨R,hR⟩:∃ R,zcn s=R:=⟨_,rfl⟩;rw[hR];unfold zcn at hR;have hsz:(ByteArray.mk s.toArray).size=s.length:=rfl;by_cases h0:s.length<1
 ·have hU:decide ((s.length:Int)<1)=true:=decide_eq_true (by omega);obtain rfl:s=[]:=List.length_eq_zero_iff.1 (by omega);have HR:Hid (false=R):=zi (by simpa using hR);clear hR h0;go_enter Tryz.func63,Tryz.ntmps63
  go_wp2_with fail
  go_ret;exact⟨jj HR.out,rfl⟩
 have hU:decide ((s.length:Int)<1)=false:=decide_eq_false (by omega)
 have hH:s.isEmpty=false:=by
  cases s with
  | nil=>exact absurd (by simp) h0
  | cons a r=>rfl
 rw[hH]at hR;by_cases hN:64<s.length
 ·have hM:decide ((64:Int)<(s.length:Int))=true:=decide_eq_true (by omega);have hC:decide (s.length≤64)=false:=decide_eq_false (by omega);rw[hC]at hR;have HR:Hid (false=R):=zi (by simpa using hR);clear hR h0 hH hN hC;go_enter Tryz.func63,Tryz.ntmps63
  go_wp2_with fail
  go_ret;exact⟨jj HR.out,rfl⟩
 have hM:decide ((64:Int)<(s.length:Int))=false:=decide_eq_false (by omega);have hC:decide (s.length≤64)=true:=decide_eq_true (by omega);rw[hC]at hR;have HR:Hid ((s.drop 0).all (fun c=>zdd c.toNat)=R):=zi (by simpa using hR);clear hR h0 hH hN hC;go_enter Tryz.func63,Tryz.ntmps63
 go_wp2_with fail
 go_loopg [3] (s.length+1) (fun gf vi wr=>∃ i:Nat,vi = .int .i64 i∧i≤s.length∧i+gf=s.length+1∧w=wr∧Hid ((s.drop i).all (fun c=>zdd c.toNat)=R))
 case atStart=>exact⟨0,rfl,by omega,by omega,rfl,HR⟩
 case round =>
  obtain⟨i,rfl,hi,hig,rfl,HS⟩:=hrel;rcases Nat.lt_or_ge i s.length with hlt | hge
  ·obtain ⟨c, hc⟩:∃ c,s[i]? = some c:=⟨_,List.getElem?_eq_getElem hlt⟩
   have hcb:∀ h,(ByteArray.mk s.toArray)[i]'h=c:=by
    intro h;obtain⟨h1,h2⟩:=List.getElem?_eq_some_iff.1 hc;exact h2
   have hS:=HS.out;rw[zeb hc,List.all_cons]at hS;have hc8:(c.toNat:Int)<256:=by have:=c.toNat_lt;omega
   obtain⟨b1,hT⟩:∃ b,decide ((97:Int)≤(c.toNat:Int))=b:=⟨_,rfl⟩;obtain⟨b2,hQ⟩:∃ b,decide ((c.toNat:Int)≤122)=b:=⟨_,rfl⟩;obtain⟨b3,hP⟩:∃ b,decide ((48:Int)≤(c.toNat:Int))=b:=⟨_,rfl⟩;obtain⟨b4,hO⟩:∃ b,decide ((c.toNat:Int)≤57)=b:=⟨_,rfl⟩;obtain⟨hF,hK⟩:∃ b,((c.toNat:Int)==46)=b:=⟨_,rfl⟩;obtain⟨hG,hL⟩:∃ b,((c.toNat:Int)==45)=b:=⟨_,rfl⟩;obtain⟨hD,hI⟩:∃ b,((c.toNat:Int)==95)=b:=⟨_,rfl⟩;obtain⟨hE,hJ⟩:∃ b,((c.toNat:Int)==64)=b:=⟨_,rfl⟩
   have hn:zdd c.toNat=((b1&&b2)||((b3&&b4)||(hF||(hG||(hD||hE))))):=by
    unfold zdd
    have f:∀ k:Nat,(c.toNat==k)=((c.toNat:Int)==(k:Int)):=fun k=>by
     rw[Bool.eq_iff_iff,beq_iff_eq,beq_iff_eq];omega
    rw[← hT,← hQ,← hP,← hO,← hK,← hL,← hI,← hJ,f,f,f,f]
    congr 1
    ·congr 1<;>exact decide_eq_decide.2 (by omega)
    congr 1
    congr 1<;>exact decide_eq_decide.2 (by omega)
   rw[hn]at hS;have hB:=zi hS;clear hc hS HS hn;cases b1
   ·cases b3
    ·cases hF
     ·cases hG
      ·cases hD
       ·cases hE
        ·(go_wp2_with fail
          first
          | (go_ret
             exact⟨jj (by simpa using hB.out),rfl⟩)
          | (go_roundg (gk - 1)
             case measure=>omega
             case rel=>exact⟨i+1,by simp,by omega,by omega,rfl,zi (by simpa using hB.out)⟩))
        (go_wp2_with fail
         first
         | (go_ret
            exact⟨jj (by simpa using hB.out),rfl⟩)
         | (go_roundg (gk - 1)
            case measure=>omega
            case rel=>exact⟨i+1,by simp,by omega,by omega,rfl,zi (by simpa using hB.out)⟩))
       (go_wp2_with fail
        first
        | (go_ret
           exact⟨jj (by simpa using hB.out),rfl⟩)
        | (go_roundg (gk - 1)
           case measure=>omega
           case rel=>exact⟨i+1,by simp,by omega,by omega,rfl,zi (by simpa using hB.out)⟩))
      (go_wp2_with fail
       first
       | (go_ret
          exact⟨jj (by simpa using hB.out),rfl⟩)
       | (go_roundg (gk - 1)
          case measure=>omega
          case rel=>exact⟨i+1,by simp,by omega,by omega,rfl,zi (by simpa using hB.out)⟩))
     (go_wp2_with fail
      first
      | (go_ret
         exact⟨jj (by simpa using hB.out),rfl⟩)
      | (go_roundg (gk - 1)
         case measure=>omega
         case rel=>exact⟨i+1,by simp,by omega,by omega,rfl,zi (by simpa using hB.out)⟩))
    cases b4
    ·cases hF
     ·cases hG
      ·cases hD
       ·cases hE
        ·(go_wp2_with fail
          first
          | (go_ret
             exact⟨jj (by simpa using hB.out),rfl⟩)
          | (go_roundg (gk - 1)
             case measure=>omega
             case rel=>exact⟨i+1,by simp,by omega,by omega,rfl,zi (by simpa using hB.out)⟩))
        (go_wp2_with fail
         first
         | (go_ret
            exact⟨jj (by simpa using hB.out),rfl⟩)
         | (go_roundg (gk - 1)
            case measure=>omega
            case rel=>exact⟨i+1,by simp,by omega,by omega,rfl,zi (by simpa using hB.out)⟩))
       (go_wp2_with fail
        first
        | (go_ret
           exact⟨jj (by simpa using hB.out),rfl⟩)
        | (go_roundg (gk - 1)
           case measure=>omega
           case rel=>exact⟨i+1,by simp,by omega,by omega,rfl,zi (by simpa using hB.out)⟩))
      (go_wp2_with fail
       first
       | (go_ret
          exact⟨jj (by simpa using hB.out),rfl⟩)
       | (go_roundg (gk - 1)
          case measure=>omega
          case rel=>exact⟨i+1,by simp,by omega,by omega,rfl,zi (by simpa using hB.out)⟩))
     (go_wp2_with fail
      first
      | (go_ret
         exact⟨jj (by simpa using hB.out),rfl⟩)
      | (go_roundg (gk - 1)
         case measure=>omega
         case rel=>exact⟨i+1,by simp,by omega,by omega,rfl,zi (by simpa using hB.out)⟩))
    (go_wp2_with fail
     first
     | (go_ret
        exact⟨jj (by simpa using hB.out),rfl⟩)
     | (go_roundg (gk - 1)
        case measure=>omega
        case rel=>exact⟨i+1,by simp,by omega,by omega,rfl,zi (by simpa using hB.out)⟩))
   cases b2
   ·cases b3
    ·cases hF
     ·cases hG
      ·cases hD
       ·cases hE
        ·(go_wp2_with fail
          first
          | (go_ret
             exact⟨jj (by simpa using hB.out),rfl⟩)
          | (go_roundg (gk - 1)
             case measure=>omega
             case rel=>exact⟨i+1,by simp,by omega,by omega,rfl,zi (by simpa using hB.out)⟩))
        (go_wp2_with fail
         first
         | (go_ret
            exact⟨jj (by simpa using hB.out),rfl⟩)
         | (go_roundg (gk - 1)
            case measure=>omega
            case rel=>exact⟨i+1,by simp,by omega,by omega,rfl,zi (by simpa using hB.out)⟩))
       (go_wp2_with fail
        first
        | (go_ret
           exact⟨jj (by simpa using hB.out),rfl⟩)
        | (go_roundg (gk - 1)
           case measure=>omega
           case rel=>exact⟨i+1,by simp,by omega,by omega,rfl,zi (by simpa using hB.out)⟩))
      (go_wp2_with fail
       first
       | (go_ret
          exact⟨jj (by simpa using hB.out),rfl⟩)
       | (go_roundg (gk - 1)
          case measure=>omega
          case rel=>exact⟨i+1,by simp,by omega,by omega,rfl,zi (by simpa using hB.out)⟩))
     (go_wp2_with fail
      first
      | (go_ret
         exact⟨jj (by simpa using hB.out),rfl⟩)
      | (go_roundg (gk - 1)
         case measure=>omega
         case rel=>exact⟨i+1,by simp,by omega,by omega,rfl,zi (by simpa using hB.out)⟩))
    cases b4
    ·cases hF
     ·cases hG
      ·cases hD
       ·cases hE
        ·(go_wp2_with fail
          first
          | (go_ret
             exact⟨jj (by simpa using hB.out),rfl⟩)
          | (go_roundg (gk - 1)
             case measure=>omega
             case rel=>exact⟨i+1,by simp,by omega,by omega,rfl,zi (by simpa using hB.out)⟩))
        (go_wp2_with fail
         first
         | (go_ret
            exact⟨jj (by simpa using hB.out),rfl⟩)
         | (go_roundg (gk - 1)
            case measure=>omega
            case rel=>exact⟨i+1,by simp,by omega,by omega,rfl,zi (by simpa using hB.out)⟩))
       (go_wp2_with fail
        first
        | (go_ret
           exact⟨jj (by simpa using hB.out),rfl⟩)
        | (go_roundg (gk - 1)
           case measure=>omega
           case rel=>exact⟨i+1,by simp,by omega,by omega,rfl,zi (by simpa using hB.out)⟩))
      (go_wp2_with fail
       first
       | (go_ret
          exact⟨jj (by simpa using hB.out),rfl⟩)
       | (go_roundg (gk - 1)
          case measure=>omega
          case rel=>exact⟨i+1,by simp,by omega,by omega,rfl,zi (by simpa using hB.out)⟩))
     (go_wp2_with fail
      first
      | (go_ret
         exact⟨jj (by simpa using hB.out),rfl⟩)
      | (go_roundg (gk - 1)
         case measure=>omega
         case rel=>exact⟨i+1,by simp,by omega,by omega,rfl,zi (by simpa using hB.out)⟩))
    (go_wp2_with fail
     first
     | (go_ret
        exact⟨jj (by simpa using hB.out),rfl⟩)
     | (go_roundg (gk - 1)
        case measure=>omega
        case rel=>exact⟨i+1,by simp,by omega,by omega,rfl,zi (by simpa using hB.out)⟩))
   (go_wp2_with fail
    first
    | (go_ret
       exact⟨jj (by simpa using hB.out),rfl⟩)
    | (go_roundg (gk - 1)
       case measure=>omega
       case rel=>exact⟨i+1,by simp,by omega,by omega,rfl,zi (by simpa using hB.out)⟩))
  obtain rfl:i=s.length:=by omega
  have hS:=HS.out;rw[List.drop_length]at hS;have hV:=zi hS;clear hS HS
  go_wp2_with fail
  go_ret;exact⟨jj (by simpa using hV.out),rfl⟩
end
section
open Go.RowKit
theorem zyk (s:Bs):((ByteArray.mk s.toArray).extract 0 7).toList=s.take 7:=by
 rw[ByteArray.toList_eq];simp[ByteArray.data_extract]
theorem zjp (s:Bs) (w:World) (hlen:s.length≤1000000) :
 Calls Tryz.prog 62 #[.string ⟨s.toArray⟩] w fun e w'=>e = .returned (.bool (zci s))∧w=w':=by
 obtain⟨R,hR⟩:∃ R,zci s=R:=⟨_,rfl⟩;rw[hR];unfold zci at hR;have hsz:(ByteArray.mk s.toArray).size=s.length:=rfl;by_cases h0:s.length<1
 ·have hM:decide ((s.length:Int)<1)=true:=decide_eq_true (by omega);obtain rfl:s=[]:=List.length_eq_zero_iff.1 (by omega);have HR:Hid (false=R):=zi (by simpa using hR);clear hR h0;go_enter Tryz.func62,Tryz.ntmps62
  go_wp2_with fail
  go_ret;exact⟨jj HR.out,rfl⟩
 have hM:decide ((s.length:Int)<1)=false:=decide_eq_false (by omega)
 have hD:s.isEmpty=false:=by
  cases s with
  | nil=>exact absurd (by simp) h0
  | cons a r=>rfl
 rw[hD]at hR;by_cases hI:64<s.length
 ·have hF:decide ((64:Int)<(s.length:Int))=true:=decide_eq_true (by omega);have hB:decide (s.length≤64)=false:=decide_eq_false (by omega);rw[hB]at hR;have HR:Hid (false=R):=zi (by simpa using hR);clear hR h0 hD hI hB;go_enter Tryz.func62,Tryz.ntmps62
  go_wp2_with fail
  go_ret;exact⟨jj HR.out,rfl⟩
 have hF:decide ((64:Int)<(s.length:Int))=false:=decide_eq_false (by omega);have hB:decide (s.length≤64)=true:=decide_eq_true (by omega);rw[hB]at hR;obtain⟨g7,hE⟩:∃ b,decide ((s.length:Int)<7)=b:=⟨_,rfl⟩;obtain⟨p7,hJ⟩:∃ b,(((ByteArray.mk s.toArray).extract 0 7).toList==[99,97,99,104,101,116,47])=b:=⟨_,rfl⟩
 have hC:Lib.hasPrefix s sReserved=(!g7&&p7):=by
  rw[← Lib.hasPrefix_of_take,← hE,← hJ,zyk]
  have e:decide (sReserved.length≤s.length) = !decide ((s.length:Int)<7):=by
   rw[show sReserved.length=7 from rfl];by_cases h:7≤s.length
   ·rw[decide_eq_true h,decide_eq_false (by omega)];rfl
   rw[decide_eq_false h,decide_eq_true (by omega)];rfl
  rw[e];rfl
 rw[hC]at hR;have HR:Hid (((s.drop 0).all (fun c=>zf0 c.toNat) && !(!g7&&p7))=R):=zi (by simpa using hR);have H7:Hid (g7=false→7≤s.length):=zi (fun h=>by rw[h]at hE;have:=of_decide_eq_false hE;omega);clear hR h0 hD hI hB hC;go_enter Tryz.func62,Tryz.ntmps62
 go_wp2_with fail
 go_loopg [3] (s.length+1) (fun gf vi wr=>∃ i:Nat,vi = .int .i64 i∧i≤s.length∧i+gf=s.length+1∧w=wr∧Hid (((s.drop i).all (fun c=>zf0 c.toNat) && !(!g7&&p7))=R))
 case atStart=>exact⟨0,rfl,by omega,by omega,rfl,HR⟩
 case round =>
  obtain⟨i,rfl,hi,hig,rfl,HS⟩:=hrel;rcases Nat.lt_or_ge i s.length with hlt | hge
  ·obtain ⟨c,hc⟩:∃ c,s[i]? = some c:=⟨_,List.getElem?_eq_getElem hlt⟩
   have hcb:∀ h,(ByteArray.mk s.toArray)[i]'h=c:=by
    intro h;obtain⟨h1,h2⟩:=List.getElem?_eq_some_iff.1 hc;exact h2
   have hS:=HS.out;rw[zeb hc,List.all_cons]at hS;have hc8:(c.toNat:Int)<256:=by have:=c.toNat_lt;omega
   obtain⟨b1,hL⟩:∃ b,decide ((c.toNat:Int)<33)=b:=⟨_,rfl⟩;obtain⟨b2,hK⟩:∃ b,decide ((126:Int)<(c.toNat:Int))=b:=⟨_,rfl⟩
   have hn:zf0 c.toNat=(!b1 && !b2):=by
    unfold zf0;rw[← hL,← hK,← decide_not,← decide_not]
    congr 1<;>exact decide_eq_decide.2 (by omega)
   rw[hn]at hS;have hG:=zi hS;clear hc hS HS hn;cases b1
   ·cases b2
    ·go_wp2_with fail
     go_roundg (gk - 1)
     case measure=>omega
     case rel=>exact⟨i+1,by simp,by omega,by omega,rfl,zi (by simpa using hG.out)⟩
    go_wp2_with fail
    go_ret;exact⟨jj (by simpa using hG.out),rfl⟩
   go_wp2_with fail
   go_ret;exact⟨jj (by simpa using hG.out),rfl⟩
  obtain rfl:i=s.length:=by omega
  have hS:=HS.out;rw[List.drop_length]at hS;have hH:=zi hS;clear hS HS;cases g7
  ·have h7:=H7.out rfl;cases p7
   ·go_wp2_with fail
    go_ret;exact⟨jj (by simpa using hH.out),rfl⟩
   go_wp2_with fail
   go_ret;exact⟨jj (by simpa using hH.out),rfl⟩
  go_wp2_with fail
  go_ret;exact⟨jj (by simpa using hH.out),rfl⟩
section
variable [OldK]
theorem zfp (s:Sg) (w:World) (hok:s.ok) (hlen:s.id.length≤1000000) :
 Calls Tryz.prog 44 #[.agg s.cells] w fun e w'=>e = .returned (.string ⟨(j5 s).toArray⟩)∧Fr NoB w w':=by
 have hJ:=Sg.size hok;have h0:=Sg.cell0 s;have hk:∀ j x,s.key[j]? = some x→s.cells[1+j]? = some (.int .u8 x.toNat):=Sg.cellK;have hC:=hok.1;obtain⟨cs,hE⟩:∃ cs,s.cells=cs:=⟨_,rfl⟩;rw[hE]at hJ h0 hk ⊢
 have hH:∀ h,cs[0]'h = .string ⟨s.id.toArray⟩:=fun h=>by
  rw[Array.getElem?_eq_getElem h]at h0;exact Option.some.inj h0
 clear h0 hE hok;obtain⟨id,hD⟩:∃ id,s.id=id:=⟨_,rfl⟩;unfold j5;rw[hD]at hH hlen ⊢;obtain⟨key,hB⟩:∃ key,s.key=key:=⟨_,rfl⟩;rw[hB]at hk hC ⊢;clear hD hB;have hF:=(Fr.refl (M:=NoB)).alloc (w:=w) (.cells cs 40);have HF:=zi hF;clear hF;cases id with
 | cons c r =>
   have hK:(c :: r:Bs).isEmpty=false:=rfl;rw[if_neg (by simp)];obtain⟨l,hl⟩:∃ l,(c :: r:Bs)=l:=⟨_,rfl⟩;rw[hl]at hH hK hlen ⊢;clear hl;go_enter Tryz.func44,Tryz.ntmps44
   go_wp2_with fail
   go_ret;exact⟨rfl,HF.out⟩
 | nil =>
   rw[if_pos rfl];go_enter Tryz.func44,Tryz.ntmps44
   go_wp2_with fail
   have hx:=@zhx ⟨w.heap.size+1⟩ (fun _=>True) key (.slice (some ⟨w.heap.size,1,none⟩) 32 32) (w.alloc (.cells cs 40)) ⟨some ⟨w.heap.size,1,none⟩,32,by rw[hC],by omega,.inr ⟨w.heap.size,1,cs,_,_,rfl,trivial,⟨heap_alloc_new w _,.inr (Nat.lt_succ_self _)⟩,fun j hj=>hk j _ (List.getElem?_eq_getElem hj)⟩⟩ (by omega);refine hx.mono ?_;rintro e w2 ⟨rfl,hG⟩;have hL:=zi (HF.out.trans' hG);have hI:(zat key).length≤100:=by rw[zfa];omega
   obtain⟨X,hX⟩:∃ X,zat key=X:=⟨_,rfl⟩;rw[hX]at hI ⊢;have HX:=zi hX;clear hG hx hX hk hC
   go_wp2_with fail
   go_ret;refine⟨?_,hL.out⟩
   have hs:(ByteArray.mk #[107,101,121,58])++(ByteArray.mk X.toArray)=⟨(zhw++X).toArray⟩:=by
    apply ByteArray.ext;simp[zhw]
   simp[hs,HX.out]
end
end
end Go.Proofs.YtffggpplnjibgaaGreatDoor
