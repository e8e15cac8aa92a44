/-
 The walks of package coder: bytes as signs.
-/
import Derived.Test.YtmgfncjfgkllcaaGreatDoorKSeen
import Derived.Test.YtmgfncjfgkllcaaGreatDoorKNum
import Derived.Test.YtmgfncjfgkllcaaGreatDoorKSpecB64
import Derived.Deep.RegionHeld3
import Derived.Laws.MakeOwn
import Derived.Lib.Bytealg
open Go.Lib renaming hid→za
open Go.World renaming size_alloc→zf
open Go.IntKind renaming wrap_i64→zk
open List renaming length_cons→zo
open Nat renaming lt_of_lt_of_le→zu
namespace Go.Proofs.YtmgfncjfgkllcaaGreatDoor
set_option linter.unusedVariables false
set_option linter.unusedSimpArgs false
set_option linter.unusedSectionVars false
set_option maxRecDepth 100000
set_option maxHeartbeats 4000000
section
open Go.RowKit
variable [OldK]
theorem zkt (a b:Nat)(ha:a<9223372036854775808)(hb:b<9223372036854775808):bits .or .i64 (a:Int) (b:Int)=((a ||| b:Nat):Int):=by
 have hx:a ||| b<2 ^ 63:=Nat.or_lt_two_pow (by omega) (by omega)
 show IntKind.i64.wrap ((BitVec.ofInt 64 (a:Int) ||| BitVec.ofInt 64 (b:Int)).toNat:Int)=_;rw[BitVec.toNat_or,BitVec.ofInt_natCast,BitVec.ofInt_natCast,BitVec.toNat_ofNat,BitVec.toNat_ofNat,Nat.mod_eq_of_lt (by omega),Nat.mod_eq_of_lt (by omega),zk];omega
theorem zji (a b:Nat)(ha:a<9223372036854775808)(hb:b<9223372036854775808):bits .and .i64 (a:Int) (b:Int)=((a &&& b:Nat):Int):=by
 have hx:a &&& b<2 ^ 63:=Nat.and_lt_two_pow _ (by omega);show IntKind.i64.wrap ((BitVec.ofInt 64 (a:Int) &&& BitVec.ofInt 64 (b:Int)).toNat:Int)=_;rw[BitVec.toNat_and,BitVec.ofInt_natCast,BitVec.ofInt_natCast,BitVec.toNat_ofNat,BitVec.toNat_ofNat,Nat.mod_eq_of_lt (by omega),Nat.mod_eq_of_lt (by omega),zk];omega
theorem zzt (a b:Nat)(ha:a<1000000)(hb:b<256):bits .or .i64 ((a:Int) * 256) (b:Int)=((a * 256+b:Nat):Int):=by
 have h:=zkt (a * 256) b (by omega) (by omega);rw[show((a:Int) * 256)=((a * 256:Nat):Int) from (Int.natCast_mul a 256).symm,h];have h2:=Nat.shiftLeft_add_eq_or_of_lt (i:=8) (b:=b) (by omega) a;rw[Nat.shiftLeft_eq]at h2;rw[← h2]
theorem zlh {h:Nat}(hh:h≤13):2 ^ h≤8192:=by
 have:=Nat.pow_le_pow_right (n:=2) (by decide) hh;omega
theorem zvl {signs:Bs}{nb k b h:Nat}(hh:h<nb):zdq signs nb k b h=([],b,h):=by
 cases k with
 | zero=>rfl
 | succ k=>rw[zdq,if_neg (by omega)]
theorem zvm {signs:Bs}{nb k b h:Nat}(hh:nb≤h):zdq signs nb (k+1) b h=(sgn signs (b / 2 ^ (h - nb)) :: (zdq signs nb k (b % 2 ^ (h - nb)) (h - nb)).1,(zdq signs nb k (b % 2 ^ (h - nb)) (h - nb)).2):=by
 rw[zdq,if_pos hh]
theorem zyx (signs:Bs) (nb:Nat) (hnb:nb=4∨nb=6) (hs:signs.length=2 ^ nb) (S:Nat→Prop) (l:Bs) (v:Value) (w:World) (hv:SB S l v w) (hlen:l.length≤1000000) :
 Calls Tryz.prog 195 #[.agg #[.string ⟨signs.toArray⟩,.int .i64 (nb:Int)],v] w fun e w'=>e = .returned (.string ⟨(zg8 signs nb 0 0 l).toArray⟩)∧Fr NoB w w':=by
 obtain⟨q,h8,rfl⟩:=hv.form;have Hs:=za hs;clear hs;generalize hR:zg8 signs nb 0 0 l=R;have HR:Hid ([]++zg8 signs nb 0 0 (l.drop 0)=R):=hR;clear hR;have Hv:=za hv;clear hv;have hu:=(Fr.refl (M:=NoB)).alloc (w:=w) (.cells #[.string ⟨signs.toArray⟩,.int .i64 (nb:Int)] 216);have hB:=Bld.fresh (w.alloc (.cells #[.string ⟨signs.toArray⟩,.int .i64 (nb:Int)] 216));have hn:(w.alloc (.cells #[.string ⟨signs.toArray⟩,.int .i64 (nb:Int)] 216)).heap.size=w.heap.size+1:=zf _ _;rw[hn]at hB;have ho:=hu.alloc (.cells #[.pointer none,.slice none 0 0] 198);have hA:=(Fr.refl (M:=NoB)).alloc (w:=w.alloc (.cells #[.string ⟨signs.toArray⟩,.int .i64 (nb:Int)] 216)) (.cells #[.pointer none,.slice none 0 0] 198) |>.block _ _ (heap_alloc_new w (.cells #[.string ⟨signs.toArray⟩,.int .i64 (nb:Int)] 216)) (fun h=>h)
 have HF:=za ho;have HB:=za hB;have HA:=za hA;clear hu hB hn ho hA;go_enter Tryz.func195,Tryz.ntmps195
 go_wp2_with fail
 go_loopg [6,7,12] (l.length+1) (fun g vb vh vi wr=>∃ (i bits h:Nat) (out:Bs),vb = .int .i64 (bits:Int)∧vh = .int .i64 (h:Int)∧vi = .int .i64 (i:Int)∧i≤l.length∧i+g=l.length+1∧h<nb∧bits<2 ^ h∧out.length≤8 * i ∧
  wr.heap[w.heap.size]? = some (.cells #[.string ⟨signs.toArray⟩,.int .i64 (nb:Int)] 216 (0,0))∧Hid (Bld (w.heap.size+1) (w.heap.size+1) out wr)∧Hid (Fr NoB w wr)∧Hid (out++zg8 signs nb bits h (l.drop i)=R))
 case atStart=>exact⟨0,0,0,[],rfl,rfl,rfl,by omega,by omega,by omega,by simp,by simp,HA.out,HB,HF,HR⟩
 case round =>
  clear HA HB HF HR;obtain⟨i,bits,h,out,rfl,rfl,rfl,hi,hig,hh,hE,hol,hA,HB,HF,HS⟩:=hrel;have a0:wr.cell? ⟨w.heap.size,0,none⟩=some (.string ⟨signs.toArray⟩):=by simp[World.cell?,hA]
  have a1:wr.cell? ⟨w.heap.size,1,none⟩=some (.int .i64 (nb:Int)):=by simp[World.cell?,hA]
  have HA:=za hA;clear hA;rcases Nat.lt_or_ge i l.length with hlt | hge
  ·obtain ⟨c,hc⟩:∃ c,l[i]? = some c:=⟨_,List.getElem?_eq_getElem hlt⟩;obtain⟨g,o,ha,e9,hat⟩:=(Hv.out.fr HF.out (fun _ _ _ _ h=>h)).at hc;obtain⟨rfl,rfl⟩:q=some ⟨g,o,none⟩∧h8=ha:=by simpa using e9
   clear e9;have h3:=UInt8.toNat_lt c;have hnb6:nb≤6:=by omega
   have hY:bits<32:=zu hE (by have:=Nat.pow_le_pow_right (n:=2) (by decide) (show h≤5 by omega);omega);have hz:=zzt bits c.toNat (by omega) h3
   have hp:bits * 256+c.toNat<2 ^ (h+8):=by
    have:2 ^ (h+8)=2 ^ h * 256:=Nat.pow_add 2 h 8;omega
   have hd:l.drop i=c :: l.drop (i+1):=by
    rw[List.drop_eq_getElem_cons hlt]
    congr 1
    exact(List.getElem?_eq_some_iff.1 hc).2
   have hS:=HS.out;rw[hd,zg8,← List.append_assoc]at hS;have HS:=za hS;have hi0:i<1000000:=by omega
   clear hS hd hc
   go_wp2_with fail
   clear hz;obtain⟨B,hw⟩:∃ B:Nat,bits * 256+c.toNat=B:=⟨_,rfl⟩;rw[hw]at HS hp;have Hbe:=za hw
   go_loopg [6,7] (h+9) (fun k vb vh w2=>∃ (b2 h2:Nat) (hC:Bs),vb = .int .i64 (b2:Int)∧vh = .int .i64 (h2:Int)∧h2<k∧h2≤13∧b2<2 ^ h2∧hC.length * 4+h2≤32 * i+13 ∧
    w2.heap[w.heap.size]? = some (.cells #[.string ⟨signs.toArray⟩,.int .i64 (nb:Int)] 216 (0,0))∧Hid (Bld (w.heap.size+1) (w.heap.size+1) hC w2)∧Hid (Fr NoB w w2) ∧
    Hid (hC++(zdq signs nb k b2 h2).1++zg8 signs nb (zdq signs nb k b2 h2).2.1 (zdq signs nb k b2 h2).2.2 (l.drop (i+1))=R))
   case atStart=>exact⟨B,h+8,out,by rw[← Hbe.out];push_cast;rfl,by push_cast;rfl,by omega,by omega,hp,by omega,HA.out,HB,HF,HS⟩
   case round =>
    obtain⟨b2,h2,hC,rfl,rfl,hk,h0,hq,hU,hJ,hx,hg,hP⟩:=hrel;rcases Nat.lt_or_ge h2 nb with hlt2 | hge2
    ·have hG:=hP.out;rw[zvl hlt2]at hG;simp only[List.append_nil]at hG;have he:=za hG;have a1:wr.cell? ⟨w.heap.size,1,none⟩=some (.int .i64 (nb:Int)):=by simp[World.cell?,hJ]
     have hl:=za hJ;clear hG hP hJ
     go_wp2_with fail
     go_roundg (l.length+1 - (i+1))
     case measure=>omega
     case rel=>exact⟨i+1,b2,h2,hC,rfl,rfl,by push_cast;rfl,by omega,by omega,hlt2,hq,by omega,hl.out,hx,hg,he⟩
    obtain⟨H,rfl⟩:∃ H,h2=nb+H:=⟨h2 - nb,by omega⟩;obtain⟨k,rfl⟩:∃ k',gk=k'+1:=⟨gk - 1,by omega⟩;have hG:=hP.out;rw[zvm (by omega),show nb+H - nb=H by omega]at hG;have a0:wr.cell? ⟨w.heap.size,0,none⟩=some (.string ⟨signs.toArray⟩):=by simp[World.cell?,hJ]
    have a1:wr.cell? ⟨w.heap.size,1,none⟩=some (.int .i64 (nb:Int)):=by simp[World.cell?,hJ]
    have hP13:=zlh (h:=H) (by omega);have ht:1≤2 ^ H:=Nat.one_le_two_pow;have hD:2 ^ (nb+H)=2 ^ nb * 2 ^ H:=Nat.pow_add 2 nb H;have hX:b2 / 2 ^ H<signs.length:=by rw[Hs.out];exact Nat.div_lt_of_lt_mul (by rw[Nat.mul_comm];omega)
    have hM:=Nat.mod_lt b2 (show 0<2 ^ H by omega);have hb13:b2<8192:=zu hq (zlh h0)
    have hand:Go.bits .and .i64 (b2:Int) ((2 ^ H:Nat) - 1:Int)=((b2 % 2 ^ H:Nat):Int):=by
     have h:=zji b2 (2 ^ H - 1) (by omega) (by omega);rw[Nat.and_two_pow_sub_one_eq_mod]at h;rw[← h]
     congr 1
     omega
    have hQ:(2:Int) ^ H=((2 ^ H:Nat):Int):=by simp
    have hF:(b2:Int) / ((2 ^ H:Nat):Int)=((b2 / 2 ^ H:Nat):Int):=(Int.natCast_ediv b2 (2 ^ H)).symm;generalize hO:2 ^ H=P at *;have h6:(0:Int)≤(b2:Int) / (P:Int):=by rw[hF];exact Int.natCast_nonneg _
    have h5:(b2:Int) / (P:Int)<(signs.length:Int):=by rw[hF];omega
    have h4:((b2:Int) / (P:Int)).toNat=b2 / P:=by rw[hF,Int.toNat_natCast]
    have Hpe:=za hO;have hy:(ByteArray.mk signs.toArray).size=signs.length:=rfl
    have hW:∀ h,(ByteArray.mk signs.toArray)[b2 / P]'h=sgn signs (b2 / P):=by
     intro h;unfold sgn;rw[List.getD_eq_getElem?_getD,List.getElem?_eq_getElem hX];rfl
    have hL:(nb:Int)+(H:Int) - (nb:Int)=(H:Int):=by omega
    have hT:hC.length+1≤140737488355328:=by omega
    have hj:=za (hx.out.fr (Fr.refl.drew (M:=NoB)) (fun _ _ _ _ _ h=>h));have hl:=za hJ;have hN:=hg.out.size;have hf:=za (hg.out.drew);have hol4:=hU;have he:=za hG;have HM:=za hM;clear hD hM hP hJ hF hO hG
    go_wp2_with fail
    go_region_held3 (fun W=>W.cell? ⟨w.heap.size,0,none⟩=some (.string ⟨signs.toArray⟩)∧W.cell? ⟨w.heap.size,1,none⟩=some (.int .i64 (nb:Int))) (go_keep) ((go_at_call 200;refine(zaw _ _ _ _ _ hj.out hT).mono ?_;rintro e w5 ⟨rfl,hZ,hI⟩;have hK:=hI.block _ _ hl.out (by rintro⟨h1,_⟩;omega);obtain⟨c0,c1⟩:=(⟨by simp[World.cell?,hK],by simp[World.cell?,hK]⟩:w5.cell? ⟨w.heap.size,0,none⟩=some (.string ⟨signs.toArray⟩)∧w5.cell? ⟨w.heap.size,1,none⟩=some (.int .i64 (nb:Int)))))
    go_wp2_with fail
    go_roundg k
    case measure=>omega
    case rel =>
     refine⟨b2 % P,H,hC++[sgn signs (b2 / P)],by rw[Int.natCast_emod],rfl,by omega,by omega,by rw[Hpe.out];exact HM.out,by rw[List.length_append];simp only[zo,List.length_nil];omega,hK,za hZ,za (hf.out.trans hI (fun k o hm => .inr (by have:=hm.1;omega))),za ?_⟩;have:=he.out;simp only[List.append_assoc,List.cons_append,List.nil_append]at this ⊢;exact this
  obtain rfl:i=l.length:=by omega
  have hS:=HS.out;rw[List.drop_length,zg8]at hS;have hN:=HF.out.size;have hj:=za (HB.out.fr (Fr.refl.drew (M:=NoB)) (fun _ _ _ _ _ h=>h));have hf:=za (HF.out.drew);have hV:out.length+1≤140737488355328:=by omega
  rcases Nat.eq_zero_or_pos h with rfl | hpos
  ·rw[if_neg (by omega),List.append_nil]at hS;have hb:=za hS;clear HS hS
   go_wp2_with fail
   refine(zgj _ _ _ _ HB.out).mono ?_;rintro e w5 ⟨rfl,hI⟩
   go_wp2_with fail
   go_ret;exact⟨zhk (by rw[hb.out]),HF.out.trans hI (fun k o hm => .inr (by have:=hm.1;omega))⟩
  rw[if_pos hpos]at hS;have ht:1≤2 ^ (nb - h):=Nat.one_le_two_pow;have hD:2 ^ nb=2 ^ h * 2 ^ (nb - h):=by rw[← Nat.pow_add];congr 1;omega
  have hX:bits * 2 ^ (nb - h)<signs.length:=by rw[Hs.out,hD];exact Nat.mul_lt_mul_of_pos_right hE (by omega)
  have hr:2 ^ (nb - h)≤64:=by have:=Nat.pow_le_pow_right (n:=2) (by decide) (show nb - h≤6 by omega);omega
  have hY:bits<32:=zu hE (by have:=Nat.pow_le_pow_right (n:=2) (by decide) (show h≤5 by omega);omega);have hL:(nb:Int) - (h:Int)=((nb - h:Nat):Int):=by omega
  obtain⟨H,hH⟩:∃ H,nb - h=H:=⟨_,rfl⟩;rw[hH]at ht hD hX hr hL hS;have hwsub:IntKind.i64.wrap (H:Int)=(H:Int):=by rw[zk];omega
  have hQ:(2:Int) ^ H=((2 ^ H:Nat):Int):=by simp
  have hH0:(0:Int)≤(H:Int):=Int.natCast_nonneg _;have hH6:(H:Int)≤6:=by omega
  generalize hO:2 ^ H=P at *
  have hbp:bits * P≤2048:=by
   have:=Nat.mul_le_mul (show bits≤32 by omega) hr;omega
  have h6:(0:Int)≤(bits:Int) * (P:Int):=by rw[← Int.natCast_mul];exact Int.natCast_nonneg _
  have h5:(bits:Int) * (P:Int)<(signs.length:Int):=by rw[← Int.natCast_mul];omega
  have h4:((bits:Int) * (P:Int)).toNat=bits * P:=by rw[← Int.natCast_mul,Int.toNat_natCast]
  have hX4:IntKind.i64.wrap ((bits:Int) * (P:Int))=(bits:Int) * (P:Int):=by rw[← Int.natCast_mul,zk];omega
  have hy:(ByteArray.mk signs.toArray).size=signs.length:=rfl
  have hW:∀ h,(ByteArray.mk signs.toArray)[bits * P]'h=sgn signs (bits * P):=by
   intro h;unfold sgn;rw[List.getD_eq_getElem?_getD,List.getElem?_eq_getElem hX];rfl
  have hpos2:(0:Int)<(h:Int):=by omega
  have hb:=za hS;clear HS hD hO hH hS
  go_wp2_with fail
  go_region_held3 (fun W=>W.cell? ⟨w.heap.size,0,none⟩=some (.string ⟨signs.toArray⟩)∧W.cell? ⟨w.heap.size,1,none⟩=some (.int .i64 (nb:Int))) (go_keep) ((go_at_call 200;refine(zaw _ _ _ _ _ hj.out hV).mono ?_;rintro e w5 ⟨rfl,hZ,hI⟩;have hK:=hI.block _ _ HA.out (by rintro⟨h1,_⟩;omega);obtain⟨c0,c1⟩:=(⟨by simp[World.cell?,hK],by simp[World.cell?,hK]⟩:w5.cell? ⟨w.heap.size,0,none⟩=some (.string ⟨signs.toArray⟩)∧w5.cell? ⟨w.heap.size,1,none⟩=some (.int .i64 (nb:Int)))))
  go_wp2_with fail
  refine(zgj _ _ _ _ hZ).mono ?_;rintro e w6 ⟨rfl,h7⟩
  go_wp2_with fail
  go_ret;have hs5:=hI.size;exact⟨zhk (by rw[hb.out]),(hf.out.trans hI (fun k o hm => .inr (by have:=hm.1;omega))).trans h7 (fun k o hm => .inr (by have:=hm.1;omega))⟩
theorem zu1 (w:World):Calls Tryz.prog 215 #[] w fun e w'=>e = .returned (.agg #[.string ⟨hexes.toArray⟩,.int .i64 4])∧Fr NoB w w':=by
 go_enter Tryz.func215,Tryz.ntmps215
 go_wp2_with fail
 refine bodyPost_ret (v := .agg #[.string ⟨hexes.toArray⟩,.int .i64 4]) (by simp[results,Tryz.results215,go_sem,hexes]) rfl ?_;exact⟨rfl,Fr.refl.alloc _⟩
theorem zho (S:Nat→Prop)(l:Bs)(v:Value)(w:World)(hv:SB S l v w)(hlen:l.length≤1000000) :
 Calls Tryz.prog 160 #[v] w fun e w'=>e = .returned (.string ⟨(zdf l).toArray⟩)∧Fr NoB w w':=by
 have hc:=fun W hW=>zyx hexes 4 (.inl rfl) rfl S l v W hW hlen
 rw[zx2]at hc;obtain⟨q,cap,rfl⟩:=hv.form;obtain⟨X,hX⟩:∃ X:Bs,X=hexes:=⟨_,rfl⟩;have hh:=zu1 w;rw[← hX]at hc hh;have Hc:=za hc;have Hh:=za hh;have Hv:=za hv;clear hc hh hv hX;go_enter Tryz.func160,Tryz.ntmps160
 go_wp2_with fail
 refine Hh.out.mono ?_;rintro e w1 ⟨rfl,hA⟩;have hC:=za (Hv.out.fr hA (fun _ _ _ _ h=>h));have hD:=za hA;clear hA
 go_wp2_with fail
 refine(Hc.out _ hC.out).mono ?_;rintro e w2 ⟨rfl,hB⟩
 go_wp2_with fail
 go_ret;exact⟨rfl,hD.out.trans' hB⟩
end
section
open Go.RowKit
variable [OldK]
theorem z1d (c:UInt8)(l:Bs):idx (c :: l) c=some 0:=by
 unfold idx;simp
theorem z1b {b c:UInt8}(l:Bs)(h:¬ b=c):idx (b :: l) c=(idx l c).map (· + 1):=by
 have hb:(b==c)=false:=by rw[beq_eq_false_iff_ne];exact h
 have hi:(b :: l).idxOf c=l.idxOf c+1:=by rw[List.idxOf_cons,hb];rfl
 unfold idx;rw[hi,zo];by_cases h2:l.idxOf c<l.length
 ·rw[if_pos h2,if_pos (by omega)];rfl
 rw[if_neg h2,if_neg (by omega)];rfl
theorem zxl (c:UInt8):∀ l:Bs,Lib.indexByte l c=match idx l c with | some k=>(k:Int) | none => -1:=by
 intro l
 induction l with
 | nil=>rfl
 | cons b l ih =>
   unfold Lib.indexByte;by_cases h:b=c
   ·subst h;rw[z1d];simp
   have hb:(b==c)=false:=by rw[beq_eq_false_iff_ne];exact h
   rw[z1b l h,ih,hb];cases idx l c with
   | none=>simp
   | some k =>
     simp only[Option.map_some,Bool.false_eq_true,if_false];rw[if_neg (by rw[beq_iff_eq];omega)]
     push_cast
     rfl
theorem z1c {l:Bs}{c:UInt8}{k:Nat}(h:idx l c=some k):k<l.length:=by
 unfold idx at h;split at h
 ·simp only[Option.some.injEq]at h;omega
 simp at h
theorem zzu (a n b:Nat)(ha:a * 2 ^ n<1000000)(hb:b<2 ^ n)(hn:n≤6):Go.bits .or .i64 ((a:Int) * ((2 ^ n:Nat):Int)) (b:Int)=((a * 2 ^ n+b:Nat):Int):=by
 have hn6:=Nat.pow_le_pow_right (n:=2) (by decide) hn;have h:=zkt (a * 2 ^ n) b (by omega) (by omega);rw[← Int.natCast_mul,h];have h2:=Nat.shiftLeft_add_eq_or_of_lt (i:=n) (b:=b) hb a;rw[Nat.shiftLeft_eq]at h2;rw[← h2]
def zl9 (B:Nat) (r:Option Bs) (e:Ending) (w':World):Prop :=
 match r with
 | some b=>∃ a c,e = .returned (.tuple #[.slice a b.length c,.nilIface])∧SB (fun k=>B≤k) b (.slice a b.length c) w'
 | none=>e = .returned (.tuple #[.slice none 0 0,.iface 49 (.int .i64 1)])
theorem zqu (signs:Bs) (nb:Nat) (hnb:nb=4∨nb=6) (hs:signs.length=2 ^ nb) (s:Bs) (w:World) (hlen:s.length≤1000000) :
 Calls Tryz.prog 145 #[.agg #[.string ⟨signs.toArray⟩,.int .i64 (nb:Int)],.string ⟨s.toArray⟩] w fun e w'=>zl9 w.heap.size (zap signs nb 0 0 [] s) e w'∧Fr NoB w w':=by
 have Hs:=za hs;clear hs;generalize hR:zap signs nb 0 0 [] s=R;have HR:Hid (zap signs nb 0 0 [] (s.drop 0)=R):=hR;clear hR;obtain⟨i0,hl,hZ,hY,hW⟩:=info_parts zbp;have hD:nb≤6:=by omega
 have hnb1:4≤nb:=by omega
 have hA:=heap_alloc_new w (.cells #[.string ⟨signs.toArray⟩,.int .i64 (nb:Int)] 216);have hr:=(Fr.refl (M:=NoB)).alloc (w:=w) (.cells #[.string ⟨signs.toArray⟩,.int .i64 (nb:Int)] 216);obtain⟨M,hM⟩:∃ M:Nat,s.length * nb / 8=M:=⟨_,rfl⟩
 have hM1:M≤1000000:=by
  rw[← hM];have:=Nat.mul_le_mul hlen hD;omega
 obtain⟨w1,hf,hB,hI⟩:=run_make_own (P:=Tryz.prog) (w.alloc (.cells #[.string ⟨signs.toArray⟩,.int .i64 (nb:Int)] 216)) (w.heap.size+1) 24 5 i0 (.int .u8 0) 1 Tryz.underlying24 hl hZ hY .i64 .i64 M (by rw[hW];omega) (by unfold maxLen;omega) (by rw[zf];omega);have hT:Fr NoB (w.alloc (.cells #[.string ⟨signs.toArray⟩,.int .i64 (nb:Int)] 216)) w1:=(Fr.ofGrown hI).mono (fun k _ h=>by simp at h);have hw:=za (hT.block _ _ hA (fun h=>h));have hv:=za (hr.trans' hT);have h3:1≤(w.alloc (.cells #[.string ⟨signs.toArray⟩,.int .i64 (nb:Int)] 216)).heap.size:=by rw[zf];omega
 have hN:(w.alloc (.cells #[.string ⟨signs.toArray⟩,.int .i64 (nb:Int)] 216)).heap.size=w.heap.size+1:=zf _ _;rw[hN]at hf hB;have hF:Hid (OB (w.heap.size+1) [] (.slice (some ⟨w.heap.size+1,0,none⟩) 0 M) w1):=za hB;have hG:((s.length:Int) * (nb:Int))=((s.length * nb:Nat):Int):=(Int.natCast_mul _ _).symm;have hmb:s.length * nb≤6000000:=by have:=Nat.mul_le_mul hlen hD;omega
 have ha:IntKind.i64.wrap ((s.length:Int) * (nb:Int))=(s.length:Int) * (nb:Int):=by rw[hG,zk];omega
 have h4:((s.length:Int) * (nb:Int)).tdiv 8=(M:Int):=by rw[hG,← hM,Int.tdiv_eq_ediv_of_nonneg (by omega)];omega
 clear hA hr hT hI h3 hB hG hM;go_enter Tryz.func145,Tryz.ntmps145
 go_wp2_with fail
 go_loopg [6,7,8,20] (s.length+1) (fun g vo vb vh vi wr=>∃ (i bt h:Nat) (out:Bs),vb = .int .i64 (bt:Int)∧vh = .int .i64 (h:Int)∧vi = .int .i64 (i:Int)∧i≤s.length∧i+g=s.length+1∧h<8∧bt<2 ^ h∧out.length≤i ∧
  wr.heap[w.heap.size]? = some (.cells #[.string ⟨signs.toArray⟩,.int .i64 (nb:Int)] 216 (0,0))∧Hid (OB (w.heap.size+1) out vo wr)∧Hid (Fr NoB w wr)∧Hid (zap signs nb bt h out (s.drop i)=R))
 case atStart=>exact⟨0,0,0,[],rfl,rfl,rfl,by omega,by omega,by omega,by simp,by simp,hw.out,hF,hv,HR⟩
 case round =>
  clear hw hF hv HR hf ha h4;obtain⟨i,bt,h,out,rfl,rfl,rfl,hi,hig,hh,h6,hol,hA,HO,HF,HS⟩:=hrel;have a0:wr.cell? ⟨w.heap.size,0,none⟩=some (.string ⟨signs.toArray⟩):=by simp[World.cell?,hA]
  have a1:wr.cell? ⟨w.heap.size,1,none⟩=some (.int .i64 (nb:Int)):=by simp[World.cell?,hA]
  have HA:=za hA;obtain⟨oa,oc,rfl⟩:=HO.out.form;have hbt256:bt<256:=zu h6 (by have:=Nat.pow_le_pow_right (n:=2) (by decide) (show h≤7 by omega);omega);clear hA;rcases Nat.lt_or_ge i s.length with hlt | hge
  ·obtain ⟨c,hc⟩:∃ c,s[i]? = some c:=⟨_,List.getElem?_eq_getElem hlt⟩
   have hcb:∀ h,(ByteArray.mk s.toArray)[i]'h=c:=by
    intro h;exact(List.getElem?_eq_some_iff.1 hc).2
   have hsz:(ByteArray.mk s.toArray).size=s.length:=rfl
   have hd:s.drop i=c :: s.drop (i+1):=by
    rw[List.drop_eq_getElem_cons hlt]
    congr 1
    exact(List.getElem?_eq_some_iff.1 hc).2
   have hS:=HS.out;rw[hd,zap]at hS;have hj:=zxl c signs;have hC:=fun W=>Go.Proofs.Tryz.strings_IndexByte ⟨signs.toArray⟩ (c.toNat:Int) W
   rw[show((c.toNat:Int).toNat.toUInt8)=c by simp,show(ByteArray.mk signs.toArray).data.toList=signs by simp]at hC;rw[hj]at hC;clear hj HS hc hd;cases hk:idx signs c with
   | none =>
     rw[hk]at hS hC;simp only at hS hC;have HR:=za hS;have Hib:=za hC;clear hS hC hk
     go_wp2_with fail
     go_region_held3 (fun W=>W.cell? ⟨w.heap.size,0,none⟩=some (.string ⟨signs.toArray⟩)∧W.cell? ⟨w.heap.size,1,none⟩=some (.int .i64 (nb:Int))) (go_keep) ((go_at_call 221;refine(Hib.out _).mono ?_;rintro e w5 ⟨rfl,rfl⟩))
     go_wp2_with fail
     go_ret2;exact⟨by rw[← HR.out];rfl,HF.out.drew⟩
   | some k =>
     rw[hk]at hS hC;simp only at hS hC;have hg:=z1c hk;rw[Hs.out]at hg;have Hib:=za hC;have hJ:=Nat.pow_le_pow_right (n:=2) (by decide) hD;have h0:2 ^ (h+nb)=2 ^ h * 2 ^ nb:=Nat.pow_add 2 h nb
     have hU:bt * 2 ^ nb+k<2 ^ (h+nb):=by
      have:=Nat.mul_le_mul_right (2 ^ nb) (show bt+1≤2 ^ h by omega);rw[Nat.add_mul]at this;omega
     have h9:bt * 2 ^ nb≤16384:=by
      have:=Nat.mul_le_mul (show bt≤256 by omega) hJ;omega
     have h1:=zzu bt nb k (by omega) hg hD;have hpow:(2:Int) ^ nb=((2 ^ nb:Nat):Int):=by simp
     obtain⟨B1,ht⟩:∃ B1,bt * 2 ^ nb+k=B1:=⟨_,rfl⟩;rw[ht]at h1 hU hS;have hB1:B1≤17000:=by omega
     have h7:(h:Int)+(nb:Int)=((h+nb:Nat):Int):=by push_cast;rfl
     obtain⟨H1,hp⟩:∃ H1,h+nb=H1:=⟨_,rfl⟩;rw[hp]at h7 hU hS;have hH13:H1≤13:=by omega
     generalize 2 ^ nb=Q at *;have ha:IntKind.i64.wrap ((bt:Int) * (Q:Int))=(bt:Int) * (Q:Int):=by rw[← Int.natCast_mul,zk];omega
     have hw2:IntKind.i64.wrap (H1:Int)=(H1:Int):=by rw[zk];omega
     have hnb0:(0:Int)≤(nb:Int):=by omega
     have hnb64:(nb:Int)≤64:=by omega
     have hK:=za hS;have hu:=za (HF.out.drew.drew);have hV:=za ((HO.out.fr ((Fr.refl (M:=NoB) (w:=wr)).drew) (fun _ _ _ _ h=>h)).fr ((Fr.refl (M:=NoB) (w:=wr.drew)).drew) (fun _ _ _ _ h=>h));have hkn:¬ ((k:Int)<0):=by omega
     clear hS hC hk h0 ht hp h9 hJ;by_cases h8:8≤H1
     ·have hS:=hK.out;rw[if_pos h8]at hS;obtain⟨H2,rfl⟩:∃ H2,H1=H2+8:=⟨H1 - 8,by omega⟩;rw[show H2+8 - 8=H2 by omega]at hS;have hP1:1≤2 ^ H2:=Nat.one_le_two_pow;have hP13:=zlh (h:=H2) (by omega);have hM:=Nat.mod_lt B1 (show 0<2 ^ H2 by omega);have hz:2 ^ (H2+8)=2 ^ H2 * 256:=Nat.pow_add 2 H2 8;have hX:B1 / 2 ^ H2<256:=Nat.div_lt_of_lt_mul (by omega)
      have hand:Go.bits .and .i64 (B1:Int) ((2 ^ H2:Nat) - 1:Int)=((B1 % 2 ^ H2:Nat):Int):=by
       have h:=zji B1 (2 ^ H2 - 1) (by omega) (by omega);rw[Nat.and_two_pow_sub_one_eq_mod]at h;rw[← h]
       congr 1
       omega
      have hpow2:(2:Int) ^ H2=((2 ^ H2:Nat):Int):=by simp
      generalize hn:2 ^ H2=P at *
      have h5:IntKind.u8.wrap ((B1:Int) / (P:Int))=((UInt8.ofNat (B1 / P)).toNat:Int):=by
       rw[← Int.natCast_ediv,UInt8.toNat_ofNat',Nat.mod_eq_of_lt hX];rw[IntKind.wrap_u8];generalize B1 / P=X at hX ⊢;omega
      have hL:=za hS;have HM:=za hM;have Hpe:=za hn;obtain⟨x,hx⟩:∃ x,UInt8.ofNat (B1 / P)=x:=⟨_,rfl⟩;rw[hx]at h5 hL;clear hS hM hz hn hx hK hX
      go_wp2_with fail
      go_region_held3 (fun W=>W.cell? ⟨w.heap.size,0,none⟩=some (.string ⟨signs.toArray⟩)∧W.cell? ⟨w.heap.size,1,none⟩=some (.int .i64 (nb:Int))) (go_keep) ((go_at_call 221;refine(Hib.out _).mono ?_;rintro e w5 ⟨rfl,rfl⟩))
      go_wp2_with fail
      go_region_held3 (fun W=>W.cell? ⟨w.heap.size,0,none⟩=some (.string ⟨signs.toArray⟩)∧W.cell? ⟨w.heap.size,1,none⟩=some (.int .i64 (nb:Int))) (go_keep) (fail)
      go_wp2_with(at_builtin;refine wpList_append_own _ rfl _ _ 24 rfl (w.heap.size+1) 5 i0 (.int .u8 0) 1 1 Tryz.underlying24 hl hZ hY hW rfl (by decide) (.slice oa out.length oc) out.length (Lib.byteCells out) (by rfl) (hV.out.alloc _) ⟨_,0,none⟩ 1 1 [.int .u8 (x.toNat:Int)] (by rfl) (by rfl) ?c1 ?c2 ?c3 ?c4 ?c5 ?_)
      case c1=>exact zck wr.drew.drew _ _ _ (by simp)
      case c2=>simp[Value.oneCell']
      case c3=>unfold maxLen;omega
      case c4=>omega
      case c5=>have:=HF.out.size;have:=jb HA.out;simp;omega
      intro v' w6 hE hH _;obtain⟨hO,hQ⟩:=OB.push (news:=[x]) hV.out ((Fr.refl (M:=NoB)).alloc (w:=wr.drew.drew) (.cells #[.int .u8 (x.toNat:Int)] 5)) hE hH;have AA:=hQ.block _ _ HA.out (by omega);have AC:=za hO;have AD:=za (hu.out.trans hQ (fun k o hm => .inr (by omega)));obtain⟨va,vc,rfl⟩:=hO.form;clear hE hH hO hQ
      go_wp2_with fail
      go_roundg (s.length+1 - (i+1))
      case measure=>omega
      case rel =>
       refine⟨i+1,B1 % P,H2,out++[x],by rw[Int.natCast_emod],rfl,by push_cast;rfl,by omega,by omega,by omega,by rw[Hpe.out];exact HM.out,by rw[List.length_append];simp only[zo,List.length_nil];omega,AA,AC,AD,hL⟩
     have hS:=hK.out;rw[if_neg h8]at hS;have hL:=za hS;have h8':¬ (8:Int)≤(H1:Int):=by omega
     clear hS hK h8
     go_wp2_with fail
     go_region_held3 (fun W=>W.cell? ⟨w.heap.size,0,none⟩=some (.string ⟨signs.toArray⟩)∧W.cell? ⟨w.heap.size,1,none⟩=some (.int .i64 (nb:Int))) (go_keep) ((go_at_call 221;refine(Hib.out _).mono ?_;rintro e w5 ⟨rfl,rfl⟩))
     go_wp2_with fail
     go_region_held3 (fun W=>W.cell? ⟨w.heap.size,0,none⟩=some (.string ⟨signs.toArray⟩)∧W.cell? ⟨w.heap.size,1,none⟩=some (.int .i64 (nb:Int))) (go_keep) (fail)
     go_wp2_with fail
     go_roundg (s.length+1 - (i+1))
     case measure=>omega
     case rel =>
      exact⟨i+1,B1,H1,out,rfl,rfl,by push_cast;rfl,by omega,by omega,by omega,hU,by omega,HA.out,hV,hu,hL⟩
  obtain rfl:i=s.length:=by omega
  have hS:=HS.out;rw[List.drop_length,zap]at hS;have he:=HO.out.sb;have AB:=za he;clear he;rcases Nat.lt_or_ge h nb with hlt2 | hge2
  ·have h2:¬ (nb:Int)≤(h:Int):=by omega
   by_cases hP:bt=0
   ·rw[if_neg (by omega)]at hS;have hq:((bt:Int)==0)=true:=by rw[beq_iff_eq];omega
    have hy:((bt:Int) != 0)=false:=by rw[bne,hq];rfl
    have HR:=za hS;clear hS HS hP
    go_wp2_with fail
    go_ret2;exact⟨by rw[← HR.out];exact⟨_,_,rfl,AB.out.kp (fun b o hb ho _=>⟨by omega,ho⟩)⟩,HF.out⟩
   rw[if_pos (.inr hP)]at hS;have hq:((bt:Int)==0)=false:=by rw[beq_eq_false_iff_ne];omega
   have hy:((bt:Int) != 0)=true:=by rw[bne,hq];rfl
   have HR:=za hS;clear hS HS hP
   go_wp2_with fail
   go_ret2;exact⟨by rw[← HR.out];rfl,HF.out⟩
  rw[if_pos (.inl hge2)]at hS;have h2:(nb:Int)≤(h:Int):=by omega
  have HR:=za hS;clear hS HS
  go_wp2_with fail
  go_ret2;exact⟨by rw[← HR.out];rfl,HF.out⟩
end
end Go.Proofs.YtmgfncjfgkllcaaGreatDoor
