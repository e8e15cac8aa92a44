/-
 strings.ContainsFunc at a function that may lay blocks of its own.
-/
import Derived.Test.YtmgfncjfgkllcaaGreatDoorKTyped
import Derived.Laws.Runes
import Derived.StillTactics
import Derived.WalkMore
import Derived.Deep.LoopGhost
import Derived.StillTailTactics
open Go.Lib renaming hid→za
open Go.Proofs.Tryz renaming prog→ze
open Nat renaming le_refl→zt
namespace Go.Proofs.YtmgfncjfgkllcaaGreatDoor
set_option linter.unusedVariables false
set_option linter.unusedSimpArgs false
set_option linter.unusedSectionVars false
set_option maxRecDepth 100000
set_option maxHeartbeats 1000000
section
open Go.RowKit
variable [OldK]
def zoo (g:Nat) (p:Nat→Bool):Prop :=
 ∀ (W:World) (x:Nat),x≤1114111→Calls ze g #[.int .i32 (x:Int)] W fun e w'=>e = .returned (.bool (p x))∧Below W.heap.size W w'
theorem zt5 (g:Nat) (eg:∀ args w,(callFunc g args).run ze w = .ok (.enter g args) w) (p:Nat→Bool) (s:ByteArray) (w:World) (hp:zoo g p) :
 Calls ze 263 #[.string s,.func (.func g) #[] #[],.bool true] w fun e w'=>e = .returned (.int .i64 (Lib.idxFunc p true s))∧Below w.heap.size w w':=by
 go_enter Tryz.func263,Tryz.ntmps263
 go_wp2_with fail
 go_loopg [] s.size (fun gf wx=>∃ i:Nat,wx.heap[w.heap.size]? = some (.stringIter s i)∧Below w.heap.size w wx∧Lib.idxFuncFrom p true s gf i=Lib.idxFunc p true s∧s.size≤i+gf)
 case atStart=>exact⟨0,World.iter_heap w s 0,(Below.refl _ w).alloc (zt _) _,rfl,by omega⟩
 case round =>
  obtain⟨i,hD,hB,hG,hf⟩:=hrel;by_cases hi:i<s.size
  ·obtain ⟨h,rfl⟩:∃ h,gk=h+1:=⟨gk - 1,by omega⟩;have hn:∀ ty,(Instr.next (.pointer (some ⟨w.heap.size,0,none⟩)) true ty).run ze wr=_:=fun ty=>Lib.run_next_any_at wr w.heap.size s i ty hD hi
   have hw:=Lib.width_pos s i;have hr:=Lib.rune_le s i;rw[Lib.idxFuncFrom,if_pos hi]at hG;obtain⟨R,hR⟩:∃ R,(Utf8.decode s i).1=R:=⟨_,rfl⟩;obtain⟨L,hL⟩:∃ L,(Utf8.decode s i).2=L:=⟨_,rfl⟩;rw[hR,hL]at hG hn;rw[hR]at hr;rw[hL]at hw;have hA:=Lib.iterAt_heap wr w.heap.size s i (i+L) hD;have hC:=Lib.below_iterAt hB (k:=w.heap.size) (zt _) s (i+L);obtain⟨W,hW⟩:∃ W,wr.iterAt w.heap.size s (i+L)=W:=⟨_,rfl⟩;rw[hW]at hn hA hC;have hc:=hp W R hr;clear hp hD hB hR hL hr hW;cases hx:p R with
   | true =>
     rw[hx]at hc;rw[hx,if_pos rfl]at hG
     go_wp2_with(go_at_fn g;refine hc.mono ?_;rintro e W' ⟨rfl,hE⟩)
     go_ret;exact⟨by rw[← hG]<;>rfl,hC.trans (hE.mono hC.size)⟩
   | false =>
     rw[hx]at hc;rw[hx,if_neg (by simp)]at hG
     go_wp2_with(go_at_fn g;refine hc.mono ?_;rintro e W' ⟨rfl,hE⟩)
     go_roundg h
     case measure=>omega
     case rel=>exact⟨i+L,by rw[hE.block _ (jb hA)];exact hA,hC.trans (hE.mono hC.size),hG,by omega⟩
  have hn:∀ ty,(Instr.next (.pointer (some ⟨w.heap.size,0,none⟩)) true ty).run ze wr=_:=fun ty=>Lib.run_next_end_at wr w.heap.size s i ty hD hi
  rw[Lib.idxFuncFrom_end p true s gk i hi]at hG
  go_wp2_with fail
  go_ret;exact⟨by rw[← hG]<;>rfl,hB⟩
theorem zm1 (g:Nat) (eg:∀ args w,(callFunc g args).run ze w = .ok (.enter g args) w) (p:Nat→Bool) (s:ByteArray) (w:World) (hp:zoo g p) :
 Calls ze 133 #[.string s,.func (.func g) #[] #[]] w fun e w'=>e = .returned (.bool (decide (0≤Lib.idxFunc p true s)))∧Below w.heap.size w w':=by
 have Hc:=za (zt5 g eg p s w hp)
 have hi:Calls ze 204 #[.string s,.func (.func g) #[] #[]] w fun e w'=>e = .returned (.int .i64 (Lib.idxFunc p true s))∧Below w.heap.size w w':=by
  go_enter Tryz.func204,Tryz.ntmps204
  go_wp2_with fail
  refine Hc.out.mono ?_;rintro e W' ⟨rfl,hB⟩
  go_wp2_with fail
  go_ret;exact⟨rfl,hB⟩
 have Hi:=za hi;clear hi Hc;go_enter Tryz.func133,Tryz.ntmps133
 go_wp2_with fail
 refine Hi.out.mono ?_;rintro e W' ⟨rfl,hB⟩
 go_wp2_with fail
 go_ret;exact⟨rfl,hB⟩
end
section
open Go.RowKit
variable [OldK]
theorem zsa (n:Nat) (h1:128≤n) (h2:n≤1114111) (hv:Lib.validRune (n:Int)=true) :
 (∃ a b:UInt8,Utf8.encode (n:Int)=⟨#[a,b]⟩∧128≤b.toNat)∨(∃ a b c:UInt8,Utf8.encode (n:Int)=⟨#[a,b,c]⟩∧128≤c.toNat)∨(∃ a b c d:UInt8,Utf8.encode (n:Int)=⟨#[a,b,c,d]⟩∧128≤d.toNat):=by
 have hx:Utf8.valid (n:Int)=true:=by
  unfold Lib.validRune at hv;unfold Utf8.valid;simp only[Bool.or_eq_true,Bool.and_eq_true,decide_eq_true_eq]at hv ⊢;omega
 unfold Utf8.encode;simp only[hx,if_true,Int.toNat_natCast,if_neg (show ¬ n<128 from by omega)];split
 ·exact .inl ⟨_,_,rfl,by simp;omega⟩
 split
 ·exact .inr (.inl ⟨_,_,_,rfl,by simp;omega⟩)
 exact .inr (.inr ⟨_,_,_,_,rfl,by simp;omega⟩)
theorem ztk (n:Nat)(w:World)(h1:128≤n)(h2:n≤1114111)(h3:n≠65533)(hv:Lib.validRune (n:Int)=false) :
 Calls ze 273 #[.string ⟨#[46,45,95,64]⟩,.int .i32 n] w fun e w'=>e = .returned (.int .i64 (-1))∧Below w.heap.size w w':=by
 have e1:decide ((0:Int)≤n)=true:=decide_eq_true (by omega);have e2:decide ((n:Int)<128)=false:=by simp;omega
 have e3:((n:Int)==65533)=false:=by simp;omega
 have hc:=fun W=>Tryz.utf8_ValidRune (n:Int) W
 rw[hv]at hc;have Hc:=za hc;clear hc h1 h2 h3 hv;go_enter Tryz.func273,Tryz.ntmps273
 go_wp2_with fail
 refine(Hc.out _).mono ?_;rintro e w2 ⟨rfl,rfl⟩
 go_wp2_with fail
 go_ret;exact⟨rfl,Below.refl _ _⟩
theorem zjj (x:UInt8) (hx:128≤x.toNat):∀ l:Bs,(∀ y∈l,y.toNat<128)→Lib.indexByte l x = -1
 | [],_=>rfl
 | y :: l,h=>by
   have h1:=zjj x hx l (fun z hz=>h z (List.mem_cons_of_mem _ hz));have h2:=h y List.mem_cons_self
   have hne:(y==x)=false:=by
    rw[beq_eq_false_iff_ne];rintro rfl;omega
   unfold Lib.indexByte;rw[hne,h1];rfl
theorem zhv (x:UInt8):((x.toNat:Int)).toNat.toUInt8=x:=by
 rw[Int.toNat_natCast];simp
theorem zwb (i:Nat)(hi:i<4):Utf8.decode ⟨#[46,45,95,64]⟩ i=(([46,45,95,64]:List Nat).getD i 0,1):=by
 rcases(by omega:i=0∨i=1∨i=2∨i=3) with rfl | rfl | rfl | rfl<;>rfl
theorem ztj (w:World) :
 Calls ze 273 #[.string ⟨#[46,45,95,64]⟩,.int .i32 65533] w fun e w'=>e = .returned (.int .i64 (-1))∧Below w.heap.size w w':=by
 obtain⟨s,hs⟩:∃ s:ByteArray,s=⟨#[46,45,95,64]⟩:=⟨_,rfl⟩;have h4:s.size=4:=by rw[hs];rfl
 have hd:∀ i,i<4→Utf8.decode s i=(([46,45,95,64]:List Nat).getD i 0,1):=by rw[hs];exact zwb
 rw[← hs];clear hs;go_enter Tryz.func273,Tryz.ntmps273
 go_wp2_with fail
 go_loopg [] 4 (fun gf wx=>∃ i:Nat,wx.heap[w.heap.size]? = some (.stringIter s i)∧Below w.heap.size w wx∧4≤i+gf)
 case atStart=>exact⟨0,World.iter_heap w s 0,(Below.refl _ w).alloc (zt _) _,by omega⟩
 case round =>
  obtain⟨i,hC,hB,hf⟩:=hrel;by_cases hi:i<4
  ·obtain ⟨h,rfl⟩:∃ h,gk=h+1:=⟨gk - 1,by omega⟩;have hn:∀ ty,(Instr.next (.pointer (some ⟨w.heap.size,0,none⟩)) true ty).run ze wr=_:=fun ty=>Lib.run_next_any_at wr w.heap.size s i ty hC (by omega)
   rw[hd i hi]at hn;obtain⟨R,hR⟩:∃ R,([46,45,95,64]:List Nat).getD i 0=R:=⟨_,rfl⟩
   have hne:((R:Int)==65533)=false:=by
    have:R<128:=by
     rw[← hR];rcases(by omega:i=0∨i=1∨i=2∨i=3) with rfl | rfl | rfl | rfl<;>decide
    simp;omega
   rw[hR]at hn;have hA:=Lib.iterAt_heap wr w.heap.size s i (i+1) hC;have hD:=Lib.below_iterAt hB (k:=w.heap.size) (zt _) s (i+1);obtain⟨W,hW⟩:∃ W,wr.iterAt w.heap.size s (i+1)=W:=⟨_,rfl⟩;rw[hW]at hA hD;simp only[hW]at hn;clear hC hB hR hW hd h4 hi
   go_wp2_with fail
   go_roundg h
   case measure=>omega
   case rel=>exact⟨i+1,hA,hD,by omega⟩
  have hn:∀ ty,(Instr.next (.pointer (some ⟨w.heap.size,0,none⟩)) true ty).run ze wr=_:=fun ty=>Lib.run_next_end_at wr w.heap.size s i ty hC (by omega)
  clear hd h4 hi
  go_wp2_with fail
  go_ret;exact⟨rfl,hB⟩
theorem zpj (n:Nat) (a b:UInt8) (w:World) (h1:128≤n) (h2:n≤1114111) (h3:n≠65533) (hv:Lib.validRune (n:Int)=true) (hE:Utf8.encode (n:Int)=⟨#[a,b]⟩) (hl:128≤b.toNat) :
 Calls ze 273 #[.string ⟨#[46,45,95,64]⟩,.int .i32 n] w fun e w'=>e = .returned (.int .i64 (-1))∧Below w.heap.size w w':=by
 have e1:decide ((0:Int)≤n)=true:=decide_eq_true (by omega);have e2:decide ((n:Int)<128)=false:=by simp;omega
 have e3:((n:Int)==65533)=false:=by simp;omega
 have hc:=fun W=>Tryz.utf8_ValidRune (n:Int) W
 rw[hv]at hc;have Hc:=za hc
 have hcv:∀ W,(convert 21 9 (.int .i32 (n:Int))).run ze W = .ok (.string ⟨#[a,b]⟩) W:=fun W=>by
  rw[← hE];exact run_convert_int_string W _ _ .i32 n (by kernel_rfl) (by kernel_rfl)
 clear hc h1 h2 h3 hv hE;go_enter Tryz.func273,Tryz.ntmps273
 go_wp2_with fail
 refine(Hc.out _).mono ?_;rintro e w2 ⟨rfl,rfl⟩
 go_wp2_with fail
 go_step3
 go_wp2_with fail
 go_loopg [9] 1 (fun gf vi wx=>vi = .int .i64 1∧wx=w2)
 case atStart=>exact⟨rfl,rfl⟩
 case round =>
  obtain⟨rfl,rfl⟩:=hrel;have hG:(((45:Nat):Int) != b.toNat)=true:=by simp;omega
  have hA:((45:Int) != b.toNat)=true:=by simp;omega
  go_wp2_with fail
  go_step3
  go_wp2_with fail
  go_still (by kernel_rfl)
  have hV:((((ByteArray.mk #[46,45,95,64])[1]'(by decide)).toNat:Int) != ((ByteArray.mk #[a,b])[1]'(show 1<2 by decide)).toNat)=true:=hA;have hB:Below wr.heap.size wr wr.drew:=(Below.refl _ _).drew;generalize hW:({ heap:=wr.heap,tape:=wr.tape,drawn:=wr.drawn+1,os:=wr.os,output:=wr.output }:World)=W1;have hC:wr.drew=W1:=hW;rw[hC]at hB;rw[hV];clear hW hC hG hA;have hF:IntKind.i64.wrap 2=2:=by decide
  go_wp2_with fail
  go_still_tail 7,(by kernel_rfl)
  change wpList _ _ _ _ _ W1.drew;have hD:=hB.drew;obtain⟨W2,hW⟩:∃ W2,W1.drew=W2:=⟨_,rfl⟩;rw[hW]at hD ⊢
  have hx:∀ W,Calls ze 221 #[.string ((ByteArray.mk #[46,45,95,64]).extract 2 4),.int .u8 (((ByteArray.mk #[a,b])[1]'(show 1<2 by decide)).toNat:Int)] W fun e w'=>e = .returned (.int .i64 (-1))∧w'=W:=fun W=>by
   have h:=Tryz.strings_IndexByte ((ByteArray.mk #[46,45,95,64]).extract 2 4) (((ByteArray.mk #[a,b])[1]'(show 1<2 by decide)).toNat:Int) W;have hi:Lib.indexByte ((ByteArray.mk #[46,45,95,64]).extract 2 4).data.toList ((ByteArray.mk #[a,b])[1]'(show 1<2 by decide)) = -1:=zjj b hl _ (by decide);rw[zhv,hi]at h;exact h
  clear hW hB hF
  go_wp2_with fail
  refine(hx _).mono ?_;rintro e W3 ⟨rfl,rfl⟩;clear hx hV
  go_wp2_with fail
  rw[Exit.noGoto_ret];go_simp;show bodyPost _ _ _ Exit.ret _ _;go_ret;exact⟨rfl,hD⟩
theorem zpi (n:Nat) (a b c:UInt8) (w:World) (h1:128≤n) (h2:n≤1114111) (h3:n≠65533) (hv:Lib.validRune (n:Int)=true) (hE:Utf8.encode (n:Int)=⟨#[a,b,c]⟩) (hl:128≤c.toNat) :
 Calls ze 273 #[.string ⟨#[46,45,95,64]⟩,.int .i32 n] w fun e w'=>e = .returned (.int .i64 (-1))∧Below w.heap.size w w':=by
 have e1:decide ((0:Int)≤n)=true:=decide_eq_true (by omega);have e2:decide ((n:Int)<128)=false:=by simp;omega
 have e3:((n:Int)==65533)=false:=by simp;omega
 have hc:=fun W=>Tryz.utf8_ValidRune (n:Int) W
 rw[hv]at hc;have Hc:=za hc
 have hcv:∀ W,(convert 21 9 (.int .i32 (n:Int))).run ze W = .ok (.string ⟨#[a,b,c]⟩) W:=fun W=>by
  rw[← hE];exact run_convert_int_string W _ _ .i32 n (by kernel_rfl) (by kernel_rfl)
 clear hc h1 h2 h3 hv hE;go_enter Tryz.func273,Tryz.ntmps273
 go_wp2_with fail
 refine(Hc.out _).mono ?_;rintro e w2 ⟨rfl,rfl⟩
 go_wp2_with fail
 go_step3
 go_wp2_with fail
 go_loopg [9] 1 (fun gf vi wx=>vi = .int .i64 2∧wx=w2)
 case atStart=>exact⟨rfl,rfl⟩
 case round =>
  obtain⟨rfl,rfl⟩:=hrel;have hG:(((95:Nat):Int) != c.toNat)=true:=by simp;omega
  have hA:((95:Int) != c.toNat)=true:=by simp;omega
  go_wp2_with fail
  go_step3
  go_wp2_with fail
  go_still (by kernel_rfl)
  have hV:((((ByteArray.mk #[46,45,95,64])[2]'(by decide)).toNat:Int) != ((ByteArray.mk #[a,b,c])[2]'(show 2<3 by decide)).toNat)=true:=hA;have hB:Below wr.heap.size wr wr.drew:=(Below.refl _ _).drew;generalize hW:({ heap:=wr.heap,tape:=wr.tape,drawn:=wr.drawn+1,os:=wr.os,output:=wr.output }:World)=W1;have hC:wr.drew=W1:=hW;rw[hC]at hB;rw[hV];clear hW hC hG hA;have hF:IntKind.i64.wrap 3=3:=by decide
  go_wp2_with fail
  go_still_tail 7,(by kernel_rfl)
  change wpList _ _ _ _ _ W1.drew;have hD:=hB.drew;obtain⟨W2,hW⟩:∃ W2,W1.drew=W2:=⟨_,rfl⟩;rw[hW]at hD ⊢
  have hx:∀ W,Calls ze 221 #[.string ((ByteArray.mk #[46,45,95,64]).extract 3 4),.int .u8 (((ByteArray.mk #[a,b,c])[2]'(show 2<3 by decide)).toNat:Int)] W fun e w'=>e = .returned (.int .i64 (-1))∧w'=W:=fun W=>by
   have h:=Tryz.strings_IndexByte ((ByteArray.mk #[46,45,95,64]).extract 3 4) (((ByteArray.mk #[a,b,c])[2]'(show 2<3 by decide)).toNat:Int) W;have hi:Lib.indexByte ((ByteArray.mk #[46,45,95,64]).extract 3 4).data.toList ((ByteArray.mk #[a,b,c])[2]'(show 2<3 by decide)) = -1:=zjj c hl _ (by decide);rw[zhv,hi]at h;exact h
  clear hW hB hF
  go_wp2_with fail
  refine(hx _).mono ?_;rintro e W3 ⟨rfl,rfl⟩;clear hx hV
  go_wp2_with fail
  rw[Exit.noGoto_ret];go_simp;show bodyPost _ _ _ Exit.ret _ _;go_ret;exact⟨rfl,hD⟩
theorem zph (n:Nat) (a b c d:UInt8) (w:World) (h1:128≤n) (h2:n≤1114111) (h3:n≠65533) (hv:Lib.validRune (n:Int)=true) (hE:Utf8.encode (n:Int)=⟨#[a,b,c,d]⟩) (hl:128≤d.toNat) :
 Calls ze 273 #[.string ⟨#[46,45,95,64]⟩,.int .i32 n] w fun e w'=>e = .returned (.int .i64 (-1))∧Below w.heap.size w w':=by
 have e1:decide ((0:Int)≤n)=true:=decide_eq_true (by omega);have e2:decide ((n:Int)<128)=false:=by simp;omega
 have e3:((n:Int)==65533)=false:=by simp;omega
 have hc:=fun W=>Tryz.utf8_ValidRune (n:Int) W
 rw[hv]at hc;have Hc:=za hc
 have hcv:∀ W,(convert 21 9 (.int .i32 (n:Int))).run ze W = .ok (.string ⟨#[a,b,c,d]⟩) W:=fun W=>by
  rw[← hE];exact run_convert_int_string W _ _ .i32 n (by kernel_rfl) (by kernel_rfl)
 clear hc h1 h2 h3 hv hE;go_enter Tryz.func273,Tryz.ntmps273
 go_wp2_with fail
 refine(Hc.out _).mono ?_;rintro e w2 ⟨rfl,rfl⟩
 go_wp2_with fail
 go_step3
 go_wp2_with fail
 go_loopg [9] 1 (fun gf vi wx=>vi = .int .i64 3∧wx=w2)
 case atStart=>exact⟨rfl,rfl⟩
 case round =>
  obtain⟨rfl,rfl⟩:=hrel;have hG:(((64:Nat):Int) != d.toNat)=true:=by simp;omega
  have hA:((64:Int) != d.toNat)=true:=by simp;omega
  go_wp2_with fail
  go_step3
  go_wp2_with fail
  go_still (by kernel_rfl)
  have hV:((((ByteArray.mk #[46,45,95,64])[3]'(by decide)).toNat:Int) != ((ByteArray.mk #[a,b,c,d])[3]'(show 3<4 by decide)).toNat)=true:=hA;have hB:Below wr.heap.size wr wr.drew:=(Below.refl _ _).drew;generalize hW:({ heap:=wr.heap,tape:=wr.tape,drawn:=wr.drawn+1,os:=wr.os,output:=wr.output }:World)=W1;have hC:wr.drew=W1:=hW;rw[hC]at hB;rw[hV];clear hW hC hG hA;have hF:IntKind.i64.wrap 4=4:=by decide
  go_wp2_with fail
  go_still_tail 7,(by kernel_rfl)
  change wpList _ _ _ _ _ W1.drew;have hD:=hB.drew;obtain⟨W2,hW⟩:∃ W2,W1.drew=W2:=⟨_,rfl⟩;rw[hW]at hD ⊢
  have hx:∀ W,Calls ze 221 #[.string ((ByteArray.mk #[46,45,95,64]).extract 4 4),.int .u8 (((ByteArray.mk #[a,b,c,d])[3]'(show 3<4 by decide)).toNat:Int)] W fun e w'=>e = .returned (.int .i64 (-1))∧w'=W:=fun W=>by
   have h:=Tryz.strings_IndexByte ((ByteArray.mk #[46,45,95,64]).extract 4 4) (((ByteArray.mk #[a,b,c,d])[3]'(show 3<4 by decide)).toNat:Int) W;have hi:Lib.indexByte ((ByteArray.mk #[46,45,95,64]).extract 4 4).data.toList ((ByteArray.mk #[a,b,c,d])[3]'(show 3<4 by decide)) = -1:=zjj d hl _ (by decide);rw[zhv,hi]at h;exact h
  clear hW hB hF
  go_wp2_with fail
  refine(hx _).mono ?_;rintro e W3 ⟨rfl,rfl⟩;clear hx hV
  go_wp2_with fail
  rw[Exit.noGoto_ret];go_simp;show bodyPost _ _ _ Exit.ret _ _;go_ret;exact⟨rfl,hD⟩
theorem zwv (n:Nat) (w:World) (h1:128≤n) (h2:n≤1114111) :
 Calls ze 273 #[.string ⟨#[46,45,95,64]⟩,.int .i32 n] w fun e w'=>e = .returned (.int .i64 (-1))∧Below w.heap.size w w':=by
 by_cases h3:n=65533
 ·subst h3;exact ztj w
 cases hv:Lib.validRune (n:Int) with
 | false=>exact ztk n w h1 h2 h3 hv
 | true =>
   rcases zsa n h1 h2 hv with⟨a,b,hE,hl⟩ | ⟨a,b,c,hE,hl⟩ | ⟨a,b,c,d,hE,hl⟩
   ·exact zpj n a b w h1 h2 h3 hv hE hl
   ·exact zpi n a b c w h1 h2 h3 hv hE hl
   exact zph n a b c d w h1 h2 h3 hv hE hl
theorem zwd (n:Nat)(w:World)(h1:128≤n)(h2:n≤1114111) :
 Calls ze 224 #[.string ⟨#[46,45,95,64]⟩,.int .i32 n] w fun e w'=>e = .returned (.bool false)∧Below w.heap.size w w':=by
 have Hc:=za (zwv n w h1 h2);clear h1 h2;go_enter Tryz.func224,Tryz.ntmps224
 go_wp2_with fail
 refine Hc.out.mono ?_;rintro e W' ⟨rfl,hB⟩
 go_wp2_with fail
 go_ret;exact⟨rfl,hB⟩
end
end Go.Proofs.YtmgfncjfgkllcaaGreatDoor
