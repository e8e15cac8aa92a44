/-
 The walks of json's reader: what each of its methods does to the reader's block.
-/
import Derived.Test.YtmgfncjfgkllcaaGreatDoorKSeen
import Derived.Test.YtmgfncjfgkllcaaGreatDoorKUtf
import Derived.Deep.LoopGhost
open Go.Lib renaming hid→za
open Go.Proofs.Tryz renaming prog→ze
namespace Go.Proofs.YtmgfncjfgkllcaaGreatDoor
set_option linter.unusedVariables false
set_option linter.unusedSimpArgs false
set_option linter.unusedSectionVars false
set_option maxRecDepth 100000
set_option maxHeartbeats 4000000
section
open Go.RowKit

def z1t (w:World):Prop:=6≤w.heap.size∧Lib.Utf8Tabs 0 1 w∧Lib.TabIs ze w "internal/strconv.uint64pow10" .u64 Lib.pow10Tab
variable [OldK]
def Gl (w:World):Prop:=(∃ w0,z1t w0∧6≤w.heap.size∧∀ k,k<6→w.heap[k]? = w0.heap[k]?)∧OldK.k≤w.heap.size
theorem Gl.of {w:World}(h:z1t w)(ho:OldK.k≤w.heap.size):Gl w:=⟨⟨w,h,h.1,fun _ _=>rfl⟩,ho⟩
theorem Gl.old {w:World}(h:Gl w):OldK.k≤w.heap.size:=h.2
theorem Gl.zero {w:World}(h:Gl w):@Gl zch w:=⟨h.1,Nat.zero_le _⟩
theorem Gl.size {w:World}(h:Gl w):6≤w.heap.size:=h.1.choose_spec.2.1
theorem Gl.fr {M:Nat→Obj→Prop}{w w':World}(h:Gl w)(hF:Fr M w w')(hM:∀ k o,w.heap[k]? = some o→M k o→6≤k):Gl w':=by
 obtain⟨⟨w0,h0,hs,hk⟩,ho⟩:=h;refine⟨⟨w0,h0,Nat.le_trans hs hF.size,fun k hA=>?_⟩,Nat.le_trans ho hF.size⟩;rw[← hk k hA];obtain⟨o,ho⟩:=zg0 (w:=w) (k:=k) (by omega);rw[ho];exact hF.block k o ho (fun hm=>by have:=hM k o ho hm;omega)
theorem Gl.utf8 {w:World}(h:Gl w):Lib.Utf8Tabs 0 1 w:=by
 obtain⟨⟨w0,h0,hs,hk⟩,_⟩:=h;obtain⟨h1,h2⟩:=h0.2.1;have e0:∀ o,w.cell? ⟨0,o,none⟩=w0.cell? ⟨0,o,none⟩:=fun o=>World.cell?_of_block (hk 0 (by decide))
 have e1:∀ o,w.cell? ⟨1,o,none⟩=w0.cell? ⟨1,o,none⟩:=fun o=>World.cell?_of_block (hk 1 (by decide))
 refine⟨fun c hc=>?_,fun i hi=>?_⟩
 ·rw[e0];exact h1 c hc
 rw[e1,e1];exact h2 i hi
theorem Tryz.pow10At:Tryz.prog.globalNamed "internal/strconv.uint64pow10" = some 3:=by kernel_rfl
theorem Gl.pow10 {w:World}(h:Gl w):Lib.TabIs ze w "internal/strconv.uint64pow10" .u64 Lib.pow10Tab:=by
 obtain⟨⟨w0,h0,hs,hk⟩,_⟩:=h;have h1:=h0.2.2;unfold Lib.TabIs World.var? at h1 ⊢;rw[Tryz.pow10At]at h1 ⊢;simp only[Option.bind_some]at h1 ⊢;rw[hk _ (by decide)];exact h1
theorem Gl.alloc {w:World}(h:Gl w)(o:Obj):Gl (w.alloc o):=h.fr (Fr.refl.alloc (M:=NoB) o) (fun _ _ _ x=>x.elim)
def Rd (r:Nat) (s:Bs) (bad:Bool) (d:Int) (w:World):Prop :=
 6≤r∧w.heap[r]? = some (.cells #[.string ⟨s.toArray⟩,.bool bad,.int .i64 d] 203 (0,0))
abbrev MR (r:Nat):Nat→Obj→Prop:=One r 203
section
variable {r:Nat} {s s':Bs} {bad bad':Bool} {d d':Int} {w w':World} {M:Nat→Obj→Prop}
theorem Rd.lt (h:Rd r s bad d w):r<w.heap.size:=jb h.2
theorem Rd.cells (h:Rd r s bad d w) :
 w.cell? ⟨r,0,none⟩=some (.string ⟨s.toArray⟩)∧w.cell? ⟨r,1,none⟩=some (.bool bad)∧w.cell? ⟨r,2,none⟩=some (.int .i64 d)∧(∀ o,w.frozen? ⟨r,o,none⟩=false)∧r<w.heap.size:=by
 refine⟨?_,?_,?_,?_,h.lt⟩<;>unfold Rd at h<;>simp[World.cell?,World.frozen?,h]
theorem Rd.fr (h:Rd r s bad d w)(hF:Fr M w w')(hM:∀ o,zbq 203 o→¬ M r o):Rd r s bad d w':=⟨h.1,hF.block _ _ h.2 (hM _ ⟨_,_,rfl⟩)⟩
theorem Rd.below (h:Rd r s bad d w)(hb:Below w.heap.size w w'):Rd r s bad d w':=⟨h.1,by rw[hb.block r h.lt];exact h.2⟩
theorem Rd.alloc (h:Rd r s bad d w)(o:Obj):Rd r s bad d (w.alloc o):=⟨h.1,by rw[Below.heap_alloc _ _ _ h.lt];exact h.2⟩
theorem Rd.other (h:Rd r s bad d w){a:Addr}(v:Value)(ha:r≠a.block):Rd r s bad d (w.setCell a v):=⟨h.1,by rw[Below.heap_setCell _ _ _ _ ha];exact h.2⟩
theorem Rd.one (h:Rd r s bad d w):∀ o,w.heap[r]? = some o→MR r r o:=by
 intro o ho;rw[h.2]at ho;exact⟨rfl,_,_,(Option.some.inj ho).symm⟩
theorem Rd.set0 (h:Rd r s bad d w)(s':Bs):Rd r s' bad d (w.setCell ⟨r,0,none⟩ (.string ⟨s'.toArray⟩)) :=
 ⟨h.1,by have:=h.2;simp[World.setCell,Array.getElem?_modify,this]⟩
theorem Rd.set1 (h:Rd r s bad d w)(b':Bool):Rd r s b' d (w.setCell ⟨r,1,none⟩ (.bool b')) :=
 ⟨h.1,by have:=h.2;simp[World.setCell,Array.getElem?_modify,this]⟩
theorem Rd.set2 (h:Rd r s bad d w)(d':Int):Rd r s bad d' (w.setCell ⟨r,2,none⟩ (.int .i64 d')) :=
 ⟨h.1,by have:=h.2;simp[World.setCell,Array.getElem?_modify,this]⟩
theorem Gl.rd (hg:Gl w)(h:Rd r s bad d w)(hF:Fr (MR r) w w'):Gl w':=hg.fr hF (fun k _ _ hm=>by rw[hm.1];exact h.1)
end
theorem zb7 (s:Bs)(k m:Nat)(hm:s.length≤m):(ByteArray.mk s.toArray).extract k m=⟨(s.drop k).toArray⟩:=by
 have h1:=Lib.extract_data (ByteArray.mk s.toArray) k m;generalize (ByteArray.mk s.toArray).extract k m=q at *
 cases q with | mk q =>
 congr 1
 apply Array.toList_inj.1;simp at h1 ⊢;rw[h1];exact List.take_of_length_le (by rw[List.length_drop];omega)
@[go_sem] theorem z2c (x:UInt8) (l:Bs) (h:0<(ByteArray.mk (x :: l).toArray).size):(ByteArray.mk (x :: l).toArray)[0]=x:=rfl
theorem zcl (r:Nat)(s:Bs)(bad:Bool)(d:Int)(w:World)(h:Rd r s bad d w) :
 Calls ze 201 #[.pointer (some ⟨r,0,none⟩)] w fun e w'=>e = .returned (.tuple #[])∧Rd r s true d w'∧Fr (MR r) w w':=by
 obtain⟨c0,c1,c2,f1,hr1⟩:=h.cells;go_enter Tryz.func201,Tryz.ntmps201
 go_wp2
 go_end0
 exact⟨rfl,h.set1 _,Fr.refl.setCell _ _ h.one⟩
theorem zsz (j:Nat)(b:UInt8)(h:(#[32,9,10,13]:Array UInt8).toList[j]? = some b):b.toNat<128:=by
 match j,h with
 | 0,h=>simp at h;subst h;decide
 | 1,h=>simp at h;subst h;decide
 | 2,h=>simp at h;subst h;decide
 | 3,h=>simp at h;subst h;decide
 | n+4,h=>simp at h
theorem zeq (r:Nat)(s:Bs)(bad:Bool)(d:Int)(w:World)(h:Rd r s bad d w) :
 Calls ze 131 #[.pointer (some ⟨r,0,none⟩)] w fun e w'=>e = .returned (.tuple #[])∧Rd r (ja s) bad d w'∧Fr (MR r) w w':=by
 obtain⟨c0,c1,c2,f1,hB⟩:=h.cells;go_enter Tryz.func131,Tryz.ntmps131
 go_wp2_with fail
 refine(Go.Proofs.Tryz.strings_TrimLeft_set ⟨s.toArray⟩ ⟨#[32,9,10,13]⟩ _ (by decide) zsz).mono ?_;rintro e w1 ⟨rfl,hA⟩;have h1:=h.below hA;clear c0 c1 c2 f1;obtain⟨c0,c1,c2,f1,hB⟩:=h1.cells
 go_wp2_with fail
 go_end0
 exact⟨rfl,h1.set0 _,((Fr.ofBelow hA).mono (fun _ _ x=>x.elim)).setCell _ _ h.one⟩
theorem zhz (r:Nat) (s:Bs) (bad:Bool) (d:Int) (c:UInt8) (w:World) (h:Rd r s bad d w) (he:zdn c s=none) :
 Calls ze 303 #[.pointer (some ⟨r,0,none⟩),.int .u8 c.toNat] w fun e w'=>e = .returned (.bool false)∧Rd r (ja s) bad d w'∧Fr (MR r) w w':=by
 go_enter Tryz.func303,Tryz.ntmps303
 go_wp2_with fail
 refine(zeq r s bad d _ h).mono ?_;rintro e w1 ⟨rfl,hA,hB⟩;obtain⟨c0,c1,c2,f1,hr1⟩:=hA.cells;unfold zdn at he;cases hs:ja s with
 | nil =>
   rw[hs]at c0;clear he
   go_wp2_with fail
   go_ret;exact⟨rfl,hs▸hA,hB⟩
 | cons x l =>
   rw[hs]at c0 he
   have hx:((x.toNat:Int) != (c.toNat:Int))=true:=by
    rw[bne_iff_ne];intro e;have e:x.toNat=c.toNat:=by omega
    simp[UInt8.toNat_inj.1 e]at he
   clear he
   go_wp2_with fail
   go_ret;exact⟨rfl,hs▸hA,hB⟩
theorem zfi (r:Nat) (s l:Bs) (bad:Bool) (d:Int) (c:UInt8) (w:World) (h:Rd r s bad d w) (he:zdn c s=some l) :
 Calls ze 303 #[.pointer (some ⟨r,0,none⟩),.int .u8 c.toNat] w fun e w'=>e = .returned (.bool true)∧Rd r l bad d w'∧Fr (MR r) w w':=by
 go_enter Tryz.func303,Tryz.ntmps303
 go_wp2_with fail
 refine(zeq r s bad d _ h).mono ?_;rintro e w1 ⟨rfl,hA,hB⟩;obtain⟨c0,c1,c2,f1,hr1⟩:=hA.cells;unfold zdn at he;cases hs:ja s with
 | nil=>rw[hs]at he;simp at he
 | cons x l' =>
   rw[hs]at c0 he;obtain⟨rfl,rfl⟩:x=c∧l'=l:=by simpa using he
   clear he;have hx:=za (zb7 (x :: l') 1 (l'.length+1) (by simp))
   go_wp2_with fail
   go_ret;rw[hx.out];exact⟨rfl,hA.set0 _,hB.setCell _ _ h.one⟩
theorem zmz (r:Nat) (s p:Bs) (bad:Bool) (d:Int) (w:World) (h:Rd r s bad d w) :
 Calls ze 252 #[.pointer (some ⟨r,0,none⟩),.string ⟨p.toArray⟩] w fun e w'=>e = .returned (.tuple #[])∧Rd r (zaa p ⟨s,bad⟩).s (zaa p ⟨s,bad⟩).bad d w'∧Fr (MR r) w w':=by
 obtain⟨c0,c1,c2,f1,hr1⟩:=h.cells;unfold zaa;cases hp:Lib.hasPrefix s p
 ·simp only[Bool.false_eq_true,if_false];have Hp:=za hp;clear hp;go_enter Tryz.func252,Tryz.ntmps252
  go_wp2_with fail
  refine(Go.Proofs.Tryz.strings_CutPrefix ⟨s.toArray⟩ ⟨p.toArray⟩ _).mono ?_;rintro e w1 ⟨rfl,rfl⟩;simp only[Hp.out]
  go_wp2_with fail
  refine(zcl r s bad d _ h).mono ?_;rintro e w1 ⟨rfl,hA,hB⟩
  go_wp2_with fail
  ((try simp only[Exit.inBlock,Exit.then]);refine bodyPost_ret (results_none rfl _ _ _) rfl ?_)
  exact⟨rfl,hA,hB⟩
 simp only[if_true];have Hp:=za hp;clear hp;go_enter Tryz.func252,Tryz.ntmps252
 go_wp2_with fail
 refine(Go.Proofs.Tryz.strings_CutPrefix ⟨s.toArray⟩ ⟨p.toArray⟩ _).mono ?_;rintro e w1 ⟨rfl,rfl⟩;simp only[Hp.out]
 go_wp2_with fail
 go_end0
 exact⟨rfl,h.set0 _,Fr.refl.setCell _ _ h.one⟩
theorem zef (r:Nat)(x:UInt8)(l:Bs)(bad:Bool)(d:Int)(w:World)(h:Rd r (x :: l) bad d w) :
 Calls ze 304 #[.pointer (some ⟨r,0,none⟩)] w fun e w'=>e = .returned (.bool (decide (48≤x.toNat∧x.toNat≤57)))∧w=w':=by
 obtain⟨c0,c1,c2,f1,hr1⟩:=h.cells;go_enter Tryz.func304,Tryz.ntmps304
 go_wp2
 all_goals (go_ret;refine⟨jy ?_,rfl⟩;rw[Bool.eq_iff_iff];simp;omega)
theorem znf (r:Nat)(bad:Bool)(d:Int)(w:World)(h:Rd r [] bad d w) :
 Calls ze 304 #[.pointer (some ⟨r,0,none⟩)] w fun e w'=>e = .returned (.bool false)∧w=w':=by
 obtain⟨c0,c1,c2,f1,hr1⟩:=h.cells;go_enter Tryz.func304,Tryz.ntmps304
 go_wp2
 all_goals (go_ret;exact⟨rfl,rfl⟩)
theorem zo4 {x y:Int}(hx₀:0≤x)(hx:x % 16=0)(hx₁:x<2147483648)(h₀:0≤y)(h₁:y<16):bits .or .i32 x y=x+y :=
 bits_join .i32 31 (by decide) wraps_i32 4 x y hx₀ hx hx₁ h₀ h₁ (by omega)
theorem z1e (r:Nat) (s:Bs) (bad:Bool) (d:Int) (w:World) (h:Rd r s bad d w) :
 Calls ze 334 #[.pointer (some ⟨r,0,none⟩)] w fun e w'=>e = .returned (.int .i32 (zcp 4 0 ⟨s,bad⟩).1)∧Rd r (zcp 4 0 ⟨s,bad⟩).2.s (zcp 4 0 ⟨s,bad⟩).2.bad d w'∧Fr (MR r) w w':=by
 generalize hG:zcp 4 0 ⟨s,bad⟩=G;have HG:=za hG;clear hG;go_enter Tryz.func334,Tryz.ntmps334
 go_wp2_with fail
 go_loopw [3,5] (fun vn vi wr=>∃ (k i n:Nat) (st:St),k+i=4∧vi = .int .i64 i∧vn = .int .i32 n∧n<16 ^ i∧Rd r st.s st.bad d wr∧Fr (MR r) w wr∧Hid (zcp k n st=G)) (fun _ vi _=>4 - (intOf vi).toNat)
 case atStart=>exact⟨4,0,0,⟨s,bad⟩,rfl,rfl,rfl,by decide,h,Fr.refl,HG⟩
 case round =>
  obtain⟨k,i,n,st,hki,rfl,rfl,hn,hR,hF,hS⟩:=hrel;obtain⟨c0,c1,c2,f1,hr1⟩:=hR.cells;cases k with
  | zero =>
    have hi:¬ (i:Int)<4:=by omega
    go_wp2_with fail
    go_ret;have hS:=hS.out;simp only[zcp]at hS;subst hS;exact⟨rfl,hR,hF⟩
  | succ k =>
    have hi:(i:Int)<4:=by omega
    obtain⟨s1,b1⟩:=st;cases s1 with
    | nil =>
      go_wp2_with fail
      refine(zcl r _ _ d _ hR).mono ?_;rintro e w1 ⟨rfl,hB,hC⟩
      go_wp2_with fail
      go_ret;have hS:=hS.out;simp only[zcp]at hS;subst hS;exact⟨rfl,hB,hF.trans' hC⟩
    | cons x l =>
      have hn4:n<4096:=Nat.lt_of_lt_of_le hn (Nat.pow_le_pow_right (by decide) (show i≤3 by omega));have hx:=za (zb7 (x :: l) 1 (l.length+1) (by simp));by_cases h1:48≤x.toNat∧x.toNat≤57
      ·obtain ⟨h1,h2⟩:=h1;have h1':(48:Int)≤x.toNat:=by omega
       have h2':(x.toNat:Int)≤57:=by omega
       have hA:Hid (zcp k (16 * n+(x.toNat - 48)) ⟨l,b1⟩=G):=by
        have:=hS.out;simp only[zcp,zgz,h1,h2,and_self,if_true]at this;exact this
       clear hS
       go_wp2_with fail
       refine⟨⟨k,i+1,16 * n+(x.toNat - 48),⟨l,b1⟩,by omega,by go_num,?_,?_,?_,?_,hA⟩,by simp[intOf];omega⟩
       ·rw[zo4 (by omega) (by omega) (by omega) (by omega) (by omega)];congr 1;omega
       ·rw[Nat.pow_succ];omega
       ·rw[hx.out];exact hR.set0 _
       exact(hF.setCell _ _ h.one)
      by_cases h2:97≤(x.toNat ||| 32)∧(x.toNat ||| 32)≤102
      ·have hA:Hid (zcp k (16 * n+((x.toNat ||| 32) - 87)) ⟨l,b1⟩=G):=by
        have:=hS.out;simp only[zcp,zgz,h1,h2,and_self,if_true,if_false]at this;exact this
       clear hS;have hb:bits BinOp.or .u8 (x.toNat:Int) 32=((x.toNat ||| 32:Nat):Int):=u8_or_nat x.toNat 32 (by have:=x.toNat_lt;omega) (by decide);generalize hy:x.toNat ||| 32=y at *
       have Hy:=za hy;clear hy;obtain⟨h5,h6⟩:=h2;have h5':(97:Int)≤y:=by omega
       have h6':(y:Int)≤102:=by omega
       rcases Nat.lt_or_ge x.toNat 48 with h3 | h3
       ·have hD:¬ (48:Int)≤x.toNat:=by omega
        go_wp2_with fail
        refine⟨⟨k,i+1,16 * n+(y - 87),⟨l,b1⟩,by omega,by go_num,?_,?_,?_,?_,hA⟩,by simp[intOf];omega⟩
        ·rw[zo4 (by omega) (by omega) (by omega) (by omega) (by omega)];congr 1;omega
        ·rw[Nat.pow_succ];omega
        ·rw[hx.out];exact hR.set0 _
        exact(hF.setCell _ _ h.one)
       have h4:¬ (x.toNat:Int)≤57:=by omega
       have hD:(48:Int)≤x.toNat:=by omega
       go_wp2_with fail
       refine⟨⟨k,i+1,16 * n+(y - 87),⟨l,b1⟩,by omega,by go_num,?_,?_,?_,?_,hA⟩,by simp[intOf];omega⟩
       ·rw[zo4 (by omega) (by omega) (by omega) (by omega) (by omega)];congr 1;omega
       ·rw[Nat.pow_succ];omega
       ·rw[hx.out];exact hR.set0 _
       exact(hF.setCell _ _ h.one)
      have hA:Hid ((0,⟨x :: l,true⟩)=G):=by
       have:=hS.out;simp only[zcp,zgz,h1,h2,if_false]at this;exact this
      clear hS;have hb:bits BinOp.or .u8 (x.toNat:Int) 32=((x.toNat ||| 32:Nat):Int):=u8_or_nat x.toNat 32 (by have:=x.toNat_lt;omega) (by decide);generalize hy:x.toNat ||| 32=y at *
      have Hy:=za hy;clear hy;have e1:¬ (48:Int)≤x.toNat∨((48:Int)≤x.toNat∧¬ (x.toNat:Int)≤57):=by omega
      have e2:¬ (97:Int)≤y∨((97:Int)≤y∧¬ (y:Int)≤102):=by omega
      rcases e1 with e1 | ⟨e1,e3⟩<;>rcases e2 with e2 | ⟨e2,e4⟩
      all_goals
       go_wp2_with fail
       refine(zcl r _ _ d _ hR).mono ?_;rintro e w1 ⟨rfl,hB,hC⟩
       go_wp2_with fail
       go_ret;have hS:=hA.out;subst hS;exact⟨rfl,hB,hF.trans' hC⟩
end
section
open Go.RowKit
variable [OldK]

theorem zld:∀ (k n m:Nat) (st:St),n<16 ^ m→(zcp k n st).1<16 ^ (m+k):=by
 intro k
 induction k with
 | zero=>intro n m st h;simpa[zcp] using h
 | succ k ih =>
   intro n m st h;have hp:0<16 ^ (m+(k+1)):=Nat.pow_pos (by decide);unfold zcp;split
   ·exact hp
   split
   ·rename_i x l hs ov v hv
    have hv':v<16:=by
     unfold zgz at hv;split at hv
     ·simp at hv;omega
     split at hv
     ·simp at hv;omega
     simp at hv
    have:=ih (16 * n+v) (m+1) ⟨l,st.bad⟩ (by rw[Nat.pow_succ];omega);rw[show m+(k+1)=m+1+k by omega];exact this
   exact hp
theorem z0t (r:Nat) (s:Bs) (bad:Bool) (d:Int) (w:World) (h:Rd r s bad d w) :
 Calls ze 328 #[.pointer (some ⟨r,0,none⟩)] w fun e w'=>e = .returned (.int .i32 (zdo ⟨s,bad⟩).1)∧Rd r (zdo ⟨s,bad⟩).2.s (zdo ⟨s,bad⟩).2.bad d w'∧Fr (MR r) w w':=by
 have hF:=zld 4 0 0 ⟨s,bad⟩ (by decide);unfold zdo;have hc:=z1e r s bad d w h;generalize zcp 4 0 ⟨s,bad⟩=G at *;obtain⟨n,s1,b1⟩:=G;simp only at hF hc ⊢;have hn:n<65536:=hF;clear hF;have Hc:=za hc;clear hc;by_cases h1:n<55296∨57344≤n
 ·rw [if_pos h1];rcases h1 with h1 | h1
  all_goals
   have h1':(n:Int)<55296∨¬ (n:Int)<55296:=by omega
   go_enter Tryz.func328,Tryz.ntmps328
   go_wp2_with fail
   refine Hc.out.mono ?_;rintro e w1 ⟨rfl,hC,hD⟩
   go_wp2_with fail
   go_ret;exact⟨rfl,hC,hD⟩
 rw[if_neg h1];have h2:decide ((n:Int)<55296)=false:=by simp;omega
 have h3:decide ((57344:Int)≤n)=false:=by simp;omega
 have hJ:(55296:Int)≤n∧(n:Int)<57344:=by omega
 have hS:=za hJ;clear h1 hJ;by_cases h4:56320≤n
 ·rw[if_pos h4];have hO:decide ((56320:Int)≤n)=true:=by simp;omega
  clear h4;have H:=za hn;clear hn;go_enter Tryz.func328,Tryz.ntmps328
  go_wp2_with fail
  refine Hc.out.mono ?_;rintro e w1 ⟨rfl,hC,hD⟩
  go_wp2_with fail
  refine(zcl r _ _ d _ hC).mono ?_;rintro e w2 ⟨rfl,hB,hE⟩
  go_wp2_with fail
  go_ret;exact⟨rfl,hB,hD.trans' hE⟩
 rw[if_neg h4];have hO:decide ((56320:Int)≤n)=false:=by simp;omega
 clear h4;generalize hM:zaa [92,117] ⟨s1,b1⟩=M;have HM:=za hM;clear hM;obtain⟨s2,b2⟩:=M;have hF:=zld 4 0 0 ⟨s2,b2⟩ (by decide);generalize hK:zcp 4 0 ⟨s2,b2⟩=G2;have hT:=za hK;rw[hK]at hF;clear hK;obtain⟨hA,s3,b3⟩:=G2;simp only at hF ⊢;have hl:hA<65536:=hF;clear hF
 have hN:∀ w1,Rd r s1 b1 d w1→Fr (MR r) w w1→Calls ze 252 #[.pointer (some ⟨r,0,none⟩),.string ⟨#[92,117]⟩] w1 fun e w'=>e = .returned (.tuple #[])∧Rd r s2 b2 d w'∧Fr (MR r) w w':=by
  intro w1 hC hD;refine(zmz r s1 [92,117] b1 d w1 hC).mono ?_;rintro e w2 ⟨rfl,hB,hE⟩;rw[HM.out]at hB;exact⟨rfl,hB,hD.trans' hE⟩
 have hG:∀ w1,Rd r s2 b2 d w1→Fr (MR r) w w1→Calls ze 334 #[.pointer (some ⟨r,0,none⟩)] w1 fun e w'=>e = .returned (.int .i32 hA)∧Rd r s3 b3 d w'∧Fr (MR r) w w':=by
  intro w1 hC hD;refine(z1e r s2 b2 d w1 hC).mono ?_;rintro e w2 ⟨rfl,hB,hE⟩;rw[hT.out]at hB ⊢;exact⟨rfl,hB,hD.trans' hE⟩
 have Key:=za hN;have hI:=za hG;clear hN hG;by_cases h5:b3=true∨hA<56320∨57344≤hA
 ·rw [if_pos h5]
  have h6:b3=true∨(b3=false∧decide ((hA:Int)<56320)=true)∨(b3=false∧decide ((hA:Int)<56320)=false∧decide ((57344:Int)≤hA)=true):=by
   cases b3<;>simp at h5 ⊢<;>omega
  clear h5;have Hn:=za hn;have Hl:=za hl;clear hn hl;rcases h6 with rfl | ⟨rfl,h6⟩ | ⟨rfl,h6,h7⟩
  all_goals
   go_enter Tryz.func328,Tryz.ntmps328
   go_wp2_with fail
   refine Hc.out.mono ?_;rintro e w1 ⟨rfl,hC,hD⟩
   go_wp2_with fail
   refine(Key.out _ hC hD).mono ?_;rintro e w2 ⟨rfl,hB,hE⟩
   go_wp2_with fail
   refine(hI.out _ hB hE).mono ?_;rintro e w3 ⟨rfl,hH,hL⟩;obtain⟨c0,c1,c2,f1,hP⟩:=hH.cells
   go_wp2_with fail
   refine(zcl r _ _ d _ hH).mono ?_;rintro e w4 ⟨rfl,hQ,hR⟩
   go_wp2_with fail
   go_ret;exact⟨rfl,hQ,hL.trans' hR⟩
 rw[if_neg h5]
 obtain ⟨rfl,h6,h7⟩:b3=false∧decide ((hA:Int)<56320)=false∧decide ((57344:Int)≤hA)=false:=by
  cases b3<;>simp at h5 ⊢<;>omega
 clear h5;have hl0:(0:Int)≤hA:=by omega
 have hl1:(hA:Int)<65536:=by omega
 have hn1:(n:Int)<65536:=by omega
 have Hn:=za hn;have Hl:=za hl;clear hn hl;go_enter Tryz.func328,Tryz.ntmps328
 go_wp2_with fail
 refine Hc.out.mono ?_;rintro e w1 ⟨rfl,hC,hD⟩
 go_wp2_with fail
 refine(Key.out _ hC hD).mono ?_;rintro e w2 ⟨rfl,hB,hE⟩
 go_wp2_with fail
 refine(hI.out _ hB hE).mono ?_;rintro e w3 ⟨rfl,hH,hL⟩;obtain⟨c0,c1,c2,f1,hP⟩:=hH.cells
 go_wp2_with fail
 go_ret;have hJ:=hS.out;simp at hO h6 h7;exact⟨zb2 (by omega),hH,hL⟩
theorem zgr {c:UInt8}{k:Nat}(h:c≠UInt8.ofNat k):((c.toNat:Int)==(k:Int))=false:=by
 rw[beq_eq_false_iff_ne];intro e;apply h;have e:c.toNat=k:=by omega
 rw[← e];simp
theorem zxt (r:Nat) (s:Bs) (bad:Bool) (d:Int) (w:World) (h:Rd r s bad d w) :
 Calls ze 299 #[.pointer (some ⟨r,0,none⟩)] w fun e w'=>e = .returned (.int .i32 (j5 ⟨s,bad⟩).1)∧Rd r (j5 ⟨s,bad⟩).2.s (j5 ⟨s,bad⟩).2.bad d w'∧Fr (MR r) w w':=by
 obtain⟨c0,c1,c2,f1,hr1⟩:=h.cells;cases s with
 | nil =>
   simp only[j5];go_enter Tryz.func299,Tryz.ntmps299
   go_wp2_with fail
   refine(zcl r _ _ d _ h).mono ?_;rintro e w1 ⟨rfl,hH,hI⟩
   go_wp2_with fail
   go_ret;exact⟨rfl,hH,hI⟩
 | cons c l =>
   have hx:=za (zb7 (c :: l) 1 (l.length+1) (by simp));have hA:Hid (Rd r l bad d (w.setCell ⟨r,0,none⟩ (.string ⟨(List.drop 1 (c :: l)).toArray⟩))):=h.set0 l;have hF:Fr (MR r) w (w.setCell ⟨r,0,none⟩ (.string ⟨(List.drop 1 (c :: l)).toArray⟩)):=Fr.refl.setCell _ _ h.one;by_cases hp:c=34∨c=92∨c=47∨c=98∨c=102∨c=110∨c=114∨c=116
   ·rcases hp with rfl | rfl | rfl | rfl | rfl | rfl | rfl | rfl
    all_goals
     simp only[j5,zcc];go_enter Tryz.func299,Tryz.ntmps299
     go_wp2_with fail
     go_ret;rw[hx.out];exact⟨by simp,hA.out,hF⟩
   have hM:c≠34:=fun e=>hp (by simp[e])
   have hK:c≠92:=fun e=>hp (by simp[e])
   have hL:c≠47:=fun e=>hp (by simp[e])
   have hJ:c≠98:=fun e=>hp (by simp[e])
   have hG:c≠102:=fun e=>hp (by simp[e])
   have hE:c≠110:=fun e=>hp (by simp[e])
   have hD:c≠114:=fun e=>hp (by simp[e])
   have hC:c≠116:=fun e=>hp (by simp[e])
   by_cases hB:c=117
   ·subst hB;have hs:j5 ⟨117 :: l,bad⟩=zdo ⟨l,bad⟩:=by simp[j5,zcc]
    rw[hs];clear hs hp hM hK hL hJ hG hE hD hC;go_enter Tryz.func299,Tryz.ntmps299
    go_wp2_with fail
    rw[hx.out];refine(z0t r l bad d _ hA.out).mono ?_;rintro e w1 ⟨rfl,hH,hI⟩
    go_wp2_with fail
    go_ret;exact⟨rfl,hH,hF.trans' hI⟩
   have hs:j5 ⟨c :: l,bad⟩=(0,⟨l,true⟩):=by simp[j5,zcc, *]
   rw[hs];have e34:((c.toNat:Int)==34)=false:=zgr hM;have e92:((c.toNat:Int)==92)=false:=zgr hK;have e47:((c.toNat:Int)==47)=false:=zgr hL;have e98:((c.toNat:Int)==98)=false:=zgr hJ;have e102:((c.toNat:Int)==102)=false:=zgr hG;have e110:((c.toNat:Int)==110)=false:=zgr hE;have e114:((c.toNat:Int)==114)=false:=zgr hD;have e116:((c.toNat:Int)==116)=false:=zgr hC;have e117:((c.toNat:Int)==117)=false:=zgr hB;clear hs hp hM hK hL hJ hG hE hD hC hB;go_enter Tryz.func299,Tryz.ntmps299
   go_wp2_with fail
   rw[hx.out];refine(zcl r l bad d _ hA.out).mono ?_;rintro e w1 ⟨rfl,hH,hI⟩
   go_wp2_with fail
   go_ret;exact⟨rfl,hH,hF.trans' hI⟩
end
section
open Go.RowKit
variable [OldK]

theorem zv4 {B b r:Nat}{w:World}(hB:w.heap.size≤B):∀ k o,MB B b k o→MR r k o∨w.heap.size≤k:=fun _ _ h => .inr (Nat.le_trans hB h.1)
theorem Bld.rd {b r:Nat}{l:Bs}{w w':World}(h:Bld b b l w)(hF:Fr (MR r) w w')(hr:r<b):Bld b b l w' :=
 h.fr hF (fun k o _ hk _ hm=>by have:=hm.1;omega)
theorem Rd.bld {b r:Nat}{s:Bs}{bad:Bool}{d:Int}{w w':World}(h:Rd r s bad d w)(hF:Fr (MB b b) w w')(hr:r<b):Rd r s bad d w' :=
 h.fr hF (fun o _ hm=>by have:=hm.1;omega)
theorem Gl.bld {b:Nat}{w w':World}(h:Gl w)(hF:Fr (MB b b) w w')(hb:6≤b):Gl w' :=
 h.fr hF (fun _ _ _ hm=>Nat.le_trans hb hm.1)
theorem Gl.below {w w':World}(h:Gl w)(hb:Below w.heap.size w w'):Gl w':=h.fr (Fr.ofBelow hb) (fun _ _ _ x=>x.elim)
theorem Bld.below {b B:Nat}{l:Bs}{w w':World}(h:Bld B b l w)(hb:Below w.heap.size w w'):Bld B b l w':=h.fr (Fr.ofBelow hb) (fun _ _ _ _ _ x=>x.elim)
theorem zwk (st:St):(zdo st).1≤1114111:=by
 unfold zdo;have h1:=zld 4 0 0 st (by decide);generalize zcp 4 0 st=G at *;obtain⟨n,hA⟩:=G;simp only at h1 ⊢;have h1:n<65536:=h1;split
 ·simp only;omega
 split
 ·simp
 have h2:=zld 4 0 0 (zaa [92,117] hA) (by decide);generalize zcp 4 0 (zaa [92,117] hA)=G2 at *;obtain⟨hB,st2⟩:=G2;simp only at h2 ⊢;split
 ·simp
 rename_i hx hy hz
 have h3:¬ (hB<56320∨57344≤hB):=fun e=>hz (.inr e)
 simp only;omega
theorem zsn (st:St):(j5 st).1≤1114111:=by
 unfold j5;split
 ·simp
 split
 ·rename_i v hv
  unfold zcc at hv
  repeat' split at hv
  all_goals simp at hv
  all_goals (simp only;omega)
 split
 ·exact zwk _
 simp
def zvz (r b:Nat) (d:Int) (N:Nat) (w:World) (G:Bs × St) (g:Nat) (wx:World):Prop :=
 ∃ (out:Bs) (st:St),j4 g out st=G∧Rd r st.s st.bad d wx∧Bld b b out wx∧Gl wx∧Fr (MR r) w wx∧1≤g∧(st.bad=false→st.s.length+2≤g)∧out.length+4 * st.s.length≤4 * N
theorem zyg (r:Nat) (s:Bs) (bad:Bool) (d:Int) (w:World) (h:Rd r s bad d w) (hg:Gl w) (hlen:s.length≤1073741824) :
 Calls ze 256 #[.pointer (some ⟨r,0,none⟩)] w fun e w'=>e = .returned (.string ⟨(zbk ⟨s,bad⟩).1.toArray⟩)∧Rd r (zbk ⟨s,bad⟩).2.s (zbk ⟨s,bad⟩).2.bad d w'∧Fr (MR r) w w':=by
 generalize hG:zbk ⟨s,bad⟩=G;have HG:=za hG;clear hG;have ho:=zei [34] ⟨s,bad⟩;simp only at ho;go_enter Tryz.func256,Tryz.ntmps256
 go_wp2_with fail
 refine(zmz r s [34] bad d w h).mono ?_;rintro e w1 ⟨rfl,hd,hU⟩;have hH:r<w1.heap.size:=hd.lt;have hw1:w.heap.size≤w1.heap.size:=hU.size;have hP:Gl w1:=hg.rd h hU;have hh:6≤w1.heap.size:=hP.size
 have hI:zvz r w1.heap.size d s.length w G (s.length+2) (w1.alloc (.cells #[.pointer none,.slice none 0 0] 198)) :=
  ⟨[],_,HG.out,hd.alloc _,Bld.fresh w1,hP.alloc _,hU.alloc _,by omega,fun _=>by omega,by simp;omega⟩
 clear hd hU hP
 go_wp2_with fail
 go_loopg [] (s.length+2) (fun g wx=>zvz r w1.heap.size d s.length w G g wx)
 case atStart=>exact hI
 case round =>
  clear hI;generalize hb:w1.heap.size=b at *;have Hb:=za hb;clear hb;obtain⟨out,st,hS,hR,hB,hX,hF,hP,hZ,hn⟩:=hrel;obtain⟨s1,b1⟩:=st;simp only at hZ hn hR;obtain⟨c0,c1,c2,f1,hf⟩:=hR.cells;obtain⟨g',rfl⟩:∃ g',gk=g'+1:=⟨gk - 1,by omega⟩;cases b1 with
  | true =>
    go_wp2_with fail
    go_ret;have hS:=hS;simp only[j4,if_true]at hS;subst hS;exact⟨rfl,hR,hF⟩
  | false =>
    have hfu':=hZ rfl;clear hZ;have HS:=za hS;clear hS
    go_wp2_with fail
    refine(Go.Proofs.Tryz.utf8_DecodeRuneInString ⟨s1.toArray⟩ _ hX.utf8).mono ?_;rintro e w2 ⟨rfl,hN⟩;have hO:=hR.below hN;have hm:=hB.below hN;have hi:=hX.below hN;have hr:Fr (MR r) w w2:=hF.trans (Fr.ofBelow hN) (fun _ _ x=>x.elim);have hq:=zfj s1;have hD:Hid (j4 (g'+1) out ⟨s1,false⟩=G):=HS.out;unfold Hid at hD;simp only[j4,qf,Bool.false_eq_true,if_false]at hD;generalize (Lib.decodeGo ⟨s1.toArray⟩).1=c at *;generalize (Lib.decodeGo ⟨s1.toArray⟩).2=size at *;obtain⟨hd1,hd2,hd3,hl⟩:=hq;have Hd4:=za hl;clear hl hR hB hX hF c0 c1 c2 f1 hf hN;obtain⟨c0,c1,c2,f1,hf⟩:=hO.cells;have hx:=za (zb7 s1 size s1.length (Nat.le_refl _));have hK:=za hD;clear hD;have hE:Hid (Rd r (s1.drop size) false d (w2.setCell ⟨r,0,none⟩ (.string ⟨(s1.drop size).toArray⟩))):=hO.set0 _;have hQ:Fr (MR r) w2 (w2.setCell ⟨r,0,none⟩ (.string ⟨(s1.drop size).toArray⟩)):=Fr.refl.setCell _ _ hO.one;have hV:=hm.rd hQ hH;have hY:=hi.rd hO hQ;have hT:=hr.trans' hQ;have hk:(s1.drop size).length=s1.length - size:=List.length_drop;have Hdl:=za hk;clear hk hm hi hQ hO;by_cases hA:size=0∨c<32∨(c=65533∧size=1)
    ·have Hst:Hid (j4 g' out ⟨s1.drop size,true⟩=G):=by
      have:=hK.out;rw[if_pos hA]at this;exact this
     clear hK
     have hs:((size:Int)==0)=true∨(((size:Int)==0)=false∧decide ((c:Int)<32)=true)∨(((size:Int)==0)=false∧decide ((c:Int)<32)=false∧((c:Int)==65533)=true∧((size:Int)==1)=true):=by
      simp only[beq_iff_eq,beq_eq_false_iff_ne,decide_eq_true_eq,decide_eq_false_iff_not];omega
     clear hA;rcases hs with e0 | ⟨e0,e1⟩ | ⟨e0,e1,e2,e3⟩
     all_goals
      go_wp2_with fail
      rw[hx.out];refine(zcl r _ _ d _ hE.out).mono ?_;rintro e w3 ⟨rfl,hc,hJ⟩
      go_wp2_with fail
      go_roundg g'
      case measure=>omega
      case rel=>exact⟨out,⟨s1.drop size,true⟩,Hst.out,hc,hV.rd hJ hH,hY.rd hE.out hJ,hT.trans' hJ,by omega,by simp,by simp only[Hdl.out];omega⟩
    have e0:((size:Int)==0)=false:=by simp only[beq_eq_false_iff_ne];omega
    have e1:decide ((c:Int)<32)=false:=by simp only[decide_eq_false_iff_not];omega
    have e2:(((c:Int)==65533)=false)∨(((c:Int)==65533)=true∧((size:Int)==1)=false):=by
     simp only[beq_iff_eq,beq_eq_false_iff_ne];omega
    have hsz:1≤size:=by omega
    by_cases hM:c=34
    ·have Hst:Hid ((out,⟨s1.drop size,false⟩)=G):=by
      have:=hK.out;rw[if_neg hA,if_pos hM]at this;exact this
     clear hK hA e2;subst hM
     go_wp2_with fail
     refine(zgj b b out _ (by rw[hx.out];exact hV)).mono ?_;rintro e w3 ⟨rfl,hJ⟩
     go_wp2_with fail
     go_ret;have hG:=Hst.out;subst hG;rw[hx.out]at hJ;exact⟨rfl,hE.out.bld hJ hH,hT.trans hJ (zv4 (by omega))⟩
    by_cases hW:c=92
    ·have Hst:Hid (j4 g' (out++Lib.encodeRune (j5 ⟨s1.drop size,false⟩).1) (j5 ⟨s1.drop size,false⟩).2=G):=by
      have:=hK.out;rw[if_neg hA,if_neg hM,if_pos hW]at this;exact this
     have ha:(j5 ⟨s1.drop size,false⟩).2.s.length≤(s1.drop size).length:=zfu ⟨s1.drop size,false⟩;have hC:=zbo (j5 ⟨s1.drop size,false⟩).1;have hj:(-2147483648:Int)≤(j5 ⟨s1.drop size,false⟩).1∧((j5 ⟨s1.drop size,false⟩).1:Int)≤2147483647:=by have:=zsn ⟨s1.drop size,false⟩;omega
     have HE:=za (And.intro ha (And.intro hC hj));clear hK hA e2 hM ha hC hj;subst hW
     go_wp2_with fail
     rw[hx.out];refine(zxt r _ _ d _ hE.out).mono ?_;rintro e w3 ⟨rfl,hc,hJ⟩
     go_wp2_with fail
     refine(zcm b b out _ HE.out.2.2.1 HE.out.2.2.2 _ (hV.rd hJ hH) (by omega)).mono ?_;rintro e w4 ⟨rfl,he,hL⟩
     go_wp2_with fail
     go_roundg g'
     case measure=>omega
     case rel =>
      obtain⟨ha,hC,_⟩:=HE.out;have hp:=hY.rd hE.out hJ;refine⟨_,_,Hst.out,hc.bld hL hH,he,hp.bld hL hh,(hT.trans' hJ).trans hL (zv4 (by omega)),by omega,fun _=>?_,?_⟩
      ·have:=Hdl.out;omega
      have:=Hdl.out;rw[List.length_append];omega
    have Hst:Hid (j4 g' (out++Lib.encodeRune c) ⟨s1.drop size,false⟩=G):=by
     have:=hK.out;rw[if_neg hA,if_neg hM,if_neg hW]at this;exact this
    have hC:=zbo c;have HE:=za hC;have e34:((c:Int)==34)=false:=by simp only[beq_eq_false_iff_ne];omega
    have e92:((c:Int)==92)=false:=by simp only[beq_eq_false_iff_ne];omega
    clear hK hA hM hW hC;rcases e2 with e2 | ⟨e2,e3⟩
    all_goals
     go_wp2_with fail
     refine(zcm b b out _ (by omega) (by omega) _ (by rw[hx.out];exact hV) (by omega)).mono ?_;rintro e w4 ⟨rfl,he,hL⟩;rw[hx.out]at hL
     go_wp2_with fail
     go_roundg g'
     case measure=>omega
     case rel =>
      have hC:=HE.out;refine⟨_,⟨s1.drop size,false⟩,Hst.out,hE.out.bld hL hH,he,hY.bld hL hh,hT.trans hL (zv4 (by omega)),by omega,fun _=>?_,?_⟩
      ·have:=Hdl.out;show(s1.drop size).length+2≤g';omega
      have:=Hdl.out;rw[List.length_append];show _+4 * (s1.drop size).length≤_;omega
end
end Go.Proofs.YtmgfncjfgkllcaaGreatDoor
