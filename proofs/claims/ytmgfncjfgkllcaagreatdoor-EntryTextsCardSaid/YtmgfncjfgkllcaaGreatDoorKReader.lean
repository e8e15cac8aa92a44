/-
 The walks of json's reader: what each of its methods does to the reader's block.
-/
import Derived.Test.YtmgfncjfgkllcaaGreatDoorKSeen
import Derived.Test.YtmgfncjfgkllcaaGreatDoorKSpecSound
open Go.Lib renaming hid→za
open Go.Proofs.Tryz renaming prog→ze
namespace Go.Proofs.YtmgfncjfgkllcaaGreatDoor
set_option linter.unusedVariables false
set_option linter.unusedSimpArgs false
set_option linter.unusedSectionVars false
set_option maxHeartbeats 1000000
open Go.RowKit

def zxo (w:World):Prop:=6≤w.heap.size∧Lib.Utf8Tabs 0 1 w∧Lib.TabIs ze w "internal/strconv.uint64pow10" .u64 Lib.pow10Tab
variable [OldK]
def Gl (w:World):Prop:=(∃ w0,zxo w0∧6≤w.heap.size∧∀ k,k<6→w.heap[k]? = w0.heap[k]?)∧OldK.k≤w.heap.size
theorem Gl.of {w:World}(h:zxo w)(ho:OldK.k≤w.heap.size):Gl w:=⟨⟨w,h,h.1,fun _ _=>rfl⟩,ho⟩
theorem Gl.old {w:World}(h:Gl w):OldK.k≤w.heap.size:=h.2
theorem Gl.zero {w:World}(h:Gl w):@Gl zbb w:=⟨h.1,Nat.zero_le _⟩
theorem Gl.size {w:World}(h:Gl w):6≤w.heap.size:=h.1.choose_spec.2.1
theorem Gl.fr {M:Nat→Obj→Prop}{w w':World}(h:Gl w)(hF:Fr M w w')(hM:∀ k o,w.heap[k]? = some o→M k o→6≤k):Gl w':=by
 obtain⟨⟨w0,h0,hs,hk⟩,ho⟩:=h;refine⟨⟨w0,h0,Nat.le_trans hs hF.size,fun k hA=>?_⟩,Nat.le_trans ho hF.size⟩;rw[← hk k hA];obtain⟨o,ho⟩:=ze7 (w:=w) (k:=k) (by omega);rw[ho];exact hF.block k o ho (fun hm=>by have:=hM k o ho hm;omega)
theorem Gl.utf8 {w:World}(h:Gl w):Lib.Utf8Tabs 0 1 w:=by
 obtain⟨⟨w0,h0,hs,hk⟩,_⟩:=h;obtain⟨h1,h2⟩:=h0.2.1;have e0:∀ o,w.cell? ⟨0,o,none⟩=w0.cell? ⟨0,o,none⟩:=fun o=>World.cell?_of_block (hk 0 (by decide))
 have e1:∀ o,w.cell? ⟨1,o,none⟩=w0.cell? ⟨1,o,none⟩:=fun o=>World.cell?_of_block (hk 1 (by decide))
 refine⟨fun c hc=>?_,fun i hi=>?_⟩
 ·rw[e0];exact h1 c hc
 rw[e1,e1];exact h2 i hi
theorem Tryz.pow10At:Tryz.prog.globalNamed "internal/strconv.uint64pow10" = some 3:=by kernel_rfl
theorem Gl.pow10 {w:World}(h:Gl w):Lib.TabIs ze w "internal/strconv.uint64pow10" .u64 Lib.pow10Tab:=by
 obtain⟨⟨w0,h0,hs,hk⟩,_⟩:=h;have h1:=h0.2.2;unfold Lib.TabIs World.var? at h1 ⊢;rw[Tryz.pow10At]at h1 ⊢;simp only[Option.bind_some]at h1 ⊢;rw[hk _ (by decide)];exact h1
theorem Gl.alloc {w:World}(h:Gl w)(o:Obj):Gl (w.alloc o):=h.fr (Fr.refl.alloc (M:=NoB) o) (fun _ _ _ x=>x.elim)
def Rd (r:Nat) (s:Bs) (bad:Bool) (d:Int) (w:World):Prop :=
 6≤r∧w.heap[r]? = some (.cells #[.string ⟨s.toArray⟩,.bool bad,.int .i64 d] 203 (0,0))
abbrev MR (r:Nat):Nat→Obj→Prop:=One r 203
section
variable {r:Nat} {s s':Bs} {bad bad':Bool} {d d':Int} {w w':World} {M:Nat→Obj→Prop}
theorem Rd.lt (h:Rd r s bad d w):r<w.heap.size:=jb h.2
theorem Rd.cells (h:Rd r s bad d w) :
 w.cell? ⟨r,0,none⟩=some (.string ⟨s.toArray⟩)∧w.cell? ⟨r,1,none⟩=some (.bool bad)∧w.cell? ⟨r,2,none⟩=some (.int .i64 d)∧(∀ o,w.frozen? ⟨r,o,none⟩=false)∧r<w.heap.size:=by
 refine⟨?_,?_,?_,?_,h.lt⟩<;>unfold Rd at h<;>simp[World.cell?,World.frozen?,h]
theorem Rd.fr (h:Rd r s bad d w)(hF:Fr M w w')(hM:∀ o,zav 203 o→¬ M r o):Rd r s bad d w':=⟨h.1,hF.block _ _ h.2 (hM _ ⟨_,_,rfl⟩)⟩
theorem Rd.below (h:Rd r s bad d w)(hb:Below w.heap.size w w'):Rd r s bad d w':=⟨h.1,by rw[hb.block r h.lt];exact h.2⟩
theorem Rd.alloc (h:Rd r s bad d w)(o:Obj):Rd r s bad d (w.alloc o):=⟨h.1,by rw[Below.heap_alloc _ _ _ h.lt];exact h.2⟩
theorem Rd.other (h:Rd r s bad d w){a:Addr}(v:Value)(ha:r≠a.block):Rd r s bad d (w.setCell a v):=⟨h.1,by rw[Below.heap_setCell _ _ _ _ ha];exact h.2⟩
theorem Rd.one (h:Rd r s bad d w):∀ o,w.heap[r]? = some o→MR r r o:=by
 intro o ho;rw[h.2]at ho;exact⟨rfl,_,_,(Option.some.inj ho).symm⟩
theorem Rd.set0 (h:Rd r s bad d w)(s':Bs):Rd r s' bad d (w.setCell ⟨r,0,none⟩ (.string ⟨s'.toArray⟩)) :=
 ⟨h.1,by have:=h.2;simp[World.setCell,Array.getElem?_modify,this]⟩
theorem Rd.set1 (h:Rd r s bad d w)(b':Bool):Rd r s b' d (w.setCell ⟨r,1,none⟩ (.bool b')) :=
 ⟨h.1,by have:=h.2;simp[World.setCell,Array.getElem?_modify,this]⟩
theorem Rd.set2 (h:Rd r s bad d w)(d':Int):Rd r s bad d' (w.setCell ⟨r,2,none⟩ (.int .i64 d')) :=
 ⟨h.1,by have:=h.2;simp[World.setCell,Array.getElem?_modify,this]⟩
theorem Gl.rd (hg:Gl w)(h:Rd r s bad d w)(hF:Fr (MR r) w w'):Gl w':=hg.fr hF (fun k _ _ hm=>by rw[hm.1];exact h.1)
end
theorem za2 (s:Bs)(k m:Nat)(hm:s.length≤m):(ByteArray.mk s.toArray).extract k m=⟨(s.drop k).toArray⟩:=by
 have h1:=Lib.extract_data (ByteArray.mk s.toArray) k m;generalize (ByteArray.mk s.toArray).extract k m=q at *
 cases q with | mk q =>
 congr 1
 apply Array.toList_inj.1;simp at h1 ⊢;rw[h1];exact List.take_of_length_le (by rw[List.length_drop];omega)
@[go_sem] theorem zx3 (x:UInt8) (l:Bs) (h:0<(ByteArray.mk (x :: l).toArray).size):(ByteArray.mk (x :: l).toArray)[0]=x:=rfl
theorem zbd (r:Nat)(s:Bs)(bad:Bool)(d:Int)(w:World)(h:Rd r s bad d w) :
 Calls ze 201 #[.pointer (some ⟨r,0,none⟩)] w fun e w'=>e = .returned (.tuple #[])∧Rd r s true d w'∧Fr (MR r) w w':=by
 obtain⟨c0,c1,c2,f1,hr1⟩:=h.cells;go_enter Tryz.func201,Tryz.ntmps201
 go_wp2
 go_end0
 exact⟨rfl,h.set1 _,Fr.refl.setCell _ _ h.one⟩
theorem zp9 (j:Nat)(b:UInt8)(h:(#[32,9,10,13]:Array UInt8).toList[j]? = some b):b.toNat<128:=by
 match j,h with
 | 0,h=>simp at h;subst h;decide
 | 1,h=>simp at h;subst h;decide
 | 2,h=>simp at h;subst h;decide
 | 3,h=>simp at h;subst h;decide
 | n+4,h=>simp at h
theorem zdd (r:Nat)(s:Bs)(bad:Bool)(d:Int)(w:World)(h:Rd r s bad d w) :
 Calls ze 131 #[.pointer (some ⟨r,0,none⟩)] w fun e w'=>e = .returned (.tuple #[])∧Rd r (jg s) bad d w'∧Fr (MR r) w w':=by
 obtain⟨c0,c1,c2,f1,hB⟩:=h.cells;go_enter Tryz.func131,Tryz.ntmps131
 go_wp2_with fail
 refine(Go.Proofs.Tryz.strings_TrimLeft_set ⟨s.toArray⟩ ⟨#[32,9,10,13]⟩ _ (by decide) zp9).mono ?_;rintro e w1 ⟨rfl,hA⟩;have h1:=h.below hA;clear c0 c1 c2 f1;obtain⟨c0,c1,c2,f1,hB⟩:=h1.cells
 go_wp2_with fail
 go_end0
 exact⟨rfl,h1.set0 _,((Fr.ofBelow hA).mono (fun _ _ x=>x.elim)).setCell _ _ h.one⟩
theorem zf9 (r:Nat) (s:Bs) (bad:Bool) (d:Int) (c:UInt8) (w:World) (h:Rd r s bad d w) (he:zc2 c s=none) :
 Calls ze 303 #[.pointer (some ⟨r,0,none⟩),.int .u8 c.toNat] w fun e w'=>e = .returned (.bool false)∧Rd r (jg s) bad d w'∧Fr (MR r) w w':=by
 go_enter Tryz.func303,Tryz.ntmps303
 go_wp2_with fail
 refine(zdd r s bad d _ h).mono ?_;rintro e w1 ⟨rfl,hA,hB⟩;obtain⟨c0,c1,c2,f1,hr1⟩:=hA.cells;unfold zc2 at he;cases hs:jg s with
 | nil =>
   rw[hs]at c0;clear he
   go_wp2_with fail
   go_ret;exact⟨rfl,hs▸hA,hB⟩
 | cons x l =>
   rw[hs]at c0 he
   have hx:((x.toNat:Int) != (c.toNat:Int))=true:=by
    rw[bne_iff_ne];intro e;have e:x.toNat=c.toNat:=by omega
    simp[UInt8.toNat_inj.1 e]at he
   clear he
   go_wp2_with fail
   go_ret;exact⟨rfl,hs▸hA,hB⟩
theorem zd8 (r:Nat) (s l:Bs) (bad:Bool) (d:Int) (c:UInt8) (w:World) (h:Rd r s bad d w) (he:zc2 c s=some l) :
 Calls ze 303 #[.pointer (some ⟨r,0,none⟩),.int .u8 c.toNat] w fun e w'=>e = .returned (.bool true)∧Rd r l bad d w'∧Fr (MR r) w w':=by
 go_enter Tryz.func303,Tryz.ntmps303
 go_wp2_with fail
 refine(zdd r s bad d _ h).mono ?_;rintro e w1 ⟨rfl,hA,hB⟩;obtain⟨c0,c1,c2,f1,hr1⟩:=hA.cells;unfold zc2 at he;cases hs:jg s with
 | nil=>rw[hs]at he;simp at he
 | cons x l' =>
   rw[hs]at c0 he;obtain⟨rfl,rfl⟩:x=c∧l'=l:=by simpa using he
   clear he;have hx:=za (za2 (x :: l') 1 (l'.length+1) (by simp))
   go_wp2_with fail
   go_ret;rw[hx.out];exact⟨rfl,hA.set0 _,hB.setCell _ _ h.one⟩
theorem zko (r:Nat) (s p:Bs) (bad:Bool) (d:Int) (w:World) (h:Rd r s bad d w) :
 Calls ze 252 #[.pointer (some ⟨r,0,none⟩),.string ⟨p.toArray⟩] w fun e w'=>e = .returned (.tuple #[])∧Rd r (zak p ⟨s,bad⟩).s (zak p ⟨s,bad⟩).bad d w'∧Fr (MR r) w w':=by
 obtain⟨c0,c1,c2,f1,hr1⟩:=h.cells;unfold zak;cases hp:Lib.hasPrefix s p
 ·simp only[Bool.false_eq_true,if_false];have Hp:=za hp;clear hp;go_enter Tryz.func252,Tryz.ntmps252
  go_wp2_with fail
  refine(Go.Proofs.Tryz.strings_CutPrefix ⟨s.toArray⟩ ⟨p.toArray⟩ _).mono ?_;rintro e w1 ⟨rfl,rfl⟩;simp only[Hp.out]
  go_wp2_with fail
  refine(zbd r s bad d _ h).mono ?_;rintro e w1 ⟨rfl,hA,hB⟩
  go_wp2_with fail
  ((try simp only[Exit.inBlock,Exit.then]);refine bodyPost_ret (results_none rfl _ _ _) rfl ?_)
  exact⟨rfl,hA,hB⟩
 simp only[if_true];have Hp:=za hp;clear hp;go_enter Tryz.func252,Tryz.ntmps252
 go_wp2_with fail
 refine(Go.Proofs.Tryz.strings_CutPrefix ⟨s.toArray⟩ ⟨p.toArray⟩ _).mono ?_;rintro e w1 ⟨rfl,rfl⟩;simp only[Hp.out]
 go_wp2_with fail
 go_end0
 exact⟨rfl,h.set0 _,Fr.refl.setCell _ _ h.one⟩
theorem zc0 (r:Nat)(x:UInt8)(l:Bs)(bad:Bool)(d:Int)(w:World)(h:Rd r (x :: l) bad d w) :
 Calls ze 304 #[.pointer (some ⟨r,0,none⟩)] w fun e w'=>e = .returned (.bool (decide (48≤x.toNat∧x.toNat≤57)))∧w=w':=by
 obtain⟨c0,c1,c2,f1,hr1⟩:=h.cells;go_enter Tryz.func304,Tryz.ntmps304
 go_wp2
 all_goals (go_ret;refine⟨ju ?_,rfl⟩;rw[Bool.eq_iff_iff];simp;omega)
theorem zk3 (r:Nat)(bad:Bool)(d:Int)(w:World)(h:Rd r [] bad d w) :
 Calls ze 304 #[.pointer (some ⟨r,0,none⟩)] w fun e w'=>e = .returned (.bool false)∧w=w':=by
 obtain⟨c0,c1,c2,f1,hr1⟩:=h.cells;go_enter Tryz.func304,Tryz.ntmps304
 go_wp2
 all_goals (go_ret;exact⟨rfl,rfl⟩)
theorem zmv {x y:Int}(hx₀:0≤x)(hx:x % 16=0)(hx₁:x<2147483648)(h₀:0≤y)(h₁:y<16):bits .or .i32 x y=x+y :=
 bits_join .i32 31 (by decide) wraps_i32 4 x y hx₀ hx hx₁ h₀ h₁ (by omega)
theorem zxb (r:Nat) (s:Bs) (bad:Bool) (d:Int) (w:World) (h:Rd r s bad d w) :
 Calls ze 334 #[.pointer (some ⟨r,0,none⟩)] w fun e w'=>e = .returned (.int .i32 (zfi 4 0 ⟨s,bad⟩).1)∧Rd r (zfi 4 0 ⟨s,bad⟩).2.s (zfi 4 0 ⟨s,bad⟩).2.bad d w'∧Fr (MR r) w w':=by
 generalize hG:zfi 4 0 ⟨s,bad⟩=G;have HG:=za hG;clear hG;go_enter Tryz.func334,Tryz.ntmps334
 go_wp2_with fail
 go_loopw [3,5] (fun vn vi wr=>∃ (k i n:Nat) (st:St),k+i=4∧vi = .int .i64 i∧vn = .int .i32 n∧n<16 ^ i∧Rd r st.s st.bad d wr∧Fr (MR r) w wr∧Hid (zfi k n st=G)) (fun _ vi _=>4 - (intOf vi).toNat)
 case atStart=>exact⟨4,0,0,⟨s,bad⟩,rfl,rfl,rfl,by decide,h,Fr.refl,HG⟩
 case round =>
  obtain⟨k,i,n,st,hki,rfl,rfl,hn,hR,hF,hS⟩:=hrel;obtain⟨c0,c1,c2,f1,hr1⟩:=hR.cells;cases k with
  | zero =>
    have hi:¬ (i:Int)<4:=by omega
    go_wp2_with fail
    go_ret;have hS:=hS.out;simp only[zfi]at hS;subst hS;exact⟨rfl,hR,hF⟩
  | succ k =>
    have hi:(i:Int)<4:=by omega
    obtain⟨s1,b1⟩:=st;cases s1 with
    | nil =>
      go_wp2_with fail
      refine(zbd r _ _ d _ hR).mono ?_;rintro e w1 ⟨rfl,hB,hC⟩
      go_wp2_with fail
      go_ret;have hS:=hS.out;simp only[zfi]at hS;subst hS;exact⟨rfl,hB,hF.trans' hC⟩
    | cons x l =>
      have hn4:n<4096:=Nat.lt_of_lt_of_le hn (Nat.pow_le_pow_right (by decide) (show i≤3 by omega));have hx:=za (za2 (x :: l) 1 (l.length+1) (by simp));by_cases h1:48≤x.toNat∧x.toNat≤57
      ·obtain ⟨h1,h2⟩:=h1;have h1':(48:Int)≤x.toNat:=by omega
       have h2':(x.toNat:Int)≤57:=by omega
       have hA:Hid (zfi k (16 * n+(x.toNat - 48)) ⟨l,b1⟩=G):=by
        have:=hS.out;simp only[zfi,zmw,h1,h2,and_self,if_true]at this;exact this
       clear hS
       go_wp2_with fail
       refine⟨⟨k,i+1,16 * n+(x.toNat - 48),⟨l,b1⟩,by omega,by go_num,?_,?_,?_,?_,hA⟩,by simp[intOf];omega⟩
       ·rw[zmv (by omega) (by omega) (by omega) (by omega) (by omega)];congr 1;omega
       ·rw[Nat.pow_succ];omega
       ·rw[hx.out];exact hR.set0 _
       exact(hF.setCell _ _ h.one)
      by_cases h2:97≤(x.toNat ||| 32)∧(x.toNat ||| 32)≤102
      ·have hA:Hid (zfi k (16 * n+((x.toNat ||| 32) - 87)) ⟨l,b1⟩=G):=by
        have:=hS.out;simp only[zfi,zmw,h1,h2,and_self,if_true,if_false]at this;exact this
       clear hS;have hb:bits BinOp.or .u8 (x.toNat:Int) 32=((x.toNat ||| 32:Nat):Int):=u8_or_nat x.toNat 32 (by have:=x.toNat_lt;omega) (by decide);generalize hy:x.toNat ||| 32=y at *
       have Hy:=za hy;clear hy;obtain⟨h5,h6⟩:=h2;have h5':(97:Int)≤y:=by omega
       have h6':(y:Int)≤102:=by omega
       rcases Nat.lt_or_ge x.toNat 48 with h3 | h3
       ·have hD:¬ (48:Int)≤x.toNat:=by omega
        go_wp2_with fail
        refine⟨⟨k,i+1,16 * n+(y - 87),⟨l,b1⟩,by omega,by go_num,?_,?_,?_,?_,hA⟩,by simp[intOf];omega⟩
        ·rw[zmv (by omega) (by omega) (by omega) (by omega) (by omega)];congr 1;omega
        ·rw[Nat.pow_succ];omega
        ·rw[hx.out];exact hR.set0 _
        exact(hF.setCell _ _ h.one)
       have h4:¬ (x.toNat:Int)≤57:=by omega
       have hD:(48:Int)≤x.toNat:=by omega
       go_wp2_with fail
       refine⟨⟨k,i+1,16 * n+(y - 87),⟨l,b1⟩,by omega,by go_num,?_,?_,?_,?_,hA⟩,by simp[intOf];omega⟩
       ·rw[zmv (by omega) (by omega) (by omega) (by omega) (by omega)];congr 1;omega
       ·rw[Nat.pow_succ];omega
       ·rw[hx.out];exact hR.set0 _
       exact(hF.setCell _ _ h.one)
      have hA:Hid ((0,⟨x :: l,true⟩)=G):=by
       have:=hS.out;simp only[zfi,zmw,h1,h2,if_false]at this;exact this
      clear hS;have hb:bits BinOp.or .u8 (x.toNat:Int) 32=((x.toNat ||| 32:Nat):Int):=u8_or_nat x.toNat 32 (by have:=x.toNat_lt;omega) (by decide);generalize hy:x.toNat ||| 32=y at *
      have Hy:=za hy;clear hy;have e1:¬ (48:Int)≤x.toNat∨((48:Int)≤x.toNat∧¬ (x.toNat:Int)≤57):=by omega
      have e2:¬ (97:Int)≤y∨((97:Int)≤y∧¬ (y:Int)≤102):=by omega
      rcases e1 with e1 | ⟨e1,e3⟩<;>rcases e2 with e2 | ⟨e2,e4⟩
      all_goals
       go_wp2_with fail
       refine(zbd r _ _ d _ hR).mono ?_;rintro e w1 ⟨rfl,hB,hC⟩
       go_wp2_with fail
       go_ret;have hS:=hA.out;subst hS;exact⟨rfl,hB,hF.trans' hC⟩
end Go.Proofs.YtmgfncjfgkllcaaGreatDoor
