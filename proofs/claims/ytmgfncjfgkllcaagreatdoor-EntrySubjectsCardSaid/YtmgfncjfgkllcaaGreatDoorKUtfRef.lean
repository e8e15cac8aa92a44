/-
 The walks of the reference's signs in UTF-8.
-/
import Derived.Test.YtmgfncjfgkllcaaGreatDoorKNum
import Derived.Test.YtmgfncjfgkllcaaGreatDoorKUtf
import Derived.StillTailTactics
import Derived.BigQuiet
import Derived.Deep.LoopGhost
import Derived.Deep.RegionWith
import Derived.Deep.RegionLaw
import Derived.Deep.RegionHeld3
import Derived.Outline
open Go.Lib renaming hid→za,encodeRune→zc
open Go.Proofs.Tryz renaming prog→ze
open Go.AllReadyH renaming cons→zl
open List renaming length_cons→zo
open Or renaming inl→zv,inr→zw
namespace Go.Proofs.YtmgfncjfgkllcaaGreatDoor
set_option linter.unusedVariables false
set_option linter.unusedSimpArgs false
set_option linter.unusedSectionVars false
set_option maxRecDepth 100000
set_option maxHeartbeats 4000000
open Go.RowKit
variable [OldK]

theorem SB.lit (w:World)(l:Bs)(n:Nat)(zs:Array Value)(cap:Nat)(hn:n=l.length)(hz:zs=(l.map fun x=>Value.int .u8 (x.toNat:Int)).toArray)(hcp:l.length≤cap:=by simp):SB (fun k=>w.heap.size≤k) l (.slice (some ⟨w.heap.size,0,none⟩) n cap) (w.alloc (.cells zs 5)):=by
 subst hz hn;refine⟨_,_,rfl,hcp,.inr ⟨w.heap.size,0,_,_,_,rfl,Nat.le_refl _,⟨heap_alloc_new w _,.inl rfl⟩,fun j hj=>?_⟩⟩;simp[hj]
theorem zeb (c:Int) (hc:Sc c) (w:World) :
 Calls ze 266 #[.int .i64 c] w fun e w'=>∃ v,e = .returned v∧SB (fun k=>w.heap.size≤k) (zc c) v w'∧Fr NoB w w':=by
 rcases zgm hc with h | h | h | h
 ·have h0:0≤c:=h.1;have h1:c<128:=by omega
  have he:=enc_one h.1 h.2;have hl:=SB.lit w [c.toNat.toUInt8] 1 #[.int .u8 c] 1 rfl (by simp only[List.map_cons,List.map_nil,zad c h0 (by omega)];rw[Int.toNat_of_nonneg h0]);rw[← he]at hl;have HL:=za hl;clear hl he h hc;go_enter Tryz.func266,Tryz.ntmps266
  go_wp2_with fail
  go_ret;exact⟨_,rfl,HL.out,Fr.refl.alloc _⟩
 ·have h0:128≤c:=h.1;have h1:c<2048:=by omega
  have he:=zgb h.1 h.2;have hl:=SB.lit w [(192+c / 64).toNat.toUInt8,(128+c % 64).toNat.toUInt8] 2 #[.int .u8 (192+c / 64),.int .u8 (128+c % 64)] 2 rfl (by simp only[List.map_cons,List.map_nil,zad (192+c / 64) (by omega) (by omega),zad (128+c % 64) (by omega) (by omega)];rw[Int.toNat_of_nonneg (by omega),Int.toNat_of_nonneg (by omega)]);rw[← he]at hl;have HL:=za hl;clear hl he h hc;go_enter Tryz.func266,Tryz.ntmps266
  go_wp2_with fail
  go_ret;exact⟨_,rfl,HL.out,Fr.refl.alloc _⟩
 ·have h0:2048≤c:=by omega
  have h1:c<65536:=by omega
  have he:=zdh h
  have hl:=SB.lit w [(224+c / 4096).toNat.toUInt8,(128+c / 64 % 64).toNat.toUInt8,(128+c % 64).toNat.toUInt8] 3 #[.int .u8 (224+c / 4096),.int .u8 (128+c / 64 % 64),.int .u8 (128+c % 64)] 3 rfl
   (by simp only[List.map_cons,List.map_nil,zad (224+c / 4096) (by omega) (by omega),zad (128+c / 64 % 64) (by omega) (by omega),zad (128+c % 64) (by omega) (by omega)];rw[Int.toNat_of_nonneg (by omega),Int.toNat_of_nonneg (by omega),Int.toNat_of_nonneg (by omega)])
  rw[← he]at hl;have HL:=za hl;clear hl he h hc;go_enter Tryz.func266,Tryz.ntmps266
  go_wp2_with fail
  go_ret;exact⟨_,rfl,HL.out,Fr.refl.alloc _⟩
 have h0:65536≤c:=h.1;have h1:c≤1114111:=h.2;have he:=zem h.1 h.2
 have hl:=SB.lit w [(240+c / 262144).toNat.toUInt8,(128+c / 4096 % 64).toNat.toUInt8,(128+c / 64 % 64).toNat.toUInt8,(128+c % 64).toNat.toUInt8] 4 #[.int .u8 (240+c / 262144),.int .u8 (128+c / 4096 % 64),.int .u8 (128+c / 64 % 64),.int .u8 (128+c % 64)] 4 rfl
  (by simp only[List.map_cons,List.map_nil,zad (240+c / 262144) (by omega) (by omega),zad (128+c / 4096 % 64) (by omega) (by omega),zad (128+c / 64 % 64) (by omega) (by omega),zad (128+c % 64) (by omega) (by omega)];rw[Int.toNat_of_nonneg (by omega),Int.toNat_of_nonneg (by omega),Int.toNat_of_nonneg (by omega),Int.toNat_of_nonneg (by omega)])
 rw[← he]at hl;have HL:=za hl;clear hl he h hc;go_enter Tryz.func266,Tryz.ntmps266
 go_wp2_with fail
 go_ret;exact⟨_,rfl,HL.out,Fr.refl.alloc _⟩
theorem zvc (v:Value)(w:World)(S:Nat→Prop)(h:SB S [] v w) :
 Calls ze 225 #[v] w fun e w'=>e = .returned (.tuple #[.int .i64 0,.int .i64 0])∧Fr NoB w w':=by
 obtain⟨a,cap,rfl⟩:=h.form;simp only[List.length_nil];clear h;go_enter Tryz.func225,Tryz.ntmps225
 go_wp2_with fail
 go_ret2;exact⟨rfl,Fr.refl⟩
theorem zd5 {t:Bs}{k i:Nat}{x:UInt8}(h:t[i]? = some x)(hi:i<k):(t.take k).drop i=x :: (t.take k).drop (i+1):=by
 have h2:(t.take k)[i]? = some x:=by rw[List.getElem?_take,if_pos hi];exact h
 obtain⟨hA,rfl⟩:=List.getElem?_eq_some_iff.1 h2;exact List.drop_eq_getElem_cons hA
theorem zdd (b:UInt8)(t:Bs){c0:Int}{k:Nat}(e:zca b.toNat=(c0,k)):zgp (b :: t)=(if (k=1∧128≤b.toNat)∨t.length+1<k then (0,0) else match zcx c0 (t.take (k - 1)) with
 | none=>(0,0)
 | some c=>if zi9 c∨zc c≠(b :: t).take k then (0,0) else (c,k)):=by
 unfold zgp;simp only[e];rfl
def zlg (s:Bs) (k:Nat):Option Int→Int × Nat
 | none=>(0,0)
 | some c=>if zi9 c∨zc c≠s.take k then (0,0) else (c,k)
theorem zfq (b:UInt8)(t:Bs){c0:Int}{k:Nat}(e:zca b.toNat=(c0,k))(h:¬ ((k=1∧128≤b.toNat)∨t.length+1<k)):zgp (b :: t)=zlg (b :: t) k (zcx c0 (t.take (k - 1))):=by
 rw[zdd b t e,if_neg h];rfl
theorem zg3 (b:UInt8) (t:Bs) (v:Value) (w:World) (S:Nat→Prop) (h:SB S (b :: t) v w) (hlen:t.length≤1125899906842624) (hc:(128≤b.toNat∧b.toNat<192)∨(192≤b.toNat∧b.toNat<224∧t.length+1<2)∨(224≤b.toNat∧b.toNat<240∧t.length+1<3)∨(240≤b.toNat∧t.length+1<4)) :
 Calls ze 225 #[v] w fun e w'=>e = .returned (.tuple #[.int .i64 0,.int .i64 0])∧Fr NoB w w':=by
 obtain⟨g,o,cap,rfl,hcp,hS,hlt,hA⟩:=h.cellsAt (by simp);have h0:=hA 0 b rfl;rw[Nat.add_zero]at h0;have hb:=UInt8.toNat_lt b;clear h hA;rw[zo];rcases hc with⟨h1,h2⟩ | ⟨h1,h2,h3⟩ | ⟨h1,h2,h3⟩ | ⟨h1,h3⟩
 ·have b1:(128:Int)≤b.toNat:=by omega
  have b2:(b.toNat:Int)<192:=by omega
  clear h1 h2;go_enter Tryz.func225,Tryz.ntmps225
  go_wp2_with fail
  go_ret2;exact⟨rfl,Fr.refl⟩
 ·have b1:(192:Int)≤b.toNat:=by omega
  have b2:(b.toNat:Int) - 192<32:=by omega
  have b4:(t.length:Int)+1<2:=by omega
  clear h1 h2 h3;go_enter Tryz.func225,Tryz.ntmps225
  go_wp2_with fail
  all_goals
   go_ret2;exact⟨rfl,Fr.refl⟩
 ·have b1:(192:Int)≤b.toNat:=by omega
  have b2:32≤(b.toNat:Int) - 192:=by omega
  have b3:(b.toNat:Int) - 192 - 32<16:=by omega
  have b4:(t.length:Int)+1<3:=by omega
  clear h1 h2 h3;go_enter Tryz.func225,Tryz.ntmps225
  go_wp2_with fail
  all_goals
   go_ret2;exact⟨rfl,Fr.refl⟩
 have b1:(192:Int)≤b.toNat:=by omega
 have b2:32≤(b.toNat:Int) - 192:=by omega
 have b3:16≤(b.toNat:Int) - 192 - 32:=by omega
 have b4:(t.length:Int)+1<4:=by omega
 clear h1 h3;go_enter Tryz.func225,Tryz.ntmps225
 go_wp2_with fail
 all_goals
  go_ret2;exact⟨rfl,Fr.refl⟩
theorem zju {c:Int}{i:Nat}(h1:1≤i)(h4:i≤4)(h:c<128 * 64 ^ (i - 1)):c<33554432:=by
 have:i=1∨i=2∨i=3∨i=4:=by omega
 rcases this with rfl | rfl | rfl | rfl<;>simp at h<;>omega
theorem zpf {c:Int}{i:Nat}{x:Nat}(h1:1≤i)(h:c<128 * 64 ^ (i - 1))(hx:x≤191):64 * c+x - 128<128 * 64 ^ (i+1 - 1):=by
 obtain⟨j,rfl⟩:∃ j,i=j+1:=⟨i - 1,by omega⟩;simp only[Nat.add_sub_cancel]at h ⊢;rw[Int.pow_succ];generalize (64:Int) ^ j=Z at *;omega
theorem zd2 (w:World)(n:Nat):Fr NoB w (w.drewN n):=by
 induction n with
 | zero=>exact Fr.refl
 | succ n ih=>exact ih.drew
theorem zo9 (b:UInt8) (t:Bs) (v:Value) (w:World) (S:Nat→Prop) (h:SB S (b :: t) v w) (hlen:t.length≤1125899906842624) (G:Int × Nat) (hG:zlg (b :: t) 1 (zcx ((b.toNat:Int)) (t.take 0))=G) (hk:1≤t.length+1) (hcl:b.toNat<128) :
 Calls ze 225 #[v] w fun e w'=>e = .returned (.tuple #[.int .i64 G.1,.int .i64 G.2])∧Fr NoB w w':=by
 obtain⟨g,o,hL,rfl,hZ,hS,hlt,hH⟩:=h.cellsAt (by simp);rw[zo]at hZ;have h0:=hH 0 b rfl;rw[Nat.add_zero]at h0;have hb:=UInt8.toNat_lt b;have HG:=za hG;have HH:=za h;have Hcell:=za hH;have Hk:=za hk;rw[zo];have b1:(b.toNat:Int)<128:=by omega
 have hc0:0≤(b.toNat:Int):=by omega
 have ha:(b.toNat:Int)<128:=by omega
 clear h hH hG hk hcl;go_enter Tryz.func225,Tryz.ntmps225
 go_wp2_with fail
 all_goals
  go_loopg [4,6] 1 (fun q vc vi wr=>∃ (c:Int) (i:Nat),vc = .int .i64 c∧vi = .int .i64 i∧1≤i∧i≤1∧i+q=2∧0≤c∧c<128 * 64 ^ (i - 1)∧wr=w∧Hid (zlg (b :: t) 1 (zcx c ((t.take 0).drop (i - 1)))=G))
  case atStart=>exact⟨_,1,rfl,rfl,by omega,by omega,by omega,by omega,by omega,rfl,HG⟩
  case round =>
   obtain⟨c,i,rfl,rfl,hP,hY,hW,ha,hQ,rfl,HR⟩:=hrel;clear HG;by_cases hX:i<1
   ·skip
    omega
   obtain rfl:i=1:=by omega
   have hR:=HR.out;rw[List.drop_eq_nil_of_le (by rw[List.length_take];omega),zcx]at hR;simp only[zlg]at hR;have hc3:=zju hP (by omega) hQ;have hV:=Hk.out;have hln:1≤(t.length:Int)+1:=by omega
   have hcq:1≤(hL:Int):=by omega
   clear HR hQ hP hY hX hW hV;by_cases ho:zi9 c
   ·rw [if_pos (.inl ho)]at hR;subst hR;rcases ho with ho | ⟨ho1,ho2⟩
    ·have e1:decide ((1114111:Int)<c)=true:=by rw[decide_eq_true_eq];exact ho
     clear ho
     go_wp2_with fail
     go_quiet (fail)
     go_wp2_with fail
     go_ret2;exact⟨rfl,zd2 _ _⟩
    have e1:decide ((1114111:Int)<c)=false:=by rw[decide_eq_false_iff_not];omega
    have e2:decide ((55296:Int)≤c)=true:=by rw[decide_eq_true_eq];exact ho1
    have e3:decide (c≤57343)=true:=by rw[decide_eq_true_eq];exact ho2
    clear ho1 ho2
    go_wp2_with fail
    go_quiet (fail)
    go_wp2_with fail
    go_ret2;exact⟨rfl,zd2 _ _⟩
   have hM:Sc c:=by unfold zi9 at ho;unfold Sc;omega
   have hs:=fun W=>zeb c hM W
   have e1:decide ((1114111:Int)<c)=false:=by rw[decide_eq_false_iff_not];unfold zi9 at ho;omega
   have hO:=HH.out.take 1 Hk.out;have hT:=(hO.fr ((Fr.refl (M:=NoB)).drew) (fun _ _ _ _ h=>h)).text;obtain⟨B,hB⟩:∃ B,(zc c==(b :: t).take 1)=B:=⟨_,rfl⟩
   have hU:(if B=true then (c,1) else (0,0))=G:=by
    rw[← hR,← hB];by_cases he:zc c=(b :: t).take 1
    ·rw[if_pos (by simpa using he),if_neg (by rintro(h | h);exact ho h;exact h he)]
    rw[if_neg (by simpa using he),if_pos (.inr he)]
   generalize zc c=X1 at *;generalize (b :: t).take 1=X2 at *;have Hs:=za hs;have HR:=za hU;have hN:=za hO;clear hR hs hU hO HH Hcell
   have e2:decide ((55296:Int)≤c)=false∨(decide ((55296:Int)≤c)=true∧decide (c≤57343)=false):=by
    unfold Sc at hM;rcases hM with h | h
    ·left;rw[decide_eq_false_iff_not];omega
    right;exact⟨by rw[decide_eq_true_eq];omega,by rw[decide_eq_false_iff_not];omega⟩
   clear hM ho;rcases e2 with e2 | ⟨e2,e3⟩
   all_goals cases B
   ·skip
    go_wp2_with fail
    refine wp_region_held_drew (S:=(fun W'=>(convert 24 9 (.slice (some ⟨g,o,none⟩) 1 hL)).run ze W' = .ok (.string ⟨X2.toArray⟩) W')) (by kernel_rfl) hT (fun hA=>?_);simp only[qV]
    iterate 12
     first
     | refine qt (v:=undef) rfl (zw ⟨by rfl,rfl⟩) hA ?_
       try simp only[Act.put,qP]
     | refine qt (v:=?_) rfl (zv ⟨by rfl,?_⟩) hA ?_
       rotate_left
       ·intro W hC
        try simp only[qQ]
        go_simp
        try rw[if_neg (by omega)]
        try with_reducible rfl
       try simp only[Act.put,qP]
    refine qi (i:=14) (v:=?_) rfl (zv ⟨by rfl,?_⟩) hA ?_;rotate_left
    ·intro W hC
     try simp only[qQ]
     go_simp
     try rw[if_neg (by omega)]
     try with_reducible rfl
    try simp only[Act.put,qP]
    refine qi (i:=15) (v:=?_) rfl (zv ⟨by rfl,?_⟩) hA ?_;rotate_left
    ·intro W hC
     try simp only[qQ]
     go_simp
     try rw[if_neg (by omega)]
     try with_reducible rfl
    try simp only[Act.put,qP]
    refine qi (i:=16) (v:=?_) rfl (zv ⟨by rfl,?_⟩) hA ?_;rotate_left
    ·intro W hC
     try simp only[qQ]
     go_simp
     try rw[if_neg (by omega)]
     try with_reducible rfl
    try simp only[Act.put,qP]
    refine qi (i:=17) (v:=?_) rfl (zv ⟨by rfl,?_⟩) hA ?_;rotate_left
    ·intro W hC
     try simp only[qQ]
     go_simp
     try rw[if_neg (by omega)]
     try with_reducible rfl
    try simp only[Act.put,qP]
    refine wpAnyH_ready (rs:=[12]) (by kernel_rfl) (by simp) (zl rfl (fun K hK=>?_) AllReadyH.nil)
    try simp only[qQ]
    go_simp
    go_at_call 266;refine(Hs.out _).mono ?_;rintro e w1 ⟨v1,rfl,hF,hE⟩;have hI:=hF.text;have hD:=(hN.out.fr ((Fr.refl (M:=NoB)).drew.trans' hE) (fun _ _ _ _ h=>h)).text
    refine hK.out _ _ hD (fun hA=>?_);clear hK K
    try simp only[Act.put,qP]
    refine wpAnyH_ready (rs:=[13]) (by kernel_rfl) (by simp) (zl rfl (fun K hK=>?_) AllReadyH.nil)
    try simp only[qQ]
    go_simp;refine hK.out _ _ hD (fun hA=>?_);clear hK K
    try simp only[Act.put,qP]
    iterate 2
     refine qt (v:=?_) rfl (zv ⟨by rfl,?_⟩) hA ?_;rotate_left
     ·intro W hC
      try simp only[qQ]
      go_simp
      try rw[if_neg (by omega)]
      try with_reducible rfl
     try simp only[Act.put,qP]
    refine wpAnyH_done (by kernel_rfl) ?_ _;have hJ:=za ((Fr.refl (M:=NoB)).drew.trans' hE);clear hE hD hI hF hT
    go_wp2_with fail
    go_ret2;exact⟨by have h:=HR.out;simp at h;subst h;rfl,hJ.out⟩
   ·skip
    go_wp2_with fail
    refine wp_region_held_drew (S:=(fun W'=>(convert 24 9 (.slice (some ⟨g,o,none⟩) 1 hL)).run ze W' = .ok (.string ⟨X2.toArray⟩) W')) (by kernel_rfl) hT (fun hA=>?_);simp only[qV]
    iterate 12
     first
     | refine qt (v:=undef) rfl (zw ⟨by rfl,rfl⟩) hA ?_
       try simp only[Act.put,qP]
     | refine qt (v:=?_) rfl (zv ⟨by rfl,?_⟩) hA ?_
       rotate_left
       ·intro W hC
        try simp only[qQ]
        go_simp
        try rw[if_neg (by omega)]
        try with_reducible rfl
       try simp only[Act.put,qP]
    refine qi (i:=14) (v:=?_) rfl (zv ⟨by rfl,?_⟩) hA ?_;rotate_left
    ·intro W hC
     try simp only[qQ]
     go_simp
     try rw[if_neg (by omega)]
     try with_reducible rfl
    try simp only[Act.put,qP]
    refine qi (i:=15) (v:=?_) rfl (zv ⟨by rfl,?_⟩) hA ?_;rotate_left
    ·intro W hC
     try simp only[qQ]
     go_simp
     try rw[if_neg (by omega)]
     try with_reducible rfl
    try simp only[Act.put,qP]
    refine qi (i:=16) (v:=?_) rfl (zv ⟨by rfl,?_⟩) hA ?_;rotate_left
    ·intro W hC
     try simp only[qQ]
     go_simp
     try rw[if_neg (by omega)]
     try with_reducible rfl
    try simp only[Act.put,qP]
    refine qi (i:=17) (v:=?_) rfl (zv ⟨by rfl,?_⟩) hA ?_;rotate_left
    ·intro W hC
     try simp only[qQ]
     go_simp
     try rw[if_neg (by omega)]
     try with_reducible rfl
    try simp only[Act.put,qP]
    refine wpAnyH_ready (rs:=[12]) (by kernel_rfl) (by simp) (zl rfl (fun K hK=>?_) AllReadyH.nil)
    try simp only[qQ]
    go_simp
    go_at_call 266;refine(Hs.out _).mono ?_;rintro e w1 ⟨v1,rfl,hF,hE⟩;have hI:=hF.text;have hD:=(hN.out.fr ((Fr.refl (M:=NoB)).drew.trans' hE) (fun _ _ _ _ h=>h)).text
    refine hK.out _ _ hD (fun hA=>?_);clear hK K
    try simp only[Act.put,qP]
    refine wpAnyH_ready (rs:=[13]) (by kernel_rfl) (by simp) (zl rfl (fun K hK=>?_) AllReadyH.nil)
    try simp only[qQ]
    go_simp;refine hK.out _ _ hD (fun hA=>?_);clear hK K
    try simp only[Act.put,qP]
    iterate 2
     refine qt (v:=?_) rfl (zv ⟨by rfl,?_⟩) hA ?_;rotate_left
     ·intro W hC
      try simp only[qQ]
      go_simp
      try rw[if_neg (by omega)]
      try with_reducible rfl
     try simp only[Act.put,qP]
    refine wpAnyH_done (by kernel_rfl) ?_ _;have hJ:=za ((Fr.refl (M:=NoB)).drew.trans' hE);clear hE hD hI hF hT
    go_wp2_with fail
    go_ret2;exact⟨by have h:=HR.out;simp at h;subst h;rfl,hJ.out⟩
   ·skip
    go_wp2_with fail
    refine wp_region_held_drew (S:=(fun W'=>(convert 24 9 (.slice (some ⟨g,o,none⟩) 1 hL)).run ze W' = .ok (.string ⟨X2.toArray⟩) W')) (by kernel_rfl) hT (fun hA=>?_);simp only[qV]
    iterate 12
     refine qt (v:=?_) rfl (zv ⟨by rfl,?_⟩) hA ?_;rotate_left
     ·intro W hC
      try simp only[qQ]
      go_simp
      try rw[if_neg (by omega)]
      try with_reducible rfl
     try simp only[Act.put,qP]
    refine qi (i:=14) (v:=?_) rfl (zv ⟨by rfl,?_⟩) hA ?_;rotate_left
    ·intro W hC
     try simp only[qQ]
     go_simp
     try rw[if_neg (by omega)]
     try with_reducible rfl
    try simp only[Act.put,qP]
    refine qi (i:=15) (v:=?_) rfl (zv ⟨by rfl,?_⟩) hA ?_;rotate_left
    ·intro W hC
     try simp only[qQ]
     go_simp
     try rw[if_neg (by omega)]
     try with_reducible rfl
    try simp only[Act.put,qP]
    refine qi (i:=16) (v:=?_) rfl (zv ⟨by rfl,?_⟩) hA ?_;rotate_left
    ·intro W hC
     try simp only[qQ]
     go_simp
     try rw[if_neg (by omega)]
     try with_reducible rfl
    try simp only[Act.put,qP]
    refine qi (i:=17) (v:=?_) rfl (zv ⟨by rfl,?_⟩) hA ?_;rotate_left
    ·intro W hC
     try simp only[qQ]
     go_simp
     try rw[if_neg (by omega)]
     try with_reducible rfl
    try simp only[Act.put,qP]
    refine wpAnyH_ready (rs:=[12]) (by kernel_rfl) (by simp) (zl rfl (fun K hK=>?_) AllReadyH.nil)
    try simp only[qQ]
    go_simp
    go_at_call 266;refine(Hs.out _).mono ?_;rintro e w1 ⟨v1,rfl,hF,hE⟩;have hI:=hF.text;have hD:=(hN.out.fr ((Fr.refl (M:=NoB)).drew.trans' hE) (fun _ _ _ _ h=>h)).text
    refine hK.out _ _ hD (fun hA=>?_);clear hK K
    try simp only[Act.put,qP]
    refine wpAnyH_ready (rs:=[13]) (by kernel_rfl) (by simp) (zl rfl (fun K hK=>?_) AllReadyH.nil)
    try simp only[qQ]
    go_simp;refine hK.out _ _ hD (fun hA=>?_);clear hK K
    try simp only[Act.put,qP]
    iterate 2
     refine qt (v:=?_) rfl (zv ⟨by rfl,?_⟩) hA ?_;rotate_left
     ·intro W hC
      try simp only[qQ]
      go_simp
      try rw[if_neg (by omega)]
      try with_reducible rfl
     try simp only[Act.put,qP]
    refine wpAnyH_done (by kernel_rfl) ?_ _;have hJ:=za ((Fr.refl (M:=NoB)).drew.trans' hE);clear hE hD hI hF hT
    go_wp2_with fail
    go_ret2;exact⟨by have h:=HR.out;simp at h;subst h;rfl,hJ.out⟩
   skip
   go_wp2_with fail
   refine wp_region_held_drew (S:=(fun W'=>(convert 24 9 (.slice (some ⟨g,o,none⟩) 1 hL)).run ze W' = .ok (.string ⟨X2.toArray⟩) W')) (by kernel_rfl) hT (fun hA=>?_);simp only[qV]
   iterate 12
    refine qt (v:=?_) rfl (zv ⟨by rfl,?_⟩) hA ?_;rotate_left
    ·intro W hC
     try simp only[qQ]
     go_simp
     try rw[if_neg (by omega)]
     try with_reducible rfl
    try simp only[Act.put,qP]
   refine qi (i:=14) (v:=?_) rfl (zv ⟨by rfl,?_⟩) hA ?_;rotate_left
   ·intro W hC
    try simp only[qQ]
    go_simp
    try rw[if_neg (by omega)]
    try with_reducible rfl
   try simp only[Act.put,qP]
   refine qi (i:=15) (v:=?_) rfl (zv ⟨by rfl,?_⟩) hA ?_;rotate_left
   ·intro W hC
    try simp only[qQ]
    go_simp
    try rw[if_neg (by omega)]
    try with_reducible rfl
   try simp only[Act.put,qP]
   refine qi (i:=16) (v:=?_) rfl (zv ⟨by rfl,?_⟩) hA ?_;rotate_left
   ·intro W hC
    try simp only[qQ]
    go_simp
    try rw[if_neg (by omega)]
    try with_reducible rfl
   try simp only[Act.put,qP]
   refine qi (i:=17) (v:=?_) rfl (zv ⟨by rfl,?_⟩) hA ?_;rotate_left
   ·intro W hC
    try simp only[qQ]
    go_simp
    try rw[if_neg (by omega)]
    try with_reducible rfl
   try simp only[Act.put,qP]
   refine wpAnyH_ready (rs:=[12]) (by kernel_rfl) (by simp) (zl rfl (fun K hK=>?_) AllReadyH.nil)
   try simp only[qQ]
   go_simp
   go_at_call 266;refine(Hs.out _).mono ?_;rintro e w1 ⟨v1,rfl,hF,hE⟩;have hI:=hF.text;have hD:=(hN.out.fr ((Fr.refl (M:=NoB)).drew.trans' hE) (fun _ _ _ _ h=>h)).text
   refine hK.out _ _ hD (fun hA=>?_);clear hK K
   try simp only[Act.put,qP]
   refine wpAnyH_ready (rs:=[13]) (by kernel_rfl) (by simp) (zl rfl (fun K hK=>?_) AllReadyH.nil)
   try simp only[qQ]
   go_simp;refine hK.out _ _ hD (fun hA=>?_);clear hK K
   try simp only[Act.put,qP]
   iterate 2
    refine qt (v:=?_) rfl (zv ⟨by rfl,?_⟩) hA ?_;rotate_left
    ·intro W hC
     try simp only[qQ]
     go_simp
     try rw[if_neg (by omega)]
     try with_reducible rfl
    try simp only[Act.put,qP]
   refine wpAnyH_done (by kernel_rfl) ?_ _;have hJ:=za ((Fr.refl (M:=NoB)).drew.trans' hE);clear hE hD hI hF hT
   go_wp2_with fail
   go_ret2;exact⟨by have h:=HR.out;simp at h;subst h;rfl,hJ.out⟩
theorem zo8 (b:UInt8) (t:Bs) (v:Value) (w:World) (S:Nat→Prop) (h:SB S (b :: t) v w) (hlen:t.length≤1125899906842624) (G:Int × Nat) (hG:zlg (b :: t) 2 (zcx ((b.toNat:Int) - 192) (t.take 1))=G) (hk:2≤t.length+1) (hcl:192≤b.toNat∧b.toNat<224) :
 Calls ze 225 #[v] w fun e w'=>e = .returned (.tuple #[.int .i64 G.1,.int .i64 G.2])∧Fr NoB w w':=by
 obtain⟨g,o,hN,rfl,hh,hS,hlt,hH⟩:=h.cellsAt (by simp);rw[zo]at hh;have h0:=hH 0 b rfl;rw[Nat.add_zero]at h0;have hb:=UInt8.toNat_lt b;have HG:=za hG;have HH:=za h;have Hcell:=za hH;have Hk:=za hk;rw[zo];have b1:(192:Int)≤b.toNat:=by omega
 have b2:(b.toNat:Int) - 192<32:=by omega
 have b4:2≤(t.length:Int)+1:=by omega
 have hc0:0≤(b.toNat:Int) - 192:=by omega
 have hj:(b.toNat:Int) - 192<128:=by omega
 clear h hH hG hk hcl;go_enter Tryz.func225,Tryz.ntmps225
 go_wp2_with fail
 all_goals
  go_loopg [4,6] 2 (fun q vc vi wr=>∃ (c:Int) (i:Nat),vc = .int .i64 c∧vi = .int .i64 i∧1≤i∧i≤2∧i+q=3∧0≤c∧c<128 * 64 ^ (i - 1)∧wr=w∧Hid (zlg (b :: t) 2 (zcx c ((t.take 1).drop (i - 1)))=G))
  case atStart=>exact⟨_,1,rfl,rfl,by omega,by omega,by omega,by omega,by omega,rfl,HG⟩
  case round =>
   obtain⟨c,i,rfl,rfl,hQ,hg,hd,hj,hL,rfl,HR⟩:=hrel;clear HG;by_cases hf:i<2
   ·skip
    have hJ:=Hk.out;obtain⟨x,hx⟩:∃ x,t[i - 1]? = some x:=⟨_,List.getElem?_eq_getElem (by omega)⟩;have hxc:=Hcell.out i x (by rw[← hx,show i=(i - 1)+1 by omega,List.getElem?_cons_succ];rfl);have hxb:=UInt8.toNat_lt x;have hi:=zju hQ (by omega:i≤4) hL;have hR:=HR.out;rw[zd5 hx (by omega),zcx]at hR;have hlen2:(i:Int)<(t.length:Int)+1:=by omega
    clear HR hx;by_cases hO:x.toNat<128
    ·rw[if_pos (.inl hO)]at hR;have hX:(x.toNat:Int)<128:=by omega
     simp only[zlg]at hR;subst hR;clear hO hL hJ
     go_wp2_with fail
     go_ret2;exact⟨rfl,Fr.refl⟩
    by_cases hV:191<x.toNat
    ·rw[if_pos (.inr hV)]at hR;have hX:¬ (x.toNat:Int)<128:=by omega
     have ha:(191:Int)<x.toNat:=by omega
     simp only[zlg]at hR;subst hR;clear hO hV hL hJ
     go_wp2_with fail
     go_ret2;exact⟨rfl,Fr.refl⟩
    rw[if_neg (by omega)]at hR;have hX:(128:Int)≤x.toNat:=by omega
    have ha:(x.toNat:Int)≤191:=by omega
    have hY:=zpf (x:=x.toNat) hQ hL (by omega);have HR:=za hR;have hl:=za hY;clear hR hY hO hV hL hJ
    go_wp2_with fail
    go_roundg (gk - 1)
    case measure=>omega
    case rel=>exact⟨_,i+1,rfl,by simp,by omega,by omega,by omega,by omega,hl.out,rfl,by rw[show i+1 - 1=i - 1+1 by omega];exact HR⟩
   obtain rfl:i=2:=by omega
   have hR:=HR.out;rw[List.drop_eq_nil_of_le (by rw[List.length_take];omega),zcx]at hR;simp only[zlg]at hR;have hi:=zju hQ (by omega) hL;have hc:=Hk.out;have hln:2≤(t.length:Int)+1:=by omega
   have hcq:2≤(hN:Int):=by omega
   clear HR hL hQ hg hf hd hc;by_cases ho:zi9 c
   ·rw [if_pos (.inl ho)]at hR;subst hR;rcases ho with ho | ⟨ho1,ho2⟩
    ·have e1:decide ((1114111:Int)<c)=true:=by rw[decide_eq_true_eq];exact ho
     clear ho
     go_wp2_with fail
     go_quiet (fail)
     go_wp2_with fail
     go_ret2;exact⟨rfl,zd2 _ _⟩
    have e1:decide ((1114111:Int)<c)=false:=by rw[decide_eq_false_iff_not];omega
    have e2:decide ((55296:Int)≤c)=true:=by rw[decide_eq_true_eq];exact ho1
    have e3:decide (c≤57343)=true:=by rw[decide_eq_true_eq];exact ho2
    clear ho1 ho2
    go_wp2_with fail
    go_quiet (fail)
    go_wp2_with fail
    go_ret2;exact⟨rfl,zd2 _ _⟩
   have hP:Sc c:=by unfold zi9 at ho;unfold Sc;omega
   have hs:=fun W=>zeb c hP W
   have e1:decide ((1114111:Int)<c)=false:=by rw[decide_eq_false_iff_not];unfold zi9 at ho;omega
   have hW:=HH.out.take 2 Hk.out;have hT:=(hW.fr ((Fr.refl (M:=NoB)).drew) (fun _ _ _ _ h=>h)).text;obtain⟨B,hB⟩:∃ B,(zc c==(b :: t).take 2)=B:=⟨_,rfl⟩
   have hZ:(if B=true then (c,2) else (0,0))=G:=by
    rw[← hR,← hB];by_cases he:zc c=(b :: t).take 2
    ·rw[if_pos (by simpa using he),if_neg (by rintro(h | h);exact ho h;exact h he)]
    rw[if_neg (by simpa using he),if_pos (.inr he)]
   generalize zc c=X1 at *;generalize (b :: t).take 2=X2 at *;have Hs:=za hs;have HR:=za hZ;have hU:=za hW;clear hR hs hZ hW HH Hcell
   have e2:decide ((55296:Int)≤c)=false∨(decide ((55296:Int)≤c)=true∧decide (c≤57343)=false):=by
    unfold Sc at hP;rcases hP with h | h
    ·left;rw[decide_eq_false_iff_not];omega
    right;exact⟨by rw[decide_eq_true_eq];omega,by rw[decide_eq_false_iff_not];omega⟩
   clear hP ho;rcases e2 with e2 | ⟨e2,e3⟩
   all_goals cases B
   ·skip
    go_wp2_with fail
    refine wp_region_held_drew (S:=(fun W'=>(convert 24 9 (.slice (some ⟨g,o,none⟩) 2 hN)).run ze W' = .ok (.string ⟨X2.toArray⟩) W')) (by kernel_rfl) hT (fun hA=>?_);simp only[qV]
    iterate 12
     first
     | refine qt (v:=undef) rfl (zw ⟨by rfl,rfl⟩) hA ?_
       try simp only[Act.put,qP]
     | refine qt (v:=?_) rfl (zv ⟨by rfl,?_⟩) hA ?_
       rotate_left
       ·intro W hC
        try simp only[qQ]
        go_simp
        try rw[if_neg (by omega)]
        try with_reducible rfl
       try simp only[Act.put,qP]
    refine qi (i:=14) (v:=?_) rfl (zv ⟨by rfl,?_⟩) hA ?_;rotate_left
    ·intro W hC
     try simp only[qQ]
     go_simp
     try rw[if_neg (by omega)]
     try with_reducible rfl
    try simp only[Act.put,qP]
    refine qi (i:=15) (v:=?_) rfl (zv ⟨by rfl,?_⟩) hA ?_;rotate_left
    ·intro W hC
     try simp only[qQ]
     go_simp
     try rw[if_neg (by omega)]
     try with_reducible rfl
    try simp only[Act.put,qP]
    refine qi (i:=16) (v:=?_) rfl (zv ⟨by rfl,?_⟩) hA ?_;rotate_left
    ·intro W hC
     try simp only[qQ]
     go_simp
     try rw[if_neg (by omega)]
     try with_reducible rfl
    try simp only[Act.put,qP]
    refine qi (i:=17) (v:=?_) rfl (zv ⟨by rfl,?_⟩) hA ?_;rotate_left
    ·intro W hC
     try simp only[qQ]
     go_simp
     try rw[if_neg (by omega)]
     try with_reducible rfl
    try simp only[Act.put,qP]
    refine wpAnyH_ready (rs:=[12]) (by kernel_rfl) (by simp) (zl rfl (fun K hK=>?_) AllReadyH.nil)
    try simp only[qQ]
    go_simp
    go_at_call 266;refine(Hs.out _).mono ?_;rintro e w1 ⟨v1,rfl,hF,hE⟩;have hI:=hF.text;have hD:=(hU.out.fr ((Fr.refl (M:=NoB)).drew.trans' hE) (fun _ _ _ _ h=>h)).text
    refine hK.out _ _ hD (fun hA=>?_);clear hK K
    try simp only[Act.put,qP]
    refine wpAnyH_ready (rs:=[13]) (by kernel_rfl) (by simp) (zl rfl (fun K hK=>?_) AllReadyH.nil)
    try simp only[qQ]
    go_simp;refine hK.out _ _ hD (fun hA=>?_);clear hK K
    try simp only[Act.put,qP]
    iterate 2
     refine qt (v:=?_) rfl (zv ⟨by rfl,?_⟩) hA ?_;rotate_left
     ·intro W hC
      try simp only[qQ]
      go_simp
      try rw[if_neg (by omega)]
      try with_reducible rfl
     try simp only[Act.put,qP]
    refine wpAnyH_done (by kernel_rfl) ?_ _;have hM:=za ((Fr.refl (M:=NoB)).drew.trans' hE);clear hE hD hI hF hT
    go_wp2_with fail
    go_ret2;exact⟨by have h:=HR.out;simp at h;subst h;rfl,hM.out⟩
   ·skip
    go_wp2_with fail
    refine wp_region_held_drew (S:=(fun W'=>(convert 24 9 (.slice (some ⟨g,o,none⟩) 2 hN)).run ze W' = .ok (.string ⟨X2.toArray⟩) W')) (by kernel_rfl) hT (fun hA=>?_);simp only[qV]
    iterate 12
     first
     | refine qt (v:=undef) rfl (zw ⟨by rfl,rfl⟩) hA ?_
       try simp only[Act.put,qP]
     | refine qt (v:=?_) rfl (zv ⟨by rfl,?_⟩) hA ?_
       rotate_left
       ·intro W hC
        try simp only[qQ]
        go_simp
        try rw[if_neg (by omega)]
        try with_reducible rfl
       try simp only[Act.put,qP]
    refine qi (i:=14) (v:=?_) rfl (zv ⟨by rfl,?_⟩) hA ?_;rotate_left
    ·intro W hC
     try simp only[qQ]
     go_simp
     try rw[if_neg (by omega)]
     try with_reducible rfl
    try simp only[Act.put,qP]
    refine qi (i:=15) (v:=?_) rfl (zv ⟨by rfl,?_⟩) hA ?_;rotate_left
    ·intro W hC
     try simp only[qQ]
     go_simp
     try rw[if_neg (by omega)]
     try with_reducible rfl
    try simp only[Act.put,qP]
    refine qi (i:=16) (v:=?_) rfl (zv ⟨by rfl,?_⟩) hA ?_;rotate_left
    ·intro W hC
     try simp only[qQ]
     go_simp
     try rw[if_neg (by omega)]
     try with_reducible rfl
    try simp only[Act.put,qP]
    refine qi (i:=17) (v:=?_) rfl (zv ⟨by rfl,?_⟩) hA ?_;rotate_left
    ·intro W hC
     try simp only[qQ]
     go_simp
     try rw[if_neg (by omega)]
     try with_reducible rfl
    try simp only[Act.put,qP]
    refine wpAnyH_ready (rs:=[12]) (by kernel_rfl) (by simp) (zl rfl (fun K hK=>?_) AllReadyH.nil)
    try simp only[qQ]
    go_simp
    go_at_call 266;refine(Hs.out _).mono ?_;rintro e w1 ⟨v1,rfl,hF,hE⟩;have hI:=hF.text;have hD:=(hU.out.fr ((Fr.refl (M:=NoB)).drew.trans' hE) (fun _ _ _ _ h=>h)).text
    refine hK.out _ _ hD (fun hA=>?_);clear hK K
    try simp only[Act.put,qP]
    refine wpAnyH_ready (rs:=[13]) (by kernel_rfl) (by simp) (zl rfl (fun K hK=>?_) AllReadyH.nil)
    try simp only[qQ]
    go_simp;refine hK.out _ _ hD (fun hA=>?_);clear hK K
    try simp only[Act.put,qP]
    iterate 2
     refine qt (v:=?_) rfl (zv ⟨by rfl,?_⟩) hA ?_;rotate_left
     ·intro W hC
      try simp only[qQ]
      go_simp
      try rw[if_neg (by omega)]
      try with_reducible rfl
     try simp only[Act.put,qP]
    refine wpAnyH_done (by kernel_rfl) ?_ _;have hM:=za ((Fr.refl (M:=NoB)).drew.trans' hE);clear hE hD hI hF hT
    go_wp2_with fail
    go_ret2;exact⟨by have h:=HR.out;simp at h;subst h;rfl,hM.out⟩
   ·skip
    go_wp2_with fail
    refine wp_region_held_drew (S:=(fun W'=>(convert 24 9 (.slice (some ⟨g,o,none⟩) 2 hN)).run ze W' = .ok (.string ⟨X2.toArray⟩) W')) (by kernel_rfl) hT (fun hA=>?_);simp only[qV]
    iterate 12
     refine qt (v:=?_) rfl (zv ⟨by rfl,?_⟩) hA ?_;rotate_left
     ·intro W hC
      try simp only[qQ]
      go_simp
      try rw[if_neg (by omega)]
      try with_reducible rfl
     try simp only[Act.put,qP]
    refine qi (i:=14) (v:=?_) rfl (zv ⟨by rfl,?_⟩) hA ?_;rotate_left
    ·intro W hC
     try simp only[qQ]
     go_simp
     try rw[if_neg (by omega)]
     try with_reducible rfl
    try simp only[Act.put,qP]
    refine qi (i:=15) (v:=?_) rfl (zv ⟨by rfl,?_⟩) hA ?_;rotate_left
    ·intro W hC
     try simp only[qQ]
     go_simp
     try rw[if_neg (by omega)]
     try with_reducible rfl
    try simp only[Act.put,qP]
    refine qi (i:=16) (v:=?_) rfl (zv ⟨by rfl,?_⟩) hA ?_;rotate_left
    ·intro W hC
     try simp only[qQ]
     go_simp
     try rw[if_neg (by omega)]
     try with_reducible rfl
    try simp only[Act.put,qP]
    refine qi (i:=17) (v:=?_) rfl (zv ⟨by rfl,?_⟩) hA ?_;rotate_left
    ·intro W hC
     try simp only[qQ]
     go_simp
     try rw[if_neg (by omega)]
     try with_reducible rfl
    try simp only[Act.put,qP]
    refine wpAnyH_ready (rs:=[12]) (by kernel_rfl) (by simp) (zl rfl (fun K hK=>?_) AllReadyH.nil)
    try simp only[qQ]
    go_simp
    go_at_call 266;refine(Hs.out _).mono ?_;rintro e w1 ⟨v1,rfl,hF,hE⟩;have hI:=hF.text;have hD:=(hU.out.fr ((Fr.refl (M:=NoB)).drew.trans' hE) (fun _ _ _ _ h=>h)).text
    refine hK.out _ _ hD (fun hA=>?_);clear hK K
    try simp only[Act.put,qP]
    refine wpAnyH_ready (rs:=[13]) (by kernel_rfl) (by simp) (zl rfl (fun K hK=>?_) AllReadyH.nil)
    try simp only[qQ]
    go_simp;refine hK.out _ _ hD (fun hA=>?_);clear hK K
    try simp only[Act.put,qP]
    iterate 2
     refine qt (v:=?_) rfl (zv ⟨by rfl,?_⟩) hA ?_;rotate_left
     ·intro W hC
      try simp only[qQ]
      go_simp
      try rw[if_neg (by omega)]
      try with_reducible rfl
     try simp only[Act.put,qP]
    refine wpAnyH_done (by kernel_rfl) ?_ _;have hM:=za ((Fr.refl (M:=NoB)).drew.trans' hE);clear hE hD hI hF hT
    go_wp2_with fail
    go_ret2;exact⟨by have h:=HR.out;simp at h;subst h;rfl,hM.out⟩
   skip
   go_wp2_with fail
   refine wp_region_held_drew (S:=(fun W'=>(convert 24 9 (.slice (some ⟨g,o,none⟩) 2 hN)).run ze W' = .ok (.string ⟨X2.toArray⟩) W')) (by kernel_rfl) hT (fun hA=>?_);simp only[qV]
   iterate 12
    refine qt (v:=?_) rfl (zv ⟨by rfl,?_⟩) hA ?_;rotate_left
    ·intro W hC
     try simp only[qQ]
     go_simp
     try rw[if_neg (by omega)]
     try with_reducible rfl
    try simp only[Act.put,qP]
   refine qi (i:=14) (v:=?_) rfl (zv ⟨by rfl,?_⟩) hA ?_;rotate_left
   ·intro W hC
    try simp only[qQ]
    go_simp
    try rw[if_neg (by omega)]
    try with_reducible rfl
   try simp only[Act.put,qP]
   refine qi (i:=15) (v:=?_) rfl (zv ⟨by rfl,?_⟩) hA ?_;rotate_left
   ·intro W hC
    try simp only[qQ]
    go_simp
    try rw[if_neg (by omega)]
    try with_reducible rfl
   try simp only[Act.put,qP]
   refine qi (i:=16) (v:=?_) rfl (zv ⟨by rfl,?_⟩) hA ?_;rotate_left
   ·intro W hC
    try simp only[qQ]
    go_simp
    try rw[if_neg (by omega)]
    try with_reducible rfl
   try simp only[Act.put,qP]
   refine qi (i:=17) (v:=?_) rfl (zv ⟨by rfl,?_⟩) hA ?_;rotate_left
   ·intro W hC
    try simp only[qQ]
    go_simp
    try rw[if_neg (by omega)]
    try with_reducible rfl
   try simp only[Act.put,qP]
   refine wpAnyH_ready (rs:=[12]) (by kernel_rfl) (by simp) (zl rfl (fun K hK=>?_) AllReadyH.nil)
   try simp only[qQ]
   go_simp
   go_at_call 266;refine(Hs.out _).mono ?_;rintro e w1 ⟨v1,rfl,hF,hE⟩;have hI:=hF.text;have hD:=(hU.out.fr ((Fr.refl (M:=NoB)).drew.trans' hE) (fun _ _ _ _ h=>h)).text
   refine hK.out _ _ hD (fun hA=>?_);clear hK K
   try simp only[Act.put,qP]
   refine wpAnyH_ready (rs:=[13]) (by kernel_rfl) (by simp) (zl rfl (fun K hK=>?_) AllReadyH.nil)
   try simp only[qQ]
   go_simp;refine hK.out _ _ hD (fun hA=>?_);clear hK K
   try simp only[Act.put,qP]
   iterate 2
    refine qt (v:=?_) rfl (zv ⟨by rfl,?_⟩) hA ?_;rotate_left
    ·intro W hC
     try simp only[qQ]
     go_simp
     try rw[if_neg (by omega)]
     try with_reducible rfl
    try simp only[Act.put,qP]
   refine wpAnyH_done (by kernel_rfl) ?_ _;have hM:=za ((Fr.refl (M:=NoB)).drew.trans' hE);clear hE hD hI hF hT
   go_wp2_with fail
   go_ret2;exact⟨by have h:=HR.out;simp at h;subst h;rfl,hM.out⟩
theorem zo7 (b:UInt8) (t:Bs) (v:Value) (w:World) (S:Nat→Prop) (h:SB S (b :: t) v w) (hlen:t.length≤1125899906842624) (G:Int × Nat) (hG:zlg (b :: t) 3 (zcx ((b.toNat:Int) - 192 - 32) (t.take 2))=G) (hk:3≤t.length+1) (hcl:224≤b.toNat∧b.toNat<240) :
 Calls ze 225 #[v] w fun e w'=>e = .returned (.tuple #[.int .i64 G.1,.int .i64 G.2])∧Fr NoB w w':=by
 obtain⟨g,o,hN,rfl,hh,hS,hlt,hH⟩:=h.cellsAt (by simp);rw[zo]at hh;have h0:=hH 0 b rfl;rw[Nat.add_zero]at h0;have hb:=UInt8.toNat_lt b;have HG:=za hG;have HH:=za h;have Hcell:=za hH;have Hk:=za hk;rw[zo];have b1:(192:Int)≤b.toNat:=by omega
 have b2:32≤(b.toNat:Int) - 192:=by omega
 have b3:(b.toNat:Int) - 192 - 32<16:=by omega
 have b4:3≤(t.length:Int)+1:=by omega
 have hc0:0≤(b.toNat:Int) - 192 - 32:=by omega
 have hj:(b.toNat:Int) - 192 - 32<128:=by omega
 clear h hH hG hk hcl;go_enter Tryz.func225,Tryz.ntmps225
 go_wp2_with fail
 all_goals
  go_loopg [4,6] 3 (fun q vc vi wr=>∃ (c:Int) (i:Nat),vc = .int .i64 c∧vi = .int .i64 i∧1≤i∧i≤3∧i+q=4∧0≤c∧c<128 * 64 ^ (i - 1)∧wr=w∧Hid (zlg (b :: t) 3 (zcx c ((t.take 2).drop (i - 1)))=G))
  case atStart=>exact⟨_,1,rfl,rfl,by omega,by omega,by omega,by omega,by omega,rfl,HG⟩
  case round =>
   obtain⟨c,i,rfl,rfl,hQ,hg,hd,hj,hL,rfl,HR⟩:=hrel;clear HG;by_cases hf:i<3
   ·skip
    have hJ:=Hk.out;obtain⟨x,hx⟩:∃ x,t[i - 1]? = some x:=⟨_,List.getElem?_eq_getElem (by omega)⟩;have hxc:=Hcell.out i x (by rw[← hx,show i=(i - 1)+1 by omega,List.getElem?_cons_succ];rfl);have hxb:=UInt8.toNat_lt x;have hi:=zju hQ (by omega:i≤4) hL;have hR:=HR.out;rw[zd5 hx (by omega),zcx]at hR;have hlen2:(i:Int)<(t.length:Int)+1:=by omega
    clear HR hx;by_cases hO:x.toNat<128
    ·rw[if_pos (.inl hO)]at hR;have hX:(x.toNat:Int)<128:=by omega
     simp only[zlg]at hR;subst hR;clear hO hL hJ
     go_wp2_with fail
     go_ret2;exact⟨rfl,Fr.refl⟩
    by_cases hV:191<x.toNat
    ·rw[if_pos (.inr hV)]at hR;have hX:¬ (x.toNat:Int)<128:=by omega
     have ha:(191:Int)<x.toNat:=by omega
     simp only[zlg]at hR;subst hR;clear hO hV hL hJ
     go_wp2_with fail
     go_ret2;exact⟨rfl,Fr.refl⟩
    rw[if_neg (by omega)]at hR;have hX:(128:Int)≤x.toNat:=by omega
    have ha:(x.toNat:Int)≤191:=by omega
    have hY:=zpf (x:=x.toNat) hQ hL (by omega);have HR:=za hR;have hl:=za hY;clear hR hY hO hV hL hJ
    go_wp2_with fail
    go_roundg (gk - 1)
    case measure=>omega
    case rel=>exact⟨_,i+1,rfl,by simp,by omega,by omega,by omega,by omega,hl.out,rfl,by rw[show i+1 - 1=i - 1+1 by omega];exact HR⟩
   obtain rfl:i=3:=by omega
   have hR:=HR.out;rw[List.drop_eq_nil_of_le (by rw[List.length_take];omega),zcx]at hR;simp only[zlg]at hR;have hi:=zju hQ (by omega) hL;have hc:=Hk.out;have hln:3≤(t.length:Int)+1:=by omega
   have hcq:3≤(hN:Int):=by omega
   clear HR hL hQ hg hf hd hc;by_cases ho:zi9 c
   ·rw [if_pos (.inl ho)]at hR;subst hR;rcases ho with ho | ⟨ho1,ho2⟩
    ·have e1:decide ((1114111:Int)<c)=true:=by rw[decide_eq_true_eq];exact ho
     clear ho
     go_wp2_with fail
     go_quiet (fail)
     go_wp2_with fail
     go_ret2;exact⟨rfl,zd2 _ _⟩
    have e1:decide ((1114111:Int)<c)=false:=by rw[decide_eq_false_iff_not];omega
    have e2:decide ((55296:Int)≤c)=true:=by rw[decide_eq_true_eq];exact ho1
    have e3:decide (c≤57343)=true:=by rw[decide_eq_true_eq];exact ho2
    clear ho1 ho2
    go_wp2_with fail
    go_quiet (fail)
    go_wp2_with fail
    go_ret2;exact⟨rfl,zd2 _ _⟩
   have hP:Sc c:=by unfold zi9 at ho;unfold Sc;omega
   have hs:=fun W=>zeb c hP W
   have e1:decide ((1114111:Int)<c)=false:=by rw[decide_eq_false_iff_not];unfold zi9 at ho;omega
   have hW:=HH.out.take 3 Hk.out;have hT:=(hW.fr ((Fr.refl (M:=NoB)).drew) (fun _ _ _ _ h=>h)).text;obtain⟨B,hB⟩:∃ B,(zc c==(b :: t).take 3)=B:=⟨_,rfl⟩
   have hZ:(if B=true then (c,3) else (0,0))=G:=by
    rw[← hR,← hB];by_cases he:zc c=(b :: t).take 3
    ·rw[if_pos (by simpa using he),if_neg (by rintro(h | h);exact ho h;exact h he)]
    rw[if_neg (by simpa using he),if_pos (.inr he)]
   generalize zc c=X1 at *;generalize (b :: t).take 3=X2 at *;have Hs:=za hs;have HR:=za hZ;have hU:=za hW;clear hR hs hZ hW HH Hcell
   have e2:decide ((55296:Int)≤c)=false∨(decide ((55296:Int)≤c)=true∧decide (c≤57343)=false):=by
    unfold Sc at hP;rcases hP with h | h
    ·left;rw[decide_eq_false_iff_not];omega
    right;exact⟨by rw[decide_eq_true_eq];omega,by rw[decide_eq_false_iff_not];omega⟩
   clear hP ho;rcases e2 with e2 | ⟨e2,e3⟩
   all_goals cases B
   ·skip
    go_wp2_with fail
    refine wp_region_held_drew (S:=(fun W'=>(convert 24 9 (.slice (some ⟨g,o,none⟩) 3 hN)).run ze W' = .ok (.string ⟨X2.toArray⟩) W')) (by kernel_rfl) hT (fun hA=>?_);simp only[qV]
    iterate 12
     first
     | refine qt (v:=undef) rfl (zw ⟨by rfl,rfl⟩) hA ?_
       try simp only[Act.put,qP]
     | refine qt (v:=?_) rfl (zv ⟨by rfl,?_⟩) hA ?_
       rotate_left
       ·intro W hC
        try simp only[qQ]
        go_simp
        try rw[if_neg (by omega)]
        try with_reducible rfl
       try simp only[Act.put,qP]
    refine qi (i:=14) (v:=?_) rfl (zv ⟨by rfl,?_⟩) hA ?_;rotate_left
    ·intro W hC
     try simp only[qQ]
     go_simp
     try rw[if_neg (by omega)]
     try with_reducible rfl
    try simp only[Act.put,qP]
    refine qi (i:=15) (v:=?_) rfl (zv ⟨by rfl,?_⟩) hA ?_;rotate_left
    ·intro W hC
     try simp only[qQ]
     go_simp
     try rw[if_neg (by omega)]
     try with_reducible rfl
    try simp only[Act.put,qP]
    refine qi (i:=16) (v:=?_) rfl (zv ⟨by rfl,?_⟩) hA ?_;rotate_left
    ·intro W hC
     try simp only[qQ]
     go_simp
     try rw[if_neg (by omega)]
     try with_reducible rfl
    try simp only[Act.put,qP]
    refine qi (i:=17) (v:=?_) rfl (zv ⟨by rfl,?_⟩) hA ?_;rotate_left
    ·intro W hC
     try simp only[qQ]
     go_simp
     try rw[if_neg (by omega)]
     try with_reducible rfl
    try simp only[Act.put,qP]
    refine wpAnyH_ready (rs:=[12]) (by kernel_rfl) (by simp) (zl rfl (fun K hK=>?_) AllReadyH.nil)
    try simp only[qQ]
    go_simp
    go_at_call 266;refine(Hs.out _).mono ?_;rintro e w1 ⟨v1,rfl,hF,hE⟩;have hI:=hF.text;have hD:=(hU.out.fr ((Fr.refl (M:=NoB)).drew.trans' hE) (fun _ _ _ _ h=>h)).text
    refine hK.out _ _ hD (fun hA=>?_);clear hK K
    try simp only[Act.put,qP]
    refine wpAnyH_ready (rs:=[13]) (by kernel_rfl) (by simp) (zl rfl (fun K hK=>?_) AllReadyH.nil)
    try simp only[qQ]
    go_simp;refine hK.out _ _ hD (fun hA=>?_);clear hK K
    try simp only[Act.put,qP]
    iterate 2
     refine qt (v:=?_) rfl (zv ⟨by rfl,?_⟩) hA ?_;rotate_left
     ·intro W hC
      try simp only[qQ]
      go_simp
      try rw[if_neg (by omega)]
      try with_reducible rfl
     try simp only[Act.put,qP]
    refine wpAnyH_done (by kernel_rfl) ?_ _;have hM:=za ((Fr.refl (M:=NoB)).drew.trans' hE);clear hE hD hI hF hT
    go_wp2_with fail
    go_ret2;exact⟨by have h:=HR.out;simp at h;subst h;rfl,hM.out⟩
   ·skip
    go_wp2_with fail
    refine wp_region_held_drew (S:=(fun W'=>(convert 24 9 (.slice (some ⟨g,o,none⟩) 3 hN)).run ze W' = .ok (.string ⟨X2.toArray⟩) W')) (by kernel_rfl) hT (fun hA=>?_);simp only[qV]
    iterate 12
     first
     | refine qt (v:=undef) rfl (zw ⟨by rfl,rfl⟩) hA ?_
       try simp only[Act.put,qP]
     | refine qt (v:=?_) rfl (zv ⟨by rfl,?_⟩) hA ?_
       rotate_left
       ·intro W hC
        try simp only[qQ]
        go_simp
        try rw[if_neg (by omega)]
        try with_reducible rfl
       try simp only[Act.put,qP]
    refine qi (i:=14) (v:=?_) rfl (zv ⟨by rfl,?_⟩) hA ?_;rotate_left
    ·intro W hC
     try simp only[qQ]
     go_simp
     try rw[if_neg (by omega)]
     try with_reducible rfl
    try simp only[Act.put,qP]
    refine qi (i:=15) (v:=?_) rfl (zv ⟨by rfl,?_⟩) hA ?_;rotate_left
    ·intro W hC
     try simp only[qQ]
     go_simp
     try rw[if_neg (by omega)]
     try with_reducible rfl
    try simp only[Act.put,qP]
    refine qi (i:=16) (v:=?_) rfl (zv ⟨by rfl,?_⟩) hA ?_;rotate_left
    ·intro W hC
     try simp only[qQ]
     go_simp
     try rw[if_neg (by omega)]
     try with_reducible rfl
    try simp only[Act.put,qP]
    refine qi (i:=17) (v:=?_) rfl (zv ⟨by rfl,?_⟩) hA ?_;rotate_left
    ·intro W hC
     try simp only[qQ]
     go_simp
     try rw[if_neg (by omega)]
     try with_reducible rfl
    try simp only[Act.put,qP]
    refine wpAnyH_ready (rs:=[12]) (by kernel_rfl) (by simp) (zl rfl (fun K hK=>?_) AllReadyH.nil)
    try simp only[qQ]
    go_simp
    go_at_call 266;refine(Hs.out _).mono ?_;rintro e w1 ⟨v1,rfl,hF,hE⟩;have hI:=hF.text;have hD:=(hU.out.fr ((Fr.refl (M:=NoB)).drew.trans' hE) (fun _ _ _ _ h=>h)).text
    refine hK.out _ _ hD (fun hA=>?_);clear hK K
    try simp only[Act.put,qP]
    refine wpAnyH_ready (rs:=[13]) (by kernel_rfl) (by simp) (zl rfl (fun K hK=>?_) AllReadyH.nil)
    try simp only[qQ]
    go_simp;refine hK.out _ _ hD (fun hA=>?_);clear hK K
    try simp only[Act.put,qP]
    iterate 2
     refine qt (v:=?_) rfl (zv ⟨by rfl,?_⟩) hA ?_;rotate_left
     ·intro W hC
      try simp only[qQ]
      go_simp
      try rw[if_neg (by omega)]
      try with_reducible rfl
     try simp only[Act.put,qP]
    refine wpAnyH_done (by kernel_rfl) ?_ _;have hM:=za ((Fr.refl (M:=NoB)).drew.trans' hE);clear hE hD hI hF hT
    go_wp2_with fail
    go_ret2;exact⟨by have h:=HR.out;simp at h;subst h;rfl,hM.out⟩
   ·skip
    go_wp2_with fail
    refine wp_region_held_drew (S:=(fun W'=>(convert 24 9 (.slice (some ⟨g,o,none⟩) 3 hN)).run ze W' = .ok (.string ⟨X2.toArray⟩) W')) (by kernel_rfl) hT (fun hA=>?_);simp only[qV]
    iterate 12
     refine qt (v:=?_) rfl (zv ⟨by rfl,?_⟩) hA ?_;rotate_left
     ·intro W hC
      try simp only[qQ]
      go_simp
      try rw[if_neg (by omega)]
      try with_reducible rfl
     try simp only[Act.put,qP]
    refine qi (i:=14) (v:=?_) rfl (zv ⟨by rfl,?_⟩) hA ?_;rotate_left
    ·intro W hC
     try simp only[qQ]
     go_simp
     try rw[if_neg (by omega)]
     try with_reducible rfl
    try simp only[Act.put,qP]
    refine qi (i:=15) (v:=?_) rfl (zv ⟨by rfl,?_⟩) hA ?_;rotate_left
    ·intro W hC
     try simp only[qQ]
     go_simp
     try rw[if_neg (by omega)]
     try with_reducible rfl
    try simp only[Act.put,qP]
    refine qi (i:=16) (v:=?_) rfl (zv ⟨by rfl,?_⟩) hA ?_;rotate_left
    ·intro W hC
     try simp only[qQ]
     go_simp
     try rw[if_neg (by omega)]
     try with_reducible rfl
    try simp only[Act.put,qP]
    refine qi (i:=17) (v:=?_) rfl (zv ⟨by rfl,?_⟩) hA ?_;rotate_left
    ·intro W hC
     try simp only[qQ]
     go_simp
     try rw[if_neg (by omega)]
     try with_reducible rfl
    try simp only[Act.put,qP]
    refine wpAnyH_ready (rs:=[12]) (by kernel_rfl) (by simp) (zl rfl (fun K hK=>?_) AllReadyH.nil)
    try simp only[qQ]
    go_simp
    go_at_call 266;refine(Hs.out _).mono ?_;rintro e w1 ⟨v1,rfl,hF,hE⟩;have hI:=hF.text;have hD:=(hU.out.fr ((Fr.refl (M:=NoB)).drew.trans' hE) (fun _ _ _ _ h=>h)).text
    refine hK.out _ _ hD (fun hA=>?_);clear hK K
    try simp only[Act.put,qP]
    refine wpAnyH_ready (rs:=[13]) (by kernel_rfl) (by simp) (zl rfl (fun K hK=>?_) AllReadyH.nil)
    try simp only[qQ]
    go_simp;refine hK.out _ _ hD (fun hA=>?_);clear hK K
    try simp only[Act.put,qP]
    iterate 2
     refine qt (v:=?_) rfl (zv ⟨by rfl,?_⟩) hA ?_;rotate_left
     ·intro W hC
      try simp only[qQ]
      go_simp
      try rw[if_neg (by omega)]
      try with_reducible rfl
     try simp only[Act.put,qP]
    refine wpAnyH_done (by kernel_rfl) ?_ _;have hM:=za ((Fr.refl (M:=NoB)).drew.trans' hE);clear hE hD hI hF hT
    go_wp2_with fail
    go_ret2;exact⟨by have h:=HR.out;simp at h;subst h;rfl,hM.out⟩
   skip
   go_wp2_with fail
   refine wp_region_held_drew (S:=(fun W'=>(convert 24 9 (.slice (some ⟨g,o,none⟩) 3 hN)).run ze W' = .ok (.string ⟨X2.toArray⟩) W')) (by kernel_rfl) hT (fun hA=>?_);simp only[qV]
   iterate 12
    refine qt (v:=?_) rfl (zv ⟨by rfl,?_⟩) hA ?_;rotate_left
    ·intro W hC
     try simp only[qQ]
     go_simp
     try rw[if_neg (by omega)]
     try with_reducible rfl
    try simp only[Act.put,qP]
   refine qi (i:=14) (v:=?_) rfl (zv ⟨by rfl,?_⟩) hA ?_;rotate_left
   ·intro W hC
    try simp only[qQ]
    go_simp
    try rw[if_neg (by omega)]
    try with_reducible rfl
   try simp only[Act.put,qP]
   refine qi (i:=15) (v:=?_) rfl (zv ⟨by rfl,?_⟩) hA ?_;rotate_left
   ·intro W hC
    try simp only[qQ]
    go_simp
    try rw[if_neg (by omega)]
    try with_reducible rfl
   try simp only[Act.put,qP]
   refine qi (i:=16) (v:=?_) rfl (zv ⟨by rfl,?_⟩) hA ?_;rotate_left
   ·intro W hC
    try simp only[qQ]
    go_simp
    try rw[if_neg (by omega)]
    try with_reducible rfl
   try simp only[Act.put,qP]
   refine qi (i:=17) (v:=?_) rfl (zv ⟨by rfl,?_⟩) hA ?_;rotate_left
   ·intro W hC
    try simp only[qQ]
    go_simp
    try rw[if_neg (by omega)]
    try with_reducible rfl
   try simp only[Act.put,qP]
   refine wpAnyH_ready (rs:=[12]) (by kernel_rfl) (by simp) (zl rfl (fun K hK=>?_) AllReadyH.nil)
   try simp only[qQ]
   go_simp
   go_at_call 266;refine(Hs.out _).mono ?_;rintro e w1 ⟨v1,rfl,hF,hE⟩;have hI:=hF.text;have hD:=(hU.out.fr ((Fr.refl (M:=NoB)).drew.trans' hE) (fun _ _ _ _ h=>h)).text
   refine hK.out _ _ hD (fun hA=>?_);clear hK K
   try simp only[Act.put,qP]
   refine wpAnyH_ready (rs:=[13]) (by kernel_rfl) (by simp) (zl rfl (fun K hK=>?_) AllReadyH.nil)
   try simp only[qQ]
   go_simp;refine hK.out _ _ hD (fun hA=>?_);clear hK K
   try simp only[Act.put,qP]
   iterate 2
    refine qt (v:=?_) rfl (zv ⟨by rfl,?_⟩) hA ?_;rotate_left
    ·intro W hC
     try simp only[qQ]
     go_simp
     try rw[if_neg (by omega)]
     try with_reducible rfl
    try simp only[Act.put,qP]
   refine wpAnyH_done (by kernel_rfl) ?_ _;have hM:=za ((Fr.refl (M:=NoB)).drew.trans' hE);clear hE hD hI hF hT
   go_wp2_with fail
   go_ret2;exact⟨by have h:=HR.out;simp at h;subst h;rfl,hM.out⟩
theorem zo6 (b:UInt8) (t:Bs) (v:Value) (w:World) (S:Nat→Prop) (h:SB S (b :: t) v w) (hlen:t.length≤1125899906842624) (G:Int × Nat) (hG:zlg (b :: t) 4 (zcx ((b.toNat:Int) - 192 - 32 - 16) (t.take 3))=G) (hk:4≤t.length+1) (hcl:240≤b.toNat) :
 Calls ze 225 #[v] w fun e w'=>e = .returned (.tuple #[.int .i64 G.1,.int .i64 G.2])∧Fr NoB w w':=by
 obtain⟨g,o,hN,rfl,hh,hS,hlt,hH⟩:=h.cellsAt (by simp);rw[zo]at hh;have h0:=hH 0 b rfl;rw[Nat.add_zero]at h0;have hb:=UInt8.toNat_lt b;have HG:=za hG;have HH:=za h;have Hcell:=za hH;have Hk:=za hk;rw[zo];have b1:(192:Int)≤b.toNat:=by omega
 have b2:32≤(b.toNat:Int) - 192:=by omega
 have b3:16≤(b.toNat:Int) - 192 - 32:=by omega
 have b4:4≤(t.length:Int)+1:=by omega
 have hc0:0≤(b.toNat:Int) - 192 - 32 - 16:=by omega
 have hj:(b.toNat:Int) - 192 - 32 - 16<128:=by omega
 clear h hH hG hk hcl;go_enter Tryz.func225,Tryz.ntmps225
 go_wp2_with fail
 all_goals
  go_loopg [4,6] 4 (fun q vc vi wr=>∃ (c:Int) (i:Nat),vc = .int .i64 c∧vi = .int .i64 i∧1≤i∧i≤4∧i+q=5∧0≤c∧c<128 * 64 ^ (i - 1)∧wr=w∧Hid (zlg (b :: t) 4 (zcx c ((t.take 3).drop (i - 1)))=G))
  case atStart=>exact⟨_,1,rfl,rfl,by omega,by omega,by omega,by omega,by omega,rfl,HG⟩
  case round =>
   obtain⟨c,i,rfl,rfl,hQ,hg,hd,hj,hL,rfl,HR⟩:=hrel;clear HG;by_cases hf:i<4
   ·skip
    have hJ:=Hk.out;obtain⟨x,hx⟩:∃ x,t[i - 1]? = some x:=⟨_,List.getElem?_eq_getElem (by omega)⟩;have hxc:=Hcell.out i x (by rw[← hx,show i=(i - 1)+1 by omega,List.getElem?_cons_succ];rfl);have hxb:=UInt8.toNat_lt x;have hi:=zju hQ (by omega:i≤4) hL;have hR:=HR.out;rw[zd5 hx (by omega),zcx]at hR;have hlen2:(i:Int)<(t.length:Int)+1:=by omega
    clear HR hx;by_cases hO:x.toNat<128
    ·rw[if_pos (.inl hO)]at hR;have hX:(x.toNat:Int)<128:=by omega
     simp only[zlg]at hR;subst hR;clear hO hL hJ
     go_wp2_with fail
     go_ret2;exact⟨rfl,Fr.refl⟩
    by_cases hV:191<x.toNat
    ·rw[if_pos (.inr hV)]at hR;have hX:¬ (x.toNat:Int)<128:=by omega
     have ha:(191:Int)<x.toNat:=by omega
     simp only[zlg]at hR;subst hR;clear hO hV hL hJ
     go_wp2_with fail
     go_ret2;exact⟨rfl,Fr.refl⟩
    rw[if_neg (by omega)]at hR;have hX:(128:Int)≤x.toNat:=by omega
    have ha:(x.toNat:Int)≤191:=by omega
    have hY:=zpf (x:=x.toNat) hQ hL (by omega);have HR:=za hR;have hl:=za hY;clear hR hY hO hV hL hJ
    go_wp2_with fail
    go_roundg (gk - 1)
    case measure=>omega
    case rel=>exact⟨_,i+1,rfl,by simp,by omega,by omega,by omega,by omega,hl.out,rfl,by rw[show i+1 - 1=i - 1+1 by omega];exact HR⟩
   obtain rfl:i=4:=by omega
   have hR:=HR.out;rw[List.drop_eq_nil_of_le (by rw[List.length_take];omega),zcx]at hR;simp only[zlg]at hR;have hi:=zju hQ (by omega) hL;have hc:=Hk.out;have hln:4≤(t.length:Int)+1:=by omega
   have hcq:4≤(hN:Int):=by omega
   clear HR hL hQ hg hf hd hc;by_cases ho:zi9 c
   ·rw [if_pos (.inl ho)]at hR;subst hR;rcases ho with ho | ⟨ho1,ho2⟩
    ·have e1:decide ((1114111:Int)<c)=true:=by rw[decide_eq_true_eq];exact ho
     clear ho
     go_wp2_with fail
     go_quiet (fail)
     go_wp2_with fail
     go_ret2;exact⟨rfl,zd2 _ _⟩
    have e1:decide ((1114111:Int)<c)=false:=by rw[decide_eq_false_iff_not];omega
    have e2:decide ((55296:Int)≤c)=true:=by rw[decide_eq_true_eq];exact ho1
    have e3:decide (c≤57343)=true:=by rw[decide_eq_true_eq];exact ho2
    clear ho1 ho2
    go_wp2_with fail
    go_quiet (fail)
    go_wp2_with fail
    go_ret2;exact⟨rfl,zd2 _ _⟩
   have hP:Sc c:=by unfold zi9 at ho;unfold Sc;omega
   have hs:=fun W=>zeb c hP W
   have e1:decide ((1114111:Int)<c)=false:=by rw[decide_eq_false_iff_not];unfold zi9 at ho;omega
   have hW:=HH.out.take 4 Hk.out;have hT:=(hW.fr ((Fr.refl (M:=NoB)).drew) (fun _ _ _ _ h=>h)).text;obtain⟨B,hB⟩:∃ B,(zc c==(b :: t).take 4)=B:=⟨_,rfl⟩
   have hZ:(if B=true then (c,4) else (0,0))=G:=by
    rw[← hR,← hB];by_cases he:zc c=(b :: t).take 4
    ·rw[if_pos (by simpa using he),if_neg (by rintro(h | h);exact ho h;exact h he)]
    rw[if_neg (by simpa using he),if_pos (.inr he)]
   generalize zc c=X1 at *;generalize (b :: t).take 4=X2 at *;have Hs:=za hs;have HR:=za hZ;have hU:=za hW;clear hR hs hZ hW HH Hcell
   have e2:decide ((55296:Int)≤c)=false∨(decide ((55296:Int)≤c)=true∧decide (c≤57343)=false):=by
    unfold Sc at hP;rcases hP with h | h
    ·left;rw[decide_eq_false_iff_not];omega
    right;exact⟨by rw[decide_eq_true_eq];omega,by rw[decide_eq_false_iff_not];omega⟩
   clear hP ho;rcases e2 with e2 | ⟨e2,e3⟩
   all_goals cases B
   ·skip
    go_wp2_with fail
    refine wp_region_held_drew (S:=(fun W'=>(convert 24 9 (.slice (some ⟨g,o,none⟩) 4 hN)).run ze W' = .ok (.string ⟨X2.toArray⟩) W')) (by kernel_rfl) hT (fun hA=>?_);simp only[qV]
    iterate 12
     first
     | refine qt (v:=undef) rfl (zw ⟨by rfl,rfl⟩) hA ?_
       try simp only[Act.put,qP]
     | refine qt (v:=?_) rfl (zv ⟨by rfl,?_⟩) hA ?_
       rotate_left
       ·intro W hC
        try simp only[qQ]
        go_simp
        try rw[if_neg (by omega)]
        try with_reducible rfl
       try simp only[Act.put,qP]
    refine qi (i:=14) (v:=?_) rfl (zv ⟨by rfl,?_⟩) hA ?_;rotate_left
    ·intro W hC
     try simp only[qQ]
     go_simp
     try rw[if_neg (by omega)]
     try with_reducible rfl
    try simp only[Act.put,qP]
    refine qi (i:=15) (v:=?_) rfl (zv ⟨by rfl,?_⟩) hA ?_;rotate_left
    ·intro W hC
     try simp only[qQ]
     go_simp
     try rw[if_neg (by omega)]
     try with_reducible rfl
    try simp only[Act.put,qP]
    refine qi (i:=16) (v:=?_) rfl (zv ⟨by rfl,?_⟩) hA ?_;rotate_left
    ·intro W hC
     try simp only[qQ]
     go_simp
     try rw[if_neg (by omega)]
     try with_reducible rfl
    try simp only[Act.put,qP]
    refine qi (i:=17) (v:=?_) rfl (zv ⟨by rfl,?_⟩) hA ?_;rotate_left
    ·intro W hC
     try simp only[qQ]
     go_simp
     try rw[if_neg (by omega)]
     try with_reducible rfl
    try simp only[Act.put,qP]
    refine wpAnyH_ready (rs:=[12]) (by kernel_rfl) (by simp) (zl rfl (fun K hK=>?_) AllReadyH.nil)
    try simp only[qQ]
    go_simp
    go_at_call 266;refine(Hs.out _).mono ?_;rintro e w1 ⟨v1,rfl,hF,hE⟩;have hI:=hF.text;have hD:=(hU.out.fr ((Fr.refl (M:=NoB)).drew.trans' hE) (fun _ _ _ _ h=>h)).text
    refine hK.out _ _ hD (fun hA=>?_);clear hK K
    try simp only[Act.put,qP]
    refine wpAnyH_ready (rs:=[13]) (by kernel_rfl) (by simp) (zl rfl (fun K hK=>?_) AllReadyH.nil)
    try simp only[qQ]
    go_simp;refine hK.out _ _ hD (fun hA=>?_);clear hK K
    try simp only[Act.put,qP]
    iterate 2
     refine qt (v:=?_) rfl (zv ⟨by rfl,?_⟩) hA ?_;rotate_left
     ·intro W hC
      try simp only[qQ]
      go_simp
      try rw[if_neg (by omega)]
      try with_reducible rfl
     try simp only[Act.put,qP]
    refine wpAnyH_done (by kernel_rfl) ?_ _;have hM:=za ((Fr.refl (M:=NoB)).drew.trans' hE);clear hE hD hI hF hT
    go_wp2_with fail
    go_ret2;exact⟨by have h:=HR.out;simp at h;subst h;rfl,hM.out⟩
   ·skip
    go_wp2_with fail
    refine wp_region_held_drew (S:=(fun W'=>(convert 24 9 (.slice (some ⟨g,o,none⟩) 4 hN)).run ze W' = .ok (.string ⟨X2.toArray⟩) W')) (by kernel_rfl) hT (fun hA=>?_);simp only[qV]
    iterate 12
     first
     | refine qt (v:=undef) rfl (zw ⟨by rfl,rfl⟩) hA ?_
       try simp only[Act.put,qP]
     | refine qt (v:=?_) rfl (zv ⟨by rfl,?_⟩) hA ?_
       rotate_left
       ·intro W hC
        try simp only[qQ]
        go_simp
        try rw[if_neg (by omega)]
        try with_reducible rfl
       try simp only[Act.put,qP]
    refine qi (i:=14) (v:=?_) rfl (zv ⟨by rfl,?_⟩) hA ?_;rotate_left
    ·intro W hC
     try simp only[qQ]
     go_simp
     try rw[if_neg (by omega)]
     try with_reducible rfl
    try simp only[Act.put,qP]
    refine qi (i:=15) (v:=?_) rfl (zv ⟨by rfl,?_⟩) hA ?_;rotate_left
    ·intro W hC
     try simp only[qQ]
     go_simp
     try rw[if_neg (by omega)]
     try with_reducible rfl
    try simp only[Act.put,qP]
    refine qi (i:=16) (v:=?_) rfl (zv ⟨by rfl,?_⟩) hA ?_;rotate_left
    ·intro W hC
     try simp only[qQ]
     go_simp
     try rw[if_neg (by omega)]
     try with_reducible rfl
    try simp only[Act.put,qP]
    refine qi (i:=17) (v:=?_) rfl (zv ⟨by rfl,?_⟩) hA ?_;rotate_left
    ·intro W hC
     try simp only[qQ]
     go_simp
     try rw[if_neg (by omega)]
     try with_reducible rfl
    try simp only[Act.put,qP]
    refine wpAnyH_ready (rs:=[12]) (by kernel_rfl) (by simp) (zl rfl (fun K hK=>?_) AllReadyH.nil)
    try simp only[qQ]
    go_simp
    go_at_call 266;refine(Hs.out _).mono ?_;rintro e w1 ⟨v1,rfl,hF,hE⟩;have hI:=hF.text;have hD:=(hU.out.fr ((Fr.refl (M:=NoB)).drew.trans' hE) (fun _ _ _ _ h=>h)).text
    refine hK.out _ _ hD (fun hA=>?_);clear hK K
    try simp only[Act.put,qP]
    refine wpAnyH_ready (rs:=[13]) (by kernel_rfl) (by simp) (zl rfl (fun K hK=>?_) AllReadyH.nil)
    try simp only[qQ]
    go_simp;refine hK.out _ _ hD (fun hA=>?_);clear hK K
    try simp only[Act.put,qP]
    iterate 2
     refine qt (v:=?_) rfl (zv ⟨by rfl,?_⟩) hA ?_;rotate_left
     ·intro W hC
      try simp only[qQ]
      go_simp
      try rw[if_neg (by omega)]
      try with_reducible rfl
     try simp only[Act.put,qP]
    refine wpAnyH_done (by kernel_rfl) ?_ _;have hM:=za ((Fr.refl (M:=NoB)).drew.trans' hE);clear hE hD hI hF hT
    go_wp2_with fail
    go_ret2;exact⟨by have h:=HR.out;simp at h;subst h;rfl,hM.out⟩
   ·skip
    go_wp2_with fail
    refine wp_region_held_drew (S:=(fun W'=>(convert 24 9 (.slice (some ⟨g,o,none⟩) 4 hN)).run ze W' = .ok (.string ⟨X2.toArray⟩) W')) (by kernel_rfl) hT (fun hA=>?_);simp only[qV]
    iterate 12
     refine qt (v:=?_) rfl (zv ⟨by rfl,?_⟩) hA ?_;rotate_left
     ·intro W hC
      try simp only[qQ]
      go_simp
      try rw[if_neg (by omega)]
      try with_reducible rfl
     try simp only[Act.put,qP]
    refine qi (i:=14) (v:=?_) rfl (zv ⟨by rfl,?_⟩) hA ?_;rotate_left
    ·intro W hC
     try simp only[qQ]
     go_simp
     try rw[if_neg (by omega)]
     try with_reducible rfl
    try simp only[Act.put,qP]
    refine qi (i:=15) (v:=?_) rfl (zv ⟨by rfl,?_⟩) hA ?_;rotate_left
    ·intro W hC
     try simp only[qQ]
     go_simp
     try rw[if_neg (by omega)]
     try with_reducible rfl
    try simp only[Act.put,qP]
    refine qi (i:=16) (v:=?_) rfl (zv ⟨by rfl,?_⟩) hA ?_;rotate_left
    ·intro W hC
     try simp only[qQ]
     go_simp
     try rw[if_neg (by omega)]
     try with_reducible rfl
    try simp only[Act.put,qP]
    refine qi (i:=17) (v:=?_) rfl (zv ⟨by rfl,?_⟩) hA ?_;rotate_left
    ·intro W hC
     try simp only[qQ]
     go_simp
     try rw[if_neg (by omega)]
     try with_reducible rfl
    try simp only[Act.put,qP]
    refine wpAnyH_ready (rs:=[12]) (by kernel_rfl) (by simp) (zl rfl (fun K hK=>?_) AllReadyH.nil)
    try simp only[qQ]
    go_simp
    go_at_call 266;refine(Hs.out _).mono ?_;rintro e w1 ⟨v1,rfl,hF,hE⟩;have hI:=hF.text;have hD:=(hU.out.fr ((Fr.refl (M:=NoB)).drew.trans' hE) (fun _ _ _ _ h=>h)).text
    refine hK.out _ _ hD (fun hA=>?_);clear hK K
    try simp only[Act.put,qP]
    refine wpAnyH_ready (rs:=[13]) (by kernel_rfl) (by simp) (zl rfl (fun K hK=>?_) AllReadyH.nil)
    try simp only[qQ]
    go_simp;refine hK.out _ _ hD (fun hA=>?_);clear hK K
    try simp only[Act.put,qP]
    iterate 2
     refine qt (v:=?_) rfl (zv ⟨by rfl,?_⟩) hA ?_;rotate_left
     ·intro W hC
      try simp only[qQ]
      go_simp
      try rw[if_neg (by omega)]
      try with_reducible rfl
     try simp only[Act.put,qP]
    refine wpAnyH_done (by kernel_rfl) ?_ _;have hM:=za ((Fr.refl (M:=NoB)).drew.trans' hE);clear hE hD hI hF hT
    go_wp2_with fail
    go_ret2;exact⟨by have h:=HR.out;simp at h;subst h;rfl,hM.out⟩
   skip
   go_wp2_with fail
   refine wp_region_held_drew (S:=(fun W'=>(convert 24 9 (.slice (some ⟨g,o,none⟩) 4 hN)).run ze W' = .ok (.string ⟨X2.toArray⟩) W')) (by kernel_rfl) hT (fun hA=>?_);simp only[qV]
   iterate 12
    refine qt (v:=?_) rfl (zv ⟨by rfl,?_⟩) hA ?_;rotate_left
    ·intro W hC
     try simp only[qQ]
     go_simp
     try rw[if_neg (by omega)]
     try with_reducible rfl
    try simp only[Act.put,qP]
   refine qi (i:=14) (v:=?_) rfl (zv ⟨by rfl,?_⟩) hA ?_;rotate_left
   ·intro W hC
    try simp only[qQ]
    go_simp
    try rw[if_neg (by omega)]
    try with_reducible rfl
   try simp only[Act.put,qP]
   refine qi (i:=15) (v:=?_) rfl (zv ⟨by rfl,?_⟩) hA ?_;rotate_left
   ·intro W hC
    try simp only[qQ]
    go_simp
    try rw[if_neg (by omega)]
    try with_reducible rfl
   try simp only[Act.put,qP]
   refine qi (i:=16) (v:=?_) rfl (zv ⟨by rfl,?_⟩) hA ?_;rotate_left
   ·intro W hC
    try simp only[qQ]
    go_simp
    try rw[if_neg (by omega)]
    try with_reducible rfl
   try simp only[Act.put,qP]
   refine qi (i:=17) (v:=?_) rfl (zv ⟨by rfl,?_⟩) hA ?_;rotate_left
   ·intro W hC
    try simp only[qQ]
    go_simp
    try rw[if_neg (by omega)]
    try with_reducible rfl
   try simp only[Act.put,qP]
   refine wpAnyH_ready (rs:=[12]) (by kernel_rfl) (by simp) (zl rfl (fun K hK=>?_) AllReadyH.nil)
   try simp only[qQ]
   go_simp
   go_at_call 266;refine(Hs.out _).mono ?_;rintro e w1 ⟨v1,rfl,hF,hE⟩;have hI:=hF.text;have hD:=(hU.out.fr ((Fr.refl (M:=NoB)).drew.trans' hE) (fun _ _ _ _ h=>h)).text
   refine hK.out _ _ hD (fun hA=>?_);clear hK K
   try simp only[Act.put,qP]
   refine wpAnyH_ready (rs:=[13]) (by kernel_rfl) (by simp) (zl rfl (fun K hK=>?_) AllReadyH.nil)
   try simp only[qQ]
   go_simp;refine hK.out _ _ hD (fun hA=>?_);clear hK K
   try simp only[Act.put,qP]
   iterate 2
    refine qt (v:=?_) rfl (zv ⟨by rfl,?_⟩) hA ?_;rotate_left
    ·intro W hC
     try simp only[qQ]
     go_simp
     try rw[if_neg (by omega)]
     try with_reducible rfl
    try simp only[Act.put,qP]
   refine wpAnyH_done (by kernel_rfl) ?_ _;have hM:=za ((Fr.refl (M:=NoB)).drew.trans' hE);clear hE hD hI hF hT
   go_wp2_with fail
   go_ret2;exact⟨by have h:=HR.out;simp at h;subst h;rfl,hM.out⟩
theorem zr4 (s:Bs) (v:Value) (w:World) (S:Nat→Prop) (h:SB S s v w) (hlen:s.length≤1125899906842624) :
 Calls ze 225 #[v] w fun e w'=>e = .returned (.tuple #[.int .i64 (zb8 s).1,.int .i64 (zb8 s).2])∧Fr NoB w w':=by
 rw[← zt4];cases s with
 | nil=>exact zvc v w S h
 | cons b t =>
   rw[zo]at hlen;have hb:=UInt8.toNat_lt b;by_cases h1:b.toNat<128
   ·have e:zca b.toNat=((b.toNat:Int),1):=by unfold zca;rw[if_pos (by omega)]
    exact zo9 b t v w S h (by omega) _ (zfq b t e (by omega)).symm (by omega) h1
   by_cases h2:b.toNat<192
   ·have e:zca b.toNat=((b.toNat:Int),1):=by unfold zca;rw[if_pos h2]
    rw[zdd b t e,if_pos (.inl ⟨rfl,by omega⟩)];exact zg3 b t v w S h (by omega) (by omega)
   by_cases h3:b.toNat<224
   ·have e:zca b.toNat=((b.toNat:Int) - 192,2):=by unfold zca;rw[if_neg h2,if_pos h3]
    by_cases hk:t.length+1<2
    ·rw[zdd b t e,if_pos (.inr hk)];exact zg3 b t v w S h (by omega) (by omega)
    exact zo8 b t v w S h (by omega) _ (zfq b t e (by omega)).symm (by omega) (by omega)
   by_cases h4:b.toNat<240
   ·have e:zca b.toNat=((b.toNat:Int) - 192 - 32,3):=by unfold zca;rw[if_neg h2,if_neg h3,if_pos h4];congr 1;omega
    by_cases hk:t.length+1<3
    ·rw[zdd b t e,if_pos (.inr hk)];exact zg3 b t v w S h (by omega) (by omega)
    exact zo7 b t v w S h (by omega) _ (zfq b t e (by omega)).symm (by omega) (by omega)
   have e:zca b.toNat=((b.toNat:Int) - 192 - 32 - 16,4):=by unfold zca;rw[if_neg h2,if_neg h3,if_neg h4];congr 1;omega
   by_cases hk:t.length+1<4
   ·rw[zdd b t e,if_pos (.inr hk)];exact zg3 b t v w S h (by omega) (by omega)
   exact zo6 b t v w S h (by omega) _ (zfq b t e (by omega)).symm (by omega) (by omega)
end Go.Proofs.YtmgfncjfgkllcaaGreatDoor
