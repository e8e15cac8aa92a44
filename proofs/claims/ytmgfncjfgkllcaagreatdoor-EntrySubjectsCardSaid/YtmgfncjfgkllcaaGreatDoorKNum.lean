/-
 Slices of bytes: how they lie in memory;their conversions from and to texts.
-/
import Derived.Test.YtmgfncjfgkllcaaGreatDoorKUtf
import Derived.Test.YtmgfncjfgkllcaaGreatDoorKSeen
import Derived.Laws.IdiomStrings
import Derived.Lib.BufferRead
import Derived.Laws.AppendOwn
import Derived.Test.YtmgfncjfgkllcaaGreatDoorKReader10
import Derived.Test.YtmgfncjfgkllcaaGreatDoorKStore
open Go.Lib renaming byteCells→zb
open Go.Proofs.Tryz renaming prog→ze
open Go renaming heap_alloc_new→zh
open List renaming length_drop→zr
open Nat renaming le_refl→zt
namespace Go.Proofs.YtmgfncjfgkllcaaGreatDoor
set_option linter.unusedVariables false
set_option linter.unusedSimpArgs false
set_option linter.unusedSectionVars false
set_option maxRecDepth 100000
set_option maxHeartbeats 1000000
section
open Go.RowKit
variable [OldK]

def SB (S:Nat→Prop) (l:Bs) (v:Value) (w:World):Prop:=∃ a cap,v = .slice a l.length cap∧l.length≤cap ∧
 (l=[]∨∃ b o cs T f,a=some ⟨b,o,none⟩∧S b∧(w.heap[b]? = some (.cells cs T f)∧(T=5∨b<OldK.k))∧∀ j (hj:j<l.length),cs[o+j]? = some (.int .u8 (l[j].toNat:Int)))
theorem SB.form {S:Nat→Prop}{l:Bs}{v:Value}{w:World}(h:SB S l v w):∃ a cap,v = .slice a l.length cap:=by
 obtain⟨a,cap,h,_⟩:=h;exact⟨a,cap,h⟩
theorem SB.kp {S S':Nat→Prop}{l:Bs}{v:Value}{w w':World}(h:SB S l v w)(hk:∀ b o,S b→w.heap[b]? = some o→(zbq 5 o∨b<OldK.k)→S' b∧w'.heap[b]? = some o):SB S' l v w':=by
 obtain⟨a,hB,hv,hA,h | ⟨b,o,cs,T,f,h1,h2,⟨h3,hT⟩,h4⟩⟩:=h
 ·exact⟨a,hB,hv,hA,.inl h⟩
 obtain⟨h5,h6⟩:=hk b _ h2 h3 (hT.imp (fun e=>⟨_,_,by rw[e]⟩) id);exact⟨a,hB,hv,hA,.inr ⟨b,o,cs,T,f,h1,h5,⟨h6,hT⟩,h4⟩⟩
theorem SB.fr {M:Nat→Obj→Prop}{S:Nat→Prop}{l:Bs}{v:Value}{w w':World}(h:SB S l v w)(hF:Fr M w w')(hM:∀ b o,S b→(zbq 5 o∨b<OldK.k)→¬ M b o):SB S l v w' :=
 h.kp (fun b o hs hb ht=>⟨hs,hF.block b o hb (hM b o hs ht)⟩)
theorem SB.nil (S:Nat→Prop)(w:World)(cap:Nat):SB S [] (.slice none 0 cap) w:=⟨none,cap,rfl,Nat.zero_le _,.inl rfl⟩
theorem SB.text {S:Nat→Prop} {l:Bs} {v:Value} {w:World} (h:SB S l v w):(convert 24 9 v).run ze w = .ok (.string ⟨l.toArray⟩) w:=by
 obtain⟨a,hA,rfl,_,rfl | ⟨b,o,cs,T,f,rfl,h2,⟨h3,_⟩,h4⟩⟩:=h
 ·cases a with
  | none=>exact Lib.run_convert_nil_bytes w _ _ 5 _ Tryz.underlying24 Tryz.underlying5 Tryz.underlying9
  | some ad=>exact run_convert_bytes_back w _ _ 5 ad hA [] Tryz.underlying24 Tryz.underlying5 Tryz.underlying9 (fun j hj=>absurd hj (Nat.not_lt_zero _))
 refine run_convert_bytes_back w _ _ 5 ⟨b,o,none⟩ hA l Tryz.underlying24 Tryz.underlying5 Tryz.underlying9 (fun j hj=>?_)
 have he:(⟨b,o,none⟩:Addr).add j=⟨b,o+j,none⟩:=by
  by_cases h0:j=0
  ·subst h0;rfl
  simp[Addr.add,h0]
 rw[he];simp[World.cell?,h3,h4 j hj]
theorem SB.made (l:Bs)(w:World):∃ (v:Value) (w':World),(convert 9 24 (.string ⟨l.toArray⟩)).run ze w = .ok v w'∧SB (fun k=>k=w.heap.size) l v w'∧Fr NoB w w':=by
 refine⟨_,_,run_bytes_of_string w _ _ 5 ⟨l.toArray⟩ Tryz.underlying9 Tryz.underlying24 Tryz.underlying5,⟨_,_,rfl,grownCap_ge _ _ _ _,.inr ⟨w.heap.size,0,_,_,_,rfl,rfl,⟨zh w.drew _,.inl rfl⟩,?_⟩⟩,(Fr.refl.drew.alloc _)⟩;intro j hj;rw[Nat.zero_add];unfold bytesRow;rw[Array.getElem?_append_left (by simpa using hj)];simp[hj]
theorem SB.at {S:Nat→Prop}{l:Bs}{v:Value}{w:World}(h:SB S l v w){i:Nat}{x:UInt8}(hi:l[i]? = some x) :
 ∃ b o cap,v = .slice (some ⟨b,o,none⟩) l.length cap∧w.cell? ⟨b,o+i,none⟩=some (.int .u8 x.toNat):=by
 obtain⟨a,cap,rfl,_,rfl | ⟨b,o,cs,T,f,rfl,h2,⟨h3,_⟩,h4⟩⟩:=h
 ·simp at hi
 obtain⟨hl,rfl⟩:=List.getElem?_eq_some_iff.1 hi;refine⟨b,o,cap,rfl,?_⟩;simp[World.cell?,h3,h4 i hl]
theorem SB.cellsAt {S:Nat→Prop}{l:Bs}{v:Value}{w:World}(h:SB S l v w)(hne:l≠[]):∃ b o cap,v = .slice (some ⟨b,o,none⟩) l.length cap∧l.length≤cap∧S b∧b<w.heap.size∧∀ j x,l[j]? = some x→w.cell? ⟨b,o+j,none⟩=some (.int .u8 x.toNat):=by
 obtain⟨a,cap,rfl,hB,rfl | ⟨b,o,cs,T,f,rfl,h2,⟨h3,_⟩,h4⟩⟩:=h
 ·exact absurd rfl hne
 refine⟨b,o,cap,rfl,hB,h2,jb h3,fun j x hj=>?_⟩;obtain⟨hA,rfl⟩:=List.getElem?_eq_some_iff.1 hj;simp[World.cell?,h3,h4 j hA]
theorem SB.take {S:Nat→Prop} {l:Bs} {g o cap:Nat} {n:Nat} {w:World} (h:SB S l (.slice (some ⟨g,o,none⟩) n cap) w) (k:Nat) (hk:k≤l.length):SB S (l.take k) (.slice (some ⟨g,o,none⟩) k cap) w:=by
 obtain⟨a,hA,hv,hcp,rfl | ⟨b,o',cs,T,f,rfl,h2,h3,h4⟩⟩:=h
 ·obtain rfl:k=0:=by simpa using hk
  exact⟨_,cap,rfl,Nat.zero_le _,.inl rfl⟩
 obtain⟨⟨rfl,rfl⟩,rfl,rfl⟩:(g=b∧o=o')∧n=l.length∧cap=hA:=by simpa using hv
 refine⟨_,cap,by rw[List.length_take,Nat.min_eq_left hk],by rw[List.length_take];omega,.inr ⟨g,o,cs,T,f,rfl,h2,h3,fun j hj=>?_⟩⟩;rw[List.length_take]at hj;rw[h4 j (by omega),List.getElem_take]
theorem SB.drop {S:Nat→Prop} {l:Bs} {g o cap:Nat} {n:Nat} {w:World} (h:SB S l (.slice (some ⟨g,o,none⟩) n cap) w) (k:Nat) (hk:k≤l.length) :
 SB S (l.drop k) (.slice (some ⟨g,o+k,none⟩) (l.length - k) (cap - k)) w:=by
 obtain⟨a,hA,hv,hcp,rfl | ⟨b,o',cs,T,f,rfl,h2,h3,h4⟩⟩:=h
 ·obtain rfl:k=0:=by simpa using hk
  exact⟨_,cap - 0,rfl,Nat.zero_le _,.inl rfl⟩
 obtain⟨⟨rfl,rfl⟩,rfl,rfl⟩:(g=b∧o=o')∧n=l.length∧cap=hA:=by simpa using hv
 refine⟨_,cap - k,by rw[zr],by rw[zr];omega,.inr ⟨g,o+k,cs,T,f,rfl,h2,h3,fun j hj=>?_⟩⟩;rw[zr]at hj;rw[Nat.add_assoc,h4 (k+j) (by omega),List.getElem_drop]
theorem SB.none' {S:Nat→Prop}{l:Bs}{g o cap:Nat}{n:Nat}{w:World}(h:SB S l (.slice (some ⟨g,o,none⟩) n cap) w)(c:Nat):SB S [] (.slice (some ⟨g,o,none⟩) 0 c) w:=by
 obtain⟨a,hA,hv,hcp,rfl | ⟨b,o',cs,T,f,rfl,h2,h3,h4⟩⟩:=h
 ·exact⟨_,c,rfl,Nat.zero_le _,.inl rfl⟩
 obtain⟨⟨rfl,rfl⟩,rfl,rfl⟩:(g=b∧o=o')∧n=l.length∧cap=hA:=by simpa using hv
 exact⟨_,c,rfl,Nat.zero_le _,.inr ⟨g,o,cs,T,f,rfl,h2,h3,fun j hj=>absurd hj (Nat.not_lt_zero _)⟩⟩
end
section
open Go.RowKit
variable [OldK]

def zir (n:Nat):Value:=if n=0 then .nilIface else .iface 49 (.int .i64 n)
def zaf (s:Bs):J × Nat:=if 4096<s.length then (J.zero,10) else match zht s with | none=>(J.zero,1) | some j=>(j,0)
theorem zlw {r:Nat}{w w':World}(h:Fr (MR r) w w')(hr:w.heap.size≤r):Fr NoB w w' :=
 (Fr.refl (M:=NoB)).trans h (fun k _ hm => .inr (by rw[hm.1];exact hr))
theorem VB.at {b:Nat}{w:World}{q0 q1 q2 q3 q4:Value}(h:w.heap[b]? = some (.cells #[q0,q1,q2,q3,q4] 56 (0,0))) :
 w.cell? ⟨b,0,none⟩=some q0∧w.cell? ⟨b,1,none⟩=some q1∧w.cell? ⟨b,2,none⟩=some q2∧w.cell? ⟨b,3,none⟩=some q3∧w.cell? ⟨b,4,none⟩=some q4∧(∀ o,w.frozen? ⟨b,o,none⟩=false)∧b<w.heap.size :=
 ⟨by simp[World.cell?,h],by simp[World.cell?,h],by simp[World.cell?,h],by simp[World.cell?,h],by simp[World.cell?,h],by simp[World.frozen?,h],jb h⟩
theorem zub (S:Nat→Prop) (l:Bs) (v:Value) (w:World) (hv:SB S l v w) (hg:Gl w) (hlen:l.length≤maxLen) :
 Calls ze 61 #[v] w fun e w'=>∃ x,e = .returned (.tuple #[x,zir (zaf l).2])∧RJ (fun k=>w.heap.size≤k) w' (zaf l).1 x∧Fr NoB w w':=by
 unfold zaf;have hgs:=hg.size;obtain⟨a,cap,hB⟩:=hv.form;by_cases hl:4096<l.length
 ·simp only[if_pos hl];subst hB;unfold maxLen at hlen;go_enter Tryz.func61,Tryz.ntmps61
  go_wp2_with fail
  obtain⟨a0,a1,a2,a3,a4,fz,hK⟩:=VB.at (zh w (.cells #[.int .i64 0,.int .i64 0,.string ⟨#[]⟩,.slice none 0 0,.slice none 0 0] 56));refine bodyPost_ret (v := .tuple #[.agg #[.int .i64 0,.int .i64 0,.string ⟨#[]⟩,.slice none 0 0,.slice none 0 0],.iface 49 (.int .i64 10)]) (by simp[results,Tryz.results61,go_sem,a0,a1,a2,a3,a4]) rfl ?_;exact⟨_,rfl,RJ.zero _ _,Fr.refl.alloc _⟩
 simp only[if_neg hl];have hC:=fun r W hR hT=>zy3 10 0 r l false W hR hT (by omega) (by omega) (by omega) (by omega)
 have hA:∀ W,Fr NoB w W→(convert 24 9 v).run ze W = .ok (.string ⟨l.toArray⟩) W:=fun W hF=>(hv.fr hF (fun _ _ _ _ h=>h)).text
 have ht:=hA _ (Fr.refl.alloc (.cells #[.int .i64 0,.int .i64 0,.string ⟨#[]⟩,.slice none 0 0,.slice none 0 0] 56));have hl2:decide ((4096:Int)<(l.length:Int))=false:=by rw[decide_eq_false_iff_not];omega
 unfold zht;generalize jg 10 0 ⟨l,false⟩=G at *;obtain⟨j,s1,b1⟩:=G;have Hval:=Lib.hid hC;clear hC hA;simp only;obtain⟨bl,hL⟩:∃ bl,ja s1=bl:=⟨_,rfl⟩;rw[hL];have Hbl:=Lib.hid hL;clear hL
 have hD:(∃ G,G=(match if b1=true∨bl≠[] then none else some j with | none=>(J.zero,1) | some j=>(j,0))∧((b1=true∧G=(J.zero,1))∨(b1=false∧∃ y m,bl=y :: m∧G=(J.zero,1))∨(b1=false∧bl=[]∧G=(j,0)))):=by
  refine⟨_,rfl,?_⟩;cases b1 with
  | true=>left;simp
  | false =>
    right;cases bl with
    | nil=>right;simp
    | cons y m=>left;exact⟨rfl,y,m,rfl,by simp⟩
 obtain⟨G,hG,hc⟩:=hD;rw[← hG];clear hG;rcases hc with⟨rfl,rfl⟩ | ⟨rfl,y,m,rfl,rfl⟩ | ⟨rfl,rfl,rfl⟩
 all_goals
  subst hB;clear hl;go_enter Tryz.func61,Tryz.ntmps61
  go_wp2_with fail
  have hS:(w.alloc (.cells #[.int .i64 0,.int .i64 0,.string ⟨#[]⟩,.slice none 0 0,.slice none 0 0] 56)).heap.size=w.heap.size+1:=World.size_alloc _ _;have hE:=zh (w.alloc (.cells #[.int .i64 0,.int .i64 0,.string ⟨#[]⟩,.slice none 0 0,.slice none 0 0] 56)) (.cells #[.string ⟨l.toArray⟩,.bool false,.int .i64 0] 203);rw[hS]at hE;have hW:=(VB.new w (.int .i64 0) (.int .i64 0) (.string ⟨#[]⟩) (.slice none 0 0) (.slice none 0 0)).fr (Fr.refl.alloc (M:=NoB) (.cells #[.string ⟨l.toArray⟩,.bool false,.int .i64 0] 203)) (fun _ _ h=>h);refine(Hval.out (w.heap.size+1) _ ⟨by omega,hE⟩ ((hg.alloc _).alloc _).zero).mono ?_;rintro e w1 ⟨x,rfl,hj,hX,hN⟩;have hV:=hW.rd hN;obtain⟨jk,jn,jt,jl,jp⟩:=j;have hO:=hj;unfold RJ at hO;obtain⟨x1,n1,x2,n2,rfl,_,_⟩:=hO;have Hj:=Lib.hid hj;clear hj
  go_wp2_with fail
  refine(zeq _ _ _ _ _ (hX.alloc _)).mono ?_;rintro e w2 ⟨rfl,hP,hH⟩;rw[Hbl.out]at hP;have hU:=(hV.fr (Fr.refl.alloc (M:=NoB) _) (fun _ _ h=>h)).rd hH;have hQ:=hH.block _ _ (zh w1 _) (fun⟨_,_,_,hm⟩=>by simp at hm);obtain⟨q0,q1,q2,q3,q4,a0,a1,a2,a3,a4,fz,hK⟩:=hU.cells;obtain⟨b0,b1,b2,b3,b4,bz,blt⟩:=VB.at hQ;obtain⟨c0,c1,c2,f1,hr1⟩:=hP.cells
  go_wp2_with fail
  have hM:Fr (MR (w.heap.size+1)) w w2:=((((Fr.refl.alloc _).alloc _).trans' hN).alloc _).trans' hH;have hJ:=hN.size;have hI:=hH.size;simp only[World.size_alloc]at hJ hI
 ·refine bodyPost_ret (v := .tuple #[.agg #[.int .i64 0,.int .i64 0,.string ⟨#[]⟩,.slice none 0 0,.slice none 0 0],.iface 49 (.int .i64 1)]) (by simp[results,Tryz.results61,go_sem,a0,a1,a2,a3,a4]) rfl ?_;exact⟨_,rfl,RJ.zero _ _,zlw (hM.setV (zt _) _ _ _ _ _) (by omega)⟩
 ·refine bodyPost_ret (v := .tuple #[.agg #[.int .i64 0,.int .i64 0,.string ⟨#[]⟩,.slice none 0 0,.slice none 0 0],.iface 49 (.int .i64 1)]) (by simp[results,Tryz.results61,go_sem,a0,a1,a2,a3,a4]) rfl ?_;exact⟨_,rfl,RJ.zero _ _,zlw (hM.setV (zt _) _ _ _ _ _) (by omega)⟩
 refine bodyPost_ret (v := .tuple #[.agg #[.int .i64 jk,.int .i64 jn,.string ⟨jt.toArray⟩,.slice x1 jl.length n1,.slice x2 jp.length n2],.nilIface]) (by simp[results,Tryz.results61,go_sem,a0,a1,a2,a3,a4]) rfl ?_;refine⟨_,rfl,RJ.kp (fun b o hb ho _=>?_) _ _ (RJ.old _ _ Hj.out),zlw (hM.setV (zt _) _ _ _ _ _) (by omega)⟩;simp only[World.size_alloc]at hb
 rename_i hty
 have h1:=(Fr.refl (M:=NoB)).alloc (.cells #[.int .i64 jk,.int .i64 jn,.string ⟨jt.toArray⟩,.slice x1 jl.length n1,.slice x2 jp.length n2] 56) |>.block b o ho (fun h=>h)
 have h2:=hH.block b o h1 (fun⟨hm,_⟩=>by omega);exact⟨by omega,(q9 _ _ _ _ _ _ _).block b o h2 (by omega)⟩
end
section
open Go.RowKit
variable [OldK]
def OB (B:Nat) (out:Bs) (v:Value) (w:World):Prop:=w.ownsRow B 5 1 v out.length (zb out)
theorem OB.fr {M:Nat→Obj→Prop}{B:Nat}{out:Bs}{v:Value}{w w':World}(h:OB B out v w)(hF:Fr M w w')(hM:∀ k o,B≤k→zbq 5 o→¬ M k o):OB B out v w' :=
 za9 h hF (fun k o _ hk ht=>hM k o hk ht)
theorem OB.sb {B:Nat} {out:Bs} {v:Value} {w:World} (h:OB B out v w):SB (fun k=>B≤k) out v w:=by
 rcases h.2 with⟨rfl,h0⟩ | ⟨g,cap,cur,rfl,hb,hg,hn,hcm,hcs,htake⟩
 ·have:out=[]:=List.length_eq_zero_iff.1 h0;subst this;exact SB.nil _ _ _
 refine⟨_,cap,rfl,by omega,.inr ⟨g,0,cur,_,(0,0),rfl,hb,⟨hg,.inl rfl⟩,fun j hj=>?_⟩⟩
 have h1:(cur.toList.take (out.length * 1))[j]? = some (.int .u8 (out[j].toNat:Int)):=by
  rw[htake];simp[zb,hj]
 rw[List.getElem?_take]at h1;rw[if_pos (by omega)]at h1;rw[Nat.zero_add,← Array.getElem?_toList];exact h1
theorem OB.form {B:Nat}{out:Bs}{v:Value}{w:World}(h:OB B out v w):∃ a c,v = .slice a out.length c:=qj h
theorem OB.one (w:World)(c:UInt8):OB w.heap.size [c] (.slice (some ⟨w.heap.size,0,none⟩) 1 1) (w.alloc (.cells #[.int .u8 c.toNat] 5)) :=
 ⟨rfl,.inr ⟨w.heap.size,1,_,rfl,zt _,zh w _,zt _,by unfold maxLen;decide,rfl,rfl⟩⟩
theorem OB.push {B:Nat}{out news:Bs}{v v':Value}{w W w2:World}(h:OB B out v w)(hW:Fr NoB w W)(hown:w2.ownsRow B 5 1 v' (out.length+news.length) (zb out++zb news))(hg:W.grownBy w2 v.ownBlock) :
 OB B (out++news) v' w2∧Fr (fun k _=>B≤k) w w2:=by
 constructor
 ·unfold OB;rw[List.length_append,Lib.byteCells_append];exact hown
 exact(hW.mono (fun _ _ h=>h.elim)).trans (Fr.ofGrown hg) (fun k o hm => .inl (zam h k hm.symm).1)
end
section
open Go.RowKit
variable [OldK]
theorem z2a (n:Nat) (hn:n≤20) (w:World) :
 Calls ze 33 #[zir n] w fun e w'=>e = .returned (.int .i64 n)∧w=w':=by
 unfold zir;by_cases h0:n=0
 ·subst h0;simp only[if_true];go_enter Tryz.func33,Tryz.ntmps33
  go_wp2_with fail
  go_ret;exact⟨rfl,rfl⟩
 rw[if_neg h0];have h1:((n:Int)==0)=false:=by simpa using h0
 have h2:((n:Int) != 0)=true:=by simpa using h0
 clear h0;have hta:∀ w,(Instr.typeAssert (Value.iface 49 (Value.int .i64 (n:Int))) 32 49 true).run ze w = .ok (.tuple #[.int .i64 n,.bool true]) w:=fun _=>by kernel_rfl
 go_enter Tryz.func33,Tryz.ntmps33
 go_wp2_with fail
 go_ret;exact⟨rfl,rfl⟩
theorem zz0 (n m:Nat)(hn:n≤20)(w:World) :
 Calls ze 24 #[zir n,.int .i64 m] w fun e w'=>e = .returned (.bool (decide (n=m)))∧w=w':=by
 have hN:=fun W=>z2a n hn W
 obtain⟨E,hE⟩:∃ E,zir n=E:=⟨_,rfl⟩;simp only[hE]at hN;rw[hE];have HN:=Lib.hid hN;obtain⟨B,hB⟩:∃ B,decide (n=m)=B:=⟨_,rfl⟩;have hB2:((n:Int)==(m:Int))=B:=by rw[← hB];simp only[BEq.beq,Int.ofNat_inj]
 have hB3:(n==m)=B:=by rw[← hB];rfl
 rw[hB];clear hN hE hB hn;go_enter Tryz.func24,Tryz.ntmps24
 go_wp2_with fail
 refine(HN.out _).mono ?_;rintro e w1 ⟨rfl,rfl⟩
 go_wp2_with fail
 go_ret;exact⟨rfl,rfl⟩
end
end Go.Proofs.YtmgfncjfgkllcaaGreatDoor
