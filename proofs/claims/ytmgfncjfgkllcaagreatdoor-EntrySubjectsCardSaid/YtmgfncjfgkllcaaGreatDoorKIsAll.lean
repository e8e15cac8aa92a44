/-
 In one: Put,Is,Alive.
-/
import Derived.Test.YtmgfncjfgkllcaaGreatDoorKSorted2
import Derived.Test.YtmgfncjfgkllcaaGreatDoorKWriteAll
import Derived.Test.YtmgfncjfgkllcaaGreatDoorKStart5
import Derived.Test.YtmgfncjfgkllcaaGreatDoorKNum
import Derived.Test.YtmgfncjfgkllcaaGreatDoorKCheckE
import Derived.Deep.LoopGhost
import Derived.BigQuiet
import Derived.KernelRfl
import Derived.Lib.SlBytesConst
open Go.Lib renaming hid→za
open Go.World renaming size_alloc→zf
namespace Go.Proofs.YtmgfncjfgkllcaaGreatDoor
set_option linter.unusedVariables false
set_option linter.unusedSimpArgs false
set_option linter.unusedSectionVars false
set_option maxRecDepth 100000
set_option maxHeartbeats 1000000
section
open Go.RowKit
variable [OldK]

theorem RJ.form {S:Nat→Prop}{w:World}{j:J}{v:Value}(h:RJ S w j v):∃ k n t a l c b p e,v = .agg #[.int .i64 k,.int .i64 n,.string t,.slice a l c,.slice b p e]:=by
 obtain⟨k,n,t,l,p⟩:=j;obtain⟨y1,n1,y2,n2,hA,_,_⟩:=h.open;exact⟨_,_,_,_,_,_,_,_,_,hA⟩
theorem TopN.mono {B B':Nat} {w:World} {x:Value} (h:TopN B w x) (hB:B'≤B):TopN B' w x:=by
 obtain⟨k,n,t,a1,n1,c1,a2,n2,c2,e,h1,h2⟩:=h;refine⟨k,n,t,a1,n1,c1,a2,n2,c2,e,?_,?_⟩
 ·rcases h1 with h | ⟨g,cs,ha,hb,hg⟩
  ·exact .inl h
  exact .inr ⟨g,cs,ha,by omega,hg⟩
 rcases h2 with h | ⟨g,cs,ha,hb,hg,hz⟩
 ·exact .inl h
 exact .inr ⟨g,cs,ha,by omega,hg,hz⟩
theorem TopN.setV {B b:Nat} {w:World} {x:Value} (h:TopN B w x) (hB:b<B) (v0 v1 v2 v3 v4:Value):TopN B (setV b v0 v1 v2 v3 v4 w) x:=by
 obtain⟨k,n,t,a1,n1,c1,a2,n2,c2,e,h1,h2⟩:=h;refine⟨k,n,t,a1,n1,c1,a2,n2,c2,e,?_,?_⟩
 ·rcases h1 with h | ⟨g,cs,ha,hb,hg⟩
  ·exact .inl h
  exact .inr ⟨g,cs,ha,hb,(q9 _ _ _ _ _ _ _).block _ _ hg (by omega)⟩
 rcases h2 with h | ⟨g,cs,ha,hb,hg,hz⟩
 ·exact .inl h
 exact .inr ⟨g,cs,ha,hb,(q9 _ _ _ _ _ _ _).block _ _ hg (by omega),hz⟩
theorem zit (N:Nat) (hN:zn7 N) (S:Nat→Prop) (j:J) (v:Value) (w:World) (h:RJ S w j v) (hfit:fits 67108864 j=true) (hfew:few N j=true) :
 Calls Tryz.prog 126 #[v] w fun e w'=>∃ x,e = .returned x∧RJ (fun k=>S k∨w.heap.size≤k) w' (jw 8 j) x∧Fr NoB w w'∧TopN w.heap.size w' x:=by
 obtain⟨k,n,t,a,l,c,b,p,e,rfl⟩:=h.form;have hs:=fun W hW=>zwh N hN 8 0 (fun k=>S k∧k<w.heap.size) j (.agg #[.int .i64 k,.int .i64 n,.string t,.slice a l c,.slice b p e]) W hW hfit hfew (by omega) (by omega)
 have Hs:=za hs;have H:=za h.lt;clear hs h;have hE:=((Fr.refl (M:=NoB)).alloc (w:=w) (.cells #[.int .i64 k,.int .i64 n,.string t,.slice a l c,.slice b p e] 56)).alloc (.cells #[.int .i64 0,.int .i64 0,.string ⟨#[]⟩,.slice none 0 0,.slice none 0 0] 56);have hr:=heap_alloc_new (w.alloc (.cells #[.int .i64 k,.int .i64 n,.string t,.slice a l c,.slice b p e] 56)) (.cells #[.int .i64 0,.int .i64 0,.string ⟨#[]⟩,.slice none 0 0,.slice none 0 0] 56);rw[zf]at hr;have hF:=za hE;have Hr:=za hr;clear hE hr;go_enter Tryz.func126,Tryz.ntmps126
 go_wp2_with fail
 refine(Hs.out _ (RJ.kp (Kp.ofFr hF.out) _ _ H.out)).mono ?_;rintro e w1 ⟨y,rfl,hy,hB,hA⟩;obtain⟨k,n,t,a,l,c,b,p,e,rfl⟩:=hy.form;have hC:=za (hA.resolve_left (by decide));clear hA;obtain⟨a0,a1,a2,a3,a4,fz,hlt1⟩:=VB.at (hB.block _ _ Hr.out (fun h=>h));have Hy:=za hy;have hH:=za hB;clear hy hB
 go_wp2_with fail
 refine bodyPost_ret (v := .agg #[.int .i64 k,.int .i64 n,.string t,.slice a l c,.slice b p e]) (by simp[results,Tryz.results126,go_sem,a0,a1,a2,a3,a4]) rfl ?_;have hd:=Hy.out;simp only[zf]at hd;refine⟨_,rfl,RJ.kp (fun b' o' hD hG _=>⟨?_,(q9 _ _ _ _ _ _ _).block b' o' hG ?_⟩) _ _ hd,(hF.out.trans' hH.out).setV (by omega) _ _ _ _ _,(hC.out.setV (by simp only[zf];omega) _ _ _ _ _).mono (by simp only[zf];omega)⟩
 ·rcases hD with h | h
  ·exact .inl h.1
  right;omega
 rcases hD with h | h<;>omega
theorem z15 (N:Nat) (hN:zn7 N) (S:Nat→Prop) (j:J) (v:Value) (w:World) (h:RJ S w j v) (hfit:fits 67108864 j=true) (hfew:few N j=true) (hg:Gl w) (hlen:(zeh j).length+16≤140737488355328) :
 Calls Tryz.prog 60 #[v] w fun e w'=>∃ x,e = .returned (.tuple #[x,zir (z01 j).2])∧SB (fun k=>w.heap.size≤k) (z01 j).1 x w'∧Fr NoB w w':=by
 obtain⟨k,n,t,a,l,c,b,p,e,rfl⟩:=h.form;have hY:=fun W hW hX=>zvs S j (.agg #[.int .i64 k,.int .i64 n,.string t,.slice a l c,.slice b p e]) W hW hfit hX
 have he:=fun W hW=>zit N hN S j (.agg #[.int .i64 k,.int .i64 n,.string t,.slice a l c,.slice b p e]) W hW hfit hfew
 have hR:=fun B b' v' W S' ho hW hp hX=>zy1 _ (jw 8 j) (Nat.lt_succ_self _) S' B b' [] v' W ho hW hp hX (zsm 8 j hfit) (by simpa[zeh] using hlen)
 have hgs:=hg.size;unfold z01;unfold zqb at hY;change (zeh j).length+16≤_ at hlen;have hq:jz (jw 8 j)=zeh j:=rfl;simp only[hq]at hR;generalize zeh j=T at *;have hj:=(Fr.refl (M:=NoB)).alloc (w:=w) (.cells #[.int .i64 k,.int .i64 n,.string t,.slice a l c,.slice b p e] 56);have hZ:=heap_alloc_new w (.cells #[.int .i64 k,.int .i64 n,.string t,.slice a l c,.slice b p e] 56);obtain⟨c0,c1,c2,c3,c4,cz,clt⟩:=VB.at hZ;have H:=za h.lt;have Hck:=za hY;have Hso:=za he;have Hwr:=za hR;have hF:=za hj;have hk:=za hZ;have hH:=za (hg.alloc (.cells #[.int .i64 k,.int .i64 n,.string t,.slice a l c,.slice b p e] 56));clear h hY he hR hj hZ hfit hfew hg;generalize jw 8 j=J' at *;cases hU:j0 0 j with
 | false =>
   simp only[Bool.false_eq_true,if_false];go_enter Tryz.func60,Tryz.ntmps60
   go_wp2_with fail
   refine(Hck.out _ (RJ.kp (Kp.ofFr hF.out) _ _ H.out |> RJ.kp (S':=S) (Kp.fr (Fr.refl (M:=NoB)) (fun _ h _=>h.1) (fun _ _ _ _ _ h=>h)) _ _) hH.out).mono ?_;rintro e w1 ⟨rfl,hA⟩;have hz:=za hA;rw[hU,show zir (if false=true then 0 else 1) = .iface 49 (.int .i64 1) from rfl];clear hA
   go_wp2_with fail
   go_ret2;exact⟨_,rfl,SB.nil _ _ _,hF.out.trans' hz.out⟩
 | true =>
   simp only[if_true];have hT:∀ W,∃ (v:Value) (w':World),(convert 9 24 (.string ⟨T.toArray⟩)).run Tryz.prog W = .ok v w'∧SB (fun k=>k=W.heap.size) T v w'∧Fr NoB W w':=fun W=>SB.made T W
   have HT:=za hT;clear hT;cases hI:decide (4096<T.length) with
   | true =>
     have hV:(4096:Int)<T.length:=by have:=of_decide_eq_true hI;omega
     rw[if_pos (of_decide_eq_true hI)];clear hI;go_enter Tryz.func60,Tryz.ntmps60
     go_wp2_with fail
     refine(Hck.out _ (RJ.kp (Kp.ofFr hF.out) _ _ H.out |> RJ.kp (S':=S) (Kp.fr (Fr.refl (M:=NoB)) (fun _ h _=>h.1) (fun _ _ _ _ _ h=>h)) _ _) hH.out).mono ?_;rintro e w1 ⟨rfl,hA⟩;rw[hU,show zir (if true=true then 0 else 1) = .nilIface from rfl];have hC:=Bld.fresh w1;have hE:=hA.alloc (.cells #[.pointer none,.slice none 0 0] 198);have hJ:=hH.out.fr hE (fun _ _ _ h=>h.elim);have hB:OldK.k≤w1.heap.size:=Nat.le_trans hH.out.old hA.size;have hG:=hA.size;rw[zf]at hG;obtain⟨hw,hv,hu,ht,hs,hr,ha⟩:=VB.at (hE.block _ _ hk.out (fun h=>h));have hM:=za hE;have hc:=za hJ;have Hbld:=za hC;clear hA hC hE hJ
     go_wp2_with fail
     refine(Hso.out _ (RJ.kp (Kp.ofFr (hF.out.trans' hM.out)) _ _ H.out |> RJ.kp (S':=S) (Kp.fr (Fr.refl (M:=NoB)) (fun _ h _=>h.1) (fun _ _ _ _ _ h=>h)) _ _)).mono ?_;rintro e w2 ⟨y,rfl,hy,hD,_⟩;have hQ:=za hD;have Hy:=za hy;have hd:=za (Hbld.out.keep hD);have hb:=za (hc.out.fr hD (fun _ _ _ h=>h.elim));clear hD hy
     go_wp2_with fail
     refine(Hwr.out _ _ _ _ _ hd.out Hy.out ⟨by omega,hB⟩ hb.out).mono ?_;rintro e w3 ⟨rfl,hK,hL⟩;have hO:=za hK;have hP:=za hL;clear hK hL
     go_wp2_with fail
     refine(z1a _ _ _ _ hO.out).mono ?_;rintro e w4 ⟨rfl,rfl⟩;simp only[List.nil_append]
     go_wp2_with fail
     go_ret2;exact⟨_,rfl,SB.nil _ _ _,((hF.out.trans' hM.out).trans' hQ.out).trans hP.out (fun k o hm => .inr (by have:=hm.1;omega))⟩
   | false =>
     have hV:¬ (4096:Int)<T.length:=by have:=of_decide_eq_false hI;omega
     rw[if_neg (of_decide_eq_false hI)];clear hI;go_enter Tryz.func60,Tryz.ntmps60
     go_wp2_with fail
     refine(Hck.out _ (RJ.kp (Kp.ofFr hF.out) _ _ H.out |> RJ.kp (S':=S) (Kp.fr (Fr.refl (M:=NoB)) (fun _ h _=>h.1) (fun _ _ _ _ _ h=>h)) _ _) hH.out).mono ?_;rintro e w1 ⟨rfl,hA⟩;rw[hU,show zir (if true=true then 0 else 1) = .nilIface from rfl];have hC:=Bld.fresh w1;have hE:=hA.alloc (.cells #[.pointer none,.slice none 0 0] 198);have hJ:=hH.out.fr hE (fun _ _ _ h=>h.elim);have hB:OldK.k≤w1.heap.size:=Nat.le_trans hH.out.old hA.size;have hG:=hA.size;rw[zf]at hG;obtain⟨hw,hv,hu,ht,hs,hr,ha⟩:=VB.at (hE.block _ _ hk.out (fun h=>h));have hM:=za hE;have hc:=za hJ;have Hbld:=za hC;clear hA hC hE hJ
     go_wp2_with fail
     refine(Hso.out _ (RJ.kp (Kp.ofFr (hF.out.trans' hM.out)) _ _ H.out |> RJ.kp (S':=S) (Kp.fr (Fr.refl (M:=NoB)) (fun _ h _=>h.1) (fun _ _ _ _ _ h=>h)) _ _)).mono ?_;rintro e w2 ⟨y,rfl,hy,hD,_⟩;have hQ:=za hD;have Hy:=za hy;have hd:=za (Hbld.out.keep hD);have hb:=za (hc.out.fr hD (fun _ _ _ h=>h.elim));clear hD hy
     go_wp2_with fail
     refine(Hwr.out _ _ _ _ _ hd.out Hy.out ⟨by omega,hB⟩ hb.out).mono ?_;rintro e w3 ⟨rfl,hK,hL⟩;have hO:=za hK;have hP:=za hL;clear hK hL
     go_wp2_with fail
     refine(z1a _ _ _ _ hO.out).mono ?_;rintro e w4 ⟨rfl,rfl⟩;simp only[List.nil_append]
     go_wp2_with fail
     refine(zgj _ _ _ _ hO.out).mono ?_;rintro e w5 ⟨rfl,hi⟩;simp only[List.nil_append];obtain⟨bv,w6,hrun,hf,hh⟩:=HT.out w5;have hl:=za hi;have hx:=za hh;have Hsb:=za hf;clear hi hf hh
     go_wp2_with fail
     go_ret2;have hS:=hQ.out.size;have hsz4:=hP.out.size;have hsz5:=hl.out.size;rw[zf]at hS;exact⟨_,rfl,Hsb.out.kp (fun b' o' hs' hn _=>⟨by omega,hn⟩),((((hF.out.trans' hM.out).trans' hQ.out).trans hP.out (fun k o hm => .inr (by have:=hm.1;omega))).trans hl.out (fun k o hm => .inr (by have:=hm.1;omega))).trans' hx.out⟩
end
section
open Go.RowKit
variable [OldK]

end
section
open Go.RowKit
variable [OldK]
def t1:Bs:=[123,32,34,98,34,32,58,32,49,44,32,34,97,34,32,58,32,34,92,117,48,48,52,49,34,32,125]
def t2:Bs:=[123,34,97,34,58,34,65,34,44,34,98,34,58,49,125]
def t3:Bs:=[91,32,93]
def j1:J := .mk 5 0 [] [] [([98],.mk 2 1 [] [] []),([97],.mk 3 0 [65] [] [])]
def j2:J := .mk 5 0 [] [] [([97],.mk 3 0 [65] [] []),([98],.mk 2 1 [] [] [])]
mutual
theorem zqp {N M:Nat} (hNM:N≤M):∀ (j:J),few N j=true→few M j=true
 | .mk k n t l p,h=>by
   obtain⟨h1,h2,h3⟩:=few.open h;unfold few;rw[zm6 hNM l h2,zm5 hNM p h3];simp;omega
theorem zm6 {N M:Nat} (hNM:N≤M):∀ (l:List J),fewl N l=true→fewl M l=true
 | [],_=>by unfold fewl;rfl
 | j :: js,h=>by
   unfold fewl at h;rw[Bool.and_eq_true]at h;unfold fewl;rw[zqp hNM j h.1,zm6 hNM js h.2];rfl
theorem zm5 {N M:Nat} (hNM:N≤M):∀ (l:List (Bs × J)),fewp N l=true→fewp M l=true
 | [],_=>by unfold fewp;rfl
 | (_,j) :: js,h=>by
   unfold fewp at h;rw[Bool.and_eq_true]at h;unfold fewp;rw[zqp hNM j h.1,zm5 hNM js h.2];rfl
end

theorem SB.const (l:Bs)(w:World)(cap:Nat)(fr:Nat × Nat)(cs:Array Value)(hcs:cs.toList=l.map fun c=>Value.int .u8 (c.toNat:Int))(hcp:l.length≤cap:=by decide):SB (fun k=>k=w.heap.size) l (.slice (some ⟨w.heap.size,0,none⟩) l.length cap) (w.alloc (.cells cs 5 fr)):=by
 refine⟨_,cap,rfl,hcp,.inr ⟨w.heap.size,0,cs,_,fr,rfl,rfl,⟨heap_alloc_new w _,.inl rfl⟩,fun j hj=>?_⟩⟩;rw[Nat.zero_add,← Array.getElem?_toList,hcs];simp[hj]
end
end Go.Proofs.YtmgfncjfgkllcaaGreatDoor
