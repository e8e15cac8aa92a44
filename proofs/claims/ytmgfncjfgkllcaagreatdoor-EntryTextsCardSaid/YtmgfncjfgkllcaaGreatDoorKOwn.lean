/-
 'x.f=append(x.f,v)',v of several cells: the region that draws its order,by one law;and what the row holds behind it.
-/
import Derived.Test.YtmgfncjfgkllcaaGreatDoorKSeen
import Derived.Deep.RegionLaw
import Derived.Test.YtmgfncjfgkllcaaGreatDoorKSpecSound
import Derived.Laws.IdiomStrings
import Derived.Lib.BufferRead
import Derived.Laws.AppendOwn
open Go.Lib renaming byteCells→zb
open List renaming length_drop→zr
open Nat renaming le_refl→zt
namespace Go.Proofs.YtmgfncjfgkllcaaGreatDoor
set_option linter.unusedVariables false
set_option linter.unusedSimpArgs false
set_option linter.unusedSectionVars false
section
open Go.RowKit

section
variable {P:Program} (w:World)
theorem zdj (base:Nat) (t ty e:TypeId) (i:TypeInfo) (z:Value) (size bytes:Nat) (ht:P.underlying t=some (.slice e)) (hi:P.info? e=some i) (hz:i.zero=some z)
 (hsize:i.size=size) (hby:i.bytes=bytes) (hzs:z.cells.size=size) (hsz:0<size)
 (v:Value) (n:Nat) (xs:List Value) (hown:w.ownsRow base e size v n xs)
 (a:Addr) (m c:Nat) (news:List Value) (hl:news.length=m * size) (hnews:∀ j u,news[j]? = some u→w.cell? (a.add j)=some u) (h1:∀ u∈news,u.oneCell'=true)
 (h63:n+m≤maxLen) (hbytes:(n+m) * bytes≤140737488355328) (hbase:base≤w.heap.size) :
 ∃ v' w',(Builtin.append_ #[t,t] ty #[v,.slice (some a) m c]).run P w = .ok v' w'∧w'.ownsRow base e size v' (n+m) (xs++news)∧w.grownBy w' v.ownBlock ∧
  (∀ k,v'.ownBlock=some k→v.ownBlock=some k∨w.heap.size≤k):=by
 by_cases hD:∃ g hC,v = .slice (some ⟨g,0,none⟩) n hC∧n+m≤hC
 ·obtain⟨g,hC,hv,hr⟩:=hD;rcases hown.2 with⟨h0,_⟩ | ⟨g',cap',hG,h0,hbg,hg,hnc,hcm,hcs,htake⟩
  ·rw[h0]at hv;cases hv
  rw[h0]at hv;cases hv;subst h0;subst hsize;have hH:n * i.size+news.length≤hG.size:=by rw[hl,hcs,← Nat.add_mul];exact Nat.mul_le_mul_right _ hr
  have hA:=run_append_room (P:=P) w t ty e i ht hi g n hC hG hg a m c news hl hnews h1 hr hH;obtain⟨v',w',hB,ho,hF,_⟩:=run_append_own (P:=P) w base t ty e i z i.size bytes ht hi hz rfl hby hzs hsz _ n xs hown a m c news hl hnews h1 h63 hbytes hbase
  injection hA.symm.trans hB with e1 e2
  subst e1;subst e2;exact⟨_,_,hA,ho,hF,fun k hk => .inl hk⟩
 rcases hown.2 with⟨rfl,rfl⟩ | ⟨g,hC,hG,rfl,hbg,hg,hnc,hcm,hcs,htake⟩
 ·obtain⟨v',w',hA,ho,hF,hx⟩:=run_append_own (P:=P) w w.heap.size t ty e i z size bytes ht hi hz hsize hby hzs hsz (.slice none 0 0) 0 xs ⟨hown.1,.inl ⟨rfl,rfl⟩⟩ a m c news hl hnews h1 h63 hbytes (zt _);refine⟨v',w',hA,⟨ho.1,ho.2.imp id ?_⟩,hF,fun k hk => .inr (ho.lt k hk).1⟩;rintro⟨g,hC,hG,h1,h2,h3⟩;exact⟨g,hC,hG,h1,Nat.le_trans hbase h2,h3⟩
 subst hsize
 subst hby
 have hr:¬ n+m≤hC:=fun h=>hD ⟨g,hC,rfl,h⟩
 have hsmall:n+m≤9223372036854775807:=by simp only[maxLen]at h63;omega
 have hE:∀ j u,xs[j]? = some u→w.cell? ((⟨g,0,none⟩:Addr).add j)=some u:=hown.cells (g:=g) rfl;have hA:=run_append_grow (P:=P) w t ty e i z ht hi hz ⟨g,0,none⟩ n hC xs hown.1 hE a m c news hl hnews (by omega) (by omega) (growslice_fits (by omega) hbytes);obtain⟨v',w',hB,ho,hF,_⟩:=run_append_own (P:=P) w base t ty e i z i.size i.bytes ht hi hz rfl rfl hzs hsz _ n xs hown a m c news hl hnews h1 h63 hbytes hbase
 injection hA.symm.trans hB with e1 e2
 subst e1;subst e2;refine⟨_,_,hA,ho,hF,fun k hk => .inr ?_⟩;simp[Value.ownBlock]at hk;omega
end

theorem za4 {P:Program} {ops:Array Oper} {o:Oper} {a:Act} {w:World} {K:Act→World→Prop} {Q:Exit→Act→World→Prop} {E:Prop}
 (hg:o.guard=none) (s x:Operand) (t:TypeId) (hop:o.op=Op.call { callee:=Callee.builtin Builtin.append,args:=#[s,x],argTypes:=#[t,t] })
 (base:Nat) (e:TypeId) (i:TypeInfo) (z:Value) (size bytes:Nat) (ht:P.underlying t=some (.slice e)) (hi:P.info? e=some i) (hz:i.zero=some z)
 (hsize:i.size=size) (hby:i.bytes=bytes) (hzs:z.cells.size=size) (hsz:0<size)
 (v:Value) (n:Nat) (xs:List Value) (hs:a.eval s=v) (hown:w.ownsRow base e size v n xs)
 (ad:Addr) (c:Nat) (news:List Value) (hx:a.eval x = .slice (some ad) 1 c) (hl:news.length=size) (hnews:∀ j u,news[j]? = some u→w.cell? (ad.add j)=some u) (h1:∀ u∈news,u.oneCell'=true)
 (h63:n+1≤maxLen) (hbytes:(n+1) * bytes≤140737488355328) (hbase:base≤w.heap.size)
 (hK:∀ g cap w',w'.ownsRow base e size (.slice (some ⟨g,0,none⟩) (n+1) cap) (n+1) (xs++news)→w.grownBy w' v.ownBlock→(v.ownBlock=some g∨w.heap.size≤g) →
   (∀ j u,news[j]? = some u→w'.cell? ⟨g,n * size+j,none⟩=some u)→(∀ o,w'.frozen? ⟨g,o,none⟩=false)→K (a.put o.dst (.slice (some ⟨g,0,none⟩) (n+1) cap)) w') :
 if Region.wanted o (yielded ops a.tmps)=true then Oper.wp P o a w K Q else E:=by
 have hw:Region.wanted o (yielded ops a.tmps)=true:=by simp[Region.wanted,hg]
 rw[if_pos hw];obtain⟨v',w',hr,ho,hB,hC⟩:=zdj (P:=P) w base t o.type e i z size bytes ht hi hz hsize hby hzs hsz v n xs hown ad 1 c news (by omega) hnews h1 h63 hbytes hbase;unfold Oper.wp execOp;simp only[hop,resolve,invoke,builtin,Sem.run_bind,Sem.run_pure,Result.andThen_ok,List.map_toArray,List.map_cons,List.map_nil,hs,hx,hr];have hA:=ho;rcases ho.2 with⟨rfl,h0⟩ | ⟨g,cap,cur,rfl,hb,hg,hn,hcm,hcs,htake⟩
 ·omega
 refine hK g cap w' hA hB (hC g rfl) (fun j u hj=>?_) (fun o=>by simp[World.frozen?,hg]);have hj':j<news.length:=(List.getElem?_eq_some_iff.1 hj).1
 have hc:=hA.cells (g:=g) rfl (n * size+j) u (by
  rw[List.getElem?_append_right (by rw[hown.1];omega),hown.1]
  simpa using hj)
 rw[Addr.add_lit]at hc;simpa using hc
end
section
open Go.RowKit

def put5 (g o:Nat) (v0 v1 v2 v3 v4:Value) (w:World):World :=
 ((((w.setCell ⟨g,o,none⟩ v0).setCell ⟨g,o+1,none⟩ v1).setCell ⟨g,o+2,none⟩ v2).setCell ⟨g,o+3,none⟩ v3).setCell ⟨g,o+4,none⟩ v4
def put6 (g o:Nat) (v0 v1 v2 v3 v4 v5:Value) (w:World):World:=(put5 g o v0 v1 v2 v3 v4 w).setCell ⟨g,o+5,none⟩ v5
theorem z7 {w:World}{b o:Nat}{cs:Array Value}{e:TypeId}{f:Nat × Nat}(v:Value)(h:w.heap[b]? = some (.cells cs e f)) :
 (w.setCell ⟨b,o,none⟩ v).heap[b]? = some (.cells (cs.setIfInBounds o v) e f):=by
 simp[World.setCell,Array.getElem?_modify,h]
theorem zbn (xs l:List Value)(m i:Nat)(v:Value)(hm:xs.length=m):(xs++l).set (m+i) v=xs++l.set i v:=by
 subst hm;rw[List.set_append,if_neg (by omega)]
 congr 2;omega
theorem znz {w:World} {B:Nat} {e:TypeId} {g n cap:Nat} {xs:List Value} {z0 z1 z2 z3 z4:Value}
 (h:w.ownsRow B e 5 (.slice (some ⟨g,0,none⟩) (n+1) cap) (n+1) (xs++[z0,z1,z2,z3,z4])) (hx:xs.length=n * 5) (v0 v1 v2 v3 v4:Value) :
 (put5 g (n * 5) v0 v1 v2 v3 v4 w).ownsRow B e 5 (.slice (some ⟨g,0,none⟩) (n+1) cap) (n+1) (xs++[v0,v1,v2,v3,v4]):=by
 refine⟨by simp;omega,.inr ?_⟩;rcases h.2 with⟨h1,_⟩ | ⟨g',cap',cur,hv,hb,hg,hn,hcm,hcs,htake⟩
 ·cases h1
 cases hv;have h5:=z7 (o:=n * 5+4) v4 (z7 (o:=n * 5+3) v3 (z7 (o:=n * 5+2) v2 (z7 (o:=n * 5+1) v1 (z7 (o:=n * 5) v0 hg))));refine⟨g,cap,_,rfl,hb,h5,hn,hcm,by simpa using hcs,?_⟩
 have hA:cur.toList=xs++([z0,z1,z2,z3,z4]++cur.toList.drop ((n+1) * 5)):=by
  rw[← List.append_assoc,← htake,List.take_append_drop]
 simp only[Array.toList_setIfInBounds];rw[hA];generalize cur.toList.drop ((n+1) * 5)=rest;have s0:=zbn xs ([z0,z1,z2,z3,z4]++rest) (n * 5) 0 v0 hx;have s1:=zbn xs ([v0,z1,z2,z3,z4]++rest) (n * 5) 1 v1 hx;have s2:=zbn xs ([v0,v1,z2,z3,z4]++rest) (n * 5) 2 v2 hx;have s3:=zbn xs ([v0,v1,v2,z3,z4]++rest) (n * 5) 3 v3 hx;have s4:=zbn xs ([v0,v1,v2,v3,z4]++rest) (n * 5) 4 v4 hx;simp only[Nat.add_zero,List.cons_append,List.set_cons_zero,List.set_cons_succ,List.nil_append]at s0 s1 s2 s3 s4 ⊢;rw[s0,s1,s2,s3,s4];have hl:(n+1) * 5=(xs++[v0,v1,v2,v3,v4]).length:=by simp;omega
 rw[hl];have:xs++v0 :: v1 :: v2 :: v3 :: v4 :: rest=(xs++[v0,v1,v2,v3,v4])++rest:=by simp
 rw[this];exact List.take_left
theorem zgq {w:World} {B:Nat} {e:TypeId} {g n cap:Nat} {xs:List Value} {z0 z1 z2 z3 z4 z5:Value}
 (h:w.ownsRow B e 6 (.slice (some ⟨g,0,none⟩) (n+1) cap) (n+1) (xs++[z0,z1,z2,z3,z4,z5])) (hx:xs.length=n * 6) (v0 v1 v2 v3 v4 v5:Value) :
 (put6 g (n * 6) v0 v1 v2 v3 v4 v5 w).ownsRow B e 6 (.slice (some ⟨g,0,none⟩) (n+1) cap) (n+1) (xs++[v0,v1,v2,v3,v4,v5]):=by
 refine⟨by simp;omega,.inr ?_⟩;rcases h.2 with⟨h1,_⟩ | ⟨g',cap',cur,hv,hb,hg,hn,hcm,hcs,htake⟩
 ·cases h1
 cases hv;have h5:=z7 (o:=n * 6+5) v5 (z7 (o:=n * 6+4) v4 (z7 (o:=n * 6+3) v3 (z7 (o:=n * 6+2) v2 (z7 (o:=n * 6+1) v1 (z7 (o:=n * 6) v0 hg)))));refine⟨g,cap,_,rfl,hb,h5,hn,hcm,by simpa using hcs,?_⟩
 have hA:cur.toList=xs++([z0,z1,z2,z3,z4,z5]++cur.toList.drop ((n+1) * 6)):=by
  rw[← List.append_assoc,← htake,List.take_append_drop]
 simp only[Array.toList_setIfInBounds];rw[hA];generalize cur.toList.drop ((n+1) * 6)=rest;have s0:=zbn xs ([z0,z1,z2,z3,z4,z5]++rest) (n * 6) 0 v0 hx;have s1:=zbn xs ([v0,z1,z2,z3,z4,z5]++rest) (n * 6) 1 v1 hx;have s2:=zbn xs ([v0,v1,z2,z3,z4,z5]++rest) (n * 6) 2 v2 hx;have s3:=zbn xs ([v0,v1,v2,z3,z4,z5]++rest) (n * 6) 3 v3 hx;have s4:=zbn xs ([v0,v1,v2,v3,z4,z5]++rest) (n * 6) 4 v4 hx;have s5:=zbn xs ([v0,v1,v2,v3,v4,z5]++rest) (n * 6) 5 v5 hx;simp only[Nat.add_zero,List.cons_append,List.set_cons_zero,List.set_cons_succ,List.nil_append]at s0 s1 s2 s3 s4 s5 ⊢;rw[s0,s1,s2,s3,s4,s5];have hl:(n+1) * 6=(xs++[v0,v1,v2,v3,v4,v5]).length:=by simp;omega
 rw[hl];have:xs++v0 :: v1 :: v2 :: v3 :: v4 :: v5 :: rest=(xs++[v0,v1,v2,v3,v4,v5])++rest:=by simp
 rw[this];exact List.take_left
theorem zcw {w:World}{g o k:Nat}{v0 v1 v2 v3 v4:Value}(h:k≠g):(put5 g o v0 v1 v2 v3 v4 w).heap[k]? = w.heap[k]?:=by
 unfold put5;rw[Below.heap_setCell _ _ _ _ h,Below.heap_setCell _ _ _ _ h,Below.heap_setCell _ _ _ _ h,Below.heap_setCell _ _ _ _ h,Below.heap_setCell _ _ _ _ h]
theorem zbz {w:World}{g o k:Nat}{v0 v1 v2 v3 v4 v5:Value}(h:k≠g):(put6 g o v0 v1 v2 v3 v4 v5 w).heap[k]? = w.heap[k]?:=by
 unfold put6;rw[Below.heap_setCell _ _ _ _ h,zcw h]
theorem Fr.put5 {M:Nat→Obj→Prop}{w w1:World}(h:Fr M w w1)(g o:Nat)(v0 v1 v2 v3 v4:Value)(hg:∀ x,w.heap[g]? = some x→M g x):Fr M w (put5 g o v0 v1 v2 v3 v4 w1) :=
 ((((h.setCell _ _ hg).setCell _ _ hg).setCell _ _ hg).setCell _ _ hg).setCell _ _ hg
theorem Fr.put6 {M:Nat→Obj→Prop}{w w1:World}(h:Fr M w w1)(g o:Nat)(v0 v1 v2 v3 v4 v5:Value)(hg:∀ x,w.heap[g]? = some x→M g x):Fr M w (put6 g o v0 v1 v2 v3 v4 v5 w1) :=
 (h.put5 g o v0 v1 v2 v3 v4 hg).setCell _ _ hg
structure But2 (g b:Nat) (w w':World):Prop where
 os:w'.os=w.os
 tape:w'.tape=w.tape
 output:w'.output=w.output
 size:w'.heap.size=w.heap.size
 block:∀ k,k≠g→k≠b→w'.heap[k]? = w.heap[k]?
theorem zef (w:World)(a:Addr)(v:Value):(w.setCell a v).os=w.os:=rfl
theorem zbk (w:World)(a:Addr)(v:Value):(w.setCell a v).output=w.output:=rfl
theorem But2.put5 (g b o c:Nat)(v0 v1 v2 v3 v4 x:Value)(w:World):But2 g b w ((put5 g o v0 v1 v2 v3 v4 w).setCell ⟨b,c,none⟩ x) :=
 ⟨by simp only[Go.Proofs.YtmgfncjfgkllcaaGreatDoor.put5,zef],by simp only[Go.Proofs.YtmgfncjfgkllcaaGreatDoor.put5,World.tape_setCell],by simp only[Go.Proofs.YtmgfncjfgkllcaaGreatDoor.put5,zbk],by simp only[Go.Proofs.YtmgfncjfgkllcaaGreatDoor.put5,World.size_setCell],fun k h1 h2=>by rw[Below.heap_setCell _ _ _ _ h2,zcw h1]⟩
theorem But2.put5' (g b o c:Nat)(v0 v1 v2 v3 v4 x:Value)(w:World):But2 g b w (Go.Proofs.YtmgfncjfgkllcaaGreatDoor.put5 g o v0 v1 v2 v3 v4 (w.setCell ⟨b,c,none⟩ x)) :=
 ⟨by simp only[Go.Proofs.YtmgfncjfgkllcaaGreatDoor.put5,zef],by simp only[Go.Proofs.YtmgfncjfgkllcaaGreatDoor.put5,World.tape_setCell],by simp only[Go.Proofs.YtmgfncjfgkllcaaGreatDoor.put5,zbk],by simp only[Go.Proofs.YtmgfncjfgkllcaaGreatDoor.put5,World.size_setCell],fun k h1 h2=>by rw[zcw h1,Below.heap_setCell _ _ _ _ h2]⟩
theorem But2.put6 (g b o c:Nat)(v0 v1 v2 v3 v4 v5 x:Value)(w:World):But2 g b w ((put6 g o v0 v1 v2 v3 v4 v5 w).setCell ⟨b,c,none⟩ x) :=
 ⟨by simp only[Go.Proofs.YtmgfncjfgkllcaaGreatDoor.put6,Go.Proofs.YtmgfncjfgkllcaaGreatDoor.put5,zef],by simp only[Go.Proofs.YtmgfncjfgkllcaaGreatDoor.put6,Go.Proofs.YtmgfncjfgkllcaaGreatDoor.put5,World.tape_setCell],by simp only[Go.Proofs.YtmgfncjfgkllcaaGreatDoor.put6,Go.Proofs.YtmgfncjfgkllcaaGreatDoor.put5,zbk],by simp only[Go.Proofs.YtmgfncjfgkllcaaGreatDoor.put6,Go.Proofs.YtmgfncjfgkllcaaGreatDoor.put5,World.size_setCell],fun k h1 h2=>by rw[Below.heap_setCell _ _ _ _ h2,zbz h1]⟩
theorem But2.put6' (g b o c:Nat)(v0 v1 v2 v3 v4 v5 x:Value)(w:World):But2 g b w (Go.Proofs.YtmgfncjfgkllcaaGreatDoor.put6 g o v0 v1 v2 v3 v4 v5 (w.setCell ⟨b,c,none⟩ x)) :=
 ⟨by simp only[Go.Proofs.YtmgfncjfgkllcaaGreatDoor.put6,Go.Proofs.YtmgfncjfgkllcaaGreatDoor.put5,zef],by simp only[Go.Proofs.YtmgfncjfgkllcaaGreatDoor.put6,Go.Proofs.YtmgfncjfgkllcaaGreatDoor.put5,World.tape_setCell],by simp only[Go.Proofs.YtmgfncjfgkllcaaGreatDoor.put6,Go.Proofs.YtmgfncjfgkllcaaGreatDoor.put5,zbk],by simp only[Go.Proofs.YtmgfncjfgkllcaaGreatDoor.put6,Go.Proofs.YtmgfncjfgkllcaaGreatDoor.put5,World.size_setCell],fun k h1 h2=>by rw[zbz h1,Below.heap_setCell _ _ _ _ h2]⟩
theorem But2.fr {g b:Nat}{w w':World}(h:But2 g b w w'):Fr (fun k _=>k=g∨k=b) w w' :=
 ⟨h.os,h.tape,h.output,by rw[h.size];exact zt _,fun k o hk hn=>by rw[h.block k (fun e=>hn (.inl e)) (fun e=>hn (.inr e))];exact hk⟩
theorem zen {w1 w2:World}{X Z:Obj}{row:Option Nat}(hgr:((w1.alloc X).alloc Z).drew.grownBy w2 row){k:Nat}(hk:k<w1.heap.size)(hne:row≠some k):w2.heap[k]? = w1.heap[k]?:=by
 rw[hgr.block k (by simp;omega) (fun e=>hne e.symm)];show((w1.alloc X).alloc Z).heap[k]? = _;rw[Below.heap_alloc _ _ _ (by simp;omega),Below.heap_alloc _ _ _ hk]
theorem zki {w1 w2:World}{X Z:Obj}{row:Option Nat}(hgr:((w1.alloc X).alloc Z).drew.grownBy w2 row):Fr (fun k _=>row=some k) w1 w2 :=
 ⟨hgr.os,hgr.tape,hgr.output,by have:=hgr.size;simp at this;omega,fun k o hk hn=>by rw[zen hgr (jb hk) hn];exact hk⟩
theorem zdb (w:World)(T:TypeId)(xs:List Value)(n:Nat)(hn:n=w.heap.size):∀ j u,xs[j]? = some u→(w.alloc (.cells xs.toArray T)).cell? ((⟨n,0,none⟩:Addr).add j)=some u:=by
 subst hn;intro j u hj;rw[Addr.add_lit];simpa using hj
theorem za9 {w w':World}{B:Nat}{e:TypeId}{size:Nat}{v:Value}{n:Nat}{xs:List Value}(h:w.ownsRow B e size v n xs)
 (hk:∀ k,v.ownBlock=some k→w'.heap[k]? = w.heap[k]?):w'.ownsRow B e size v n xs:=by
 refine⟨h.1,?_⟩;rcases h.2 with h1 | ⟨g,cap,cur,rfl,hb,hg,rest⟩
 ·exact .inl h1
 exact .inr ⟨g,cap,cur,rfl,hb,by rw[hk g rfl];exact hg,rest⟩
theorem qy {w:World}{B:Nat}{e:TypeId}{size:Nat}{v:Value}{n:Nat}{xs:List Value}(h:w.ownsRow B e size v n xs) :
 ∀ k,v.ownBlock=some k→B≤k∧∃ o,w.heap[k]? = some o∧zav e o:=by
 intro k hk;rcases h.2 with⟨rfl,_⟩ | ⟨g,cap,cur,rfl,hb,hg,rest⟩
 ·simp[Value.ownBlock]at hk
 simp[Value.ownBlock]at hk;subst hk;exact⟨hb,_,hg,_,_,rfl⟩
theorem za1 {M:Nat→Obj→Prop} {w w':World} {B:Nat} {e:TypeId} {size:Nat} {v:Value} {n:Nat} {xs:List Value} (h:w.ownsRow B e size v n xs) (hF:Fr M w w')
 (hM:∀ k o,v.ownBlock=some k→B≤k→zav e o→¬ M k o):w'.ownsRow B e size v n xs :=
 za9 h (fun k hk=>by
  obtain⟨hb,o,ho,ht⟩:=qy h k hk
  rw[ho];exact hF.block k o ho (hM k o hk hb ht))
theorem qg {w:World}{B:Nat}{e:TypeId}{size:Nat}{v:Value}{n:Nat}{xs:List Value}(h:w.ownsRow B e size v n xs):∃ a c,v = .slice a n c:=by
 rcases h.2 with⟨rfl,rfl⟩ | ⟨g,cap,cur,rfl,_⟩
 ·exact⟨_,_,rfl⟩
 exact⟨_,_,rfl⟩
end
section
open Go.RowKit
variable [OldK]

def SB (S:Nat→Prop) (l:Bs) (v:Value) (w:World):Prop:=∃ a cap,v = .slice a l.length cap∧l.length≤cap ∧
 (l=[]∨∃ b o cs T f,a=some ⟨b,o,none⟩∧S b∧(w.heap[b]? = some (.cells cs T f)∧(T=5∨b<OldK.k))∧∀ j (hj:j<l.length),cs[o+j]? = some (.int .u8 (l[j].toNat:Int)))
theorem SB.form {S:Nat→Prop}{l:Bs}{v:Value}{w:World}(h:SB S l v w):∃ a cap,v = .slice a l.length cap:=by
 obtain⟨a,cap,h,_⟩:=h;exact⟨a,cap,h⟩
theorem SB.kp {S S':Nat→Prop}{l:Bs}{v:Value}{w w':World}(h:SB S l v w)(hk:∀ b o,S b→w.heap[b]? = some o→(zav 5 o∨b<OldK.k)→S' b∧w'.heap[b]? = some o):SB S' l v w':=by
 obtain⟨a,hB,hv,hA,h | ⟨b,o,cs,T,f,h1,h2,⟨h3,hT⟩,h4⟩⟩:=h
 ·exact⟨a,hB,hv,hA,.inl h⟩
 obtain⟨h5,h6⟩:=hk b _ h2 h3 (hT.imp (fun e=>⟨_,_,by rw[e]⟩) id);exact⟨a,hB,hv,hA,.inr ⟨b,o,cs,T,f,h1,h5,⟨h6,hT⟩,h4⟩⟩
theorem SB.fr {M:Nat→Obj→Prop}{S:Nat→Prop}{l:Bs}{v:Value}{w w':World}(h:SB S l v w)(hF:Fr M w w')(hM:∀ b o,S b→(zav 5 o∨b<OldK.k)→¬ M b o):SB S l v w' :=
 h.kp (fun b o hs hb ht=>⟨hs,hF.block b o hb (hM b o hs ht)⟩)
theorem SB.nil (S:Nat→Prop)(w:World)(cap:Nat):SB S [] (.slice none 0 cap) w:=⟨none,cap,rfl,Nat.zero_le _,.inl rfl⟩
theorem SB.text {S:Nat→Prop} {l:Bs} {v:Value} {w:World} (h:SB S l v w):(convert 24 9 v).run Tryz.prog w = .ok (.string ⟨l.toArray⟩) w:=by
 obtain⟨a,hA,rfl,_,rfl | ⟨b,o,cs,T,f,rfl,h2,⟨h3,_⟩,h4⟩⟩:=h
 ·cases a with
  | none=>exact Lib.run_convert_nil_bytes w _ _ 5 _ Tryz.underlying24 Tryz.underlying5 Tryz.underlying9
  | some ad=>exact run_convert_bytes_back w _ _ 5 ad hA [] Tryz.underlying24 Tryz.underlying5 Tryz.underlying9 (fun j hj=>absurd hj (Nat.not_lt_zero _))
 refine run_convert_bytes_back w _ _ 5 ⟨b,o,none⟩ hA l Tryz.underlying24 Tryz.underlying5 Tryz.underlying9 (fun j hj=>?_)
 have he:(⟨b,o,none⟩:Addr).add j=⟨b,o+j,none⟩:=by
  by_cases h0:j=0
  ·subst h0;rfl
  simp[Addr.add,h0]
 rw[he];simp[World.cell?,h3,h4 j hj]
theorem SB.made (l:Bs)(w:World):∃ (v:Value) (w':World),(convert 9 24 (.string ⟨l.toArray⟩)).run Tryz.prog w = .ok v w'∧SB (fun k=>k=w.heap.size) l v w'∧Fr NoB w w':=by
 refine⟨_,_,run_bytes_of_string w _ _ 5 ⟨l.toArray⟩ Tryz.underlying9 Tryz.underlying24 Tryz.underlying5,⟨_,_,rfl,grownCap_ge _ _ _ _,.inr ⟨w.heap.size,0,_,_,_,rfl,rfl,⟨heap_alloc_new w.drew _,.inl rfl⟩,?_⟩⟩,(Fr.refl.drew.alloc _)⟩;intro j hj;rw[Nat.zero_add];unfold bytesRow;rw[Array.getElem?_append_left (by simpa using hj)];simp[hj]
theorem SB.at {S:Nat→Prop}{l:Bs}{v:Value}{w:World}(h:SB S l v w){i:Nat}{x:UInt8}(hi:l[i]? = some x) :
 ∃ b o cap,v = .slice (some ⟨b,o,none⟩) l.length cap∧w.cell? ⟨b,o+i,none⟩=some (.int .u8 x.toNat):=by
 obtain⟨a,cap,rfl,_,rfl | ⟨b,o,cs,T,f,rfl,h2,⟨h3,_⟩,h4⟩⟩:=h
 ·simp at hi
 obtain⟨hl,rfl⟩:=List.getElem?_eq_some_iff.1 hi;refine⟨b,o,cap,rfl,?_⟩;simp[World.cell?,h3,h4 i hl]
theorem SB.cellsAt {S:Nat→Prop}{l:Bs}{v:Value}{w:World}(h:SB S l v w)(hne:l≠[]):∃ b o cap,v = .slice (some ⟨b,o,none⟩) l.length cap∧l.length≤cap∧S b∧b<w.heap.size∧∀ j x,l[j]? = some x→w.cell? ⟨b,o+j,none⟩=some (.int .u8 x.toNat):=by
 obtain⟨a,cap,rfl,hB,rfl | ⟨b,o,cs,T,f,rfl,h2,⟨h3,_⟩,h4⟩⟩:=h
 ·exact absurd rfl hne
 refine⟨b,o,cap,rfl,hB,h2,jb h3,fun j x hj=>?_⟩;obtain⟨hA,rfl⟩:=List.getElem?_eq_some_iff.1 hj;simp[World.cell?,h3,h4 j hA]
theorem SB.take {S:Nat→Prop} {l:Bs} {g o cap:Nat} {n:Nat} {w:World} (h:SB S l (.slice (some ⟨g,o,none⟩) n cap) w) (k:Nat) (hk:k≤l.length):SB S (l.take k) (.slice (some ⟨g,o,none⟩) k cap) w:=by
 obtain⟨a,hA,hv,hcp,rfl | ⟨b,o',cs,T,f,rfl,h2,h3,h4⟩⟩:=h
 ·obtain rfl:k=0:=by simpa using hk
  exact⟨_,cap,rfl,Nat.zero_le _,.inl rfl⟩
 obtain⟨⟨rfl,rfl⟩,rfl,rfl⟩:(g=b∧o=o')∧n=l.length∧cap=hA:=by simpa using hv
 refine⟨_,cap,by rw[List.length_take,Nat.min_eq_left hk],by rw[List.length_take];omega,.inr ⟨g,o,cs,T,f,rfl,h2,h3,fun j hj=>?_⟩⟩;rw[List.length_take]at hj;rw[h4 j (by omega),List.getElem_take]
theorem SB.drop {S:Nat→Prop} {l:Bs} {g o cap:Nat} {n:Nat} {w:World} (h:SB S l (.slice (some ⟨g,o,none⟩) n cap) w) (k:Nat) (hk:k≤l.length) :
 SB S (l.drop k) (.slice (some ⟨g,o+k,none⟩) (l.length - k) (cap - k)) w:=by
 obtain⟨a,hA,hv,hcp,rfl | ⟨b,o',cs,T,f,rfl,h2,h3,h4⟩⟩:=h
 ·obtain rfl:k=0:=by simpa using hk
  exact⟨_,cap - 0,rfl,Nat.zero_le _,.inl rfl⟩
 obtain⟨⟨rfl,rfl⟩,rfl,rfl⟩:(g=b∧o=o')∧n=l.length∧cap=hA:=by simpa using hv
 refine⟨_,cap - k,by rw[zr],by rw[zr];omega,.inr ⟨g,o+k,cs,T,f,rfl,h2,h3,fun j hj=>?_⟩⟩;rw[zr]at hj;rw[Nat.add_assoc,h4 (k+j) (by omega),List.getElem_drop]
theorem SB.none' {S:Nat→Prop}{l:Bs}{g o cap:Nat}{n:Nat}{w:World}(h:SB S l (.slice (some ⟨g,o,none⟩) n cap) w)(c:Nat):SB S [] (.slice (some ⟨g,o,none⟩) 0 c) w:=by
 obtain⟨a,hA,hv,hcp,rfl | ⟨b,o',cs,T,f,rfl,h2,h3,h4⟩⟩:=h
 ·exact⟨_,c,rfl,Nat.zero_le _,.inl rfl⟩
 obtain⟨⟨rfl,rfl⟩,rfl,rfl⟩:(g=b∧o=o')∧n=l.length∧cap=hA:=by simpa using hv
 exact⟨_,c,rfl,Nat.zero_le _,.inr ⟨g,o,cs,T,f,rfl,h2,h3,fun j hj=>absurd hj (Nat.not_lt_zero _)⟩⟩
end
section
open Go.RowKit
variable [OldK]
def OB (B:Nat) (out:Bs) (v:Value) (w:World):Prop:=w.ownsRow B 5 1 v out.length (zb out)
theorem OB.fr {M:Nat→Obj→Prop}{B:Nat}{out:Bs}{v:Value}{w w':World}(h:OB B out v w)(hF:Fr M w w')(hM:∀ k o,B≤k→zav 5 o→¬ M k o):OB B out v w' :=
 za1 h hF (fun k o _ hk ht=>hM k o hk ht)
theorem OB.sb {B:Nat} {out:Bs} {v:Value} {w:World} (h:OB B out v w):SB (fun k=>B≤k) out v w:=by
 rcases h.2 with⟨rfl,h0⟩ | ⟨g,cap,cur,rfl,hb,hg,hn,hcm,hcs,htake⟩
 ·have:out=[]:=List.length_eq_zero_iff.1 h0;subst this;exact SB.nil _ _ _
 refine⟨_,cap,rfl,by omega,.inr ⟨g,0,cur,_,(0,0),rfl,hb,⟨hg,.inl rfl⟩,fun j hj=>?_⟩⟩
 have h1:(cur.toList.take (out.length * 1))[j]? = some (.int .u8 (out[j].toNat:Int)):=by
  rw[htake];simp[zb,hj]
 rw[List.getElem?_take]at h1;rw[if_pos (by omega)]at h1;rw[Nat.zero_add,← Array.getElem?_toList];exact h1
theorem OB.form {B:Nat}{out:Bs}{v:Value}{w:World}(h:OB B out v w):∃ a c,v = .slice a out.length c:=qg h
theorem OB.one (w:World)(c:UInt8):OB w.heap.size [c] (.slice (some ⟨w.heap.size,0,none⟩) 1 1) (w.alloc (.cells #[.int .u8 c.toNat] 5)) :=
 ⟨rfl,.inr ⟨w.heap.size,1,_,rfl,zt _,heap_alloc_new w _,zt _,by unfold maxLen;decide,rfl,rfl⟩⟩
theorem OB.push {B:Nat}{out news:Bs}{v v':Value}{w W w2:World}(h:OB B out v w)(hW:Fr NoB w W)(hown:w2.ownsRow B 5 1 v' (out.length+news.length) (zb out++zb news))(hg:W.grownBy w2 v.ownBlock) :
 OB B (out++news) v' w2∧Fr (fun k _=>B≤k) w w2:=by
 constructor
 ·unfold OB;rw[List.length_append,Lib.byteCells_append];exact hown
 exact(hW.mono (fun _ _ h=>h.elim)).trans (Fr.ofGrown hg) (fun k o hm => .inl (qy h k hm.symm).1)
end
end Go.Proofs.YtmgfncjfgkllcaaGreatDoor
