/-
 'x.f=append(x.f,v)',v of several cells: the region that draws its order,by one law;and what the row holds behind it.
-/
import Derived.Test.YtmgfncjfgkllcaaGreatDoorKSeen
import Derived.Deep.RegionLaw
namespace Go.Proofs.YtmgfncjfgkllcaaGreatDoor
set_option linter.unusedVariables false
set_option linter.unusedSimpArgs false
set_option linter.unusedSectionVars false
section
open Go.RowKit

section
variable {P:Program} (w:World)
theorem zeu (base:Nat) (t ty e:TypeId) (i:TypeInfo) (z:Value) (size bytes:Nat) (ht:P.underlying t=some (.slice e)) (hi:P.info? e=some i) (hz:i.zero=some z)
 (hsize:i.size=size) (hby:i.bytes=bytes) (hzs:z.cells.size=size) (hsz:0<size)
 (v:Value) (n:Nat) (xs:List Value) (hown:w.ownsRow base e size v n xs)
 (a:Addr) (m c:Nat) (news:List Value) (hl:news.length=m * size) (hnews:∀ j u,news[j]? = some u→w.cell? (a.add j)=some u) (h1:∀ u∈news,u.oneCell'=true)
 (h63:n+m≤maxLen) (hbytes:(n+m) * bytes≤140737488355328) (hbase:base≤w.heap.size) :
 ∃ v' w',(Builtin.append_ #[t,t] ty #[v,.slice (some a) m c]).run P w = .ok v' w'∧w'.ownsRow base e size v' (n+m) (xs++news)∧w.grownBy w' v.ownBlock ∧
  (∀ k,v'.ownBlock=some k→v.ownBlock=some k∨w.heap.size≤k):=by
 by_cases hD:∃ g hC,v = .slice (some ⟨g,0,none⟩) n hC∧n+m≤hC
 ·obtain⟨g,hC,hv,hr⟩:=hD;rcases hown.2 with⟨h0,_⟩ | ⟨g',cap',hG,h0,hbg,hg,hnc,hcm,hcs,htake⟩
  ·rw[h0]at hv;cases hv
  rw[h0]at hv;cases hv;subst h0;subst hsize;have hH:n * i.size+news.length≤hG.size:=by rw[hl,hcs,← Nat.add_mul];exact Nat.mul_le_mul_right _ hr
  have hA:=run_append_room (P:=P) w t ty e i ht hi g n hC hG hg a m c news hl hnews h1 hr hH;obtain⟨v',w',hB,ho,hF,_⟩:=run_append_own (P:=P) w base t ty e i z i.size bytes ht hi hz rfl hby hzs hsz _ n xs hown a m c news hl hnews h1 h63 hbytes hbase
  injection hA.symm.trans hB with e1 e2
  subst e1;subst e2;exact⟨_,_,hA,ho,hF,fun k hk => .inl hk⟩
 rcases hown.2 with⟨rfl,rfl⟩ | ⟨g,hC,hG,rfl,hbg,hg,hnc,hcm,hcs,htake⟩
 ·obtain⟨v',w',hA,ho,hF,hx⟩:=run_append_own (P:=P) w w.heap.size t ty e i z size bytes ht hi hz hsize hby hzs hsz (.slice none 0 0) 0 xs ⟨hown.1,.inl ⟨rfl,rfl⟩⟩ a m c news hl hnews h1 h63 hbytes (Nat.le_refl _);refine⟨v',w',hA,⟨ho.1,ho.2.imp id ?_⟩,hF,fun k hk => .inr (ho.lt k hk).1⟩;rintro⟨g,hC,hG,h1,h2,h3⟩;exact⟨g,hC,hG,h1,Nat.le_trans hbase h2,h3⟩
 subst hsize
 subst hby
 have hr:¬ n+m≤hC:=fun h=>hD ⟨g,hC,rfl,h⟩
 have hsmall:n+m≤9223372036854775807:=by simp only[maxLen]at h63;omega
 have hE:∀ j u,xs[j]? = some u→w.cell? ((⟨g,0,none⟩:Addr).add j)=some u:=hown.cells (g:=g) rfl;have hA:=run_append_grow (P:=P) w t ty e i z ht hi hz ⟨g,0,none⟩ n hC xs hown.1 hE a m c news hl hnews (by omega) (by omega) (growslice_fits (by omega) hbytes);obtain⟨v',w',hB,ho,hF,_⟩:=run_append_own (P:=P) w base t ty e i z i.size i.bytes ht hi hz rfl rfl hzs hsz _ n xs hown a m c news hl hnews h1 h63 hbytes hbase
 injection hA.symm.trans hB with e1 e2
 subst e1;subst e2;refine⟨_,_,hA,ho,hF,fun k hk => .inr ?_⟩;simp[Value.ownBlock]at hk;omega
end

theorem zbe {P:Program} {ops:Array Oper} {o:Oper} {a:Act} {w:World} {K:Act→World→Prop} {Q:Exit→Act→World→Prop} {E:Prop}
 (hg:o.guard=none) (s x:Operand) (t:TypeId) (hop:o.op=Op.call { callee:=Callee.builtin Builtin.append,args:=#[s,x],argTypes:=#[t,t] })
 (base:Nat) (e:TypeId) (i:TypeInfo) (z:Value) (size bytes:Nat) (ht:P.underlying t=some (.slice e)) (hi:P.info? e=some i) (hz:i.zero=some z)
 (hsize:i.size=size) (hby:i.bytes=bytes) (hzs:z.cells.size=size) (hsz:0<size)
 (v:Value) (n:Nat) (xs:List Value) (hs:a.eval s=v) (hown:w.ownsRow base e size v n xs)
 (ad:Addr) (c:Nat) (news:List Value) (hx:a.eval x = .slice (some ad) 1 c) (hl:news.length=size) (hnews:∀ j u,news[j]? = some u→w.cell? (ad.add j)=some u) (h1:∀ u∈news,u.oneCell'=true)
 (h63:n+1≤maxLen) (hbytes:(n+1) * bytes≤140737488355328) (hbase:base≤w.heap.size)
 (hK:∀ g cap w',w'.ownsRow base e size (.slice (some ⟨g,0,none⟩) (n+1) cap) (n+1) (xs++news)→w.grownBy w' v.ownBlock→(v.ownBlock=some g∨w.heap.size≤g) →
   (∀ j u,news[j]? = some u→w'.cell? ⟨g,n * size+j,none⟩=some u)→(∀ o,w'.frozen? ⟨g,o,none⟩=false)→K (a.put o.dst (.slice (some ⟨g,0,none⟩) (n+1) cap)) w') :
 if Region.wanted o (yielded ops a.tmps)=true then Oper.wp P o a w K Q else E:=by
 have hw:Region.wanted o (yielded ops a.tmps)=true:=by simp[Region.wanted,hg]
 rw[if_pos hw];obtain⟨v',w',hr,ho,hB,hC⟩:=zeu (P:=P) w base t o.type e i z size bytes ht hi hz hsize hby hzs hsz v n xs hown ad 1 c news (by omega) hnews h1 h63 hbytes hbase;unfold Oper.wp execOp;simp only[hop,resolve,invoke,builtin,Sem.run_bind,Sem.run_pure,Result.andThen_ok,List.map_toArray,List.map_cons,List.map_nil,hs,hx,hr];have hA:=ho;rcases ho.2 with⟨rfl,h0⟩ | ⟨g,cap,cur,rfl,hb,hg,hn,hcm,hcs,htake⟩
 ·omega
 refine hK g cap w' hA hB (hC g rfl) (fun j u hj=>?_) (fun o=>by simp[World.frozen?,hg]);have hj':j<news.length:=(List.getElem?_eq_some_iff.1 hj).1
 have hc:=hA.cells (g:=g) rfl (n * size+j) u (by
  rw[List.getElem?_append_right (by rw[hown.1];omega),hown.1]
  simpa using hj)
 rw[Addr.add_lit]at hc;simpa using hc
end
section
open Go.RowKit

def put5 (g o:Nat) (v0 v1 v2 v3 v4:Value) (w:World):World :=
 ((((w.setCell ⟨g,o,none⟩ v0).setCell ⟨g,o+1,none⟩ v1).setCell ⟨g,o+2,none⟩ v2).setCell ⟨g,o+3,none⟩ v3).setCell ⟨g,o+4,none⟩ v4
def put6 (g o:Nat) (v0 v1 v2 v3 v4 v5:Value) (w:World):World:=(put5 g o v0 v1 v2 v3 v4 w).setCell ⟨g,o+5,none⟩ v5
theorem z7 {w:World}{b o:Nat}{cs:Array Value}{e:TypeId}{f:Nat × Nat}(v:Value)(h:w.heap[b]? = some (.cells cs e f)) :
 (w.setCell ⟨b,o,none⟩ v).heap[b]? = some (.cells (cs.setIfInBounds o v) e f):=by
 simp[World.setCell,Array.getElem?_modify,h]
theorem zcw (xs l:List Value)(m i:Nat)(v:Value)(hm:xs.length=m):(xs++l).set (m+i) v=xs++l.set i v:=by
 subst hm;rw[List.set_append,if_neg (by omega)]
 congr 2;omega
theorem zqc {w:World} {B:Nat} {e:TypeId} {g n cap:Nat} {xs:List Value} {z0 z1 z2 z3 z4:Value}
 (h:w.ownsRow B e 5 (.slice (some ⟨g,0,none⟩) (n+1) cap) (n+1) (xs++[z0,z1,z2,z3,z4])) (hx:xs.length=n * 5) (v0 v1 v2 v3 v4:Value) :
 (put5 g (n * 5) v0 v1 v2 v3 v4 w).ownsRow B e 5 (.slice (some ⟨g,0,none⟩) (n+1) cap) (n+1) (xs++[v0,v1,v2,v3,v4]):=by
 refine⟨by simp;omega,.inr ?_⟩;rcases h.2 with⟨h1,_⟩ | ⟨g',cap',cur,hv,hb,hg,hn,hcm,hcs,htake⟩
 ·cases h1
 cases hv;have h5:=z7 (o:=n * 5+4) v4 (z7 (o:=n * 5+3) v3 (z7 (o:=n * 5+2) v2 (z7 (o:=n * 5+1) v1 (z7 (o:=n * 5) v0 hg))));refine⟨g,cap,_,rfl,hb,h5,hn,hcm,by simpa using hcs,?_⟩
 have hA:cur.toList=xs++([z0,z1,z2,z3,z4]++cur.toList.drop ((n+1) * 5)):=by
  rw[← List.append_assoc,← htake,List.take_append_drop]
 simp only[Array.toList_setIfInBounds];rw[hA];generalize cur.toList.drop ((n+1) * 5)=rest;have s0:=zcw xs ([z0,z1,z2,z3,z4]++rest) (n * 5) 0 v0 hx;have s1:=zcw xs ([v0,z1,z2,z3,z4]++rest) (n * 5) 1 v1 hx;have s2:=zcw xs ([v0,v1,z2,z3,z4]++rest) (n * 5) 2 v2 hx;have s3:=zcw xs ([v0,v1,v2,z3,z4]++rest) (n * 5) 3 v3 hx;have s4:=zcw xs ([v0,v1,v2,v3,z4]++rest) (n * 5) 4 v4 hx;simp only[Nat.add_zero,List.cons_append,List.set_cons_zero,List.set_cons_succ,List.nil_append]at s0 s1 s2 s3 s4 ⊢;rw[s0,s1,s2,s3,s4];have hl:(n+1) * 5=(xs++[v0,v1,v2,v3,v4]).length:=by simp;omega
 rw[hl];have:xs++v0 :: v1 :: v2 :: v3 :: v4 :: rest=(xs++[v0,v1,v2,v3,v4])++rest:=by simp
 rw[this];exact List.take_left
theorem zil {w:World} {B:Nat} {e:TypeId} {g n cap:Nat} {xs:List Value} {z0 z1 z2 z3 z4 z5:Value}
 (h:w.ownsRow B e 6 (.slice (some ⟨g,0,none⟩) (n+1) cap) (n+1) (xs++[z0,z1,z2,z3,z4,z5])) (hx:xs.length=n * 6) (v0 v1 v2 v3 v4 v5:Value) :
 (put6 g (n * 6) v0 v1 v2 v3 v4 v5 w).ownsRow B e 6 (.slice (some ⟨g,0,none⟩) (n+1) cap) (n+1) (xs++[v0,v1,v2,v3,v4,v5]):=by
 refine⟨by simp;omega,.inr ?_⟩;rcases h.2 with⟨h1,_⟩ | ⟨g',cap',cur,hv,hb,hg,hn,hcm,hcs,htake⟩
 ·cases h1
 cases hv;have h5:=z7 (o:=n * 6+5) v5 (z7 (o:=n * 6+4) v4 (z7 (o:=n * 6+3) v3 (z7 (o:=n * 6+2) v2 (z7 (o:=n * 6+1) v1 (z7 (o:=n * 6) v0 hg)))));refine⟨g,cap,_,rfl,hb,h5,hn,hcm,by simpa using hcs,?_⟩
 have hA:cur.toList=xs++([z0,z1,z2,z3,z4,z5]++cur.toList.drop ((n+1) * 6)):=by
  rw[← List.append_assoc,← htake,List.take_append_drop]
 simp only[Array.toList_setIfInBounds];rw[hA];generalize cur.toList.drop ((n+1) * 6)=rest;have s0:=zcw xs ([z0,z1,z2,z3,z4,z5]++rest) (n * 6) 0 v0 hx;have s1:=zcw xs ([v0,z1,z2,z3,z4,z5]++rest) (n * 6) 1 v1 hx;have s2:=zcw xs ([v0,v1,z2,z3,z4,z5]++rest) (n * 6) 2 v2 hx;have s3:=zcw xs ([v0,v1,v2,z3,z4,z5]++rest) (n * 6) 3 v3 hx;have s4:=zcw xs ([v0,v1,v2,v3,z4,z5]++rest) (n * 6) 4 v4 hx;have s5:=zcw xs ([v0,v1,v2,v3,v4,z5]++rest) (n * 6) 5 v5 hx;simp only[Nat.add_zero,List.cons_append,List.set_cons_zero,List.set_cons_succ,List.nil_append]at s0 s1 s2 s3 s4 s5 ⊢;rw[s0,s1,s2,s3,s4,s5];have hl:(n+1) * 6=(xs++[v0,v1,v2,v3,v4,v5]).length:=by simp;omega
 rw[hl];have:xs++v0 :: v1 :: v2 :: v3 :: v4 :: v5 :: rest=(xs++[v0,v1,v2,v3,v4,v5])++rest:=by simp
 rw[this];exact List.take_left
theorem zec {w:World}{g o k:Nat}{v0 v1 v2 v3 v4:Value}(h:k≠g):(put5 g o v0 v1 v2 v3 v4 w).heap[k]? = w.heap[k]?:=by
 unfold put5;rw[Below.heap_setCell _ _ _ _ h,Below.heap_setCell _ _ _ _ h,Below.heap_setCell _ _ _ _ h,Below.heap_setCell _ _ _ _ h,Below.heap_setCell _ _ _ _ h]
theorem zc8 {w:World}{g o k:Nat}{v0 v1 v2 v3 v4 v5:Value}(h:k≠g):(put6 g o v0 v1 v2 v3 v4 v5 w).heap[k]? = w.heap[k]?:=by
 unfold put6;rw[Below.heap_setCell _ _ _ _ h,zec h]
theorem Fr.put5 {M:Nat→Obj→Prop}{w w1:World}(h:Fr M w w1)(g o:Nat)(v0 v1 v2 v3 v4:Value)(hg:∀ x,w.heap[g]? = some x→M g x):Fr M w (put5 g o v0 v1 v2 v3 v4 w1) :=
 ((((h.setCell _ _ hg).setCell _ _ hg).setCell _ _ hg).setCell _ _ hg).setCell _ _ hg
theorem Fr.put6 {M:Nat→Obj→Prop}{w w1:World}(h:Fr M w w1)(g o:Nat)(v0 v1 v2 v3 v4 v5:Value)(hg:∀ x,w.heap[g]? = some x→M g x):Fr M w (put6 g o v0 v1 v2 v3 v4 v5 w1) :=
 (h.put5 g o v0 v1 v2 v3 v4 hg).setCell _ _ hg
structure But2 (g b:Nat) (w w':World):Prop where
 os:w'.os=w.os
 tape:w'.tape=w.tape
 output:w'.output=w.output
 size:w'.heap.size=w.heap.size
 block:∀ k,k≠g→k≠b→w'.heap[k]? = w.heap[k]?
theorem zfs (w:World)(a:Addr)(v:Value):(w.setCell a v).os=w.os:=rfl
theorem zcs (w:World)(a:Addr)(v:Value):(w.setCell a v).output=w.output:=rfl
theorem But2.put5 (g b o c:Nat)(v0 v1 v2 v3 v4 x:Value)(w:World):But2 g b w ((put5 g o v0 v1 v2 v3 v4 w).setCell ⟨b,c,none⟩ x) :=
 ⟨by simp only[Go.Proofs.YtmgfncjfgkllcaaGreatDoor.put5,zfs],by simp only[Go.Proofs.YtmgfncjfgkllcaaGreatDoor.put5,World.tape_setCell],by simp only[Go.Proofs.YtmgfncjfgkllcaaGreatDoor.put5,zcs],by simp only[Go.Proofs.YtmgfncjfgkllcaaGreatDoor.put5,World.size_setCell],fun k h1 h2=>by rw[Below.heap_setCell _ _ _ _ h2,zec h1]⟩
theorem But2.put5' (g b o c:Nat)(v0 v1 v2 v3 v4 x:Value)(w:World):But2 g b w (Go.Proofs.YtmgfncjfgkllcaaGreatDoor.put5 g o v0 v1 v2 v3 v4 (w.setCell ⟨b,c,none⟩ x)) :=
 ⟨by simp only[Go.Proofs.YtmgfncjfgkllcaaGreatDoor.put5,zfs],by simp only[Go.Proofs.YtmgfncjfgkllcaaGreatDoor.put5,World.tape_setCell],by simp only[Go.Proofs.YtmgfncjfgkllcaaGreatDoor.put5,zcs],by simp only[Go.Proofs.YtmgfncjfgkllcaaGreatDoor.put5,World.size_setCell],fun k h1 h2=>by rw[zec h1,Below.heap_setCell _ _ _ _ h2]⟩
theorem But2.put6 (g b o c:Nat)(v0 v1 v2 v3 v4 v5 x:Value)(w:World):But2 g b w ((put6 g o v0 v1 v2 v3 v4 v5 w).setCell ⟨b,c,none⟩ x) :=
 ⟨by simp only[Go.Proofs.YtmgfncjfgkllcaaGreatDoor.put6,Go.Proofs.YtmgfncjfgkllcaaGreatDoor.put5,zfs],by simp only[Go.Proofs.YtmgfncjfgkllcaaGreatDoor.put6,Go.Proofs.YtmgfncjfgkllcaaGreatDoor.put5,World.tape_setCell],by simp only[Go.Proofs.YtmgfncjfgkllcaaGreatDoor.put6,Go.Proofs.YtmgfncjfgkllcaaGreatDoor.put5,zcs],by simp only[Go.Proofs.YtmgfncjfgkllcaaGreatDoor.put6,Go.Proofs.YtmgfncjfgkllcaaGreatDoor.put5,World.size_setCell],fun k h1 h2=>by rw[Below.heap_setCell _ _ _ _ h2,zc8 h1]⟩
theorem But2.put6' (g b o c:Nat)(v0 v1 v2 v3 v4 v5 x:Value)(w:World):But2 g b w (Go.Proofs.YtmgfncjfgkllcaaGreatDoor.put6 g o v0 v1 v2 v3 v4 v5 (w.setCell ⟨b,c,none⟩ x)) :=
 ⟨by simp only[Go.Proofs.YtmgfncjfgkllcaaGreatDoor.put6,Go.Proofs.YtmgfncjfgkllcaaGreatDoor.put5,zfs],by simp only[Go.Proofs.YtmgfncjfgkllcaaGreatDoor.put6,Go.Proofs.YtmgfncjfgkllcaaGreatDoor.put5,World.tape_setCell],by simp only[Go.Proofs.YtmgfncjfgkllcaaGreatDoor.put6,Go.Proofs.YtmgfncjfgkllcaaGreatDoor.put5,zcs],by simp only[Go.Proofs.YtmgfncjfgkllcaaGreatDoor.put6,Go.Proofs.YtmgfncjfgkllcaaGreatDoor.put5,World.size_setCell],fun k h1 h2=>by rw[zc8 h1,Below.heap_setCell _ _ _ _ h2]⟩
theorem But2.fr {g b:Nat}{w w':World}(h:But2 g b w w'):Fr (fun k _=>k=g∨k=b) w w' :=
 ⟨h.os,h.tape,h.output,by rw[h.size];exact Nat.le_refl _,fun k o hk hn=>by rw[h.block k (fun e=>hn (.inl e)) (fun e=>hn (.inr e))];exact hk⟩
theorem zf5 {w1 w2:World}{X Z:Obj}{row:Option Nat}(hgr:((w1.alloc X).alloc Z).drew.grownBy w2 row){k:Nat}(hk:k<w1.heap.size)(hne:row≠some k):w2.heap[k]? = w1.heap[k]?:=by
 rw[hgr.block k (by simp;omega) (fun e=>hne e.symm)];show((w1.alloc X).alloc Z).heap[k]? = _;rw[Below.heap_alloc _ _ _ (by simp;omega),Below.heap_alloc _ _ _ hk]
theorem zmr {w1 w2:World}{X Z:Obj}{row:Option Nat}(hgr:((w1.alloc X).alloc Z).drew.grownBy w2 row):Fr (fun k _=>row=some k) w1 w2 :=
 ⟨hgr.os,hgr.tape,hgr.output,by have:=hgr.size;simp at this;omega,fun k o hk hn=>by rw[zf5 hgr (jb hk) hn];exact hk⟩
theorem zck (w:World)(T:TypeId)(xs:List Value)(n:Nat)(hn:n=w.heap.size):∀ j u,xs[j]? = some u→(w.alloc (.cells xs.toArray T)).cell? ((⟨n,0,none⟩:Addr).add j)=some u:=by
 subst hn;intro j u hj;rw[Addr.add_lit];simpa using hj
theorem zcf {w w':World}{B:Nat}{e:TypeId}{size:Nat}{v:Value}{n:Nat}{xs:List Value}(h:w.ownsRow B e size v n xs)
 (hk:∀ k,v.ownBlock=some k→w'.heap[k]? = w.heap[k]?):w'.ownsRow B e size v n xs:=by
 refine⟨h.1,?_⟩;rcases h.2 with h1 | ⟨g,cap,cur,rfl,hb,hg,rest⟩
 ·exact .inl h1
 exact .inr ⟨g,cap,cur,rfl,hb,by rw[hk g rfl];exact hg,rest⟩
theorem zam {w:World}{B:Nat}{e:TypeId}{size:Nat}{v:Value}{n:Nat}{xs:List Value}(h:w.ownsRow B e size v n xs) :
 ∀ k,v.ownBlock=some k→B≤k∧∃ o,w.heap[k]? = some o∧zbq e o:=by
 intro k hk;rcases h.2 with⟨rfl,_⟩ | ⟨g,cap,cur,rfl,hb,hg,rest⟩
 ·simp[Value.ownBlock]at hk
 simp[Value.ownBlock]at hk;subst hk;exact⟨hb,_,hg,_,_,rfl⟩
theorem za9 {M:Nat→Obj→Prop} {w w':World} {B:Nat} {e:TypeId} {size:Nat} {v:Value} {n:Nat} {xs:List Value} (h:w.ownsRow B e size v n xs) (hF:Fr M w w')
 (hM:∀ k o,v.ownBlock=some k→B≤k→zbq e o→¬ M k o):w'.ownsRow B e size v n xs :=
 zcf h (fun k hk=>by
  obtain⟨hb,o,ho,ht⟩:=zam h k hk
  rw[ho];exact hF.block k o ho (hM k o hk hb ht))
theorem qj {w:World}{B:Nat}{e:TypeId}{size:Nat}{v:Value}{n:Nat}{xs:List Value}(h:w.ownsRow B e size v n xs):∃ a c,v = .slice a n c:=by
 rcases h.2 with⟨rfl,rfl⟩ | ⟨g,cap,cur,rfl,_⟩
 ·exact⟨_,_,rfl⟩
 exact⟨_,_,rfl⟩
end
end Go.Proofs.YtmgfncjfgkllcaaGreatDoor
