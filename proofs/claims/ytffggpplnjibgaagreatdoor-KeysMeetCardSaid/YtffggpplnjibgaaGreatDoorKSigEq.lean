/-
 The walk of entry.signed.
-/
import Derived.Test.YtffggpplnjibgaaGreatDoorKConcat
import Derived.Test.YtffggpplnjibgaaGreatDoorKSpecBind
import Derived.Deep.MidRow
import Derived.Deep.RegionHeld3
import Derived.Deep.LoopGhost
import Derived.OrdersHeld
open Go.Lib renaming hid→zi,byteCells→zj
open Go.Proofs.Tryz renaming prog→zl
namespace Go.Proofs.YtffggpplnjibgaaGreatDoor
set_option linter.unusedVariables false
set_option linter.unusedSimpArgs false
set_option linter.unusedSectionVars false
set_option maxRecDepth 100000
set_option maxHeartbeats 2000000
section
open Go.RowKit
variable [OldK]
theorem zn5:((Tryz.prog.underlying 40).any (·.isRow))=true:=by kernel_rfl
theorem zb5:∃ d,Tryz.prog.underlying 40=some d∧d.isRow=true:=by
 have h:=zn5;cases hq:Tryz.prog.underlying 40 with
 | none=>rw[hq]at h;simp at h
 | some d=>rw[hq]at h;exact⟨d,rfl,by simpa using h⟩
theorem j0 {M:Nat→Obj→Prop}{w w':World}{b o:Nat}{cs:List Value}(h:w.rangeAt b o cs)(hF:Fr M w w')(hb:b<w.heap.size)(hM:∀ ob,¬ M b ob):w'.rangeAt b o cs:=by
 obtain⟨ob,hB⟩:∃ ob,w.heap[b]? = some ob:=⟨_,Array.getElem?_eq_getElem hb⟩;exact ze4 h ((hF.block _ _ hB (hM _)).trans hB.symm)
theorem zhu {M:Nat→Obj→Prop}{w w':World}{b o n:Nat}(h:w.there b o n)(hF:Fr M w w')(hb:b<w.heap.size)(hM:∀ ob,¬ M b ob):w'.there b o n:=by
 obtain⟨ob,hB⟩:∃ ob,w.heap[b]? = some ob:=⟨_,Array.getElem?_eq_getElem hb⟩;exact zpa h ((hF.block _ _ hB (hM _)).trans hB.symm)
theorem Sg.one (s:Sg):s.cells.all (·.oneCell')=true:=by
 unfold Sg.cells;rw[Array.all_append,Array.all_append]
 have h:∀ l:Bs,((zj l).toArray.all (·.oneCell'))=true:=fun l=>all_oneCell_toArray (fun v hv=>by
  unfold zj at hv;rw[List.mem_map]at hv;obtain⟨x,_,rfl⟩:=hv
  rfl)
 rw[h,h];simp[Value.oneCell']
theorem Sg.list (s:Sg):s.cells.toList=[.string ⟨s.id.toArray⟩]++(zj s.key++zj s.sig):=by simp[Sg.cells]
theorem ztg (l : List Sg) (b o cap:Nat) (w:World) (hl:l.length≤1000) (hc:l.length≤cap) (hb:b<w.heap.size)
 (hr:∀ i (hi:i<l.length),w.rangeAt b (o+i * 97) l[i].cells.toList) (hok:∀ s∈l,s.ok∧s.id.length≤1000000) :
 Calls zl 114 #[.slice (some ⟨b,o,none⟩) l.length cap] w fun e w'=>e = .returned (.bool (zb0 l))∧Fr NoB w w':=by
 obtain⟨P,hP⟩:∃ P,zb0 l=P:=⟨_,rfl⟩;rw[hP];have Hr:=zi hr;have Hok:=zi hok;have HP:=zi hP;clear hr hok hP;go_enter Tryz.func114,Tryz.ntmps114
 go_wp2_with fail
 go_loopg [3,9] (l.length+1) (fun gf v3 vi wx=>∃ i:Nat,vi = .int .i64 i∧i≤l.length∧i+gf=l.length+1∧∃ hC:Bs,v3 = .string ⟨hC.toArray⟩∧Fr NoB w wx∧Hid ((za4 hC (l.drop i)&&(decide (1≤l.length)&&decide (l.length≤8)))=P))
 case atStart=>exact⟨0,rfl,by omega,by omega,[],rfl,Fr.refl,zi HP.out⟩
 case round =>
  obtain⟨i,rfl,hi,hig,hC,rfl,hF,HG⟩:=hrel;have HF:=zi hF;clear hF;by_cases hW:i<l.length
  ·have hM : decide ((i:Int)<l.length)=true:=decide_eq_true (by omega);have hH:=Hok.out _ (List.getElem_mem hW);have hR:=Hr.out i hW;have hY:=List.drop_eq_getElem_cons hW;obtain⟨s,hs⟩:∃ s,l[i]=s:=⟨_,rfl⟩;rw[hs]at hH hR hY;have hG:=HG.out;rw[hY,za4]at hG;have hL:=Sg.size hH.1;have hB:wr.rangeAt b (o+i * 97) s.cells.toList:=j0 hR HF.out hb (fun _ h=>h);have HB:=zi hB;obtain⟨d,hu,hd⟩:=zb5;have Hu:=zi hu;have Hd:=zi hd;have Hz:=zi (show(Tryz.prog.info? 40).map (·.size)=some s.cells.toList.length by rw[zac];simp[hL]);have hf:=zi (show(Tryz.prog.info? 40).map (·.size)=some s.cells.size by rw[zac,hL]);have H1:=zi (Sg.one s);have HT:=zi (show ∀ z:Array Value,z.size=97→(wr.alloc (.cells z 40)).there wr.heap.size 0 s.cells.size from fun z hz=>qa (heap_alloc_new wr _) (by rw[hL,hz];exact Nat.le_refl _));have hj:=fun W=>ztf s W hH.1 hH.2
   have Hsg:=zi hj;have Hso:=zi hH;have hK:=zi hG;have Hsz:=zi hL;obtain⟨cs,hZ⟩:∃ cs,s.cells=cs:=⟨_,rfl⟩;rw[hZ]at HB Hz hf H1 HT Hsg Hsz;have Hs:=zi hs;have Hcs:=zi hZ;clear hB hu hd hR hs hZ hH hY hG hL hj HG
   go_wp2_with(first | (refine wpList_load_mid rfl 40 _ rfl b (o+i * 97) rfl cs.toList d HB.out Hu.out Hd.out Hz.out ?_) | (refine wpList_store_mid rfl 40 _ _ rfl wr.heap.size 0 cs rfl rfl (HT.out _ rfl) hf.out H1.out ?_) | (refine wpList_load_mid rfl 40 _ rfl wr.heap.size 0 rfl cs.toList d (World.rangeAt_setCells_same _ wr.heap.size 0 cs.toList (by simpa using HT.out _ rfl)) Hu.out Hd.out Hz.out ?_))
   refine(Hsg.out _).mono ?_;rintro e w2 ⟨rfl,hS⟩;have hw:=World.rangeAt_setCells_same (wr.alloc (.cells Tryz.zeroCells40 40)) wr.heap.size 0 cs.toList (by simpa using HT.out _ rfl);have ht:wr.heap.size<((wr.alloc (.cells Tryz.zeroCells40 40)).setCells wr.heap.size 0 cs.toList).heap.size:=by have:=(jr wr.heap.size cs.toList 0 (wr.alloc (.cells Tryz.zeroCells40 40))).size;simp at this;omega
   have hv:=j0 hw hS ht (fun _ h=>h);have hx:Fr NoB w w2:=((HF.out.alloc (.cells Tryz.zeroCells40 40)).trans (jr _ _ _ _) (fun k _ hm => .inr (by have:=HF.out.size;omega))).trans' hS;have h7:=hS.size;rw[← Hcs.out,Sg.list,qb,qb,zcy]at hv;obtain⟨c0,cK,-⟩:=hv;obtain⟨bn,ha⟩:∃ bn,wr.heap.size=bn:=⟨_,rfl⟩;have hp:w.heap.size≤bn:=by rw[← ha];exact HF.out.size
   have h6:bn<w2.heap.size:=by omega
   rw[ha]at c0 cK ⊢;have hG:=hK.out;unfold zq1 at hG;obtain⟨hX,-⟩:=Hso.out.1;have ho:=Hso.out.2;obtain⟨B,hB⟩:∃ B,j5 s=B:=⟨_,rfl⟩;obtain⟨x1,h3⟩:∃ x,Op.bytesLess B hC=x:=⟨_,rfl⟩;obtain⟨x2,h2⟩:∃ x,(B==hC)=x:=⟨_,rfl⟩;obtain⟨id,hI⟩:∃ x,s.id=x:=⟨_,rfl⟩;obtain⟨key,hE⟩:∃ x,s.key=x:=⟨_,rfl⟩;rw[hB,h3,h2,hI,hE]at hG;rw[hI]at c0 ho cK;rw[hE]at cK hX;rw[hB];have hy:w2.rangeAt bn 1 (zj key):=cK;have hD:=zi hG;have hQ:=zi hx;have h9:=zi hy;have Hkl:=zi hX;have Hnm:=zi (fun W=>zrv id W (by omega));have Hx:=zi hp;clear hS hw ht hx h7 cK hy ha hB hI hE hG hX hp hK HB hf H1 HT Hsg HF Hs Hcs;cases x1 with
   | true =>
     go_wp2_with fail
     go_ret;exact⟨jj (by simpa using hD.out),hQ.out⟩
   | false =>
     cases x2 with
     | true =>
       go_wp2_with fail
       go_ret;exact⟨jj (by simpa using hD.out),hQ.out⟩
     | false =>
       cases id with
       | nil =>
         have hP:=hD.out;simp only[List.isEmpty_nil,Bool.not_true,Bool.false_and,Bool.or_false,Bool.false_eq_true,if_false]at hP;have AA:=zi hP;clear hP
         go_wp2_with fail
         go_roundg (gk - 1)
         case measure=>omega
         case rel=>exact⟨i+1,by simp,by omega,by omega,_,rfl,hQ.out,AA⟩
       | cons c r =>
         have hk:(c :: r:Bs).isEmpty=false:=rfl;obtain⟨id,hI⟩:∃ l,(c :: r:Bs)=l:=⟨_,rfl⟩;rw[hI]at hk c0 hD Hnm ho;clear hI;obtain⟨bm,hq⟩:∃ x,zcn id=x:=⟨_,rfl⟩;have hG:=hD.out;have hU:=Hnm.out;rw[hq]at hU hG;rw[hk]at hG;have hN:=zi hU;have hh:=zi hG;clear hq hG hD hU Hnm;cases bm with
         | false =>
           go_wp2_with fail
           refine(hN.out _).mono ?_;rintro e w3 ⟨rfl,hJ⟩;have hT:=zi (hQ.out.trans' hJ);clear hJ
           go_wp2_with fail
           go_ret;exact⟨jj (by simpa using hh.out),hT.out⟩
         | true =>
           obtain⟨bk,he⟩:∃ x,(key==jz)=x:=⟨_,rfl⟩;have hG:=hh.out;rw[bne,he]at hG;have hV:=zns key Hkl.out;rw[he]at hV;have h0:=zi hG;clear he hG hh
           go_wp2_with fail
           refine(hN.out _).mono ?_;rintro e w3 ⟨rfl,hJ⟩;have hT:=zi (hQ.out.trans' hJ);have hO:=j0 h9.out hJ h6 (fun _ h=>h);have h8:=zi (show(Tryz.prog.info? 25).map (·.size)=some (zj key).length by rw[q8];simp[zj,Hkl.out]);have hg:=zi hO;clear hJ hO;cases bk
           all_goals
            go_wp2_with(refine jw 25 _ rfl bn 1 rfl (zj key) _ hg.out jo rfl h8.out rfl ?_)
            first
            | (go_ret
               exact⟨jj (by simpa using h0.out),hT.out⟩)
            | (go_roundg (gk - 1)
               case measure=>omega
               case rel=>exact⟨i+1,by simp,by omega,by omega,_,rfl,hT.out,zi (by simpa using h0.out)⟩)
  obtain rfl:i=l.length:=by omega
  have hG:=HG.out;rw[List.drop_of_length_le (Nat.le_refl _),za4,Bool.true_and]at hG;have hK:=zi hG;have hM:decide ((l.length:Int)<l.length)=false:=by simp
  obtain⟨n,hn⟩:∃ n,l.length=n:=⟨_,rfl⟩;rw[hn]at hK hM ⊢;clear hG HG hn;obtain⟨b1,h5⟩:∃ b,decide ((1:Int)≤(n:Int))=b:=⟨_,rfl⟩;obtain⟨b2,h4⟩:∃ b,decide ((n:Int)≤8)=b:=⟨_,rfl⟩;have e1:decide (1≤n)=b1:=by rw[← h5];exact decide_eq_decide.2 (by omega)
  have e2:decide (n≤8)=b2:=by rw[← h4];exact decide_eq_decide.2 (by omega)
  have hG:=hK.out;rw[e1,e2]at hG;have hD:=zi hG;clear e1 e2 hG hK;cases b1<;>cases b2
  all_goals
   go_wp2_with fail
   go_ret;exact⟨jj (by simpa using hD.out),HF.out⟩
theorem zpg (a:Option Addr) (cap:Nat) (w:World) :
 Calls zl 114 #[.slice a 0 cap] w fun e w'=>e = .returned (.bool false)∧Fr NoB w w':=by
 go_enter Tryz.func114,Tryz.ntmps114
 go_wp2_with fail
 go_loopg [3,9] 0 (fun gf v3 vi wx=>vi = .int .i64 0∧w=wx)
 case atStart=>exact⟨rfl,rfl⟩
 case round =>
  obtain⟨rfl,rfl⟩:=hrel
  go_wp2_with fail
  go_ret;exact⟨rfl,Fr.refl⟩
theorem zqx {S:Nat→Prop}{l:List Sg}{v:Value}{w:World}(h:GS S l v w)(hl:l.length≤1000)(hok:∀ s∈l,s.ok∧s.id.length≤1000000) :
 Calls zl 114 #[v] w fun e w'=>e = .returned (.bool (zb0 l))∧Fr NoB w w':=by
 obtain⟨a,hB,rfl,hc,rfl | ⟨b,o,rfl,hS,hb,hr⟩⟩:=h
 ·exact zpg a hB w
 exact ztg l b o hB w hl hc hb hr hok
theorem Sg.in_block {s:Sg}(h:s.ok){w:World}{b:Nat}(hR:w.rangeAt b 0 s.cells.toList):w.cell? ⟨b,0,none⟩=some (.string ⟨s.id.toArray⟩)∧w.rangeAt b 1 (zj s.key):=by
 rw[Sg.list,qb,qb,zcy]at hR;obtain⟨h1,h2,-⟩:=hR;simp only[List.length_cons,List.length_nil,Nat.zero_add]at h2;exact⟨h1,h2⟩
end
section
open Go.RowKit
variable [OldK]
theorem zjf:Tryz.prog.underlying 40=some (.struct (Tryz.prog.fieldsOf 40)):=by kernel_rfl
theorem zms:Tryz.prog.stoodInHeld 40=false:=by kernel_rfl
theorem zjh:(Tryz.prog.fieldsOf 40).toList.map (fun f=>(f.name == "_", f.type,f.offset))=[(false,9,0),(false,25,1),(false,30,33)]:=by kernel_rfl
theorem zc7 {P:Program} (w:World) {t e:TypeId} {n:Nat} (hu:P.underlying t=some (.array n e)) (hi:(P.info? t).map (·.size)=some n) (xs:Array Value) (off:Nat):(part t xs off).run P w = .ok (.agg (xs.extract off (off+n))) w:=by
 cases hq:P.info? t with
 | none=>simp[hq]at hi
 | some i =>
   have hs:i.size=n:=by simpa[hq] using hi
   have hB:(isAgg t).run P w = .ok true w:=by
    unfold isAgg;rw[Sem.run_bind,run_underlying hu w];simp
   simp[part,Sem.run_bind,hB,sizeOf,typeInfo,hq,hs]
theorem zg6 {P:Program} (w:World) {t:TypeId} (hu:P.underlying t=some .string) (xs:Array Value) (off:Nat) (v:Value) (hv:xs[off]? = some v):(part t xs off).run P w = .ok v w:=by
 have hB:(isAgg t).run P w = .ok false w:=by
  unfold isAgg;rw[Sem.run_bind,run_underlying hu w];simp
 simp[part,Sem.run_bind,hB,hv]
theorem Sg.ext1 {s:Sg}(h:s.ok):s.cells.extract 1 33=(zj s.key).toArray:=by
 apply Array.toList_inj.1;have h1:(zj s.key).length=32:=by simp[zj,h.1]
 rw[Array.toList_extract,Sg.list];simp only[List.extract_eq_take_drop,List.singleton_append,List.drop_succ_cons,List.drop_zero,Nat.reduceSub];rw[List.take_append_of_le_length (by omega),List.take_of_length_le (by omega)]
theorem Sg.ext2 {s:Sg}(h:s.ok):s.cells.extract 33 97=(zj s.sig).toArray:=by
 apply Array.toList_inj.1;have h1:(zj s.key).length=32:=by simp[zj,h.1]
 have h2:(zj s.sig).length=64:=by simp[zj,h.2]
 rw[Array.toList_extract,Sg.list];simp only[List.extract_eq_take_drop,List.singleton_append,List.drop_succ_cons,Nat.reduceSub];rw[show 32=(zj s.key).length from h1.symm,List.drop_left,List.take_of_length_le (by omega)]
theorem zd9 {P:Program}(w:World)(d:Nat)(xs ys:Array Value)(f:Field)(fs:List Field)(A B:Value)(r:Bool)(hn:f.name ≠ "_")(ha:(part f.type xs f.offset).run P w = .ok A w)(hb:(part f.type ys f.offset).run P w = .ok B w)
 (hr:(Op.equalIn d f.type A B).run P w = .ok r w):(Op.eqFields d xs ys (f :: fs)).run P w=if r=true then (Op.eqFields d xs ys fs).run P w else .ok false w:=by
 simp only[Op.eqFields,hn,ne_eq,not_false_eq_true,if_true,Sem.run_bind,Result.andThen_ok,ha,hb,hr];cases r<;>simp
theorem zun {a b:Sg} (ha:a.ok) (hb:b.ok) (w:World) :
 (Op.equalIn 10000 40 (.agg a.cells) (.agg b.cells)).run zl w = .ok (zv2 a b) w:=by
 rw[run_equalIn_struct w 9999 _ _ _ zjf zms];have hf:=zjh;generalize (Tryz.prog.fieldsOf 40).toList=fs at hf
 obtain ⟨f1,f2,f3,rfl⟩:∃ f1 f2 f3,fs=[f1,f2,f3]:=by
  rcases fs with _ | ⟨f1,_ | ⟨f2,_ | ⟨f3,_ | ⟨f4,r⟩⟩⟩⟩<;>simp at hf
  exact⟨f1,f2,f3,rfl⟩
 simp only[List.map_cons,List.map_nil,List.cons.injEq,Prod.mk.injEq,beq_eq_false_iff_ne,and_true]at hf;obtain⟨⟨n1,t1,o1⟩,⟨n2,t2,o2⟩,n3,t3,o3⟩:=hf;have p1:=zg6 (P:=zl) w Tryz.underlying9 a.cells 0 _ (Sg.cell0 a);have q1:=zg6 (P:=zl) w Tryz.underlying9 b.cells 0 _ (Sg.cell0 b);have p2:=zc7 (P:=zl) w jo q8 a.cells 1;have q2:=zc7 (P:=zl) w jo q8 b.cells 1;have p3:=zc7 (P:=zl) w zca zgp a.cells 33;have q3:=zc7 (P:=zl) w zca zgp b.cells 33;simp only[Nat.reduceAdd]at p2 q2 p3 q3;rw[Sg.ext1 ha]at p2;rw[Sg.ext1 hb]at q2;rw[Sg.ext2 ha]at p3;rw[Sg.ext2 hb]at q3
 have e1:(Op.equalIn 9999 9 (.string ⟨a.id.toArray⟩) (.string ⟨b.id.toArray⟩)).run zl w = .ok (a.id==b.id) w:=by
  have:=run_equalIn_string (P:=zl) w 9998 9 ⟨a.id.toArray⟩ ⟨b.id.toArray⟩ Tryz.underlying9
  rwa [show(ByteArray.mk a.id.toArray).toList=a.id by simp[ByteArray.toList_eq],show(ByteArray.mk b.id.toArray).toList=b.id by simp[ByteArray.toList_eq]]at this
 have e2:(Op.equalIn 9999 25 (.agg (zj a.key).toArray) (.agg (zj b.key).toArray)).run zl w = .ok (a.key==b.key) w :=
  run_equalIn_bytes (P:=zl) w 9997 25 5 32 jo Tryz.underlying5 zef a.key b.key ha.1 hb.1
 have e3:(Op.equalIn 9999 30 (.agg (zj a.sig).toArray) (.agg (zj b.sig).toArray)).run zl w = .ok (a.sig==b.sig) w :=
  run_equalIn_bytes (P:=zl) w 9997 30 5 64 zca Tryz.underlying5 zef a.sig b.sig ha.2 hb.2
 unfold zv2;generalize (a.id==b.id)=x at e1;generalize (a.key==b.key)=y at e2;generalize (a.sig==b.sig)=z at e3
 rw [zd9 w 9999 _ _ f1 _ _ _ x n1 (by rw[t1,o1];exact p1) (by rw[t1,o1];exact q1) (by rw[t1];exact e1),
  zd9 w 9999 _ _ f2 _ _ _ y n2 (by rw[t2,o2];exact p2) (by rw[t2,o2];exact q2) (by rw[t2];exact e2),
  zd9 w 9999 _ _ f3 _ _ _ z n3 (by rw[t3,o3];exact p3) (by rw[t3,o3];exact q3) (by rw[t3];exact e3)]
 cases x<;>cases y<;>cases z<;>rfl
theorem zmz (l m:List Sg) (b1 o1 c1 b2 o2 c2:Nat) (w:World) (hlm:l.length=m.length) (hl:l.length≤1000) (hc1:l.length≤c1) (hc2:m.length≤c2) (hb1:b1<w.heap.size) (hb2:b2<w.heap.size)
 (hr1:∀ i (hi:i<l.length),w.rangeAt b1 (o1+i * 97) l[i].cells.toList) (hr2:∀ i (hi:i<m.length),w.rangeAt b2 (o2+i * 97) m[i].cells.toList) (hok1:∀ s∈l,s.ok) (hok2:∀ s∈m,s.ok) :
 Calls zl 78 #[.slice (some ⟨b1,o1,none⟩) l.length c1,.slice (some ⟨b2,o2,none⟩) m.length c2] w fun e w'=>e = .returned (.bool (zfl l m))∧Fr NoB w w':=by
 obtain⟨R,hR⟩:∃ R,zfl l m=R:=⟨_,rfl⟩;rw[hR];have HR:=zi hR;have Hlm:=zi hlm;have hP:=zi hr1;have hO:=zi hr2;have hK:=zi hok1;have hJ:=zi hok2;rw[← hlm]at hc2 ⊢;clear hR hlm hr1 hr2 hok1 hok2;go_enter Tryz.func78,Tryz.ntmps78
 go_wp2_with fail
 go_loopg [13] (l.length+1) (fun g vi wr=>∃ (i:Nat),vi = .int .i64 i∧i≤l.length∧i+g=l.length+1∧Fr NoB w wr∧Hid (zfl (l.drop i) (m.drop i)=R))
 case atStart=>exact⟨0,rfl,by omega,by omega,Fr.refl,HR⟩
 case round =>
  obtain⟨i,rfl,hi,hgk,hF,HS⟩:=hrel;have HF:=zi hF;clear hF;rcases Nat.lt_or_ge i l.length with hlt | hge
  ·have hC:i<m.length:=by have:=Hlm.out;omega
   have hS:=HS.out;rw[ztm l m Hlm.out i hlt hC]at hS;have g1:=j0 (hP.out i hlt) HF.out hb1 (fun _ h=>h);have g2:=j0 (hO.out i hC) HF.out hb2 (fun _ h=>h);have k1:=hK.out _ (List.getElem_mem hlt);have k2:=hJ.out _ (List.getElem_mem hC);have hq:∀ W,_:=zun k1 k2;have z1:=Sg.size k1;have z2:=Sg.size k2;obtain⟨d,hu,hd⟩:=zb5;have hG:(Tryz.prog.info? 40).map (·.size)=some l[i].cells.toList.length:=by rw[zac];simp[z1]
   have hE:(Tryz.prog.info? 40).map (·.size)=some m[i].cells.toList.length:=by rw[zac];simp[z2]
   obtain⟨r,hr⟩:∃ r,zv2 l[i] m[i]=r:=⟨_,rfl⟩;obtain⟨C1,hI⟩:∃ C,l[i].cells=C:=⟨_,rfl⟩;obtain⟨C2,hH⟩:∃ C,m[i].cells=C:=⟨_,rfl⟩;rw[hr]at hS;rw[hr,hI,hH]at hq;rw[hI]at g1 hG;rw[hH]at g2 hE;have hD:=zi hS;have hN:=zi hG;have hM:=zi hE;have Hu:=zi hu;have Hd:=zi hd;have G1:=zi g1;have G2:=zi g2;clear hS HS k1 k2 z1 z2 hI hH hr hG hE hu hd g1 g2;cases r
   all_goals
    go_upto_region 6 with(fail)
    refine wp_region_held_drew (S:=fun W=>W.rangeAt b1 (o1+i * 97) C1.toList∧W.rangeAt b2 (o2+i * 97) C2.toList) (by kernel_rfl) ⟨G1.out,G2.out⟩ (fun hB=>?_);simp only[qV]
    iterate 3
     refine qt (v:=?_) rfl (Or.inl ⟨by rfl,?_⟩) hB ?_;rotate_left
     ·intro W hL
      try simp only[qQ]
      go_simp
      try rw[if_neg (by omega)]
      try with_reducible rfl
     try simp only[Act.put,qP]
    refine qi (i:=3) rfl (yieldsIf_load_mid (by rfl) 40 _ rfl b1 (o1+i * 97) rfl C1.toList d (fun _ h=>h.1) Hu.out Hd.out hN.out) hB ?_
    try simp only[Act.put,qP]
    iterate 3
     refine qt (v:=?_) rfl (Or.inl ⟨by rfl,?_⟩) hB ?_;rotate_left
     ·intro W hL
      try simp only[qQ]
      go_simp
      try rw[if_neg (by omega)]
      try with_reducible rfl
     try simp only[Act.put,qP]
    refine qi (i:=7) rfl (yieldsIf_load_mid (by rfl) 40 _ rfl b2 (o2+i * 97) rfl C2.toList d (fun _ h=>h.2) Hu.out Hd.out hM.out) hB ?_
    try simp only[Act.put,qP]
    simp only[Array.toArray_toList];refine qt (v:=?_) rfl (Or.inl ⟨by rfl,?_⟩) hB ?_;rotate_left
    ·intro W hL
     try simp only[qQ]
     go_simp
     try rw[if_neg (by omega)]
     try with_reducible rfl
    try simp only[Act.put,qP]
    refine wpAnyH_done (by kernel_rfl) ?_ _
    go_wp2_with fail
    first
    | (go_ret
       exact⟨jj (by simpa using hD.out),HF.out.drew⟩)
    | (go_roundg (gk - 1)
       case measure=>omega
       case rel=>exact⟨i+1,by simp,by omega,by omega,HF.out.drew,zi (by simpa using hD.out)⟩)
  obtain rfl:i=l.length:=by omega
  have hS:=HS.out;rw[List.drop_length,Hlm.out,List.drop_length]at hS;have hD:=zi hS;clear hS HS
  go_wp2_with fail
  go_ret;exact⟨jj (by simpa[zfl] using hD.out),HF.out⟩
theorem zlb (n m c1 c2:Nat) (a1 a2:Option Addr) (w:World) (h:n≠m) :
 Calls zl 78 #[.slice a1 n c1,.slice a2 m c2] w fun e w'=>e = .returned (.bool false)∧Fr NoB w w':=by
 have hln:((n:Int) != (m:Int))=true:=by
  rw[bne_iff_ne];omega
 clear h;go_enter Tryz.func78,Tryz.ntmps78
 go_wp2_with fail
 go_ret;exact⟨rfl,Fr.refl⟩
theorem zlc (c1 c2:Nat) (a1 a2:Option Addr) (w:World) :
 Calls zl 78 #[.slice a1 0 c1,.slice a2 0 c2] w fun e w'=>e = .returned (.bool true)∧Fr NoB w w':=by
 go_enter Tryz.func78,Tryz.ntmps78
 go_wp2_with fail
 go_loopg [13] 0 (fun g vi wr=>vi = .int .i64 0∧w=wr)
 case atStart=>exact⟨rfl,rfl⟩
 case round =>
  obtain⟨rfl,rfl⟩:=hrel
  go_wp2_with fail
  go_ret;exact⟨rfl,Fr.refl⟩
theorem ztl {S S':Nat→Prop} {l m:List Sg} {v u:Value} {w:World} (hv:GS S l v w) (hu:GS S' m u w) (hl:l.length≤1000) (hok1:∀ s∈l,s.ok) (hok2:∀ s∈m,s.ok) :
 Calls zl 78 #[v,u] w fun e w'=>e = .returned (.bool (zfl l m))∧Fr NoB w w':=by
 obtain⟨a1,c1,rfl,hD,h1⟩:=hv;obtain⟨a2,c2,rfl,hC,h2⟩:=hu;by_cases hB:l.length=m.length
 ·rcases h1 with rfl | ⟨b1,o1,rfl,hS1,hb1,hr1⟩
  ·obtain rfl:m=[]:=List.length_eq_zero_iff.1 hB.symm;exact zlc c1 c2 a1 a2 w
  rcases h2 with rfl | ⟨b2,o2,rfl,hS2,hb2,hr2⟩
  ·obtain rfl:l=[]:=List.length_eq_zero_iff.1 hB;exact zlc c1 c2 _ a2 w
  exact zmz l m b1 o1 c1 b2 o2 c2 w hB hl hD hC hb1 hb2 hr1 hr2 hok1 hok2
 rw[zld l m hB];exact zlb _ _ c1 c2 a1 a2 w hB
end
end Go.Proofs.YtffggpplnjibgaaGreatDoor
