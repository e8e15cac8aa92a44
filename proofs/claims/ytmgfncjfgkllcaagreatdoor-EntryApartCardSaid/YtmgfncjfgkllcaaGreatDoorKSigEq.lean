/-
 The walk of entry.signed.
-/
import Derived.Test.YtmgfncjfgkllcaaGreatDoorKConcat
import Derived.Test.YtmgfncjfgkllcaaGreatDoorKB64
import Derived.Deep.MidRow
import Derived.Deep.RegionHeld3
import Derived.Deep.LoopGhost
import Derived.OrdersHeld
namespace Go.Proofs.YtmgfncjfgkllcaaGreatDoor
set_option linter.unusedVariables false
set_option linter.unusedSimpArgs false
set_option linter.unusedSectionVars false
open Go.RowKit
variable [OldK]
theorem zl4:((Tryz.prog.underlying 115).any (·.isRow))=true:=by kernel_rfl
theorem zb9:∃ d,Tryz.prog.underlying 115=some d∧d.isRow=true:=by
 have h:=zl4;cases hq:Tryz.prog.underlying 115 with
 | none=>rw[hq]at h;simp at h
 | some d=>rw[hq]at h;exact⟨d,rfl,by simpa using h⟩
theorem jf {M:Nat→Obj→Prop}{w w':World}{b o:Nat}{cs:List Value}(h:w.rangeAt b o cs)(hF:Fr M w w')(hb:b<w.heap.size)(hM:∀ ob,¬ M b ob):w'.rangeAt b o cs:=by
 obtain⟨ob,hA⟩:∃ ob,w.heap[b]? = some ob:=⟨_,Array.getElem?_eq_getElem hb⟩;exact zhy h ((hF.block _ _ hA (hM _)).trans hA.symm)
theorem zdz {M:Nat→Obj→Prop}{w w':World}{b o n:Nat}(h:w.there b o n)(hF:Fr M w w')(hb:b<w.heap.size)(hM:∀ ob,¬ M b ob):w'.there b o n:=by
 obtain⟨ob,hA⟩:∃ ob,w.heap[b]? = some ob:=⟨_,Array.getElem?_eq_getElem hb⟩;exact znv h ((hF.block _ _ hA (hM _)).trans hA.symm)
theorem Sg.one (s:Sg):s.cells.all (·.oneCell')=true:=by
 unfold Sg.cells;rw[Array.all_append,Array.all_append]
 have h:∀ l:Bs,((Lib.byteCells l).toArray.all (·.oneCell'))=true:=fun l=>all_oneCell_toArray (fun v hv=>by
  unfold Lib.byteCells at hv;rw[List.mem_map]at hv;obtain⟨x,_,rfl⟩:=hv
  rfl)
 rw[h,h];simp[Value.oneCell']
theorem Sg.list (s:Sg):s.cells.toList=[.string ⟨s.id.toArray⟩]++(Lib.byteCells s.key++Lib.byteCells s.sig):=by simp[Sg.cells]
set_option maxRecDepth 100000 in
set_option maxHeartbeats 2000000 in
theorem zrz (l : List Sg) (b o cap:Nat) (w:World) (hl:l.length≤1000000) (hc:l.length≤cap) (hb:b<w.heap.size)
 (hr:∀ i (hi:i<l.length),w.rangeAt b (o+i * 97) l[i].cells.toList) (hok:∀ s∈l,s.ok∧s.id.length≤1000000) :
 Calls Tryz.prog 149 #[.slice (some ⟨b,o,none⟩) l.length cap] w fun e w'=>e = .returned (.bool (zdr l))∧Fr NoB w w':=by
 obtain⟨P,hP⟩:∃ P,zdr l=P:=⟨_,rfl⟩;rw[hP];have Hr:=Lib.hid hr;have Hok:=Lib.hid hok;have HP:=Lib.hid hP;clear hr hok hP;go_enter Tryz.func149,Tryz.ntmps149
 go_wp2_with fail
 go_loopg [3,9] (l.length+1) (fun gf v3 vi wx=>∃ i:Nat,vi = .int .i64 i∧i≤l.length∧i+gf=l.length+1∧∃ hA:Bs,v3 = .string ⟨hA.toArray⟩∧Fr NoB w wx∧Hid ((zbf hA (l.drop i)&&(decide (1≤l.length)&&decide (l.length≤8)))=P))
 case atStart=>exact⟨0,rfl,by omega,by omega,[],rfl,Fr.refl,Lib.hid HP.out⟩
 case round =>
  obtain⟨i,rfl,hi,hig,hA,rfl,hF,HG⟩:=hrel;have HF:=Lib.hid hF;clear hF;by_cases hU:i<l.length
  ·have hK : decide ((i:Int)<l.length)=true:=decide_eq_true (by omega);have hE:=Hok.out _ (List.getElem_mem hU);have hR:=Hr.out i hU;have hW:=List.drop_eq_getElem_cons hU;obtain⟨s,hs⟩:∃ s,l[i]=s:=⟨_,rfl⟩;rw[hs]at hE hR hW;have hG:=HG.out;rw[hW,zbf]at hG;have hJ:=Sg.size hE.1;have hB:wr.rangeAt b (o+i * 97) s.cells.toList:=jf hR HF.out hb (fun _ h=>h);have HB:=Lib.hid hB;obtain⟨d,hu,hd⟩:=zb9;have Hu:=Lib.hid hu;have Hd:=Lib.hid hd;have Hz:=Lib.hid (show(Tryz.prog.info? 115).map (·.size)=some s.cells.toList.length by rw[j7];simp[hJ]);have ha:=Lib.hid (show(Tryz.prog.info? 115).map (·.size)=some s.cells.size by rw[j7,hJ]);have H1:=Lib.hid (Sg.one s);have HT:=Lib.hid (show ∀ z:Array Value,z.size=97→(wr.alloc (.cells z 115)).there wr.heap.size 0 s.cells.size from fun z hz=>jd (heap_alloc_new wr _) (by rw[hJ,hz];exact Nat.le_refl _));have hg:=fun W=>zmb s W hE.1 hE.2
   have Hsg:=Lib.hid hg;have Hso:=Lib.hid hE;have hI:=Lib.hid hG;have Hsz:=Lib.hid hJ;obtain⟨cs,hX⟩:∃ cs,s.cells=cs:=⟨_,rfl⟩;rw[hX]at HB Hz ha H1 HT Hsg Hsz;have Hs:=Lib.hid hs;have Hcs:=Lib.hid hX;clear hB hu hd hR hs hX hE hW hG hJ hg HG
   go_wp2_with(first | (refine wpList_load_mid rfl 115 _ rfl b (o+i * 97) rfl cs.toList d HB.out Hu.out Hd.out Hz.out ?_) | (refine wpList_store_mid rfl 115 _ _ rfl wr.heap.size 0 cs rfl rfl (HT.out _ rfl) ha.out H1.out ?_) | (refine wpList_load_mid rfl 115 _ rfl wr.heap.size 0 rfl cs.toList d (World.rangeAt_setCells_same _ wr.heap.size 0 cs.toList (by simpa using HT.out _ rfl)) Hu.out Hd.out Hz.out ?_))
   refine(Hsg.out _).mono ?_;rintro e w2 ⟨rfl,hO⟩;have ht:=World.rangeAt_setCells_same (wr.alloc (.cells Tryz.zeroCells115 115)) wr.heap.size 0 cs.toList (by simpa using HT.out _ rfl);have hp:wr.heap.size<((wr.alloc (.cells Tryz.zeroCells115 115)).setCells wr.heap.size 0 cs.toList).heap.size:=by have:=(z8 wr.heap.size cs.toList 0 (wr.alloc (.cells Tryz.zeroCells115 115))).size;simp at this;omega
   have hq:=jf ht hO hp (fun _ h=>h);have hv:Fr NoB w w2:=((HF.out.alloc (.cells Tryz.zeroCells115 115)).trans (z8 _ _ _ _) (fun k _ hm => .inr (by have:=HF.out.size;omega))).trans' hO;have h4:=hO.size;rw[← Hcs.out,Sg.list,qh,qh,zgr]at hq;obtain⟨c0,cK,-⟩:=hq;obtain⟨bn,hY⟩:∃ bn,wr.heap.size=bn:=⟨_,rfl⟩;have hk:w.heap.size≤bn:=by rw[← hY];exact HF.out.size
   have h3:bn<w2.heap.size:=by omega
   rw[hY]at c0 cK ⊢;have hG:=hI.out;unfold zui at hG;obtain⟨hV,-⟩:=Hso.out.1;have hj:=Hso.out.2;obtain⟨B,hB⟩:∃ B,qm s=B:=⟨_,rfl⟩;obtain⟨x1,h0⟩:∃ x,Op.bytesLess B hA=x:=⟨_,rfl⟩;obtain⟨x2,hy⟩:∃ x,(B==hA)=x:=⟨_,rfl⟩;obtain⟨id,hid⟩:∃ x,s.id=x:=⟨_,rfl⟩;obtain⟨key,hD⟩:∃ x,s.key=x:=⟨_,rfl⟩;rw[hB,h0,hy,hid,hD]at hG;rw[hid]at c0 hj cK;rw[hD]at cK hV;rw[hB];have hw:w2.rangeAt bn 1 (Lib.byteCells key):=cK;have hC:=Lib.hid hG;have hN:=Lib.hid hv;have h6:=Lib.hid hw;have Hkl:=Lib.hid hV;have Hnm:=Lib.hid (fun W=>zlj id W (by omega));have Hx:=Lib.hid hk;clear hO ht hp hv h4 cK hw hY hB hid hD hG hV hk hI HB ha H1 HT Hsg HF Hs Hcs;cases x1 with
   | true =>
     go_wp2_with fail
     go_ret;exact⟨jr (by simpa using hC.out),hN.out⟩
   | false =>
     cases x2 with
     | true =>
       go_wp2_with fail
       go_ret;exact⟨jr (by simpa using hC.out),hN.out⟩
     | false =>
       cases id with
       | nil =>
         have hP:=hC.out;simp only[List.isEmpty_nil,Bool.not_true,Bool.false_and,Bool.or_false,Bool.false_eq_true,if_false]at hP;have h7:=Lib.hid hP;clear hP
         go_wp2_with fail
         go_roundg (gk - 1)
         case measure=>omega
         case rel=>exact⟨i+1,by simp,by omega,by omega,_,rfl,hN.out,h7⟩
       | cons c r =>
         have hh:(c :: r:Bs).isEmpty=false:=rfl;obtain⟨id,hid⟩:∃ l,(c :: r:Bs)=l:=⟨_,rfl⟩;rw[hid]at hh c0 hC Hnm hj;clear hid;obtain⟨bm,ho⟩:∃ x,q9 id=x:=⟨_,rfl⟩;have hG:=hC.out;have hS:=Hnm.out;rw[ho]at hS hG;rw[hh]at hG;have hL:=Lib.hid hS;have hf:=Lib.hid hG;clear ho hG hC hS Hnm;cases bm with
         | false =>
           go_wp2_with fail
           refine(hL.out _).mono ?_;rintro e w3 ⟨rfl,hH⟩;have hQ:=Lib.hid (hN.out.trans' hH);clear hH
           go_wp2_with fail
           go_ret;exact⟨jr (by simpa using hf.out),hQ.out⟩
         | true =>
           obtain⟨bk,hZ⟩:∃ x,(key==jb)=x:=⟨_,rfl⟩;have hG:=hf.out;rw[bne,hZ]at hG;have hT:=zu4 key Hkl.out;rw[hZ]at hT;have hx:=Lib.hid hG;clear hZ hG hf
           go_wp2_with fail
           refine(hL.out _).mono ?_;rintro e w3 ⟨rfl,hH⟩;have hQ:=Lib.hid (hN.out.trans' hH);have hM:=jf h6.out hH h3 (fun _ h=>h);have h5:=Lib.hid (show(Tryz.prog.info? 25).map (·.size)=some (Lib.byteCells key).length by rw[zac];simp[Lib.byteCells,Hkl.out]);have he:=Lib.hid hM;clear hH hM;cases bk
           all_goals
            go_wp2_with(refine j3 25 _ rfl bn 1 rfl (Lib.byteCells key) _ he.out qg rfl h5.out rfl ?_)
            first
            | (go_ret
               exact⟨jr (by simpa using hx.out),hQ.out⟩)
            | (go_roundg (gk - 1)
               case measure=>omega
               case rel=>exact⟨i+1,by simp,by omega,by omega,_,rfl,hQ.out,Lib.hid (by simpa using hx.out)⟩)
  obtain rfl:i=l.length:=by omega
  have hG:=HG.out;rw[List.drop_of_length_le (Nat.le_refl _),zbf,Bool.true_and]at hG;have hI:=Lib.hid hG;have hK:decide ((l.length:Int)<l.length)=false:=by simp
  obtain⟨n,hn⟩:∃ n,l.length=n:=⟨_,rfl⟩;rw[hn]at hI hK ⊢;clear hG HG hn;obtain⟨b1,h2⟩:∃ b,decide ((1:Int)≤(n:Int))=b:=⟨_,rfl⟩;obtain⟨b2,h1⟩:∃ b,decide ((n:Int)≤8)=b:=⟨_,rfl⟩;have e1:decide (1≤n)=b1:=by rw[← h2];exact decide_eq_decide.2 (by omega)
  have e2:decide (n≤8)=b2:=by rw[← h1];exact decide_eq_decide.2 (by omega)
  have hG:=hI.out;rw[e1,e2]at hG;have hC:=Lib.hid hG;clear e1 e2 hG hI;cases b1<;>cases b2
  all_goals
   go_wp2_with fail
   go_ret;exact⟨jr (by simpa using hC.out),HF.out⟩
set_option maxRecDepth 100000 in
theorem zn3 (a:Option Addr) (cap:Nat) (w:World) :
 Calls Tryz.prog 149 #[.slice a 0 cap] w fun e w'=>e = .returned (.bool false)∧Fr NoB w w':=by
 go_enter Tryz.func149,Tryz.ntmps149
 go_wp2_with fail
 go_loopg [3,9] 0 (fun gf v3 vi wx=>vi = .int .i64 0∧w=wx)
 case atStart=>exact⟨rfl,rfl⟩
 case round =>
  obtain⟨rfl,rfl⟩:=hrel
  go_wp2_with fail
  go_ret;exact⟨rfl,Fr.refl⟩
theorem zpk {S:Nat→Prop}{l:List Sg}{v:Value}{w:World}(h:GS S l v w)(hl:l.length≤1000000)(hok:∀ s∈l,s.ok∧s.id.length≤1000000) :
 Calls Tryz.prog 149 #[v] w fun e w'=>e = .returned (.bool (zdr l))∧Fr NoB w w':=by
 obtain⟨a,hA,rfl,hc,rfl | ⟨b,o,rfl,hS,hb,hr⟩⟩:=h
 ·exact zn3 a hA w
 exact zrz l b o hA w hl hc hb hr hok
end Go.Proofs.YtmgfncjfgkllcaaGreatDoor
namespace Go.Proofs.YtmgfncjfgkllcaaGreatDoor
set_option linter.unusedVariables false
set_option linter.unusedSimpArgs false
set_option linter.unusedSectionVars false
open Go.RowKit
variable [OldK]
theorem zhk:Tryz.prog.underlying 115=some (.struct (Tryz.prog.fieldsOf 115)):=by kernel_rfl
theorem zkn:Tryz.prog.stoodInHeld 115=false:=by kernel_rfl
theorem zhl:(Tryz.prog.fieldsOf 115).toList.map (fun f=>(f.name == "_", f.type,f.offset))=[(false,9,0),(false,25,1),(false,113,33)]:=by kernel_rfl
theorem zci {P:Program} (w:World) {t e:TypeId} {n:Nat} (hu:P.underlying t=some (.array n e)) (hi:(P.info? t).map (·.size)=some n) (xs:Array Value) (off:Nat):(part t xs off).run P w = .ok (.agg (xs.extract off (off+n))) w:=by
 cases hq:P.info? t with
 | none=>simp[hq]at hi
 | some i =>
   have hs:i.size=n:=by simpa[hq] using hi
   have hA:(isAgg t).run P w = .ok true w:=by
    unfold isAgg;rw[Sem.run_bind,run_underlying hu w];simp
   simp[part,Sem.run_bind,hA,sizeOf,typeInfo,hq,hs]
theorem zfo {P:Program} (w:World) {t:TypeId} (hu:P.underlying t=some .string) (xs:Array Value) (off:Nat) (v:Value) (hv:xs[off]? = some v):(part t xs off).run P w = .ok v w:=by
 have hA:(isAgg t).run P w = .ok false w:=by
  unfold isAgg;rw[Sem.run_bind,run_underlying hu w];simp
 simp[part,Sem.run_bind,hA,hv]
theorem Sg.ext1 {s:Sg}(h:s.ok):s.cells.extract 1 33=(Lib.byteCells s.key).toArray:=by
 apply Array.toList_inj.1;have h1:(Lib.byteCells s.key).length=32:=by simp[Lib.byteCells,h.1]
 rw[Array.toList_extract,Sg.list];simp only[List.extract_eq_take_drop,List.singleton_append,List.drop_succ_cons,List.drop_zero,Nat.reduceSub];rw[List.take_append_of_le_length (by omega),List.take_of_length_le (by omega)]
theorem Sg.ext2 {s:Sg}(h:s.ok):s.cells.extract 33 97=(Lib.byteCells s.sig).toArray:=by
 apply Array.toList_inj.1;have h1:(Lib.byteCells s.key).length=32:=by simp[Lib.byteCells,h.1]
 have h2:(Lib.byteCells s.sig).length=64:=by simp[Lib.byteCells,h.2]
 rw[Array.toList_extract,Sg.list];simp only[List.extract_eq_take_drop,List.singleton_append,List.drop_succ_cons,Nat.reduceSub];rw[show 32=(Lib.byteCells s.key).length from h1.symm,List.drop_left,List.take_of_length_le (by omega)]
theorem zc7 {P:Program}(w:World)(d:Nat)(xs ys:Array Value)(f:Field)(fs:List Field)(A B:Value)(r:Bool)(hn:f.name ≠ "_")(ha:(part f.type xs f.offset).run P w = .ok A w)(hb:(part f.type ys f.offset).run P w = .ok B w)
 (hr:(Op.equalIn d f.type A B).run P w = .ok r w):(Op.eqFields d xs ys (f :: fs)).run P w=if r=true then (Op.eqFields d xs ys fs).run P w else .ok false w:=by
 simp only[Op.eqFields,hn,ne_eq,not_false_eq_true,if_true,Sem.run_bind,Result.andThen_ok,ha,hb,hr];cases r<;>simp
theorem zs7 {a b:Sg} (ha:a.ok) (hb:b.ok) (w:World) :
 (Op.equalIn 10000 115 (.agg a.cells) (.agg b.cells)).run Tryz.prog w = .ok (zuh a b) w:=by
 rw[run_equalIn_struct w 9999 _ _ _ zhk zkn];have hf:=zhl;generalize (Tryz.prog.fieldsOf 115).toList=fs at hf
 obtain ⟨f1,f2,f3,rfl⟩:∃ f1 f2 f3,fs=[f1,f2,f3]:=by
  rcases fs with _ | ⟨f1,_ | ⟨f2,_ | ⟨f3,_ | ⟨f4,r⟩⟩⟩⟩<;>simp at hf
  exact⟨f1,f2,f3,rfl⟩
 simp only[List.map_cons,List.map_nil,List.cons.injEq,Prod.mk.injEq,beq_eq_false_iff_ne,and_true]at hf;obtain⟨⟨n1,t1,o1⟩,⟨n2,t2,o2⟩,n3,t3,o3⟩:=hf;have p1:=zfo (P:=Tryz.prog) w Tryz.underlying9 a.cells 0 _ (Sg.cell0 a);have q1:=zfo (P:=Tryz.prog) w Tryz.underlying9 b.cells 0 _ (Sg.cell0 b);have p2:=zci (P:=Tryz.prog) w qg zac a.cells 1;have q2:=zci (P:=Tryz.prog) w qg zac b.cells 1;have p3:=zci (P:=Tryz.prog) w zcr ze3 a.cells 33;have q3:=zci (P:=Tryz.prog) w zcr ze3 b.cells 33;simp only[Nat.reduceAdd]at p2 q2 p3 q3;rw[Sg.ext1 ha]at p2;rw[Sg.ext1 hb]at q2;rw[Sg.ext2 ha]at p3;rw[Sg.ext2 hb]at q3
 have e1:(Op.equalIn 9999 9 (.string ⟨a.id.toArray⟩) (.string ⟨b.id.toArray⟩)).run Tryz.prog w = .ok (a.id==b.id) w:=by
  have:=run_equalIn_string (P:=Tryz.prog) w 9998 9 ⟨a.id.toArray⟩ ⟨b.id.toArray⟩ Tryz.underlying9
  rwa [show(ByteArray.mk a.id.toArray).toList=a.id by simp[ByteArray.toList_eq],show(ByteArray.mk b.id.toArray).toList=b.id by simp[ByteArray.toList_eq]]at this
 have e2:(Op.equalIn 9999 25 (.agg (Lib.byteCells a.key).toArray) (.agg (Lib.byteCells b.key).toArray)).run Tryz.prog w = .ok (a.key==b.key) w :=
  run_equalIn_bytes (P:=Tryz.prog) w 9997 25 5 32 qg Tryz.underlying5 zdc a.key b.key ha.1 hb.1
 have e3:(Op.equalIn 9999 113 (.agg (Lib.byteCells a.sig).toArray) (.agg (Lib.byteCells b.sig).toArray)).run Tryz.prog w = .ok (a.sig==b.sig) w :=
  run_equalIn_bytes (P:=Tryz.prog) w 9997 113 5 64 zcr Tryz.underlying5 zdc a.sig b.sig ha.2 hb.2
 unfold zuh;generalize (a.id==b.id)=x at e1;generalize (a.key==b.key)=y at e2;generalize (a.sig==b.sig)=z at e3
 rw [zc7 w 9999 _ _ f1 _ _ _ x n1 (by rw[t1,o1];exact p1) (by rw[t1,o1];exact q1) (by rw[t1];exact e1),
  zc7 w 9999 _ _ f2 _ _ _ y n2 (by rw[t2,o2];exact p2) (by rw[t2,o2];exact q2) (by rw[t2];exact e2),
  zc7 w 9999 _ _ f3 _ _ _ z n3 (by rw[t3,o3];exact p3) (by rw[t3,o3];exact q3) (by rw[t3];exact e3)]
 cases x<;>cases y<;>cases z<;>rfl
set_option maxRecDepth 100000 in
set_option maxHeartbeats 1000000 in
theorem zk4 (l m:List Sg) (b1 o1 c1 b2 o2 c2:Nat) (w:World) (hlm:l.length=m.length) (hl:l.length≤1000000) (hc1:l.length≤c1) (hc2:m.length≤c2) (hb1:b1<w.heap.size) (hb2:b2<w.heap.size)
 (hr1:∀ i (hi:i<l.length),w.rangeAt b1 (o1+i * 97) l[i].cells.toList) (hr2:∀ i (hi:i<m.length),w.rangeAt b2 (o2+i * 97) m[i].cells.toList) (hok1:∀ s∈l,s.ok) (hok2:∀ s∈m,s.ok) :
 Calls Tryz.prog 63 #[.slice (some ⟨b1,o1,none⟩) l.length c1,.slice (some ⟨b2,o2,none⟩) m.length c2] w fun e w'=>e = .returned (.bool (zd8 l m))∧Fr NoB w w':=by
 obtain⟨R,hR⟩:∃ R,zd8 l m=R:=⟨_,rfl⟩;rw[hR];have HR:=Lib.hid hR;have Hlm:=Lib.hid hlm;have hO:=Lib.hid hr1;have hN:=Lib.hid hr2;have hJ:=Lib.hid hok1;have hI:=Lib.hid hok2;rw[← hlm]at hc2 ⊢;clear hR hlm hr1 hr2 hok1 hok2;go_enter Tryz.func63,Tryz.ntmps63
 go_wp2_with fail
 go_loopg [13] (l.length+1) (fun g vi wr=>∃ (i:Nat),vi = .int .i64 i∧i≤l.length∧i+g=l.length+1∧Fr NoB w wr∧Hid (zd8 (l.drop i) (m.drop i)=R))
 case atStart=>exact⟨0,rfl,by omega,by omega,Fr.refl,HR⟩
 case round =>
  obtain⟨i,rfl,hi,hgk,hF,HS⟩:=hrel;have HF:=Lib.hid hF;clear hF;rcases Nat.lt_or_ge i l.length with hlt | hge
  ·have hB:i<m.length:=by have:=Hlm.out;omega
   have hS:=HS.out;rw[zr4 l m Hlm.out i hlt hB]at hS;have g1:=jf (hO.out i hlt) HF.out hb1 (fun _ h=>h);have g2:=jf (hN.out i hB) HF.out hb2 (fun _ h=>h);have k1:=hJ.out _ (List.getElem_mem hlt);have k2:=hI.out _ (List.getElem_mem hB);have hq:∀ W,_:=zs7 k1 k2;have z1:=Sg.size k1;have z2:=Sg.size k2;obtain⟨d,hu,hd⟩:=zb9;have hE:(Tryz.prog.info? 115).map (·.size)=some l[i].cells.toList.length:=by rw[j7];simp[z1]
   have hD:(Tryz.prog.info? 115).map (·.size)=some m[i].cells.toList.length:=by rw[j7];simp[z2]
   obtain⟨r,hr⟩:∃ r,zuh l[i] m[i]=r:=⟨_,rfl⟩;obtain⟨C1,hH⟩:∃ C,l[i].cells=C:=⟨_,rfl⟩;obtain⟨C2,hG⟩:∃ C,m[i].cells=C:=⟨_,rfl⟩;rw[hr]at hS;rw[hr,hH,hG]at hq;rw[hH]at g1 hE;rw[hG]at g2 hD;have hC:=Lib.hid hS;have hM:=Lib.hid hE;have hL:=Lib.hid hD;have Hu:=Lib.hid hu;have Hd:=Lib.hid hd;have G1:=Lib.hid g1;have G2:=Lib.hid g2;clear hS HS k1 k2 z1 z2 hH hG hr hE hD hu hd g1 g2;cases r
   all_goals
    go_upto_region 6 with(fail)
    refine wp_region_held_drew (S:=fun W=>W.rangeAt b1 (o1+i * 97) C1.toList∧W.rangeAt b2 (o2+i * 97) C2.toList) (by kernel_rfl) ⟨G1.out,G2.out⟩ (fun hA=>?_);simp only[qV]
    iterate 3
     refine qt (v:=?_) rfl (Or.inl ⟨by rfl,?_⟩) hA ?_;rotate_left
     ·intro W hK
      try simp only[qQ]
      go_simp
      try rw[if_neg (by omega)]
      try with_reducible rfl
     try simp only[Act.put,qP]
    refine qi (i:=3) rfl (yieldsIf_load_mid (by rfl) 115 _ rfl b1 (o1+i * 97) rfl C1.toList d (fun _ h=>h.1) Hu.out Hd.out hM.out) hA ?_
    try simp only[Act.put,qP]
    iterate 3
     refine qt (v:=?_) rfl (Or.inl ⟨by rfl,?_⟩) hA ?_;rotate_left
     ·intro W hK
      try simp only[qQ]
      go_simp
      try rw[if_neg (by omega)]
      try with_reducible rfl
     try simp only[Act.put,qP]
    refine qi (i:=7) rfl (yieldsIf_load_mid (by rfl) 115 _ rfl b2 (o2+i * 97) rfl C2.toList d (fun _ h=>h.2) Hu.out Hd.out hL.out) hA ?_
    try simp only[Act.put,qP]
    simp only[Array.toArray_toList];refine qt (v:=?_) rfl (Or.inl ⟨by rfl,?_⟩) hA ?_;rotate_left
    ·intro W hK
     try simp only[qQ]
     go_simp
     try rw[if_neg (by omega)]
     try with_reducible rfl
    try simp only[Act.put,qP]
    refine wpAnyH_done (by kernel_rfl) ?_ _
    go_wp2_with fail
    first
    | (go_ret
       exact⟨jr (by simpa using hC.out),HF.out.drew⟩)
    | (go_roundg (gk - 1)
       case measure=>omega
       case rel=>exact⟨i+1,by simp,by omega,by omega,HF.out.drew,Lib.hid (by simpa using hC.out)⟩)
  obtain rfl:i=l.length:=by omega
  have hS:=HS.out;rw[List.drop_length,Hlm.out,List.drop_length]at hS;have hC:=Lib.hid hS;clear hS HS
  go_wp2_with fail
  go_ret;exact⟨jr (by simpa[zd8] using hC.out),HF.out⟩
set_option maxRecDepth 100000 in
theorem zjp (n m c1 c2:Nat) (a1 a2:Option Addr) (w:World) (h:n≠m) :
 Calls Tryz.prog 63 #[.slice a1 n c1,.slice a2 m c2] w fun e w'=>e = .returned (.bool false)∧Fr NoB w w':=by
 have hln:((n:Int) != (m:Int))=true:=by
  rw[bne_iff_ne];omega
 clear h;go_enter Tryz.func63,Tryz.ntmps63
 go_wp2_with fail
 go_ret;exact⟨rfl,Fr.refl⟩
set_option maxRecDepth 100000 in
theorem zjq (c1 c2:Nat) (a1 a2:Option Addr) (w:World) :
 Calls Tryz.prog 63 #[.slice a1 0 c1,.slice a2 0 c2] w fun e w'=>e = .returned (.bool true)∧Fr NoB w w':=by
 go_enter Tryz.func63,Tryz.ntmps63
 go_wp2_with fail
 go_loopg [13] 0 (fun g vi wr=>vi = .int .i64 0∧w=wr)
 case atStart=>exact⟨rfl,rfl⟩
 case round =>
  obtain⟨rfl,rfl⟩:=hrel
  go_wp2_with fail
  go_ret;exact⟨rfl,Fr.refl⟩
theorem zr2 {S S':Nat→Prop} {l m:List Sg} {v u:Value} {w:World} (hv:GS S l v w) (hu:GS S' m u w) (hl:l.length≤1000000) (hok1:∀ s∈l,s.ok) (hok2:∀ s∈m,s.ok) :
 Calls Tryz.prog 63 #[v,u] w fun e w'=>e = .returned (.bool (zd8 l m))∧Fr NoB w w':=by
 obtain⟨a1,c1,rfl,hC,h1⟩:=hv;obtain⟨a2,c2,rfl,hB,h2⟩:=hu;by_cases hA:l.length=m.length
 ·rcases h1 with rfl | ⟨b1,o1,rfl,hS1,hb1,hr1⟩
  ·obtain rfl:m=[]:=List.length_eq_zero_iff.1 hA.symm;exact zjq c1 c2 a1 a2 w
  rcases h2 with rfl | ⟨b2,o2,rfl,hS2,hb2,hr2⟩
  ·obtain rfl:l=[]:=List.length_eq_zero_iff.1 hA;exact zjq c1 c2 _ a2 w
  exact zk4 l m b1 o1 c1 b2 o2 c2 w hA hl hC hB hb1 hb2 hr1 hr2 hok1 hok2
 rw[zjr l m hA];exact zjp _ _ c1 c2 a1 a2 w hA
end Go.Proofs.YtmgfncjfgkllcaaGreatDoor
