/-
 The walk of entry.signed.
-/
import Derived.Test.YtmgfncjfgkllcaaGreatDoorKEnAt
import Derived.Deep.MidRow
import Derived.Deep.RegionHeld3
import Derived.Deep.LoopGhost
import Derived.OrdersHeld
open Go.Lib renaming hid→za,byteCells→zb
open Go.Proofs.Tryz renaming prog→ze
namespace Go.Proofs.YtmgfncjfgkllcaaGreatDoor
set_option linter.unusedVariables false
set_option linter.unusedSimpArgs false
set_option linter.unusedSectionVars false
set_option maxRecDepth 100000
set_option maxHeartbeats 2000000
section
open Go.RowKit
variable [OldK]
theorem zps:((Tryz.prog.underlying 115).any (·.isRow))=true:=by kernel_rfl
theorem zdm:∃ d,Tryz.prog.underlying 115=some d∧d.isRow=true:=by
 have h:=zps;cases hq:Tryz.prog.underlying 115 with
 | none=>rw[hq]at h;simp at h
 | some d=>rw[hq]at h;exact⟨d,rfl,by simpa using h⟩
theorem ji {M:Nat→Obj→Prop}{w w':World}{b o:Nat}{cs:List Value}(h:w.rangeAt b o cs)(hF:Fr M w w')(hb:b<w.heap.size)(hM:∀ ob,¬ M b ob):w'.rangeAt b o cs:=by
 obtain⟨ob,hA⟩:∃ ob,w.heap[b]? = some ob:=⟨_,Array.getElem?_eq_getElem hb⟩;exact zkq h ((hF.block _ _ hA (hM _)).trans hA.symm)
theorem zfm {M:Nat→Obj→Prop}{w w':World}{b o n:Nat}(h:w.there b o n)(hF:Fr M w w')(hb:b<w.heap.size)(hM:∀ ob,¬ M b ob):w'.there b o n:=by
 obtain⟨ob,hA⟩:∃ ob,w.heap[b]? = some ob:=⟨_,Array.getElem?_eq_getElem hb⟩;exact zrm h ((hF.block _ _ hA (hM _)).trans hA.symm)
theorem Sg.one (s:Sg):s.cells.all (·.oneCell')=true:=by
 unfold Sg.cells;rw[Array.all_append,Array.all_append]
 have h:∀ l:Bs,((zb l).toArray.all (·.oneCell'))=true:=fun l=>all_oneCell_toArray (fun v hv=>by
  unfold zb at hv;rw[List.mem_map]at hv;obtain⟨x,_,rfl⟩:=hv
  rfl)
 rw[h,h];simp[Value.oneCell']
theorem Sg.list (s:Sg):s.cells.toList=[.string ⟨s.id.toArray⟩]++(zb s.key++zb s.sig):=by simp[Sg.cells]
theorem zwj (l : List Sg) (b o cap:Nat) (w:World) (hl:l.length≤1000000) (hc:l.length≤cap) (hb:b<w.heap.size)
 (hr:∀ i (hi:i<l.length),w.rangeAt b (o+i * 97) l[i].cells.toList) (hok:∀ s∈l,s.ok∧s.id.length≤1000000) :
 Calls ze 149 #[.slice (some ⟨b,o,none⟩) l.length cap] w fun e w'=>e = .returned (.bool (zfe l))∧Fr NoB w w':=by
 obtain⟨P,hP⟩:∃ P,zfe l=P:=⟨_,rfl⟩;rw[hP];have Hr:=za hr;have Hok:=za hok;have HP:=za hP;clear hr hok hP;go_enter Tryz.func149,Tryz.ntmps149
 go_wp2_with fail
 go_loopg [3,9] (l.length+1) (fun gf v3 vi wx=>∃ i:Nat,vi = .int .i64 i∧i≤l.length∧i+gf=l.length+1∧∃ hA:Bs,v3 = .string ⟨hA.toArray⟩∧Fr NoB w wx∧Hid ((zco hA (l.drop i)&&(decide (1≤l.length)&&decide (l.length≤8)))=P))
 case atStart=>exact⟨0,rfl,by omega,by omega,[],rfl,Fr.refl,za HP.out⟩
 case round =>
  obtain⟨i,rfl,hi,hig,hA,rfl,hF,HG⟩:=hrel;have HF:=za hF;clear hF;by_cases hV:i<l.length
  ·have hL : decide ((i:Int)<l.length)=true:=decide_eq_true (by omega);have hE:=Hok.out _ (List.getElem_mem hV);have hR:=Hr.out i hV;have hX:=List.drop_eq_getElem_cons hV;obtain⟨s,hs⟩:∃ s,l[i]=s:=⟨_,rfl⟩;rw[hs]at hE hR hX;have hG:=HG.out;rw[hX,zco]at hG;have hK:=Sg.size hE.1;have hB:wr.rangeAt b (o+i * 97) s.cells.toList:=ji hR HF.out hb (fun _ h=>h);have HB:=za hB;obtain⟨d,hu,hd⟩:=zdm;have Hu:=za hu;have Hd:=za hd;have Hz:=za (show(Tryz.prog.info? 115).map (·.size)=some s.cells.toList.length by rw[qv];simp[hK]);have he:=za (show(Tryz.prog.info? 115).map (·.size)=some s.cells.size by rw[qv,hK]);have H1:=za (Sg.one s);have HT:=za (show ∀ z:Array Value,z.size=97→(wr.alloc (.cells z 115)).there wr.heap.size 0 s.cells.size from fun z hz=>jf (heap_alloc_new wr _) (by rw[hK,hz];exact Nat.le_refl _));have hh:=fun W=>zpz s W hE.1 hE.2
   have Hsg:=za hh;have Hso:=za hE;have hJ:=za hG;have Hsz:=za hK;obtain⟨cs,hY⟩:∃ cs,s.cells=cs:=⟨_,rfl⟩;rw[hY]at HB Hz he H1 HT Hsg Hsz;have Hs:=za hs;have Hcs:=za hY;clear hB hu hd hR hs hY hE hX hG hK hh HG
   go_wp2_with(first | (refine wpList_load_mid rfl 115 _ rfl b (o+i * 97) rfl cs.toList d HB.out Hu.out Hd.out Hz.out ?_) | (refine wpList_store_mid rfl 115 _ _ rfl wr.heap.size 0 cs rfl rfl (HT.out _ rfl) he.out H1.out ?_) | (refine wpList_load_mid rfl 115 _ rfl wr.heap.size 0 rfl cs.toList d (World.rangeAt_setCells_same _ wr.heap.size 0 cs.toList (by simpa using HT.out _ rfl)) Hu.out Hd.out Hz.out ?_))
   refine(Hsg.out _).mono ?_;rintro e w2 ⟨rfl,hQ⟩;have hv:=World.rangeAt_setCells_same (wr.alloc (.cells Tryz.zeroCells115 115)) wr.heap.size 0 cs.toList (by simpa using HT.out _ rfl);have hq:wr.heap.size<((wr.alloc (.cells Tryz.zeroCells115 115)).setCells wr.heap.size 0 cs.toList).heap.size:=by have:=(z8 wr.heap.size cs.toList 0 (wr.alloc (.cells Tryz.zeroCells115 115))).size;simp at this;omega
   have ht:=ji hv hQ hq (fun _ h=>h);have hw:Fr NoB w w2:=((HF.out.alloc (.cells Tryz.zeroCells115 115)).trans (z8 _ _ _ _) (fun k _ hm => .inr (by have:=HF.out.size;omega))).trans' hQ;have h5:=hQ.size;rw[← Hcs.out,Sg.list,zah,zah,zi8]at ht;obtain⟨c0,cK,-⟩:=ht;obtain⟨bn,hZ⟩:∃ bn,wr.heap.size=bn:=⟨_,rfl⟩;have ho:w.heap.size≤bn:=by rw[← hZ];exact HF.out.size
   have h4:bn<w2.heap.size:=by omega
   rw[hZ]at c0 cK ⊢;have hG:=hJ.out;unfold zzk at hG;obtain⟨hW,-⟩:=Hso.out.1;have hk:=Hso.out.2;obtain⟨B,hB⟩:∃ B,zal s=B:=⟨_,rfl⟩;obtain⟨x1,h1⟩:∃ x,Op.bytesLess B hA=x:=⟨_,rfl⟩;obtain⟨x2,h0⟩:∃ x,(B==hA)=x:=⟨_,rfl⟩;obtain⟨id,hH⟩:∃ x,s.id=x:=⟨_,rfl⟩;obtain⟨key,hD⟩:∃ x,s.key=x:=⟨_,rfl⟩;rw[hB,h1,h0,hH,hD]at hG;rw[hH]at c0 hk cK;rw[hD]at cK hW;rw[hB];have hx:w2.rangeAt bn 1 (zb key):=cK;have hC:=za hG;have hO:=za hw;have h7:=za hx;have Hkl:=za hW;have Hnm:=za (fun W=>zo0 id W (by omega));have Hx:=za ho;clear hQ hv hq hw h5 cK hx hZ hB hH hD hG hW ho hJ HB he H1 HT Hsg HF Hs Hcs;cases x1 with
   | true =>
     go_wp2_with fail
     go_ret;exact⟨jy (by simpa using hC.out),hO.out⟩
   | false =>
     cases x2 with
     | true =>
       go_wp2_with fail
       go_ret;exact⟨jy (by simpa using hC.out),hO.out⟩
     | false =>
       cases id with
       | nil =>
         have hP:=hC.out;simp only[List.isEmpty_nil,Bool.not_true,Bool.false_and,Bool.or_false,Bool.false_eq_true,if_false]at hP;have h8:=za hP;clear hP
         go_wp2_with fail
         go_roundg (gk - 1)
         case measure=>omega
         case rel=>exact⟨i+1,by simp,by omega,by omega,_,rfl,hO.out,h8⟩
       | cons c r =>
         have hj:(c :: r:Bs).isEmpty=false:=rfl;obtain⟨id,hH⟩:∃ l,(c :: r:Bs)=l:=⟨_,rfl⟩;rw[hH]at hj c0 hC Hnm hk;clear hH;obtain⟨bm,hp⟩:∃ x,za0 id=x:=⟨_,rfl⟩;have hG:=hC.out;have hT:=Hnm.out;rw[hp]at hT hG;rw[hj]at hG;have hM:=za hT;have hg:=za hG;clear hp hG hC hT Hnm;cases bm with
         | false =>
           go_wp2_with fail
           refine(hM.out _).mono ?_;rintro e w3 ⟨rfl,hI⟩;have hS:=za (hO.out.trans' hI);clear hI
           go_wp2_with fail
           go_ret;exact⟨jy (by simpa using hg.out),hS.out⟩
         | true =>
           obtain⟨bk,ha⟩:∃ x,(key==jd)=x:=⟨_,rfl⟩;have hG:=hg.out;rw[bne,ha]at hG;have hU:=z0a key Hkl.out;rw[ha]at hU;have hy:=za hG;clear ha hG hg
           go_wp2_with fail
           refine(hM.out _).mono ?_;rintro e w3 ⟨rfl,hI⟩;have hS:=za (hO.out.trans' hI);have hN:=ji h7.out hI h4 (fun _ h=>h);have h6:=za (show(Tryz.prog.info? 25).map (·.size)=some (zb key).length by rw[za3];simp[zb,Hkl.out]);have hf:=za hN;clear hI hN;cases bk
           all_goals
            go_wp2_with(refine qh 25 _ rfl bn 1 rfl (zb key) _ hf.out zag rfl h6.out rfl ?_)
            first
            | (go_ret
               exact⟨jy (by simpa using hy.out),hS.out⟩)
            | (go_roundg (gk - 1)
               case measure=>omega
               case rel=>exact⟨i+1,by simp,by omega,by omega,_,rfl,hS.out,za (by simpa using hy.out)⟩)
  obtain rfl:i=l.length:=by omega
  have hG:=HG.out;rw[List.drop_of_length_le (Nat.le_refl _),zco,Bool.true_and]at hG;have hJ:=za hG;have hL:decide ((l.length:Int)<l.length)=false:=by simp
  obtain⟨n,hn⟩:∃ n,l.length=n:=⟨_,rfl⟩;rw[hn]at hJ hL ⊢;clear hG HG hn;obtain⟨b1,h3⟩:∃ b,decide ((1:Int)≤(n:Int))=b:=⟨_,rfl⟩;obtain⟨b2,h2⟩:∃ b,decide ((n:Int)≤8)=b:=⟨_,rfl⟩;have e1:decide (1≤n)=b1:=by rw[← h3];exact decide_eq_decide.2 (by omega)
  have e2:decide (n≤8)=b2:=by rw[← h2];exact decide_eq_decide.2 (by omega)
  have hG:=hJ.out;rw[e1,e2]at hG;have hC:=za hG;clear e1 e2 hG hJ;cases b1<;>cases b2
  all_goals
   go_wp2_with fail
   go_ret;exact⟨jy (by simpa using hC.out),HF.out⟩
theorem zrw (a:Option Addr) (cap:Nat) (w:World) :
 Calls ze 149 #[.slice a 0 cap] w fun e w'=>e = .returned (.bool false)∧Fr NoB w w':=by
 go_enter Tryz.func149,Tryz.ntmps149
 go_wp2_with fail
 go_loopg [3,9] 0 (fun gf v3 vi wx=>vi = .int .i64 0∧w=wx)
 case atStart=>exact⟨rfl,rfl⟩
 case round =>
  obtain⟨rfl,rfl⟩:=hrel
  go_wp2_with fail
  go_ret;exact⟨rfl,Fr.refl⟩
theorem zts {S:Nat→Prop}{l:List Sg}{v:Value}{w:World}(h:GS S l v w)(hl:l.length≤1000000)(hok:∀ s∈l,s.ok∧s.id.length≤1000000) :
 Calls ze 149 #[v] w fun e w'=>e = .returned (.bool (zfe l))∧Fr NoB w w':=by
 obtain⟨a,hA,rfl,hc,rfl | ⟨b,o,rfl,hS,hb,hr⟩⟩:=h
 ·exact zrw a hA w
 exact zwj l b o hA w hl hc hb hr hok
end
section
open Go.RowKit
variable [OldK]
theorem zj8:Tryz.prog.underlying 115=some (.struct (Tryz.prog.fieldsOf 115)):=by kernel_rfl
theorem zn6:Tryz.prog.stoodInHeld 115=false:=by kernel_rfl
theorem zka:(Tryz.prog.fieldsOf 115).toList.map (fun f=>(f.name == "_", f.type,f.offset))=[(false,9,0),(false,25,1),(false,113,33)]:=by kernel_rfl
theorem zb6 {P:Program} (w:World) {t e:TypeId} {n:Nat} (hu:P.underlying t=some (.array n e)) (hi:(P.info? t).map (·.size)=some n) (xs:Array Value) (off:Nat):(part t xs off).run P w = .ok (.agg (xs.extract off (off+n))) w:=by
 cases hq:P.info? t with
 | none=>simp[hq]at hi
 | some i =>
   have hs:i.size=n:=by simpa[hq] using hi
   have hA:(isAgg t).run P w = .ok true w:=by
    unfold isAgg;rw[Sem.run_bind,run_underlying hu w];simp
   simp[part,Sem.run_bind,hA,sizeOf,typeInfo,hq,hs]
theorem zdu {P:Program} (w:World) {t:TypeId} (hu:P.underlying t=some .string) (xs:Array Value) (off:Nat) (v:Value) (hv:xs[off]? = some v):(part t xs off).run P w = .ok v w:=by
 have hA:(isAgg t).run P w = .ok false w:=by
  unfold isAgg;rw[Sem.run_bind,run_underlying hu w];simp
 simp[part,Sem.run_bind,hA,hv]
theorem Sg.ext1 {s:Sg}(h:s.ok):s.cells.extract 1 33=(zb s.key).toArray:=by
 apply Array.toList_inj.1;have h1:(zb s.key).length=32:=by simp[zb,h.1]
 rw[Array.toList_extract,Sg.list];simp only[List.extract_eq_take_drop,List.singleton_append,List.drop_succ_cons,List.drop_zero,Nat.reduceSub];rw[List.take_append_of_le_length (by omega),List.take_of_length_le (by omega)]
theorem Sg.ext2 {s:Sg}(h:s.ok):s.cells.extract 33 97=(zb s.sig).toArray:=by
 apply Array.toList_inj.1;have h1:(zb s.key).length=32:=by simp[zb,h.1]
 have h2:(zb s.sig).length=64:=by simp[zb,h.2]
 rw[Array.toList_extract,Sg.list];simp only[List.extract_eq_take_drop,List.singleton_append,List.drop_succ_cons,Nat.reduceSub];rw[show 32=(zb s.key).length from h1.symm,List.drop_left,List.take_of_length_le (by omega)]
theorem zci {P:Program}(w:World)(d:Nat)(xs ys:Array Value)(f:Field)(fs:List Field)(A B:Value)(r:Bool)(hn:f.name ≠ "_")(ha:(part f.type xs f.offset).run P w = .ok A w)(hb:(part f.type ys f.offset).run P w = .ok B w)
 (hr:(Op.equalIn d f.type A B).run P w = .ok r w):(Op.eqFields d xs ys (f :: fs)).run P w=if r=true then (Op.eqFields d xs ys fs).run P w else .ok false w:=by
 simp only[Op.eqFields,hn,ne_eq,not_false_eq_true,if_true,Sem.run_bind,Result.andThen_ok,ha,hb,hr];cases r<;>simp
theorem zxy {a b:Sg} (ha:a.ok) (hb:b.ok) (w:World) :
 (Op.equalIn 10000 115 (.agg a.cells) (.agg b.cells)).run ze w = .ok (zzj a b) w:=by
 rw[run_equalIn_struct w 9999 _ _ _ zj8 zn6];have hf:=zka;generalize (Tryz.prog.fieldsOf 115).toList=fs at hf
 obtain ⟨f1,f2,f3,rfl⟩:∃ f1 f2 f3,fs=[f1,f2,f3]:=by
  rcases fs with _ | ⟨f1,_ | ⟨f2,_ | ⟨f3,_ | ⟨f4,r⟩⟩⟩⟩<;>simp at hf
  exact⟨f1,f2,f3,rfl⟩
 simp only[List.map_cons,List.map_nil,List.cons.injEq,Prod.mk.injEq,beq_eq_false_iff_ne,and_true]at hf;obtain⟨⟨n1,t1,o1⟩,⟨n2,t2,o2⟩,n3,t3,o3⟩:=hf;have p1:=zdu (P:=ze) w Tryz.underlying9 a.cells 0 _ (Sg.cell0 a);have q1:=zdu (P:=ze) w Tryz.underlying9 b.cells 0 _ (Sg.cell0 b);have p2:=zb6 (P:=ze) w zag za3 a.cells 1;have q2:=zb6 (P:=ze) w zag za3 b.cells 1;have p3:=zb6 (P:=ze) w zd9 zhb a.cells 33;have q3:=zb6 (P:=ze) w zd9 zhb b.cells 33;simp only[Nat.reduceAdd]at p2 q2 p3 q3;rw[Sg.ext1 ha]at p2;rw[Sg.ext1 hb]at q2;rw[Sg.ext2 ha]at p3;rw[Sg.ext2 hb]at q3
 have e1:(Op.equalIn 9999 9 (.string ⟨a.id.toArray⟩) (.string ⟨b.id.toArray⟩)).run ze w = .ok (a.id==b.id) w:=by
  have:=run_equalIn_string (P:=ze) w 9998 9 ⟨a.id.toArray⟩ ⟨b.id.toArray⟩ Tryz.underlying9
  rwa [show(ByteArray.mk a.id.toArray).toList=a.id by simp[ByteArray.toList_eq],show(ByteArray.mk b.id.toArray).toList=b.id by simp[ByteArray.toList_eq]]at this
 have e2:(Op.equalIn 9999 25 (.agg (zb a.key).toArray) (.agg (zb b.key).toArray)).run ze w = .ok (a.key==b.key) w :=
  run_equalIn_bytes (P:=ze) w 9997 25 5 32 zag Tryz.underlying5 zdk a.key b.key ha.1 hb.1
 have e3:(Op.equalIn 9999 113 (.agg (zb a.sig).toArray) (.agg (zb b.sig).toArray)).run ze w = .ok (a.sig==b.sig) w :=
  run_equalIn_bytes (P:=ze) w 9997 113 5 64 zd9 Tryz.underlying5 zdk a.sig b.sig ha.2 hb.2
 unfold zzj;generalize (a.id==b.id)=x at e1;generalize (a.key==b.key)=y at e2;generalize (a.sig==b.sig)=z at e3
 rw [zci w 9999 _ _ f1 _ _ _ x n1 (by rw[t1,o1];exact p1) (by rw[t1,o1];exact q1) (by rw[t1];exact e1),
  zci w 9999 _ _ f2 _ _ _ y n2 (by rw[t2,o2];exact p2) (by rw[t2,o2];exact q2) (by rw[t2];exact e2),
  zci w 9999 _ _ f3 _ _ _ z n3 (by rw[t3,o3];exact p3) (by rw[t3,o3];exact q3) (by rw[t3];exact e3)]
 cases x<;>cases y<;>cases z<;>rfl
theorem zol (l m:List Sg) (b1 o1 c1 b2 o2 c2:Nat) (w:World) (hlm:l.length=m.length) (hl:l.length≤1000000) (hc1:l.length≤c1) (hc2:m.length≤c2) (hb1:b1<w.heap.size) (hb2:b2<w.heap.size)
 (hr1:∀ i (hi:i<l.length),w.rangeAt b1 (o1+i * 97) l[i].cells.toList) (hr2:∀ i (hi:i<m.length),w.rangeAt b2 (o2+i * 97) m[i].cells.toList) (hok1:∀ s∈l,s.ok) (hok2:∀ s∈m,s.ok) :
 Calls ze 63 #[.slice (some ⟨b1,o1,none⟩) l.length c1,.slice (some ⟨b2,o2,none⟩) m.length c2] w fun e w'=>e = .returned (.bool (zf2 l m))∧Fr NoB w w':=by
 obtain⟨R,hR⟩:∃ R,zf2 l m=R:=⟨_,rfl⟩;rw[hR];have HR:=za hR;have Hlm:=za hlm;have hO:=za hr1;have hN:=za hr2;have hJ:=za hok1;have hI:=za hok2;rw[← hlm]at hc2 ⊢;clear hR hlm hr1 hr2 hok1 hok2;go_enter Tryz.func63,Tryz.ntmps63
 go_wp2_with fail
 go_loopg [13] (l.length+1) (fun g vi wr=>∃ (i:Nat),vi = .int .i64 i∧i≤l.length∧i+g=l.length+1∧Fr NoB w wr∧Hid (zf2 (l.drop i) (m.drop i)=R))
 case atStart=>exact⟨0,rfl,by omega,by omega,Fr.refl,HR⟩
 case round =>
  obtain⟨i,rfl,hi,hgk,hF,HS⟩:=hrel;have HF:=za hF;clear hF;rcases Nat.lt_or_ge i l.length with hlt | hge
  ·have hB:i<m.length:=by have:=Hlm.out;omega
   have hS:=HS.out;rw[zwq l m Hlm.out i hlt hB]at hS;have g1:=ji (hO.out i hlt) HF.out hb1 (fun _ h=>h);have g2:=ji (hN.out i hB) HF.out hb2 (fun _ h=>h);have k1:=hJ.out _ (List.getElem_mem hlt);have k2:=hI.out _ (List.getElem_mem hB);have hq:∀ W,_:=zxy k1 k2;have z1:=Sg.size k1;have z2:=Sg.size k2;obtain⟨d,hu,hd⟩:=zdm;have hE:(Tryz.prog.info? 115).map (·.size)=some l[i].cells.toList.length:=by rw[qv];simp[z1]
   have hD:(Tryz.prog.info? 115).map (·.size)=some m[i].cells.toList.length:=by rw[qv];simp[z2]
   obtain⟨r,hr⟩:∃ r,zzj l[i] m[i]=r:=⟨_,rfl⟩;obtain⟨C1,hH⟩:∃ C,l[i].cells=C:=⟨_,rfl⟩;obtain⟨C2,hG⟩:∃ C,m[i].cells=C:=⟨_,rfl⟩;rw[hr]at hS;rw[hr,hH,hG]at hq;rw[hH]at g1 hE;rw[hG]at g2 hD;have hC:=za hS;have hM:=za hE;have hL:=za hD;have Hu:=za hu;have Hd:=za hd;have G1:=za g1;have G2:=za g2;clear hS HS k1 k2 z1 z2 hH hG hr hE hD hu hd g1 g2;cases r
   all_goals
    go_upto_region 6 with(fail)
    refine wp_region_held_drew (S:=fun W=>W.rangeAt b1 (o1+i * 97) C1.toList∧W.rangeAt b2 (o2+i * 97) C2.toList) (by kernel_rfl) ⟨G1.out,G2.out⟩ (fun hA=>?_);simp only[qV]
    iterate 3
     refine qt (v:=?_) rfl (Or.inl ⟨by rfl,?_⟩) hA ?_;rotate_left
     ·intro W hK
      try simp only[qQ]
      go_simp
      try rw[if_neg (by omega)]
      try with_reducible rfl
     try simp only[Act.put,qP]
    refine qi (i:=3) rfl (yieldsIf_load_mid (by rfl) 115 _ rfl b1 (o1+i * 97) rfl C1.toList d (fun _ h=>h.1) Hu.out Hd.out hM.out) hA ?_
    try simp only[Act.put,qP]
    iterate 3
     refine qt (v:=?_) rfl (Or.inl ⟨by rfl,?_⟩) hA ?_;rotate_left
     ·intro W hK
      try simp only[qQ]
      go_simp
      try rw[if_neg (by omega)]
      try with_reducible rfl
     try simp only[Act.put,qP]
    refine qi (i:=7) rfl (yieldsIf_load_mid (by rfl) 115 _ rfl b2 (o2+i * 97) rfl C2.toList d (fun _ h=>h.2) Hu.out Hd.out hL.out) hA ?_
    try simp only[Act.put,qP]
    simp only[Array.toArray_toList];refine qt (v:=?_) rfl (Or.inl ⟨by rfl,?_⟩) hA ?_;rotate_left
    ·intro W hK
     try simp only[qQ]
     go_simp
     try rw[if_neg (by omega)]
     try with_reducible rfl
    try simp only[Act.put,qP]
    refine wpAnyH_done (by kernel_rfl) ?_ _
    go_wp2_with fail
    first
    | (go_ret
       exact⟨jy (by simpa using hC.out),HF.out.drew⟩)
    | (go_roundg (gk - 1)
       case measure=>omega
       case rel=>exact⟨i+1,by simp,by omega,by omega,HF.out.drew,za (by simpa using hC.out)⟩)
  obtain rfl:i=l.length:=by omega
  have hS:=HS.out;rw[List.drop_length,Hlm.out,List.drop_length]at hS;have hC:=za hS;clear hS HS
  go_wp2_with fail
  go_ret;exact⟨jy (by simpa[zf2] using hC.out),HF.out⟩
theorem zmn (n m c1 c2:Nat) (a1 a2:Option Addr) (w:World) (h:n≠m) :
 Calls ze 63 #[.slice a1 n c1,.slice a2 m c2] w fun e w'=>e = .returned (.bool false)∧Fr NoB w w':=by
 have hln:((n:Int) != (m:Int))=true:=by
  rw[bne_iff_ne];omega
 clear h;go_enter Tryz.func63,Tryz.ntmps63
 go_wp2_with fail
 go_ret;exact⟨rfl,Fr.refl⟩
theorem zmo (c1 c2:Nat) (a1 a2:Option Addr) (w:World) :
 Calls ze 63 #[.slice a1 0 c1,.slice a2 0 c2] w fun e w'=>e = .returned (.bool true)∧Fr NoB w w':=by
 go_enter Tryz.func63,Tryz.ntmps63
 go_wp2_with fail
 go_loopg [13] 0 (fun g vi wr=>vi = .int .i64 0∧w=wr)
 case atStart=>exact⟨rfl,rfl⟩
 case round =>
  obtain⟨rfl,rfl⟩:=hrel
  go_wp2_with fail
  go_ret;exact⟨rfl,Fr.refl⟩
theorem zwo {S S':Nat→Prop} {l m:List Sg} {v u:Value} {w:World} (hv:GS S l v w) (hu:GS S' m u w) (hl:l.length≤1000000) (hok1:∀ s∈l,s.ok) (hok2:∀ s∈m,s.ok) :
 Calls ze 63 #[v,u] w fun e w'=>e = .returned (.bool (zf2 l m))∧Fr NoB w w':=by
 obtain⟨a1,c1,rfl,hC,h1⟩:=hv;obtain⟨a2,c2,rfl,hB,h2⟩:=hu;by_cases hA:l.length=m.length
 ·rcases h1 with rfl | ⟨b1,o1,rfl,hS1,hb1,hr1⟩
  ·obtain rfl:m=[]:=List.length_eq_zero_iff.1 hA.symm;exact zmo c1 c2 a1 a2 w
  rcases h2 with rfl | ⟨b2,o2,rfl,hS2,hb2,hr2⟩
  ·obtain rfl:l=[]:=List.length_eq_zero_iff.1 hA;exact zmo c1 c2 _ a2 w
  exact zol l m b1 o1 c1 b2 o2 c2 w hA hl hC hB hb1 hb2 hr1 hr2 hok1 hok2
 rw[zmp l m hA];exact zmn _ _ c1 c2 a1 a2 w hA
end
end Go.Proofs.YtmgfncjfgkllcaaGreatDoor
