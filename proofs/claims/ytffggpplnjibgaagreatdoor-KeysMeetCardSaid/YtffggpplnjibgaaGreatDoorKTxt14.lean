/-
 The reference's reader of texts: an object.
-/
import Derived.Test.YtffggpplnjibgaaGreatDoorKTxt11
import Derived.Test.YtffggpplnjibgaaGreatDoorKTxt7
import Derived.Test.YtffggpplnjibgaaGreatDoorKTxt10
import Derived.Maps.AppendAt
open Go.Lib renaming hid→zi
namespace Go.Proofs.YtffggpplnjibgaaGreatDoor
set_option linter.unusedVariables false
set_option linter.unusedSimpArgs false
set_option linter.unusedSectionVars false
set_option maxRecDepth 100000
set_option maxHeartbeats 8000000
section
open Go.RowKit
variable [OldK]
attribute [local irreducible] wpStill
theorem zui (nm:Bs):∀ p:List (Bs × J),(zdo nm p).isSome=(p.map (·.1)).contains nm:=by
 intro p
 induction p with
 | nil=>rfl
 | cons q p ih =>
   obtain⟨n,x⟩:=q;rw[zdo];by_cases h:n=nm
   ·rw[if_pos h];simp[h]
   rw[if_neg h,ih];simp only[List.map_cons,List.contains_cons];rw[beq_eq_false_iff_ne.2 (fun e=>h e.symm)];simp
theorem zi2 {L:Bs} {p2:Nat} {st1:St} {nm:Bs} {acc:List (Bs × J)} (hpos:st1.bad=false→L.drop p2=st1.s∧p2≤L.length) :
 ((zdo nm acc).isSome=true∨st1.bad=true∨Lib.hasPrefix (L.drop (blk L p2)) [58]=false→(zbn (acc.map (·.1)) nm st1).bad=true) ∧
 ((zdo nm acc).isSome=false→st1.bad=false→Lib.hasPrefix (L.drop (blk L p2)) [58]=true→zbn (acc.map (·.1)) nm st1=⟨L.drop (blk L p2+1),false⟩):=by
 have hd:=zea L p2;rw[zui];unfold zbn;constructor
 ·intro h;split
  ·rfl
  rename_i hc
  have hB:(acc.map (·.1)).contains nm=false:=by simpa using hc
  rcases h with h | h | h
  ·rw[hB]at h;simp at h
  ·cases zel 58 st1.s with
   | none=>rfl
   | some l=>exact h
  cases hb:st1.bad with
  | true=>cases zel 58 st1.s<;>rfl
  | false =>
    rw[hd,(hpos hb).1]at h;rw[zic];rintro l hl;rw[hl]at h;simp[Lib.hasPrefix]at h
 intro h1 h2 h3;rw[if_neg (by rw[h1];simp)];cases hl:L.drop (blk L p2) with
 | nil=>rw[hl]at h3;simp[Lib.hasPrefix]at h3
 | cons x l =>
   rw[hl]at h3
   have hx:x=58:=by
    simp[Lib.hasPrefix]at h3
    first | exact h3.symm | exact h3
   subst hx;rw[hd,(hpos h2).1]at hl;rw[ze3 hl];simp only;rw[← List.drop_drop,hd,(hpos h2).1,hl,h2];rfl
section
variable {b:Nat} {L:Bs} {v:Value} {w wr w1:World} {c c':Nat} {bd bd':Bool} {cs:Array Value}
theorem zs7 {p:Bs}(h:if Lib.hasPrefix (L.drop c) p=true then TX b L v (c+p.length) bd wr∧c+p.length≤L.length else TX b L v c true wr) :
 ∃ c',TX b L v c' (bd || !Lib.hasPrefix (L.drop c) p) wr∧c'≤c+p.length∧(Lib.hasPrefix (L.drop c) p=true→c'=c+p.length∧c'≤L.length):=by
 by_cases hp:Lib.hasPrefix (L.drop c) p=true
 ·rw[if_pos hp]at h;rw[hp];exact⟨_,by simpa using h.1,Nat.le_refl _,fun _=>⟨rfl,h.2⟩⟩
 rw[if_neg hp]at h;have hB:Lib.hasPrefix (L.drop c) p=false:=by simpa using hp
 rw[hB];exact⟨_,by simpa using h,by omega,fun h=>by simp at h⟩
theorem LS.other (h:LS b L v w c bd cs wr)(hF:Fr (fun k _=>w.heap.size+2≤k) wr w1):LS b L v w c bd cs w1:=by
 obtain⟨g1,g2⟩:=h.tx.grow h.sb h.lt (hF.mono (M':=fun k _=>w.heap.size≤k) (fun k _ hm=>by omega));exact⟨g1,g2,hF.block _ _ h.ra (by omega),hF.block _ _ h.rb (by omega),h.fr.trans hF (fun k _ hm => .inr (by omega)),h.lt,h.old⟩
theorem QRow.val0 {l:List (Bs × J)} {lv:Value} {N:Nat} (h:QRow (fun _=>False) N l lv wr) :
 RJ (fun k=>N≤k) wr (.mk 5 0 [] [] l) (.agg #[.int .i64 5,.int .i64 0,.string ⟨#[]⟩,.slice none 0 0,lv]):=by
 obtain⟨a,e,rfl,hr⟩:=h.rowQ
 have h1:RJ (fun k=>(False∨N≤k)∧k<wr.heap.size) wr (.mk 5 0 [] [] l) (.agg #[.int .i64 5,.int .i64 0,.string ⟨#[]⟩,.slice none 0 0,.slice a l.length e]):=by
  unfold RJ;exact⟨none,0,a,e,rfl,.inl rfl,hr⟩
 exact RJ.kp (fun q o hq ho _=>⟨by rcases hq.1 with h | h;exact h.elim;omega,ho⟩) _ _ h1
theorem RP.low {S:Nat→Prop}{l:List (Bs × J)}{xs:List Value}(h:RP S wr l xs):RP (fun k=>S k∧k<wr.heap.size) wr l xs :=
 RP.kp (fun b o hs hb _=>⟨⟨hs,ju hb⟩,hb⟩) l xs h
def zxg (b:Nat) (v0 v1 v2 v3 v4:Value) (w:World):World :=
 ((((w.setCell ⟨b,1,none⟩ v0).setCell ⟨b,2,none⟩ v1).setCell ⟨b,3,none⟩ v2).setCell ⟨b,4,none⟩ v3).setCell ⟨b,5,none⟩ v4
theorem zv3 (b:Nat)(v0 v1 v2 v3 v4:Value)(w:World):Fr (fun k _=>k=b) w (zxg b v0 v1 v2 v3 v4 w) :=
 ((((Fr.refl.setCell _ _ (fun _ _=>rfl)).setCell _ _ (fun _ _=>rfl)).setCell _ _ (fun _ _=>rfl)).setCell _ _ (fun _ _=>rfl)).setCell _ _ (fun _ _=>rfl)
theorem zv4 {q0 q1 q2 q3 q4 q5 v0 v1 v2 v3 v4:Value}{k:Nat}(h:wr.heap[k]? = some (.cells #[q0,q1,q2,q3,q4,q5] 116 (0,0))) :
 (zxg k v0 v1 v2 v3 v4 wr).heap[k]? = some (.cells #[q0,v0,v1,v2,v3,v4] 116 (0,0)):=by
 unfold zxg;exact jh (o:=5) _ (jh (o:=4) _ (jh (o:=3) _ (jh (o:=2) _ (jh (o:=1) _ h))))
theorem PB.at' {q0 q1 q2 q3 q4 q5:Value}{k:Nat}(h:wr.heap[k]? = some (.cells #[q0,q1,q2,q3,q4,q5] 116 (0,0))) :
 wr.cell? ⟨k,0,none⟩=some q0∧wr.cell? ⟨k,1,none⟩=some q1∧wr.cell? ⟨k,2,none⟩=some q2∧wr.cell? ⟨k,3,none⟩=some q3∧wr.cell? ⟨k,4,none⟩=some q4∧wr.cell? ⟨k,5,none⟩=some q5∧(∀ o,wr.frozen? ⟨k,o,none⟩=false)∧k<wr.heap.size :=
 ⟨by simp[World.cell?,h],by simp[World.cell?,h],by simp[World.cell?,h],by simp[World.cell?,h],by simp[World.cell?,h],by simp[World.cell?,h],by simp[World.frozen?,h],ju h⟩
end
end
section
open Go.RowKit
variable [OldK]
attribute [local irreducible] wpStill
theorem zw1 {x q:Bool}(h:(x || !q)=true):x=true∨q=false:=by cases x<;>cases q<;>simp at h ⊢
theorem zuu {x q:Bool}(h:(x || !q)=false):x=false∧q=true:=by cases x<;>cases q<;>simp at h ⊢
theorem zqn (f b:Nat) (L:Bs) (v:Value) (hv:zsw b L v f) (hL:L.length≤4096) (d:Int) (hd0:1≤d) (hdf:d+f=10) (a:Nat) (w:World) (h:TX b L v a false w) (l:Bs) (hl:L.drop a=123 :: l) :
 Calls Tryz.prog 186 #[.pointer (some ⟨b,0,none⟩),.int .i64 d] w fun e w'=>∃ j x,e = .returned x∧RJ (fun k=>w.heap.size≤k) w' j x ∧
  ((zaj (za2 (jy f d)) 123 125 d ⟨123 :: l,false⟩ []).1.bad=false→j = .mk 5 0 [] [] (zaj (za2 (jy f d)) 123 125 d ⟨123 :: l,false⟩ []).2) ∧
  RS b L v (L.length+11 - d.toNat) (zaj (za2 (jy f d)) 123 125 d ⟨123 :: l,false⟩ []).1 w'∧Fr (MT b) w w':=by
 obtain⟨d1,d2,d3,d4⟩:=zdi hl;have hf:=zi (LS.start h #[.int .i64 5,.int .i64 0,.string ⟨#[]⟩,.slice none 0 0,.slice none 0 0]);obtain⟨q,hX,rfl⟩:=h.2.1.form;by_cases hd:8<d
 ·have hb:=zl5 (one:=za2 (jy f d)) (shut:=125) (op:=123) (d:=d) (l:=l) (a:=[]) (by decide) hd;generalize zaj (za2 (jy f d)) 123 125 d ⟨123 :: l,false⟩ []=G at *;have BU:decide (8<d)=true:=decide_eq_true hd;have Hb:=zi hb;obtain⟨c0,c1,c2,fz,hC⟩:=h.cells;have HH:=zi h;clear hv h hl d3 hb;go_enter Tryz.func186,Tryz.ntmps186
  go_wp2_with fail
  refine bodyPost_ret (v := .agg #[.int .i64 5,.int .i64 0,.string ⟨#[]⟩,.slice none 0 0,.slice none 0 0]) (by simp[results,Tryz.results186,go_sem]) rfl ?_;exact⟨.mk 5 0 [] [] [],_,rfl,RJ.flat _ _ 5 0 [],fun h=>by rw[Hb.out]at h;simp at h,⟨a,by rw[Hb.out];exact(HH.out.set2 true).frN ((Fr.refl.alloc _).alloc _),fun h=>by rw[Hb.out]at h;simp at h,by omega⟩,((HH.out.setF _ _).alloc _).alloc _⟩
 have BU:decide (8<d)=false:=decide_eq_false hd;obtain⟨e1,e2⟩:=zj0 (one:=za2 (jy f d)) (shut:=125) (op:=123) (d:=d) (l:=l) (a:=[]) (by decide) (by omega);obtain⟨G,hG⟩:∃ G,zaj (za2 (jy f d)) 123 125 d ⟨123 :: l,false⟩ []=G:=⟨_,rfl⟩;rw[hG]at e1 e2 ⊢;have Av:=zha L (a+1);have hu:=zea L (a+1);rw[d3]at hu;obtain⟨p1,BC⟩:∃ p1,blk L (a+1)=p1:=⟨_,rfl⟩;have hS:=fun W hW=>zcb b L (.slice q L.length hX) (a+1) false W hW hL (by omega)
 rw[BC]at Av hu hS;have Hbl:=zi hS;have AD:=fun W hW=>zdx b L (.slice q L.length hX) p1 false W hW hL (by omega)
 rw[hu]at AD;have Hnx:=zi AD;have At:p1≤L.length:=by omega
 have hac:a+1≤p1:=Av.1;have Hdb:=zi hu;have wa:IntKind.i64.wrap ((a:Int)+1)=(a:Int)+1:=by rw[IntKind.wrap_i64];omega
 have BO:IntKind.i64.wrap ((p1:Int)+1)=(p1:Int)+1:=by rw[IntKind.wrap_i64];omega
 clear hG Av hS BC h hl AD;by_cases hm:nxT (jq l)=125
 ·obtain⟨m,Aq⟩:=zdp (t:=jq l) (x:=125) (by decide) hm;have AL:=e1 m Aq;rw[Aq]at hu;obtain⟨f1,f2,f3,f4⟩:=zdi hu;have hq:(nxT (jq l)==125)=true:=by rw[beq_iff_eq];exact hm
  generalize nxT (jq l)=m0 at *;subst AL;have F3:=zi f3;clear hv e1 e2 Aq hu f2 f3 hm d3 Hdb;obtain⟨c0,c1,c2,fz,hC⟩:=hf.out.tx.cells;obtain⟨r0,r1,r2,r3,r4,rz,hD⟩:=VB.at hf.out.ra;obtain⟨v0,v1,v2,v3,v4,vz,hE⟩:=VB.at hf.out.rb;go_enter Tryz.func186,Tryz.ntmps186
  go_wp2_with fail
  clear c0 c1 c2 fz hC r0 r1 r2 r3 r4 rz hD v0 v1 v2 v3 v4 vz hE;have AP:=zi (hf.out.put1 ((a:Int)+1) (a+1) rfl);refine(Hbl.out _ AP.out.tx).mono ?_;rintro e w2 ⟨rfl,h2,hB⟩;have AO:=zi (AP.out.call h2 hB);clear h2 hB
  go_wp2_with fail
  refine(Hnx.out _ AO.out.tx).mono ?_;rintro e w3 ⟨rfl,h2,hB⟩;have h5:=zi (AO.out.call h2 (hB.mono (fun _ _ h=>h.elim)));have hM:=zi (hB.mono (M':=MT b) (fun _ _ h=>h.elim));clear h2 hB;obtain⟨c0,c1,c2,fz,hC⟩:=h5.out.tx.cells;obtain⟨r0,r1,r2,r3,r4,rz,hD⟩:=VB.at h5.out.ra;obtain⟨v0,v1,v2,v3,v4,vz,hE⟩:=VB.at h5.out.rb;have As:=h5.out.lt
  go_wp2_with fail
  refine bodyPost_ret (v := .agg #[.int .i64 5,.int .i64 0,.string ⟨#[]⟩,.slice none 0 0,.slice none 0 0]) (by simp[results,Tryz.results186,go_sem,r0,r1,r2,r3,r4]) rfl ?_;obtain⟨t1,t2⟩:=(h5.out.put1 ((p1:Int)+1) (p1+1) rfl).tset (.int .i64 5) (.int .i64 0) (.string ⟨#[]⟩) (.slice none 0 0) (.slice none 0 0);exact⟨.mk 5 0 [] [] [],_,rfl,RJ.flat _ _ 5 0 [],fun _=>rfl,⟨p1+1,t1,fun _=>⟨F3.out,by omega⟩,by omega⟩,t2⟩
 have hq:(nxT (jq l)==125)=false:=by rw[beq_eq_false_iff_ne];exact hm
 have AL:=e2 (ztz (x:=125) hm);rw[← Hdb.out]at AL;have A8:(L.drop p1).length+1≤l.length+2:=by rw[List.length_drop];omega
 generalize l.length+2=k0 at AL A8;have BM:=zi AL.symm;generalize nxT (jq l)=m0 at *;obtain⟨i0,hi,BS,BR,BQ⟩:=info_parts zj5;clear e1 e2 hu hm d3 Hdb AL;obtain⟨c0,c1,c2,fz,hC⟩:=hf.out.tx.cells;obtain⟨r0,r1,r2,r3,r4,rz,hD⟩:=VB.at hf.out.ra;obtain⟨v0,v1,v2,v3,v4,vz,hE⟩:=VB.at hf.out.rb;go_enter Tryz.func186,Tryz.ntmps186
 go_wp2_with fail
 clear c0 c1 c2 fz hC r0 r1 r2 r3 r4 rz hD v0 v1 v2 v3 v4 vz hE;have AP:=zi (hf.out.put1 ((a:Int)+1) (a+1) rfl);refine(Hbl.out _ AP.out.tx).mono ?_;rintro e w2 ⟨rfl,h2,hB⟩;have AO:=zi (AP.out.call h2 hB);clear h2 hB
 go_wp2_with fail
 refine(Hnx.out _ AO.out.tx).mono ?_;rintro e w3 ⟨rfl,h2,hB⟩;have h5:=zi (AO.out.call h2 (hB.mono (fun _ _ h=>h.elim)));have hM:=zi (hB.mono (M':=MT b) (fun _ _ h=>h.elim));clear h2 hB
 go_wp2_with fail
 clear hf AP AO Hbl Hnx wa BO hq
 go_loopg [] (k0+1) (fun g wr=>∃ (acc:List (Bs × J)) (lv:Value) (c k:Nat) (bd:Bool),Hid (LS b L (.slice q L.length hX) w c bd #[.int .i64 5,.int .i64 0,.string ⟨#[]⟩,.slice none 0 0,lv] wr)∧Hid (QRow (fun _=>False) (w.heap.size+2) acc lv wr) ∧
  c≤L.length+11 - d.toNat∧(bd=false→acc.length≤c)∧k+1=g ∧
  Hid (bd=false→c≤L.length∧(L.drop c).length+1≤k∧zbz (za2 (jy f d)) 125 k ⟨L.drop c,false⟩ acc=G)∧Hid (bd=true→G.1.bad=true))
 case atStart=>exact⟨[],.slice none 0 0,p1,k0,false,h5,zi (QRow.nil _ _ _),by omega,fun _=>by simp,rfl,zi (fun _=>⟨At,A8,BM.out⟩),zi (fun h=>by simp at h)⟩
 case round =>
  clear h5 BM;obtain⟨acc,lv,c,k,bd,H,HR,BV,AF,hkg,HA,HB⟩:=hrel;cases bd with
  | true =>
    have HG:=zi (HB.out rfl);obtain⟨al,cl,rfl⟩:=zaw HR.out.choose_spec.1;clear HA HB AF;obtain⟨c0,c1,c2,fz,hC⟩:=H.out.tx.cells;obtain⟨r0,r1,r2,r3,r4,rz,hD⟩:=VB.at H.out.ra;obtain⟨v0,v1,v2,v3,v4,vz,hE⟩:=VB.at H.out.rb
    go_wp2_with fail
    refine bodyPost_ret (v := .agg #[.int .i64 5,.int .i64 0,.string ⟨#[]⟩,.slice none 0 0,.slice al acc.length cl]) (by simp[results,Tryz.results186,go_sem,r0,r1,r2,r3,r4]) rfl ?_;obtain⟨t1,t2⟩:=H.out.tset (.int .i64 5) (.int .i64 0) (.string ⟨#[]⟩) (.slice none 0 0) (.slice al acc.length cl);exact⟨.mk 5 0 [] [] acc,_,rfl,HR.out.val _ _ _ _ _,fun h=>by rw[HG.out]at h;simp at h,⟨c,by rw[HG.out];exact t1,fun h=>by rw[HG.out]at h;simp at h,BV⟩,t2⟩
  | false =>
    have AF:=AF rfl;obtain⟨BP,k1,k2⟩:=HA.out rfl;obtain⟨k,rfl⟩:∃ k',k=k'+1:=⟨k - 1,by omega⟩;have AS:=zha L c;have AE:=zea L c;have hS:=fun W hW=>zcb b L (.slice q L.length hX) c false W hW hL (by omega)
    obtain⟨pn,A4⟩:∃ pn,blk L c=pn:=⟨_,rfl⟩;rw[A4]at AS AE hS;have An:pn≤L.length:=by omega
    have AA:=fun W hW=>zk6 b L (.slice q L.length hX) pn W hW hL An
    obtain⟨⟨nm,hO⟩,hQ⟩:∃ Q,zbc ⟨L.drop pn,false⟩=Q:=⟨_,rfl⟩
    have hH:za2 (jy f d) ⟨L.drop c,false⟩ acc=((jy f d (zbn (acc.map (·.1)) nm hO)).2,acc++[(nm,(jy f d (zbn (acc.map (·.1)) nm hO)).1)]):=by
     simp only[za2];rw[← AE,hQ]
    simp only[hQ]at AA;have ht:=znc (zht f d) ⟨L.drop c,false⟩ acc;rw[hH]at ht;simp only at ht;obtain⟨ok,Ah⟩:∃ ok,(zdo nm acc).isSome=ok:=⟨_,rfl⟩
    have h7:=zi (fun p2 (hF:hO.bad=false→L.drop p2=hO.s∧p2≤L.length) (hb:ok=true∨hO.bad=true∨Lib.hasPrefix (L.drop (blk L p2)) [58]=false)=>(by
     have h1:=(zi2 (nm:=nm) (acc:=acc) hF).1 (by rw[Ah];exact hb)
     have h2:(jy f d (zbn (acc.map (·.1)) nm hO)).2.bad=true:=by
      generalize zbn (acc.map (·.1)) nm hO=s3 at h1 ⊢;obtain⟨s,bd⟩:=s3;simp only at h1;subst h1;exact zh5 f d s
     have h3:=(zlx (one:=za2 (jy f d)) (shut:=125) (k:=k) hH).1 h2;rw[← k2,h3]
     exact h2:G.1.bad=true))
    have AK:=zi (fun p2 (hF:hO.bad=false→L.drop p2=hO.s∧p2≤L.length) (h1:ok=false) (h2:hO.bad=false) (h3:Lib.hasPrefix (L.drop (blk L p2)) [58]=true) jv hY (hV:jy f d ⟨L.drop (blk L p2+1),false⟩=(jv,hY))=>(by
     have h4:=(zi2 (nm:=nm) (acc:=acc) hF).2 (by rw[Ah];exact h1) h2 h3;rw[h4,hV]at hH ht
     exact⟨hH,ht⟩:za2 (jy f d) ⟨L.drop c,false⟩ acc=(hY,acc++[(nm,jv)])∧hY.s.length≤(L.drop c).length))
    have BL:=zi k2;obtain⟨xs,AC,A2⟩:=HR.out;obtain⟨ao,co,rfl⟩:=zaw AC;have Hown:=zi AC;have Hrc:=zi A2;have Hbl:=zi hS;have Hquo:=zi AA;have Hok:=zi Ah;have hwN:w.heap.size+1<wr.heap.size:=ju H.out.rb;clear HA HB ht hH k2 AC A2 HR hS AA Ah hQ AE A4 AS;obtain⟨c0,c1,c2,fz,hC⟩:=H.out.tx.cells;obtain⟨r0,r1,r2,r3,r4,rz,hD⟩:=VB.at H.out.ra;obtain⟨v0,v1,v2,v3,v4,vz,hE⟩:=VB.at H.out.rb
    go_wp2_with fail
    refine(Hbl.out _ H.out.tx).mono ?_;rintro e w1 ⟨rfl,h2,hB⟩;have H1:=zi (H.out.call h2 hB);have hM:=zi hB;clear h2 hB;have Al:=hM;clear c0 c1 c2 fz hC r0 r1 r2 r3 r4 rz hD v0 v1 v2 v3 v4 vz hE
    go_wp2_with fail
    refine(Hquo.out _ H1.out.tx).mono ?_;rintro e w2 ⟨rfl,⟨p2,BH,hr,hK2⟩,hB⟩;have H2:=zi (H1.out.call BH hB);have Al:=zi (Al.out.trans' hB);have hU:=zi (znd Hown.out Al.out);have hJ:=zi ((RP.mt Hrc.out H.out.old Al.out).low);have hz:=zi hr;have H3:=zi (H2.out.callN ((Fr.refl (M:=NoB)).alloc (.cells #[.string ⟨nm.toArray⟩,.int .i64 0,.int .i64 0,.string ⟨#[]⟩,.slice none 0 0,.slice none 0 0] 116)));have BK:=zi (heap_alloc_new w2 (.cells #[.string ⟨nm.toArray⟩,.int .i64 0,.int .i64 0,.string ⟨#[]⟩,.slice none 0 0,.slice none 0 0] 116));have hN2:w.heap.size+1<w2.heap.size:=ju H2.out.rb;clear BH hB hr Hown Hrc;have AH:=zi (fun W hW=>zcb b L (.slice q L.length hX) p2 hO.bad W hW hL (by omega));have AR:=zha L p2;obtain⟨p3,Ap⟩:∃ p3,blk L p2=p3:=⟨_,rfl⟩;rw[Ap]at AH AR;have Az:=h7.out p2 hz.out;have Ay:=AK.out p2 hz.out;rw[Ap]at Az Ay;have hp3L:p3≤L.length+1:=by omega
    have BJ:=zi (fun W hW=>zk5 [58] b L (.slice q L.length hX) p3 hO.bad W hW hL (by omega) (by decide) (by decide));have h7:=zi Az;have AK:=zi Ay;clear Az Ay Ap AR
    go_wp2_with fail
    refine(AH.out _ H3.out.tx).mono ?_;rintro e w4 ⟨rfl,h2,hB⟩;have H4:=zi (H3.out.call h2 hB);have Ad:=zi (hB.block _ _ BK.out zeg);have h6:=zi (((Fr.refl (M:=MT b)).alloc (w:=w2) (.cells #[.string ⟨nm.toArray⟩,.int .i64 0,.int .i64 0,.string ⟨#[]⟩,.slice none 0 0,.slice none 0 0] 116)).trans' hB);clear h2 hB BK H3
    go_wp2_with fail
    refine(BJ.out _ H4.out.tx).mono ?_;rintro e w5 ⟨rfl,AU,Aj⟩;obtain⟨p4,BG,A6,AB⟩:=zs7 AU;have H5:=zi (H4.out.call BG Aj);have AJ:=zi (Aj.block _ _ Ad.out zeg);have h6:=zi (h6.out.trans' Aj);have hp4L:p4≤L.length+2:=by simp at A6;omega
    obtain⟨qq,A3⟩:∃ qq,Lib.hasPrefix (L.drop p3) [58]=qq:=⟨_,rfl⟩;rw[A3]at H5 AB h7 AK;obtain⟨bw,Au⟩:∃ bw,(hO.bad || !qq)=bw:=⟨_,rfl⟩;rw[Au]at H5;have Hbw:=zi Au;have hc:=zi AB;clear AU BG Aj A6 A3 Au AB BJ H4 Ad AH H2;have AN:Hid (QRow (fun _=>False) (w.heap.size+2) acc (.slice ao acc.length co) w5):=zi ⟨xs,znd hU.out h6.out,RP.mt (RP.kp (fun b o hs hb _=>⟨hs.1,hb⟩) _ _ hJ.out) H.out.old h6.out⟩;have hZ:=zoa (fun k=>w.heap.size+2≤k) (.mk 5 0 [] [] acc) _ nm w5 AN.out.val0 (by simp only[J.pairs];omega);rw[zoh,Hok.out]at hZ;obtain⟨⟨Ak,gn,gt,gl,gp⟩,BA⟩:∃ g,(zdo nm acc).getD J.zero=g:=⟨_,rfl⟩;rw[BA]at hZ;have Hget:=zi hZ;clear hZ BA Hok;obtain⟨c0,c1,c2,fz,hC⟩:=H5.out.tx.cells;obtain⟨r0,r1,r2,r3,r4,rz,hD⟩:=VB.at H5.out.ra;obtain⟨v0,v1,v2,v3,v4,vz,hE⟩:=VB.at H5.out.rb;obtain⟨q0,q1,q2,q3,q4,q5,qz,h8⟩:=PB.at' AJ.out
    go_wp2_with fail
    refine Hget.out.mono ?_;rintro e w6 ⟨x,rfl,hx,Ai⟩;obtain⟨y1,m1,y2,m2,rfl,_,_⟩:=hx.open;have H6:=zi (H5.out.callN Ai);have Ac:=zi (Ai.block _ _ AJ.out (fun h=>h));have H7:=zi (H6.out.callN ((Fr.refl (M:=NoB)).alloc (.cells #[.int .i64 Ak,.int .i64 gn,.string ⟨gt.toArray⟩,.slice y1 gl.length m1,.slice y2 gp.length m2] 65)));have hP:=zi (zaf (.cells #[.int .i64 Ak,.int .i64 gn,.string ⟨gt.toArray⟩,.slice y1 gl.length m1,.slice y2 gp.length m2] 65) Ac.out);have hR:=zi ((Ai.mono (M':=MT b) (fun _ _ h=>h.elim)).alloc (.cells #[.int .i64 Ak,.int .i64 gn,.string ⟨gt.toArray⟩,.slice y1 gl.length m1,.slice y2 gp.length m2] 65));clear hx Ai Ac H6 AJ Hget q0 q1 q2 q3 q4 q5 qz h8;clear c0 c1 c2 fz hC r0 r1 r2 r3 r4 rz hD v0 v1 v2 v3 v4 vz hE;cases ok with
    | true =>
      have HG:=zi (h7.out (.inl rfl));have H8:=zi (H7.out.set2 true);have BY:=zi (AN.out.mt H.out.old (hR.out.trans' (H7.out.tx.setF 2 (.bool true))));obtain⟨c0,c1,c2,fz,hC⟩:=H7.out.tx.cells;obtain⟨r0,r1,r2,r3,r4,rz,hD⟩:=VB.at H7.out.ra;obtain⟨v0,v1,v2,v3,v4,vz,hE⟩:=VB.at H7.out.rb;clear r0 r1 r2 r3 r4 rz hD;obtain⟨r0,r1,r2,r3,r4,rz,hD⟩:=VB.at H8.out.ra;obtain⟨v0',v1',v2',v3',v4',vz',vlt'⟩:=VB.at H8.out.rb;clear Hbw hc AK h7 hP h6 hR AN
      go_wp2_with fail
      refine bodyPost_ret (v := .agg #[.int .i64 5,.int .i64 0,.string ⟨#[]⟩,.slice none 0 0,.slice ao acc.length co]) (by simp[results,Tryz.results186,go_sem,r0,r1,r2,r3,r4]) rfl ?_;obtain⟨t1,t2⟩:=H8.out.tset (.int .i64 5) (.int .i64 0) (.string ⟨#[]⟩) (.slice none 0 0) (.slice ao acc.length co);exact⟨.mk 5 0 [] [] acc,_,rfl,BY.out.val (.int .i64 5) (.int .i64 0) (.string ⟨#[]⟩) (.slice none 0 0) (.slice ao acc.length co),fun h=>by rw[HG.out]at h;simp at h,⟨p4,by rw[HG.out];exact t1,fun h=>by rw[HG.out]at h;simp at h,by omega⟩,t2⟩
    | false =>
      cases bw with
      | true =>
        have HG:=zi (h7.out (.inr (zw1 Hbw.out)));have BZ:=zi (AN.out.mt H.out.old hR.out);obtain⟨c0,c1,c2,fz,hC⟩:=H7.out.tx.cells;obtain⟨r0,r1,r2,r3,r4,rz,hD⟩:=VB.at H7.out.ra;obtain⟨v0,v1,v2,v3,v4,vz,hE⟩:=VB.at H7.out.rb;clear Hbw hc AK h7 hP h6 hR AN
        go_wp2_with fail
        refine bodyPost_ret (v := .agg #[.int .i64 5,.int .i64 0,.string ⟨#[]⟩,.slice none 0 0,.slice ao acc.length co]) (by simp[results,Tryz.results186,go_sem,r0,r1,r2,r3,r4]) rfl ?_;obtain⟨t1,t2⟩:=H7.out.tset (.int .i64 5) (.int .i64 0) (.string ⟨#[]⟩) (.slice none 0 0) (.slice ao acc.length co);exact⟨.mk 5 0 [] [] acc,_,rfl,BZ.out.val (.int .i64 5) (.int .i64 0) (.string ⟨#[]⟩) (.slice none 0 0) (.slice ao acc.length co),fun h=>by rw[HG.out]at h;simp at h,⟨p4,by rw[HG.out];exact t1,fun h=>by rw[HG.out]at h;simp at h,by omega⟩,t2⟩
      | false =>
        obtain⟨BD,Aw⟩:=zuu Hbw.out;obtain⟨A5,Ao⟩:=hc.out Aw;have BN:=zi (AK.out rfl BD Aw);have h9:=fun W hW=>hv d p4 W hW Ao (by omega) (by omega) hdf
        obtain⟨⟨jv,hY⟩,hV⟩:∃ V,jy f d ⟨L.drop p4,false⟩=V:=⟨_,rfl⟩;obtain⟨hH,ht⟩:=BN.out jv hY (by rw[← hV,A5];rfl);simp only[hV]at h9;have Hround:=zi (fun a' hF hK=>zif (K:=L.length+11 - d.toNat) (a':=a') (shut:=125) (by decide) (by decide) hH ht BP k1 BL.out hF hK (by omega));have Hval:=zi h9;clear BD Aw h7 AK Hbw hc BN hH ht hV h9 A5 BL hv;obtain⟨c0,c1,c2,fz,hC⟩:=H7.out.tx.cells;obtain⟨r0,r1,r2,r3,r4,rz,hD⟩:=VB.at H7.out.ra;obtain⟨v0,v1,v2,v3,v4,vz,hE⟩:=VB.at H7.out.rb;obtain⟨q0,q1,q2,q3,q4,q5,qz,h8⟩:=PB.at' hP.out
        go_wp2_with fail
        refine(Hval.out _ H7.out.tx).mono ?_;rintro e w8 ⟨⟨hp,hj,hg,hn,hh⟩,y,rfl,hy,A9,⟨a',BF,hF,hK⟩,AW⟩;obtain⟨z1,n1,z2,n2,rfl,_,_⟩:=hy.open;have H8:=zi (H7.out.call BF AW);have AI:=zi (AW.block _ _ hP.out zeg);have Ae:=zi (h6.out.trans' (hR.out.trans' AW));have BW:=zi AW.size;obtain⟨M7,Ax⟩:∃ M7,(w6.alloc (.cells #[.int .i64 Ak,.int .i64 gn,.string ⟨gt.toArray⟩,.slice y1 gl.length m1,.slice y2 gp.length m2] 65)).heap.size=M7:=⟨_,rfl⟩;rw[Ax]at hy;have hPM:w2.heap.size<M7:=by rw[← Ax];exact ju hP.out
        clear Ax;have Hy:=zi hy;have Hjs:=zi A9;have Hpos:=zi hF;clear hy A9 hF AW BF H7 hP hR h6 AN Hval q0 q1 q2 q3 q4 q5 qz h8;clear c0 c1 c2 fz hC r0 r1 r2 r3 r4 rz hD v0 v1 v2 v3 v4 vz hE;obtain⟨c0,c1,c2,fz,hC⟩:=H8.out.tx.cells;obtain⟨r0,r1,r2,r3,r4,rz,hD⟩:=VB.at H8.out.ra;obtain⟨v0,v1,v2,v3,v4,vz,hE⟩:=VB.at H8.out.rb;obtain⟨q0,q1,q2,q3,q4,q5,qz,h8⟩:=PB.at' AI.out
        go_upto_region 20 with(fail)
        obtain⟨w9,Ag⟩:∃ w9,zxg w2.heap.size (.int .i64 hp) (.int .i64 hj) (.string ⟨hg.toArray⟩) (.slice z1 hn.length n1) (.slice z2 hh.length n2) w8=w9:=⟨_,rfl⟩;change Code.wp _ _ _ _ (zxg w2.heap.size (.int .i64 hp) (.int .i64 hj) (.string ⟨hg.toArray⟩) (.slice z1 hn.length n1) (.slice z2 hh.length n2) w8);rw[Ag]
        have Ar:∀ k,(Value.slice ao acc.length co).ownBlock=some k→w.heap.size+2≤k∧k<w2.heap.size:=fun k hk=>by
         obtain⟨h1,o',ho,_⟩:=zcj hU.out k hk;exact⟨h1,ju ho⟩
        have AV:Fr (fun k _=>k=w2.heap.size) w8 w9:=by rw[← Ag];exact zv3 _ _ _ _ _ _ _
        have H9:=zi (H8.out.other (AV.mono (fun k _ hm=>by omega)));have ha:=zv4 (v0 := .int .i64 hp) (v1 := .int .i64 hj) (v2 := .string ⟨hg.toArray⟩) (v3 := .slice z1 hn.length n1) (v4 := .slice z2 hh.length n2) AI.out;rw[Ag]at ha;have hT:=zi (zc0 (znd hU.out Ae.out) AV (fun k o hk _ _ hm=>by have:=(Ar k hk).2;omega));have AX:=zi (RP.kp (S':=fun k=>(False∨w.heap.size+2≤k)∧(Value.slice ao acc.length co).ownBlock≠some k) (w':=w9) (fun q o hq ho _=>⟨hq.1,AV.block q o ho (by have:=hq.2;omega)⟩) _ _ (RP.mt hJ.out H.out.old Ae.out));have BI:=zi (RJ.kp (S':=fun k=>False∨M7≤k) (w':=w9) (fun q o hq ho _=>⟨.inr hq,AV.block q o ho (by omega)⟩) _ _ Hy.out);have Hlw:=zi Ar;have hac2:acc.length≤4096:=by omega
        clear c0 c1 c2 fz hC r0 r1 r2 r3 r4 rz hD v0 v1 v2 v3 v4 vz hE;clear q0 q1 q2 q3 q4 q5 qz h8 AV Ag Ar Hy AI BW;obtain⟨q0,q1,q2,q3,q4,q5,qz,h8⟩:=PB.at' ha;obtain⟨c0,c1,c2,fz,hC⟩:=H9.out.tx.cells;obtain⟨r0,r1,r2,r3,r4,rz,hD⟩:=VB.at H9.out.ra;obtain⟨v0,v1,v2,v3,v4,vz,hE⟩:=VB.at H9.out.rb;have Hp9:=zi ha;clear ha
        go_wp2_with(at_builtin;(refine wpList_append_own_at _ rfl _ _ 63 rfl (w.heap.size+2) 116 i0 (.agg #[.string ⟨#[]⟩,.int .i64 0,.int .i64 0,.string ⟨#[]⟩,.slice none 0 0,.slice none 0 0]) 6 96 Tryz.underlying63 hi BS BR BQ rfl (by decide) (.slice ao acc.length co) acc.length xs (by rfl) (hT.out.alloc _) ⟨w9.heap.size,0,none⟩ 1 1 [.string ⟨nm.toArray⟩,.int .i64 hp,.int .i64 hj,.string ⟨hg.toArray⟩,.slice z1 hn.length n1,.slice z2 hh.length n2] (by rfl) (by rfl) ?c1 ?c2 ?c3 ?c4 ?c5 ?_))
        case c1=>exact q6 w9 _ _ _ rfl
        case c2=>simp[Value.oneCell']
        case c3=>unfold maxLen;omega
        case c4=>omega
        case c5=>simp;omega
        intro v' A1 hI hN AQ hw;rcases hI.2 with⟨rfl,h0⟩ | ⟨g,cp,cur,rfl,hBg,hg10,_⟩
        ·omega
        have BB:(Value.slice ao acc.length co).ownBlock=some g∨w9.heap.size+1≤g:=by
         rcases hw with h | h
         ·exact .inl h.symm
         right
         try simp only[World.size_alloc]at h
         have:g=w9.heap.size+1:=by simpa[Value.ownBlock] using h
         omega
        have H3:Hid (LS b L (.slice q L.length hX) w a' hY.bad #[.int .i64 5,.int .i64 0,.string ⟨#[]⟩,.slice none 0 0,.slice (some ⟨g,0,none⟩) (acc.length+1) cp] (A1.setCell ⟨w.heap.size+1,4,none⟩ (.slice (some ⟨g,0,none⟩) (acc.length+1) cp))) :=
         zi (H9.out.push (lv := .slice ao acc.length co) (o:=4) hN (fun k hk=>(Hlw.out k hk).1))
        have A0:Hid (QRow (fun _=>False) (w.heap.size+2) (acc++[(nm,J.mk hp hj hg hn hh)]) (.slice (some ⟨g,0,none⟩) (acc.length+1) cp) (A1.setCell ⟨w.heap.size+1,4,none⟩ (.slice (some ⟨g,0,none⟩) (acc.length+1) cp))) :=
         zi (QRow.push (S:=fun _=>False) (N:=w.heap.size+2) (M:=M7) (bv:=w.heap.size+1) hT.out AX.out (fun _ h=>h.elim) BI.out (by omega) (fun k hk=>by have:=(Hlw.out k hk).2;omega) hN BB hI (by omega) (fun h=>h) hBg 4)
        have AT:=zg0 hN (zaf _ H9.out.rb) (fun e=>by have:=(Hlw.out _ e).1;omega);clear c0 c1 c2 fz hC r0 r1 r2 r3 r4 rz hD v0 v1 v2 v3 v4 vz hE;clear q0 q1 q2 q3 q4 q5 qz h8 hI hN AQ hw hBg hg10 BB BI AX hT Hlw;obtain⟨v0,v1,v2,v3,v4,vz,hE⟩:=VB.at AT;clear AT
        go_upto_region 21 with(fail)
        have ha9:a'≤5000:=by omega
        have hS:=fun W hW=>zcb b L (.slice q L.length hX) a' hY.bad W hW hL (by omega)
        obtain⟨ra,Af,rc,rd⟩:=Hround.out a' Hpos.out (by omega);obtain⟨a2,BE⟩:∃ a2,blk L a'=a2:=⟨_,rfl⟩;rw[BE]at ra Af rc rd hS;have AD:=fun W hW=>zdx b L (.slice q L.length hX) a2 hY.bad W hW hL (by omega)
        obtain⟨m0,A7⟩:∃ m0,nxT (L.drop a2)=m0:=⟨_,rfl⟩;rw[A7]at AD Af rc rd;have Hbl:=zi hS;have Hnx:=zi AD;have Hrb:=zi Af;have hJ:=zi rc;have Hrd:=zi rd;have wa2:IntKind.i64.wrap ((a2:Int)+1)=(a2:Int)+1:=by rw[IntKind.wrap_i64];omega
        clear hS AD Af rc rd BE A7 H Hround Hpos;have As:=H3.out.lt;by_cases AG:m0=125
        ·obtain⟨g1,g2⟩:=Hrb.out AG;have hq:(m0==125)=true:=by rw[beq_iff_eq];exact AG
         have AY:=zi g1;have he:=zi g2;clear AG g1 g2 Hrb hJ Hrd
         go_wp2_with fail
         refine(Hbl.out _ H3.out.tx).mono ?_;rintro e w4 ⟨rfl,h2,hB⟩;have H4:=zi (H3.out.call h2 hB);have hM:=zi hB;clear h2 hB;have Ab:=zi (A0.out.mt H3.out.old hM.out)
         go_wp2_with fail
         refine(Hnx.out _ H4.out.tx).mono ?_;rintro e w5 ⟨rfl,h2,hB⟩;have H5:=zi (H4.out.call h2 (hB.mono (fun _ _ h=>h.elim)));have hM:=zi (hB.mono (M':=MT b) (fun _ _ h=>h.elim));clear h2 hB;have Aa:=zi (Ab.out.mt H3.out.old hM.out);have H6:=zi (H5.out.put1 ((a2:Int)+1) (a2+1) rfl);have AZ:=zi (Aa.out.mt H3.out.old (H5.out.tx.setF 1 (.int .i64 ((a2:Int)+1))));obtain⟨c0,c1,c2,fz,hC⟩:=H5.out.tx.cells;obtain⟨r0,r1,r2,r3,r4,rz,hD⟩:=VB.at H5.out.ra;obtain⟨v0,v1,v2,v3,v4,vz,hE⟩:=VB.at H5.out.rb
         go_wp2_with fail
         refine bodyPost_ret (v := .agg #[.int .i64 5,.int .i64 0,.string ⟨#[]⟩,.slice none 0 0,.slice (some ⟨g,0,none⟩) (acc.length+1) cp]) (by simp[results,Tryz.results186,go_sem,r0,r1,r2,r3,r4]) rfl ?_;obtain⟨t1,t2⟩:=H6.out.tset (.int .i64 5) (.int .i64 0) (.string ⟨#[]⟩) (.slice none 0 0) (.slice (some ⟨g,0,none⟩) (acc.length+1) cp);exact⟨.mk 5 0 [] [] (acc++[(nm,J.mk hp hj hg hn hh)]),_,rfl,AZ.out.val (.int .i64 5) (.int .i64 0) (.string ⟨#[]⟩) (.slice none 0 0) (.slice (some ⟨g,0,none⟩) (acc.length+1) cp),fun h=>by obtain⟨q1,q2⟩:=AY.out h;rw[q2,Hjs.out q1],he.out _ _ _ t1,t2⟩
        have hq:(m0==125)=false:=by rw[beq_eq_false_iff_ne];exact AG
        by_cases AM:m0=44
        ·obtain ⟨g1,g2⟩:=hJ.out AM;have Am:(m0==44)=true:=by rw[beq_iff_eq];exact AM
         have BT:(m0 != 44)=false:=by rw[bne,Am];rfl
         have AY:=zi g1;have he:=zi g2;clear AG AM g1 g2 Hrb hJ Hrd
         go_wp2_with fail
         refine(Hbl.out _ H3.out.tx).mono ?_;rintro e w4 ⟨rfl,h2,hB⟩;have H4:=zi (H3.out.call h2 hB);have hM:=zi hB;clear h2 hB;have Ab:=zi (A0.out.mt H3.out.old hM.out)
         go_wp2_with fail
         refine(Hnx.out _ H4.out.tx).mono ?_;rintro e w5 ⟨rfl,h2,hB⟩;have H5:=zi (H4.out.call h2 (hB.mono (fun _ _ h=>h.elim)));have hM:=zi (hB.mono (M':=MT b) (fun _ _ h=>h.elim));clear h2 hB;have Aa:=zi (Ab.out.mt H3.out.old hM.out);have H6:=zi (H5.out.put1 ((a2:Int)+1) (a2+1) rfl);have AZ:=zi (Aa.out.mt H3.out.old (H5.out.tx.setF 1 (.int .i64 ((a2:Int)+1))));obtain⟨c0,c1,c2,fz,hC⟩:=H5.out.tx.cells;obtain⟨r0,r1,r2,r3,r4,rz,hD⟩:=VB.at H5.out.ra;obtain⟨v0,v1,v2,v3,v4,vz,hE⟩:=VB.at H5.out.rb
         go_wp2_with fail
         go_roundg (gk - 1)
         case measure=>omega
         case rel =>
          refine⟨acc++[(nm,J.mk hp hj hg hn hh)],_,a2+1,k,hY.bad,H6,AZ,ra,fun hb=>?_,by omega,zi (fun hb=>?_),AY⟩
          ·have:=(he.out hb).1;rw[List.length_append];simp only[List.length_cons,List.length_nil];omega
          obtain⟨-,x2,x3,x4⟩:=he.out hb;exact⟨x2,x3,by rw[Hjs.out hb];exact x4⟩
        have Am:(m0==44)=false:=by rw[beq_eq_false_iff_ne];exact AM
        have BT:(m0 != 44)=true:=by rw[bne,Am];rfl
        have AY:=zi (Hrd.out AG AM);clear AG AM Hrb hJ Hrd
        go_wp2_with fail
        refine(Hbl.out _ H3.out.tx).mono ?_;rintro e w4 ⟨rfl,h2,hB⟩;have H4:=zi (H3.out.call h2 hB);have hM:=zi hB;clear h2 hB;have Ab:=zi (A0.out.mt H3.out.old hM.out)
        go_wp2_with fail
        refine(Hnx.out _ H4.out.tx).mono ?_;rintro e w5 ⟨rfl,h2,hB⟩;have H5:=zi (H4.out.call h2 (hB.mono (fun _ _ h=>h.elim)));have hM:=zi (hB.mono (M':=MT b) (fun _ _ h=>h.elim));clear h2 hB;have Aa:=zi (Ab.out.mt H3.out.old hM.out);have H6:=zi (H5.out.put1 ((a2:Int)+1) (a2+1) rfl);have AZ:=zi (Aa.out.mt H3.out.old (H5.out.tx.setF 1 (.int .i64 ((a2:Int)+1))));have H7:=zi (H6.out.set2 true);have BX:=zi (AZ.out.mt H3.out.old (H6.out.tx.setF 2 (.bool true)));obtain⟨c0,c1,c2,fz,hC⟩:=H5.out.tx.cells;obtain⟨r0,r1,r2,r3,r4,rz,hD⟩:=VB.at H5.out.ra;obtain⟨v0,v1,v2,v3,v4,vz,hE⟩:=VB.at H5.out.rb
        go_wp2_with fail
        go_roundg (gk - 1)
        case measure=>omega
        case rel =>
         exact⟨acc++[(nm,J.mk hp hj hg hn hh)],_,a2+1,k,true,H7,BX,ra,fun hb=>by simp at hb,by omega,zi (fun hb=>by simp at hb),zi (fun _=>AY.out)⟩
end
end Go.Proofs.YtffggpplnjibgaaGreatDoor
