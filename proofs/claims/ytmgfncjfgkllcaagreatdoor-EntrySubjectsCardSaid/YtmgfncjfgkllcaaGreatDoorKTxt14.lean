/-
 The reference's reader of texts: an object.
-/
import Derived.Test.YtmgfncjfgkllcaaGreatDoorKTxt11
import Derived.Test.YtmgfncjfgkllcaaGreatDoorKTxt7
import Derived.Test.YtmgfncjfgkllcaaGreatDoorKTxt10
import Derived.Maps.AppendAt
open Go.Lib renaming hid→za
namespace Go.Proofs.YtmgfncjfgkllcaaGreatDoor
set_option linter.unusedVariables false
set_option linter.unusedSimpArgs false
set_option linter.unusedSectionVars false
set_option maxRecDepth 100000
set_option maxHeartbeats 8000000
section
open Go.RowKit
variable [OldK]
attribute [local irreducible] wpStill
theorem zxo (nm:Bs):∀ p:List (Bs × J),(zd7 nm p).isSome=(p.map (·.1)).contains nm:=by
 intro p
 induction p with
 | nil=>rfl
 | cons q p ih =>
   obtain⟨n,x⟩:=q;rw[zd7];by_cases h:n=nm
   ·rw[if_pos h];simp[h]
   rw[if_neg h,ih];simp only[List.map_cons,List.contains_cons];rw[beq_eq_false_iff_ne.2 (fun e=>h e.symm)];simp
theorem zjt {L:Bs} {p2:Nat} {st1:St} {nm:Bs} {acc:List (Bs × J)} (hpos:st1.bad=false→L.drop p2=st1.s∧p2≤L.length) :
 ((zd7 nm acc).isSome=true∨st1.bad=true∨Lib.hasPrefix (L.drop (blk L p2)) [58]=false→(zbw (acc.map (·.1)) nm st1).bad=true) ∧
 ((zd7 nm acc).isSome=false→st1.bad=false→Lib.hasPrefix (L.drop (blk L p2)) [58]=true→zbw (acc.map (·.1)) nm st1=⟨L.drop (blk L p2+1),false⟩):=by
 have hd:=zeo L p2;rw[zxo];unfold zbw;constructor
 ·intro h;split
  ·rfl
  rename_i hc
  have hA:(acc.map (·.1)).contains nm=false:=by simpa using hc
  rcases h with h | h | h
  ·rw[hA]at h;simp at h
  ·cases zdn 58 st1.s with
   | none=>rfl
   | some l=>exact h
  cases hb:st1.bad with
  | true=>cases zdn 58 st1.s<;>rfl
  | false =>
    rw[hd,(hpos hb).1]at h;rw[zi5];rintro l hl;rw[hl]at h;simp[Lib.hasPrefix]at h
 intro h1 h2 h3;rw[if_neg (by rw[h1];simp)];cases hl:L.drop (blk L p2) with
 | nil=>rw[hl]at h3;simp[Lib.hasPrefix]at h3
 | cons x l =>
   rw[hl]at h3
   have hx:x=58:=by
    simp[Lib.hasPrefix]at h3
    first | exact h3.symm | exact h3
   subst hx;rw[hd,(hpos h2).1]at hl;rw[zfp hl];simp only;rw[← List.drop_drop,hd,(hpos h2).1,hl,h2];rfl
section
variable {b:Nat} {L:Bs} {v:Value} {w wr w1:World} {c c':Nat} {bd bd':Bool} {cs:Array Value}
theorem zv8 {p:Bs}(h:if Lib.hasPrefix (L.drop c) p=true then TX b L v (c+p.length) bd wr∧c+p.length≤L.length else TX b L v c true wr) :
 ∃ c',TX b L v c' (bd || !Lib.hasPrefix (L.drop c) p) wr∧c'≤c+p.length∧(Lib.hasPrefix (L.drop c) p=true→c'=c+p.length∧c'≤L.length):=by
 by_cases hp:Lib.hasPrefix (L.drop c) p=true
 ·rw[if_pos hp]at h;rw[hp];exact⟨_,by simpa using h.1,Nat.le_refl _,fun _=>⟨rfl,h.2⟩⟩
 rw[if_neg hp]at h;have hA:Lib.hasPrefix (L.drop c) p=false:=by simpa using hp
 rw[hA];exact⟨_,by simpa using h,by omega,fun h=>by simp at h⟩
theorem LS.other (h:LS b L v w c bd cs wr)(hF:Fr (fun k _=>w.heap.size+2≤k) wr w1):LS b L v w c bd cs w1:=by
 obtain⟨g1,g2⟩:=h.tx.grow h.sb h.lt (hF.mono (M':=fun k _=>w.heap.size≤k) (fun k _ hm=>by omega));exact⟨g1,g2,hF.block _ _ h.ra (by omega),hF.block _ _ h.rb (by omega),h.fr.trans hF (fun k _ hm => .inr (by omega)),h.lt,h.old⟩
theorem QRow.val0 {l:List (Bs × J)} {lv:Value} {N:Nat} (h:QRow (fun _=>False) N l lv wr) :
 RJ (fun k=>N≤k) wr (.mk 5 0 [] [] l) (.agg #[.int .i64 5,.int .i64 0,.string ⟨#[]⟩,.slice none 0 0,lv]):=by
 obtain⟨a,e,rfl,hr⟩:=h.rowQ
 have h1:RJ (fun k=>(False∨N≤k)∧k<wr.heap.size) wr (.mk 5 0 [] [] l) (.agg #[.int .i64 5,.int .i64 0,.string ⟨#[]⟩,.slice none 0 0,.slice a l.length e]):=by
  unfold RJ;exact⟨none,0,a,e,rfl,.inl rfl,hr⟩
 exact RJ.kp (fun q o hq ho _=>⟨by rcases hq.1 with h | h;exact h.elim;omega,ho⟩) _ _ h1
theorem RP.low {S:Nat→Prop}{l:List (Bs × J)}{xs:List Value}(h:RP S wr l xs):RP (fun k=>S k∧k<wr.heap.size) wr l xs :=
 RP.kp (fun b o hs hb _=>⟨⟨hs,jb hb⟩,hb⟩) l xs h
def z0v (b:Nat) (v0 v1 v2 v3 v4:Value) (w:World):World :=
 ((((w.setCell ⟨b,1,none⟩ v0).setCell ⟨b,2,none⟩ v1).setCell ⟨b,3,none⟩ v2).setCell ⟨b,4,none⟩ v3).setCell ⟨b,5,none⟩ v4
theorem zzl (b:Nat)(v0 v1 v2 v3 v4:Value)(w:World):Fr (fun k _=>k=b) w (z0v b v0 v1 v2 v3 v4 w) :=
 ((((Fr.refl.setCell _ _ (fun _ _=>rfl)).setCell _ _ (fun _ _=>rfl)).setCell _ _ (fun _ _=>rfl)).setCell _ _ (fun _ _=>rfl)).setCell _ _ (fun _ _=>rfl)
theorem zzm {q0 q1 q2 q3 q4 q5 v0 v1 v2 v3 v4:Value}{k:Nat}(h:wr.heap[k]? = some (.cells #[q0,q1,q2,q3,q4,q5] 133 (0,0))) :
 (z0v k v0 v1 v2 v3 v4 wr).heap[k]? = some (.cells #[q0,v0,v1,v2,v3,v4] 133 (0,0)):=by
 unfold z0v;exact z7 (o:=5) _ (z7 (o:=4) _ (z7 (o:=3) _ (z7 (o:=2) _ (z7 (o:=1) _ h))))
theorem PB.at' {q0 q1 q2 q3 q4 q5:Value}{k:Nat}(h:wr.heap[k]? = some (.cells #[q0,q1,q2,q3,q4,q5] 133 (0,0))) :
 wr.cell? ⟨k,0,none⟩=some q0∧wr.cell? ⟨k,1,none⟩=some q1∧wr.cell? ⟨k,2,none⟩=some q2∧wr.cell? ⟨k,3,none⟩=some q3∧wr.cell? ⟨k,4,none⟩=some q4∧wr.cell? ⟨k,5,none⟩=some q5∧(∀ o,wr.frozen? ⟨k,o,none⟩=false)∧k<wr.heap.size :=
 ⟨by simp[World.cell?,h],by simp[World.cell?,h],by simp[World.cell?,h],by simp[World.cell?,h],by simp[World.cell?,h],by simp[World.cell?,h],by simp[World.frozen?,h],jb h⟩
end
end
section
open Go.RowKit
variable [OldK]
attribute [local irreducible] wpStill
theorem z0f {x q:Bool}(h:(x || !q)=true):x=true∨q=false:=by cases x<;>cases q<;>simp at h ⊢
theorem zx4 {x q:Bool}(h:(x || !q)=false):x=false∧q=true:=by cases x<;>cases q<;>simp at h ⊢
theorem ztf (f b:Nat) (L:Bs) (v:Value) (hv:zv0 b L v f) (hL:L.length≤4096) (d:Int) (hd0:1≤d) (hdf:d+f=10) (a:Nat) (w:World) (h:TX b L v a false w) (l:Bs) (hl:L.drop a=123 :: l) :
 Calls Tryz.prog 211 #[.pointer (some ⟨b,0,none⟩),.int .i64 d] w fun e w'=>∃ j x,e = .returned x∧RJ (fun k=>w.heap.size≤k) w' j x ∧
  ((zae (za4 (jg f d)) 123 125 d ⟨123 :: l,false⟩ []).1.bad=false→j = .mk 5 0 [] [] (zae (za4 (jg f d)) 123 125 d ⟨123 :: l,false⟩ []).2) ∧
  RS b L v (L.length+11 - d.toNat) (zae (za4 (jg f d)) 123 125 d ⟨123 :: l,false⟩ []).1 w'∧Fr (MT b) w w':=by
 obtain⟨d1,d2,d3,d4⟩:=zd4 hl;have he:=za (LS.start h #[.int .i64 5,.int .i64 0,.string ⟨#[]⟩,.slice none 0 0,.slice none 0 0]);obtain⟨q,hU,rfl⟩:=h.2.1.form;by_cases hd:8<d
 ·have hb:=znd (one:=za4 (jg f d)) (shut:=125) (op:=123) (d:=d) (l:=l) (a:=[]) (by decide) hd;generalize zae (za4 (jg f d)) 123 125 d ⟨123 :: l,false⟩ []=G at *;have BT:decide (8<d)=true:=decide_eq_true hd;have Hb:=za hb;obtain⟨c0,c1,c2,fz,hB⟩:=h.cells;have HH:=za h;clear hv h hl d3 hb;go_enter Tryz.func211,Tryz.ntmps211
  go_wp2_with fail
  refine bodyPost_ret (v := .agg #[.int .i64 5,.int .i64 0,.string ⟨#[]⟩,.slice none 0 0,.slice none 0 0]) (by simp[results,Tryz.results211,go_sem]) rfl ?_;exact⟨.mk 5 0 [] [] [],_,rfl,RJ.flat _ _ 5 0 [],fun h=>by rw[Hb.out]at h;simp at h,⟨a,by rw[Hb.out];exact(HH.out.set2 true).frN ((Fr.refl.alloc _).alloc _),fun h=>by rw[Hb.out]at h;simp at h,by omega⟩,((HH.out.setF _ _).alloc _).alloc _⟩
 have BT:decide (8<d)=false:=decide_eq_false hd;obtain⟨e1,e2⟩:=zkw (one:=za4 (jg f d)) (shut:=125) (op:=123) (d:=d) (l:=l) (a:=[]) (by decide) (by omega);obtain⟨G,hG⟩:∃ G,zae (za4 (jg f d)) 123 125 d ⟨123 :: l,false⟩ []=G:=⟨_,rfl⟩;rw[hG]at e1 e2 ⊢;have Au:=zh0 L (a+1);have ht:=zeo L (a+1);rw[d3]at ht;obtain⟨p1,BB⟩:∃ p1,blk L (a+1)=p1:=⟨_,rfl⟩;have hR:=fun W hW=>zcv b L (.slice q L.length hU) (a+1) false W hW hL (by omega)
 rw[BB]at Au ht hR;have Hbl:=za hR;have AC:=fun W hW=>zed b L (.slice q L.length hU) p1 false W hW hL (by omega)
 rw[ht]at AC;have Hnx:=za AC;have As:p1≤L.length:=by omega
 have hac:a+1≤p1:=Au.1;have Hdb:=za ht;have wa:IntKind.i64.wrap ((a:Int)+1)=(a:Int)+1:=by rw[IntKind.wrap_i64];omega
 have BN:IntKind.i64.wrap ((p1:Int)+1)=(p1:Int)+1:=by rw[IntKind.wrap_i64];omega
 clear hG Au hR BB h hl AC;by_cases hm:nxT (ja l)=125
 ·obtain⟨m,Ap⟩:=zd8 (t:=ja l) (x:=125) (by decide) hm;have AK:=e1 m Ap;rw[Ap]at ht;obtain⟨f1,f2,f3,f4⟩:=zd4 ht;have hq:(nxT (ja l)==125)=true:=by rw[beq_iff_eq];exact hm
  generalize nxT (ja l)=m0 at *;subst AK;have F3:=za f3;clear hv e1 e2 Ap ht f2 f3 hm d3 Hdb;obtain⟨c0,c1,c2,fz,hB⟩:=he.out.tx.cells;obtain⟨r0,r1,r2,r3,r4,rz,hC⟩:=VB.at he.out.ra;obtain⟨v0,v1,v2,v3,v4,vz,hD⟩:=VB.at he.out.rb;go_enter Tryz.func211,Tryz.ntmps211
  go_wp2_with fail
  clear c0 c1 c2 fz hB r0 r1 r2 r3 r4 rz hC v0 v1 v2 v3 v4 vz hD;have AO:=za (he.out.put1 ((a:Int)+1) (a+1) rfl);refine(Hbl.out _ AO.out.tx).mono ?_;rintro e w2 ⟨rfl,h2,hA⟩;have AN:=za (AO.out.call h2 hA);clear h2 hA
  go_wp2_with fail
  refine(Hnx.out _ AN.out.tx).mono ?_;rintro e w3 ⟨rfl,h2,hA⟩;have hz:=za (AN.out.call h2 (hA.mono (fun _ _ h=>h.elim)));have hJ:=za (hA.mono (M':=MT b) (fun _ _ h=>h.elim));clear h2 hA;obtain⟨c0,c1,c2,fz,hB⟩:=hz.out.tx.cells;obtain⟨r0,r1,r2,r3,r4,rz,hC⟩:=VB.at hz.out.ra;obtain⟨v0,v1,v2,v3,v4,vz,hD⟩:=VB.at hz.out.rb;have Ar:=hz.out.lt
  go_wp2_with fail
  refine bodyPost_ret (v := .agg #[.int .i64 5,.int .i64 0,.string ⟨#[]⟩,.slice none 0 0,.slice none 0 0]) (by simp[results,Tryz.results211,go_sem,r0,r1,r2,r3,r4]) rfl ?_;obtain⟨t1,t2⟩:=(hz.out.put1 ((p1:Int)+1) (p1+1) rfl).tset (.int .i64 5) (.int .i64 0) (.string ⟨#[]⟩) (.slice none 0 0) (.slice none 0 0);exact⟨.mk 5 0 [] [] [],_,rfl,RJ.flat _ _ 5 0 [],fun _=>rfl,⟨p1+1,t1,fun _=>⟨F3.out,by omega⟩,by omega⟩,t2⟩
 have hq:(nxT (ja l)==125)=false:=by rw[beq_eq_false_iff_ne];exact hm
 have AK:=e2 (zw5 (x:=125) hm);rw[← Hdb.out]at AK;have A7:(L.drop p1).length+1≤l.length+2:=by rw[List.length_drop];omega
 generalize l.length+2=k0 at AK A7;have BL:=za AK.symm;generalize nxT (ja l)=m0 at *;obtain⟨i0,hi,BR,BQ,BP⟩:=info_parts zdb;clear e1 e2 ht hm d3 Hdb AK;obtain⟨c0,c1,c2,fz,hB⟩:=he.out.tx.cells;obtain⟨r0,r1,r2,r3,r4,rz,hC⟩:=VB.at he.out.ra;obtain⟨v0,v1,v2,v3,v4,vz,hD⟩:=VB.at he.out.rb;go_enter Tryz.func211,Tryz.ntmps211
 go_wp2_with fail
 clear c0 c1 c2 fz hB r0 r1 r2 r3 r4 rz hC v0 v1 v2 v3 v4 vz hD;have AO:=za (he.out.put1 ((a:Int)+1) (a+1) rfl);refine(Hbl.out _ AO.out.tx).mono ?_;rintro e w2 ⟨rfl,h2,hA⟩;have AN:=za (AO.out.call h2 hA);clear h2 hA
 go_wp2_with fail
 refine(Hnx.out _ AN.out.tx).mono ?_;rintro e w3 ⟨rfl,h2,hA⟩;have hz:=za (AN.out.call h2 (hA.mono (fun _ _ h=>h.elim)));have hJ:=za (hA.mono (M':=MT b) (fun _ _ h=>h.elim));clear h2 hA
 go_wp2_with fail
 clear he AO AN Hbl Hnx wa BN hq
 go_loopg [] (k0+1) (fun g wr=>∃ (acc:List (Bs × J)) (lv:Value) (c k:Nat) (bd:Bool),Hid (LS b L (.slice q L.length hU) w c bd #[.int .i64 5,.int .i64 0,.string ⟨#[]⟩,.slice none 0 0,lv] wr)∧Hid (QRow (fun _=>False) (w.heap.size+2) acc lv wr) ∧
  c≤L.length+11 - d.toNat∧(bd=false→acc.length≤c)∧k+1=g ∧
  Hid (bd=false→c≤L.length∧(L.drop c).length+1≤k∧zbm (za4 (jg f d)) 125 k ⟨L.drop c,false⟩ acc=G)∧Hid (bd=true→G.1.bad=true))
 case atStart=>exact⟨[],.slice none 0 0,p1,k0,false,hz,za (QRow.nil _ _ _),by omega,fun _=>by simp,rfl,za (fun _=>⟨As,A7,BL.out⟩),za (fun h=>by simp at h)⟩
 case round =>
  clear hz BL;obtain⟨acc,lv,c,k,bd,H,HR,BU,AE,hkg,HA,HB⟩:=hrel;cases bd with
  | true =>
    have HG:=za (HB.out rfl);obtain⟨al,cl,rfl⟩:=qj HR.out.choose_spec.1;clear HA HB AE;obtain⟨c0,c1,c2,fz,hB⟩:=H.out.tx.cells;obtain⟨r0,r1,r2,r3,r4,rz,hC⟩:=VB.at H.out.ra;obtain⟨v0,v1,v2,v3,v4,vz,hD⟩:=VB.at H.out.rb
    go_wp2_with fail
    refine bodyPost_ret (v := .agg #[.int .i64 5,.int .i64 0,.string ⟨#[]⟩,.slice none 0 0,.slice al acc.length cl]) (by simp[results,Tryz.results211,go_sem,r0,r1,r2,r3,r4]) rfl ?_;obtain⟨t1,t2⟩:=H.out.tset (.int .i64 5) (.int .i64 0) (.string ⟨#[]⟩) (.slice none 0 0) (.slice al acc.length cl);exact⟨.mk 5 0 [] [] acc,_,rfl,HR.out.val _ _ _ _ _,fun h=>by rw[HG.out]at h;simp at h,⟨c,by rw[HG.out];exact t1,fun h=>by rw[HG.out]at h;simp at h,BU⟩,t2⟩
  | false =>
    have AE:=AE rfl;obtain⟨BO,k1,k2⟩:=HA.out rfl;obtain⟨k,rfl⟩:∃ k',k=k'+1:=⟨k - 1,by omega⟩;have AR:=zh0 L c;have AD:=zeo L c;have hR:=fun W hW=>zcv b L (.slice q L.length hU) c false W hW hL (by omega)
    obtain⟨pn,A3⟩:∃ pn,blk L c=pn:=⟨_,rfl⟩;rw[A3]at AR AD hR;have Am:pn≤L.length:=by omega
    have h9:=fun W hW=>zmi b L (.slice q L.length hU) pn W hW hL Am
    obtain⟨⟨nm,hN⟩,hQ⟩:∃ Q,zbk ⟨L.drop pn,false⟩=Q:=⟨_,rfl⟩
    have hF:za4 (jg f d) ⟨L.drop c,false⟩ acc=((jg f d (zbw (acc.map (·.1)) nm hN)).2,acc++[(nm,(jg f d (zbw (acc.map (·.1)) nm hN)).1)]):=by
     simp only[za4];rw[← AD,hQ]
    simp only[hQ]at h9;have hr:=zou (zig f d) ⟨L.drop c,false⟩ acc;rw[hF]at hr;simp only at hr;obtain⟨ok,Ag⟩:∃ ok,(zd7 nm acc).isSome=ok:=⟨_,rfl⟩
    have h6:=za (fun p2 (hE:hN.bad=false→L.drop p2=hN.s∧p2≤L.length) (hb:ok=true∨hN.bad=true∨Lib.hasPrefix (L.drop (blk L p2)) [58]=false)=>(by
     have h1:=(zjt (nm:=nm) (acc:=acc) hE).1 (by rw[Ag];exact hb)
     have h2:(jg f d (zbw (acc.map (·.1)) nm hN)).2.bad=true:=by
      generalize zbw (acc.map (·.1)) nm hN=s3 at h1 ⊢;obtain⟨s,bd⟩:=s3;simp only at h1;subst h1;exact zix f d s
     have h3:=(zm0 (one:=za4 (jg f d)) (shut:=125) (k:=k) hF).1 h2;rw[← k2,h3]
     exact h2:G.1.bad=true))
    have AJ:=za (fun p2 (hE:hN.bad=false→L.drop p2=hN.s∧p2≤L.length) (h1:ok=false) (h2:hN.bad=false) (h3:Lib.hasPrefix (L.drop (blk L p2)) [58]=true) jv hX (hV:jg f d ⟨L.drop (blk L p2+1),false⟩=(jv,hX))=>(by
     have h4:=(zjt (nm:=nm) (acc:=acc) hE).2 (by rw[Ag];exact h1) h2 h3;rw[h4,hV]at hF hr
     exact⟨hF,hr⟩:za4 (jg f d) ⟨L.drop c,false⟩ acc=(hX,acc++[(nm,jv)])∧hX.s.length≤(L.drop c).length))
    have BK:=za k2;obtain⟨xs,AB,A1⟩:=HR.out;obtain⟨ao,co,rfl⟩:=qj AB;have Hown:=za AB;have Hrc:=za A1;have Hbl:=za hR;have Hquo:=za h9;have Hok:=za Ag;have hwN:w.heap.size+1<wr.heap.size:=jb H.out.rb;clear HA HB hr hF k2 AB A1 HR hR h9 Ag hQ AD A3 AR;obtain⟨c0,c1,c2,fz,hB⟩:=H.out.tx.cells;obtain⟨r0,r1,r2,r3,r4,rz,hC⟩:=VB.at H.out.ra;obtain⟨v0,v1,v2,v3,v4,vz,hD⟩:=VB.at H.out.rb
    go_wp2_with fail
    refine(Hbl.out _ H.out.tx).mono ?_;rintro e w1 ⟨rfl,h2,hA⟩;have H1:=za (H.out.call h2 hA);have hJ:=za hA;clear h2 hA;have Ak:=hJ;clear c0 c1 c2 fz hB r0 r1 r2 r3 r4 rz hC v0 v1 v2 v3 v4 vz hD
    go_wp2_with fail
    refine(Hquo.out _ H1.out.tx).mono ?_;rintro e w2 ⟨rfl,⟨p2,BG,hp,hK2⟩,hA⟩;have H2:=za (H1.out.call BG hA);have Ak:=za (Ak.out.trans' hA);have hT:=za (zov Hown.out Ak.out);have hI:=za ((RP.mt Hrc.out H.out.old Ak.out).low);have hw:=za hp;have H3:=za (H2.out.callN ((Fr.refl (M:=NoB)).alloc (.cells #[.string ⟨nm.toArray⟩,.int .i64 0,.int .i64 0,.string ⟨#[]⟩,.slice none 0 0,.slice none 0 0] 133)));have BJ:=za (heap_alloc_new w2 (.cells #[.string ⟨nm.toArray⟩,.int .i64 0,.int .i64 0,.string ⟨#[]⟩,.slice none 0 0,.slice none 0 0] 133));have hN2:w.heap.size+1<w2.heap.size:=jb H2.out.rb;clear BG hA hp Hown Hrc;have AG:=za (fun W hW=>zcv b L (.slice q L.length hU) p2 hN.bad W hW hL (by omega));have AQ:=zh0 L p2;obtain⟨p3,Ao⟩:∃ p3,blk L p2=p3:=⟨_,rfl⟩;rw[Ao]at AG AQ;have Ay:=h6.out p2 hw.out;have Ax:=AJ.out p2 hw.out;rw[Ao]at Ay Ax;have hp3L:p3≤L.length+1:=by omega
    have BI:=za (fun W hW=>zmd [58] b L (.slice q L.length hU) p3 hN.bad W hW hL (by omega) (by decide) (by decide));have h6:=za Ay;have AJ:=za Ax;clear Ay Ax Ao AQ
    go_wp2_with fail
    refine(AG.out _ H3.out.tx).mono ?_;rintro e w4 ⟨rfl,h2,hA⟩;have H4:=za (H3.out.call h2 hA);have Ac:=za (hA.block _ _ BJ.out zes);have h5:=za (((Fr.refl (M:=MT b)).alloc (w:=w2) (.cells #[.string ⟨nm.toArray⟩,.int .i64 0,.int .i64 0,.string ⟨#[]⟩,.slice none 0 0,.slice none 0 0] 133)).trans' hA);clear h2 hA BJ H3
    go_wp2_with fail
    refine(BI.out _ H4.out.tx).mono ?_;rintro e w5 ⟨rfl,AT,Ai⟩;obtain⟨p4,BF,A5,AA⟩:=zv8 AT;have H5:=za (H4.out.call BF Ai);have AI:=za (Ai.block _ _ Ac.out zes);have h5:=za (h5.out.trans' Ai);have hp4L:p4≤L.length+2:=by simp at A5;omega
    obtain⟨qq,A2⟩:∃ qq,Lib.hasPrefix (L.drop p3) [58]=qq:=⟨_,rfl⟩;rw[A2]at H5 AA h6 AJ;obtain⟨bw,At⟩:∃ bw,(hN.bad || !qq)=bw:=⟨_,rfl⟩;rw[At]at H5;have Hbw:=za At;have ha:=za AA;clear AT BF Ai A5 A2 At AA BI H4 Ac AG H2;have AM:Hid (QRow (fun _=>False) (w.heap.size+2) acc (.slice ao acc.length co) w5):=za ⟨xs,zov hT.out h5.out,RP.mt (RP.kp (fun b o hs hb _=>⟨hs.1,hb⟩) _ _ hI.out) H.out.old h5.out⟩;have hY:=zpy (fun k=>w.heap.size+2≤k) (.mk 5 0 [] [] acc) _ nm w5 AM.out.val0 (by simp only[J.pairs];omega);rw[zqa,Hok.out]at hY;obtain⟨⟨Aj,gn,gt,gl,gp⟩,A9⟩:∃ g,(zd7 nm acc).getD J.zero=g:=⟨_,rfl⟩;rw[A9]at hY;have Hget:=za hY;clear hY A9 Hok;obtain⟨c0,c1,c2,fz,hB⟩:=H5.out.tx.cells;obtain⟨r0,r1,r2,r3,r4,rz,hC⟩:=VB.at H5.out.ra;obtain⟨v0,v1,v2,v3,v4,vz,hD⟩:=VB.at H5.out.rb;obtain⟨q0,q1,q2,q3,q4,q5,qz,h7⟩:=PB.at' AI.out
    go_wp2_with fail
    refine Hget.out.mono ?_;rintro e w6 ⟨x,rfl,hx,Ah⟩;obtain⟨y1,m1,y2,m2,rfl,_,_⟩:=hx.open;have H6:=za (H5.out.callN Ah);have Ab:=za (Ah.block _ _ AI.out (fun h=>h));have H7:=za (H6.out.callN ((Fr.refl (M:=NoB)).alloc (.cells #[.int .i64 Aj,.int .i64 gn,.string ⟨gt.toArray⟩,.slice y1 gl.length m1,.slice y2 gp.length m2] 56)));have hO:=za (qm (.cells #[.int .i64 Aj,.int .i64 gn,.string ⟨gt.toArray⟩,.slice y1 gl.length m1,.slice y2 gp.length m2] 56) Ab.out);have hP:=za ((Ah.mono (M':=MT b) (fun _ _ h=>h.elim)).alloc (.cells #[.int .i64 Aj,.int .i64 gn,.string ⟨gt.toArray⟩,.slice y1 gl.length m1,.slice y2 gp.length m2] 56));clear hx Ah Ab H6 AI Hget q0 q1 q2 q3 q4 q5 qz h7;clear c0 c1 c2 fz hB r0 r1 r2 r3 r4 rz hC v0 v1 v2 v3 v4 vz hD;cases ok with
    | true =>
      have HG:=za (h6.out (.inl rfl));have H8:=za (H7.out.set2 true);have BX:=za (AM.out.mt H.out.old (hP.out.trans' (H7.out.tx.setF 2 (.bool true))));obtain⟨c0,c1,c2,fz,hB⟩:=H7.out.tx.cells;obtain⟨r0,r1,r2,r3,r4,rz,hC⟩:=VB.at H7.out.ra;obtain⟨v0,v1,v2,v3,v4,vz,hD⟩:=VB.at H7.out.rb;clear r0 r1 r2 r3 r4 rz hC;obtain⟨r0,r1,r2,r3,r4,rz,hC⟩:=VB.at H8.out.ra;obtain⟨v0',v1',v2',v3',v4',vz',vlt'⟩:=VB.at H8.out.rb;clear Hbw ha AJ h6 hO h5 hP AM
      go_wp2_with fail
      refine bodyPost_ret (v := .agg #[.int .i64 5,.int .i64 0,.string ⟨#[]⟩,.slice none 0 0,.slice ao acc.length co]) (by simp[results,Tryz.results211,go_sem,r0,r1,r2,r3,r4]) rfl ?_;obtain⟨t1,t2⟩:=H8.out.tset (.int .i64 5) (.int .i64 0) (.string ⟨#[]⟩) (.slice none 0 0) (.slice ao acc.length co);exact⟨.mk 5 0 [] [] acc,_,rfl,BX.out.val (.int .i64 5) (.int .i64 0) (.string ⟨#[]⟩) (.slice none 0 0) (.slice ao acc.length co),fun h=>by rw[HG.out]at h;simp at h,⟨p4,by rw[HG.out];exact t1,fun h=>by rw[HG.out]at h;simp at h,by omega⟩,t2⟩
    | false =>
      cases bw with
      | true =>
        have HG:=za (h6.out (.inr (z0f Hbw.out)));have BY:=za (AM.out.mt H.out.old hP.out);obtain⟨c0,c1,c2,fz,hB⟩:=H7.out.tx.cells;obtain⟨r0,r1,r2,r3,r4,rz,hC⟩:=VB.at H7.out.ra;obtain⟨v0,v1,v2,v3,v4,vz,hD⟩:=VB.at H7.out.rb;clear Hbw ha AJ h6 hO h5 hP AM
        go_wp2_with fail
        refine bodyPost_ret (v := .agg #[.int .i64 5,.int .i64 0,.string ⟨#[]⟩,.slice none 0 0,.slice ao acc.length co]) (by simp[results,Tryz.results211,go_sem,r0,r1,r2,r3,r4]) rfl ?_;obtain⟨t1,t2⟩:=H7.out.tset (.int .i64 5) (.int .i64 0) (.string ⟨#[]⟩) (.slice none 0 0) (.slice ao acc.length co);exact⟨.mk 5 0 [] [] acc,_,rfl,BY.out.val (.int .i64 5) (.int .i64 0) (.string ⟨#[]⟩) (.slice none 0 0) (.slice ao acc.length co),fun h=>by rw[HG.out]at h;simp at h,⟨p4,by rw[HG.out];exact t1,fun h=>by rw[HG.out]at h;simp at h,by omega⟩,t2⟩
      | false =>
        obtain⟨BC,Av⟩:=zx4 Hbw.out;obtain⟨A4,An⟩:=ha.out Av;have BM:=za (AJ.out rfl BC Av);have h8:=fun W hW=>hv d p4 W hW An (by omega) (by omega) hdf
        obtain⟨⟨jv,hX⟩,hV⟩:∃ V,jg f d ⟨L.drop p4,false⟩=V:=⟨_,rfl⟩;obtain⟨hF,hr⟩:=BM.out jv hX (by rw[← hV,A4];rfl);simp only[hV]at h8;have Hround:=za (fun a' hE hK=>zi7 (K:=L.length+11 - d.toNat) (a':=a') (shut:=125) (by decide) (by decide) hF hr BO k1 BK.out hE hK (by omega));have Hval:=za h8;clear BC Av h6 AJ Hbw ha BM hF hr hV h8 A4 BK hv;obtain⟨c0,c1,c2,fz,hB⟩:=H7.out.tx.cells;obtain⟨r0,r1,r2,r3,r4,rz,hC⟩:=VB.at H7.out.ra;obtain⟨v0,v1,v2,v3,v4,vz,hD⟩:=VB.at H7.out.rb;obtain⟨q0,q1,q2,q3,q4,q5,qz,h7⟩:=PB.at' hO.out
        go_wp2_with fail
        refine(Hval.out _ H7.out.tx).mono ?_;rintro e w8 ⟨⟨hn,hh,hf,hj,hg⟩,y,rfl,hy,A8,⟨a',BE,hE,hK⟩,AV⟩;obtain⟨z1,n1,z2,n2,rfl,_,_⟩:=hy.open;have H8:=za (H7.out.call BE AV);have AH:=za (AV.block _ _ hO.out zes);have Ad:=za (h5.out.trans' (hP.out.trans' AV));have BV:=za AV.size;obtain⟨M7,Aw⟩:∃ M7,(w6.alloc (.cells #[.int .i64 Aj,.int .i64 gn,.string ⟨gt.toArray⟩,.slice y1 gl.length m1,.slice y2 gp.length m2] 56)).heap.size=M7:=⟨_,rfl⟩;rw[Aw]at hy;have hPM:w2.heap.size<M7:=by rw[← Aw];exact jb hO.out
        clear Aw;have Hy:=za hy;have Hjs:=za A8;have Hpos:=za hE;clear hy A8 hE AV BE H7 hO hP h5 AM Hval q0 q1 q2 q3 q4 q5 qz h7;clear c0 c1 c2 fz hB r0 r1 r2 r3 r4 rz hC v0 v1 v2 v3 v4 vz hD;obtain⟨c0,c1,c2,fz,hB⟩:=H8.out.tx.cells;obtain⟨r0,r1,r2,r3,r4,rz,hC⟩:=VB.at H8.out.ra;obtain⟨v0,v1,v2,v3,v4,vz,hD⟩:=VB.at H8.out.rb;obtain⟨q0,q1,q2,q3,q4,q5,qz,h7⟩:=PB.at' AH.out
        go_upto_region 20 with(fail)
        obtain⟨w9,Af⟩:∃ w9,z0v w2.heap.size (.int .i64 hn) (.int .i64 hh) (.string ⟨hf.toArray⟩) (.slice z1 hj.length n1) (.slice z2 hg.length n2) w8=w9:=⟨_,rfl⟩;change Code.wp _ _ _ _ (z0v w2.heap.size (.int .i64 hn) (.int .i64 hh) (.string ⟨hf.toArray⟩) (.slice z1 hj.length n1) (.slice z2 hg.length n2) w8);rw[Af]
        have Aq:∀ k,(Value.slice ao acc.length co).ownBlock=some k→w.heap.size+2≤k∧k<w2.heap.size:=fun k hk=>by
         obtain⟨h1,o',ho,_⟩:=zam hT.out k hk;exact⟨h1,jb ho⟩
        have AU:Fr (fun k _=>k=w2.heap.size) w8 w9:=by rw[← Af];exact zzl _ _ _ _ _ _ _
        have H9:=za (H8.out.other (AU.mono (fun k _ hm=>by omega)));have hZ:=zzm (v0 := .int .i64 hn) (v1 := .int .i64 hh) (v2 := .string ⟨hf.toArray⟩) (v3 := .slice z1 hj.length n1) (v4 := .slice z2 hg.length n2) AH.out;rw[Af]at hZ;have hS:=za (za9 (zov hT.out Ad.out) AU (fun k o hk _ _ hm=>by have:=(Aq k hk).2;omega));have AW:=za (RP.kp (S':=fun k=>(False∨w.heap.size+2≤k)∧(Value.slice ao acc.length co).ownBlock≠some k) (w':=w9) (fun q o hq ho _=>⟨hq.1,AU.block q o ho (by have:=hq.2;omega)⟩) _ _ (RP.mt hI.out H.out.old Ad.out));have BH:=za (RJ.kp (S':=fun k=>False∨M7≤k) (w':=w9) (fun q o hq ho _=>⟨.inr hq,AU.block q o ho (by omega)⟩) _ _ Hy.out);have Hlw:=za Aq;have hac2:acc.length≤4096:=by omega
        clear c0 c1 c2 fz hB r0 r1 r2 r3 r4 rz hC v0 v1 v2 v3 v4 vz hD;clear q0 q1 q2 q3 q4 q5 qz h7 AU Af Aq Hy AH BV;obtain⟨q0,q1,q2,q3,q4,q5,qz,h7⟩:=PB.at' hZ;obtain⟨c0,c1,c2,fz,hB⟩:=H9.out.tx.cells;obtain⟨r0,r1,r2,r3,r4,rz,hC⟩:=VB.at H9.out.ra;obtain⟨v0,v1,v2,v3,v4,vz,hD⟩:=VB.at H9.out.rb;have Hp9:=za hZ;clear hZ
        go_wp2_with(at_builtin;(refine wpList_append_own_at _ rfl _ _ 54 rfl (w.heap.size+2) 133 i0 (.agg #[.string ⟨#[]⟩,.int .i64 0,.int .i64 0,.string ⟨#[]⟩,.slice none 0 0,.slice none 0 0]) 6 96 Tryz.underlying54 hi BR BQ BP rfl (by decide) (.slice ao acc.length co) acc.length xs (by rfl) (hS.out.alloc _) ⟨w9.heap.size,0,none⟩ 1 1 [.string ⟨nm.toArray⟩,.int .i64 hn,.int .i64 hh,.string ⟨hf.toArray⟩,.slice z1 hj.length n1,.slice z2 hg.length n2] (by rfl) (by rfl) ?c1 ?c2 ?c3 ?c4 ?c5 ?_))
        case c1=>exact zck w9 _ _ _ rfl
        case c2=>simp[Value.oneCell']
        case c3=>unfold maxLen;omega
        case c4=>omega
        case c5=>simp;omega
        intro v' A0 hH hM AP hu;rcases hH.2 with⟨rfl,h0⟩ | ⟨g,cp,cur,rfl,hBg,hg10,_⟩
        ·omega
        have BA:(Value.slice ao acc.length co).ownBlock=some g∨w9.heap.size+1≤g:=by
         rcases hu with h | h
         ·exact .inl h.symm
         right
         try simp only[World.size_alloc]at h
         have:g=w9.heap.size+1:=by simpa[Value.ownBlock] using h
         omega
        have H3:Hid (LS b L (.slice q L.length hU) w a' hX.bad #[.int .i64 5,.int .i64 0,.string ⟨#[]⟩,.slice none 0 0,.slice (some ⟨g,0,none⟩) (acc.length+1) cp] (A0.setCell ⟨w.heap.size+1,4,none⟩ (.slice (some ⟨g,0,none⟩) (acc.length+1) cp))) :=
         za (H9.out.push (lv := .slice ao acc.length co) (o:=4) hM (fun k hk=>(Hlw.out k hk).1))
        have Az:Hid (QRow (fun _=>False) (w.heap.size+2) (acc++[(nm,J.mk hn hh hf hj hg)]) (.slice (some ⟨g,0,none⟩) (acc.length+1) cp) (A0.setCell ⟨w.heap.size+1,4,none⟩ (.slice (some ⟨g,0,none⟩) (acc.length+1) cp))) :=
         za (QRow.push (S:=fun _=>False) (N:=w.heap.size+2) (M:=M7) (bv:=w.heap.size+1) hS.out AW.out (fun _ h=>h.elim) BH.out (by omega) (fun k hk=>by have:=(Hlw.out k hk).2;omega) hM BA hH (by omega) (fun h=>h) hBg 4)
        have AS:=zaq hM (qm _ H9.out.rb) (fun e=>by have:=(Hlw.out _ e).1;omega);clear c0 c1 c2 fz hB r0 r1 r2 r3 r4 rz hC v0 v1 v2 v3 v4 vz hD;clear q0 q1 q2 q3 q4 q5 qz h7 hH hM AP hu hBg hg10 BA BH AW hS Hlw;obtain⟨v0,v1,v2,v3,v4,vz,hD⟩:=VB.at AS;clear AS
        go_upto_region 21 with(fail)
        have ha9:a'≤5000:=by omega
        have hR:=fun W hW=>zcv b L (.slice q L.length hU) a' hX.bad W hW hL (by omega)
        obtain⟨ra,Ae,rc,rd⟩:=Hround.out a' Hpos.out (by omega);obtain⟨a2,BD⟩:∃ a2,blk L a'=a2:=⟨_,rfl⟩;rw[BD]at ra Ae rc rd hR;have AC:=fun W hW=>zed b L (.slice q L.length hU) a2 hX.bad W hW hL (by omega)
        obtain⟨m0,A6⟩:∃ m0,nxT (L.drop a2)=m0:=⟨_,rfl⟩;rw[A6]at AC Ae rc rd;have Hbl:=za hR;have Hnx:=za AC;have Hrb:=za Ae;have hI:=za rc;have Hrd:=za rd;have wa2:IntKind.i64.wrap ((a2:Int)+1)=(a2:Int)+1:=by rw[IntKind.wrap_i64];omega
        clear hR AC Ae rc rd BD A6 H Hround Hpos;have Ar:=H3.out.lt;by_cases AF:m0=125
        ·obtain⟨g1,g2⟩:=Hrb.out AF;have hq:(m0==125)=true:=by rw[beq_iff_eq];exact AF
         have AX:=za g1;have hc:=za g2;clear AF g1 g2 Hrb hI Hrd
         go_wp2_with fail
         refine(Hbl.out _ H3.out.tx).mono ?_;rintro e w4 ⟨rfl,h2,hA⟩;have H4:=za (H3.out.call h2 hA);have hJ:=za hA;clear h2 hA;have Aa:=za (Az.out.mt H3.out.old hJ.out)
         go_wp2_with fail
         refine(Hnx.out _ H4.out.tx).mono ?_;rintro e w5 ⟨rfl,h2,hA⟩;have H5:=za (H4.out.call h2 (hA.mono (fun _ _ h=>h.elim)));have hJ:=za (hA.mono (M':=MT b) (fun _ _ h=>h.elim));clear h2 hA;have AZ:=za (Aa.out.mt H3.out.old hJ.out);have H6:=za (H5.out.put1 ((a2:Int)+1) (a2+1) rfl);have AY:=za (AZ.out.mt H3.out.old (H5.out.tx.setF 1 (.int .i64 ((a2:Int)+1))));obtain⟨c0,c1,c2,fz,hB⟩:=H5.out.tx.cells;obtain⟨r0,r1,r2,r3,r4,rz,hC⟩:=VB.at H5.out.ra;obtain⟨v0,v1,v2,v3,v4,vz,hD⟩:=VB.at H5.out.rb
         go_wp2_with fail
         refine bodyPost_ret (v := .agg #[.int .i64 5,.int .i64 0,.string ⟨#[]⟩,.slice none 0 0,.slice (some ⟨g,0,none⟩) (acc.length+1) cp]) (by simp[results,Tryz.results211,go_sem,r0,r1,r2,r3,r4]) rfl ?_;obtain⟨t1,t2⟩:=H6.out.tset (.int .i64 5) (.int .i64 0) (.string ⟨#[]⟩) (.slice none 0 0) (.slice (some ⟨g,0,none⟩) (acc.length+1) cp);exact⟨.mk 5 0 [] [] (acc++[(nm,J.mk hn hh hf hj hg)]),_,rfl,AY.out.val (.int .i64 5) (.int .i64 0) (.string ⟨#[]⟩) (.slice none 0 0) (.slice (some ⟨g,0,none⟩) (acc.length+1) cp),fun h=>by obtain⟨q1,q2⟩:=AX.out h;rw[q2,Hjs.out q1],hc.out _ _ _ t1,t2⟩
        have hq:(m0==125)=false:=by rw[beq_eq_false_iff_ne];exact AF
        by_cases AL:m0=44
        ·obtain ⟨g1,g2⟩:=hI.out AL;have Al:(m0==44)=true:=by rw[beq_iff_eq];exact AL
         have BS:(m0 != 44)=false:=by rw[bne,Al];rfl
         have AX:=za g1;have hc:=za g2;clear AF AL g1 g2 Hrb hI Hrd
         go_wp2_with fail
         refine(Hbl.out _ H3.out.tx).mono ?_;rintro e w4 ⟨rfl,h2,hA⟩;have H4:=za (H3.out.call h2 hA);have hJ:=za hA;clear h2 hA;have Aa:=za (Az.out.mt H3.out.old hJ.out)
         go_wp2_with fail
         refine(Hnx.out _ H4.out.tx).mono ?_;rintro e w5 ⟨rfl,h2,hA⟩;have H5:=za (H4.out.call h2 (hA.mono (fun _ _ h=>h.elim)));have hJ:=za (hA.mono (M':=MT b) (fun _ _ h=>h.elim));clear h2 hA;have AZ:=za (Aa.out.mt H3.out.old hJ.out);have H6:=za (H5.out.put1 ((a2:Int)+1) (a2+1) rfl);have AY:=za (AZ.out.mt H3.out.old (H5.out.tx.setF 1 (.int .i64 ((a2:Int)+1))));obtain⟨c0,c1,c2,fz,hB⟩:=H5.out.tx.cells;obtain⟨r0,r1,r2,r3,r4,rz,hC⟩:=VB.at H5.out.ra;obtain⟨v0,v1,v2,v3,v4,vz,hD⟩:=VB.at H5.out.rb
         go_wp2_with fail
         go_roundg (gk - 1)
         case measure=>omega
         case rel =>
          refine⟨acc++[(nm,J.mk hn hh hf hj hg)],_,a2+1,k,hX.bad,H6,AY,ra,fun hb=>?_,by omega,za (fun hb=>?_),AX⟩
          ·have:=(hc.out hb).1;rw[List.length_append];simp only[List.length_cons,List.length_nil];omega
          obtain⟨-,x2,x3,x4⟩:=hc.out hb;exact⟨x2,x3,by rw[Hjs.out hb];exact x4⟩
        have Al:(m0==44)=false:=by rw[beq_eq_false_iff_ne];exact AL
        have BS:(m0 != 44)=true:=by rw[bne,Al];rfl
        have AX:=za (Hrd.out AF AL);clear AF AL Hrb hI Hrd
        go_wp2_with fail
        refine(Hbl.out _ H3.out.tx).mono ?_;rintro e w4 ⟨rfl,h2,hA⟩;have H4:=za (H3.out.call h2 hA);have hJ:=za hA;clear h2 hA;have Aa:=za (Az.out.mt H3.out.old hJ.out)
        go_wp2_with fail
        refine(Hnx.out _ H4.out.tx).mono ?_;rintro e w5 ⟨rfl,h2,hA⟩;have H5:=za (H4.out.call h2 (hA.mono (fun _ _ h=>h.elim)));have hJ:=za (hA.mono (M':=MT b) (fun _ _ h=>h.elim));clear h2 hA;have AZ:=za (Aa.out.mt H3.out.old hJ.out);have H6:=za (H5.out.put1 ((a2:Int)+1) (a2+1) rfl);have AY:=za (AZ.out.mt H3.out.old (H5.out.tx.setF 1 (.int .i64 ((a2:Int)+1))));have H7:=za (H6.out.set2 true);have BW:=za (AY.out.mt H3.out.old (H6.out.tx.setF 2 (.bool true)));obtain⟨c0,c1,c2,fz,hB⟩:=H5.out.tx.cells;obtain⟨r0,r1,r2,r3,r4,rz,hC⟩:=VB.at H5.out.ra;obtain⟨v0,v1,v2,v3,v4,vz,hD⟩:=VB.at H5.out.rb
        go_wp2_with fail
        go_roundg (gk - 1)
        case measure=>omega
        case rel =>
         exact⟨acc++[(nm,J.mk hn hh hf hj hg)],_,a2+1,k,true,H7,BW,ra,fun hb=>by simp at hb,by omega,za (fun hb=>by simp at hb),za (fun _=>AX.out)⟩
end
end Go.Proofs.YtmgfncjfgkllcaaGreatDoor
