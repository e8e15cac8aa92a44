/-
 The walk of an entry's value (entry.bare,entry.Value),the parts without code.
-/
import Derived.Test.YtmgfncjfgkllcaaGreatDoorKObject
import Derived.Test.YtmgfncjfgkllcaaGreatDoorKIsAll
import Derived.Maps.AppendAt
import Derived.Test.YtmgfncjfgkllcaaGreatDoorKFieldsW
import Derived.Test.YtmgfncjfgkllcaaGreatDoorKShelf
open Go.Lib renaming hid→za,byteCells→zb
open List renaming size_toArray→zn
open Nat renaming lt_of_lt_of_le→zu
open Go.Value renaming int→zy
open Go.IntKind renaming u8→z6
namespace Go.Proofs.YtmgfncjfgkllcaaGreatDoor
set_option linter.unusedVariables false
set_option linter.unusedSimpArgs false
set_option linter.unusedSectionVars false
set_option maxRecDepth 100000
set_option maxHeartbeats 2000000
section
open Go.RowKit
variable [OldK]
theorem QRow.ofTop {B:Nat} {S:Nat→Prop} {w:World} {l:List (Bs × Bs)} {x:Value} (h:RJ S w (zcz (l.map txP)) x) (ht:TopN B w x) (hne:l≠[]) :
 ∃ av cv lv,x = .agg #[.int .i64 5,.int .i64 0,.string ⟨#[]⟩,.slice av 0 cv,lv]∧QRow (fun _=>False) B (l.map txP) lv w:=by
 unfold zcz RJ at h;obtain⟨a1,c1,a2,c2,hv,-,h2⟩:=h;obtain⟨k,n,t,b1,n1,d1,b2,n2,d2,hx,-,hA⟩:=ht;rw[hv]at hx;simp only[Value.agg.injEq,Array.mk.injEq,List.cons.injEq,Value.slice.injEq,and_true]at hx;obtain⟨-,-,-,-,rfl,rfl,rfl⟩:=hx;refine⟨a1,c1,_,hv,?_⟩
 have hl:(l.map txP).length≠0:=by
  rw[List.length_map];intro h0;exact hne (List.length_eq_zero_iff.1 h0)
 rcases h2 with h0 | ⟨b,o,cs,f,ha,-,⟨T,hb,-⟩,hrp⟩
 ·rw[h0]at hl;exact absurd rfl hl
 rcases hA with h0 | ⟨g,cs2,ha2,hB,hg,hsz,hn,hm⟩
 ·exact absurd h0 hl
 rw[ha]at ha2;simp only[Option.some.injEq,Addr.mk.injEq,and_true]at ha2;obtain⟨rfl,rfl⟩:=ha2;rw[hb]at hg;simp only[Option.some.injEq,Obj.cells.injEq]at hg;obtain⟨rfl,rfl,rfl⟩:=hg;rw[List.drop_zero,Nat.mul_comm]at hrp;refine⟨_,⟨?_,.inr ⟨b,c2,cs,by rw[ha],hB,hb,hn,hm,hsz,rfl⟩⟩,RP.txt _ _ hrp⟩;rw[List.length_take,show cs.toList.length=c2 * 6 by rw[Array.length_toList];exact hsz];have:=Nat.mul_le_mul_right 6 hn;omega
theorem SB.inRange {b o cap:Nat}{d:Bs}{C:Array Value}{T:TypeId}{f:Nat × Nat}{w:World}(hb:w.heap[b]? = some (.cells C T f))(hr:w.rangeAt b o (zb d))(hc:d.length≤cap) :
 @SB ⟨b+1⟩ (fun _=>True) d (.slice (some ⟨b,o,none⟩) d.length cap) w:=by
 refine⟨some ⟨b,o,none⟩,cap,rfl,hc,.inr ⟨b,o,C,T,f,rfl,trivial,⟨hb,.inr (Nat.lt_succ_self _)⟩,fun j hj=>?_⟩⟩;have h1:=hr j (.int .u8 (d[j].toNat:Int)) (by simp[zb,hj]);simpa[World.cell?,hb] using h1
theorem QRow.valT {N:Nat}{l:List (Bs × Bs)}{lv:Value}{w:World}(h:QRow (fun _=>False) N (l.map txP) lv w) :
 RJ (fun k=>N≤k) w (zcz (l.map txP)) (.agg #[.int .i64 5,.int .i64 0,.string ⟨#[]⟩,.slice none 0 0,lv]):=by
 obtain⟨xs,hA,hB⟩:=h;unfold zcz RJ;rcases hA.2 with⟨rfl,h0⟩ | ⟨g,cap,cur,rfl,hb,hg,hn,hcm,hcs,htake⟩
 ·exact⟨none,0,none,0,by rw[h0];rfl,.inl rfl,.inl (List.length_eq_zero_iff.1 h0)⟩
 refine⟨none,0,some ⟨g,0,none⟩,cap,rfl,.inl rfl,.inr ⟨g,0,cur,(0,0),rfl,hb,Blk.of hg,?_⟩⟩;rw[List.drop_zero,Nat.mul_comm,htake];exact RP.txt _ _ hB
theorem z1z {nm s:Bs}{N:Nat}(h1:nm.length≤N)(h2:s.length≤N):((nm,s):Bs × Bs).1.length≤N∧((nm,s):Bs × Bs).2.length≤N:=⟨h1,h2⟩
theorem z1h {N:Nat}{l:List (Bs × Bs)}(hl:l.length≤N)(h:∀ q∈l,q.1.length≤N∧q.2.length≤N):fits N (zcz (l.map txP))=true:=by
 refine zip (by rw[List.length_map];exact hl) (fun q hq=>?_);obtain⟨x,hx,rfl⟩:=List.mem_map.1 hq;exact⟨(h x hx).1,zg2 (h x hx).2⟩
theorem z2g {N:Nat}{l:List (Bs × Bs)}(hl:l.length≤N):few N (zcz (l.map txP))=true:=by
 refine zly (by rw[List.length_map];exact hl) (fun q hq=>?_);obtain⟨x,-,rfl⟩:=List.mem_map.1 hq;exact ziq _ _
theorem QRow.formT {N:Nat}{l:List (Bs × Bs)}{lv:Value}{w:World}(h:QRow (fun _=>False) N (l.map txP) lv w):∃ a c,lv = .slice a l.length c:=by
 obtain⟨xs,hA,-⟩:=h;rw[List.length_map]at hA;exact qj hA
theorem zky {P:Program}{o:Oper}{a:Act}{w:World}{K:Act→World→Prop}{Q:Exit→Act→World→Prop}(s x:Operand)(t:TypeId)
 (ho:o.op = .call { callee := .builtin .append,args:=#[s,x],argTypes:=#[t,t] })
 (base:Nat) (e:TypeId) (i:TypeInfo) (z:Value) (size bytes:Nat) (ht:P.underlying t=some (.slice e)) (hi:P.info? e=some i) (hz:i.zero=some z)
 (hsize:i.size=size) (hby:i.bytes=bytes) (hzs:z.cells.size=size) (hsz:0<size)
 (v:Value) (n:Nat) (xs:List Value) (hs:a.eval s=v) (hown:w.ownsRow base e size v n xs)
 (ad:Addr) (m c:Nat) (news:List Value) (hx:a.eval x = .slice (some ad) m c) (hl:news.length=m * size) (hnews:∀ j u,news[j]? = some u→w.cell? (ad.add j)=some u) (h1:∀ u∈news,u.oneCell'=true)
 (h63:n+m≤maxLen) (hbytes:(n+m) * bytes≤140737488355328) (hbase:base≤w.heap.size) (hm:0<m)
 (h:∀ g cap w',w'.ownsRow base e size (.slice (some ⟨g,0,none⟩) (n+m) cap) (n+m) (xs++news)→w.grownBy w' v.ownBlock→(v.ownBlock=some g∨w.heap.size≤g)→base≤g→K (a.put o.dst (.slice (some ⟨g,0,none⟩) (n+m) cap)) w') :
 Oper.wp P o a w K Q:=by
 obtain⟨v',w',hr,h2,h3,h4,h5⟩:=run_append_own_at (P:=P) w base t o.type e i z size bytes ht hi hz hsize hby hzs hsz v n xs hown ad m c news hl hnews h1 h63 hbytes hbase;unfold Oper.wp execOp;simp only[ho,resolve,invoke,builtin,Sem.run_bind,Sem.run_pure,Result.andThen_ok,List.map_toArray,List.map_cons,List.map_nil,hs,hx,hr];obtain⟨h21,hA⟩:=id h2;rcases hA with⟨_,h0⟩ | ⟨g,cap,cur,rfl,hb,hrest⟩
 ·omega
 refine h g cap w' h2 h3 ?_ hb;rcases h5 with h5 | h5
 ·exact .inl h5.symm
 exact .inr (Nat.le_of_eq (Option.some.inj h5).symm)
theorem Sg.range {s:Sg}{w:World}{b:Nat}(hok:s.ok)(h:w.rangeAt b 0 s.cells.toList):w.rangeAt b 33 (zb s.sig):=by
 have e:s.cells.toList=[.string ⟨s.id.toArray⟩]++(zb s.key++zb s.sig):=by simp[Sg.cells]
 rw[e,zah,zah]at h;have:=h.2.2
 rwa [je,hok.1]at this
theorem znl (e:En):(zbi e).length≤4:=by
 unfold zbi
 repeat' split
 all_goals simp
theorem zhw {e:En}{q:Bs × J}(h:q∈(zbi e).map txP++[(za6,zf1 e.sigs)]):q∈zpw e:=by
 unfold zbi at h;unfold zpw
 repeat' split at h
 all_goals simp_all [txP]
 all_goals (rcases h with h | h | h | h<;>simp_all)
theorem zk3 {N:Nat}{e:En}(hN:5≤N)(h:fits N (zfx e)=true):fits N (zcz ((zbi e).map txP++[(za6,zf1 e.sigs)]))=true:=by
 have h2:=(fits.open h).2.2.2.2;refine zip (by have:=znl e;simp;omega) (fun q hq=>(zg1 _).1 h2 q (zhw hq))
theorem zmh {N:Nat}{e:En}(hN:5≤N):few N (zcz ((zbi e).map txP++[(za6,zf1 e.sigs)]))=true:=by
 refine zly (by have:=znl e;simp;omega) (fun q hq=>?_);rcases zs8 (zhw hq) with⟨s,h⟩ | h
 ·rw[h];exact ziq _ _
 rw[h];exact zve (by omega) _
end
section
open Go.RowKit
variable [OldK]
attribute [local go_sem] Oper.semAt_some
theorem Sg.setId {s:Sg}{w:World}{b:Nat}(hw:w.rangeAt b 0 s.cells.toList)(t:Bs):(w.setCell ⟨b,0,none⟩ (.string ⟨t.toArray⟩)).rangeAt b 0 (Sg.cells { s with id:=t }).toList:=by
 have:=zbf (w:=w) (b:=b) [] [.string ⟨s.id.toArray⟩] (zb s.key++zb s.sig) [.string ⟨t.toArray⟩] (by rw[Sg.list]at hw;exact hw) rfl;rw[Sg.list];simpa[World.setCells] using this
theorem Sg.setKey {s:Sg}{w:World}{b:Nat}(hok:s.ok)(hw:w.rangeAt b 0 s.cells.toList)(d:Bs)(hd:d.length=32):(w.setCells b 1 (zb d)).rangeAt b 0 (Sg.cells { s with key:=d }).toList:=by
 have:=zbf (w:=w) (b:=b) [.string ⟨s.id.toArray⟩] (zb s.key) (zb s.sig) (zb d) (by rw[Sg.list]at hw;exact hw) (by rw[je,je,hok.1,hd]);rw[Sg.list];exact this
theorem Sg.setSig {s:Sg}{w:World}{b:Nat}(hok:s.ok)(hw:w.rangeAt b 0 s.cells.toList)(d:Bs)(hd:d.length=64):(w.setCells b 33 (zb d)).rangeAt b 0 (Sg.cells { s with sig:=d }).toList:=by
 have:=zbf (w:=w) (b:=b) ([.string ⟨s.id.toArray⟩]++zb s.key) (zb s.sig) [] (zb d) (by rw[Sg.list]at hw;simpa using hw) (by rw[je,je,hok.2,hd]);rw[List.length_append,je,hok.1]at this;rw[Sg.list];simpa using this
def sg0:Sg:=⟨[],jd,zc3⟩
theorem zyi:sg0.ok:=⟨rfl,rfl⟩
theorem zty:sg0.cells=Tryz.zeroCells115:=by kernel_rfl
theorem ByteArray.drop4 (s:Bs):Lib.trimPrefix s zp3=if Lib.hasPrefix s zp3 then s.drop 4 else s:=by
 unfold Lib.trimPrefix;rfl
theorem zrv (s:Bs) (w:World) (hlen:s.length≤1000000) :
 Calls Tryz.prog 82 #[.string ⟨s.toArray⟩] w fun r w'=>r = .returned (.tuple #[.agg (za8 s).1.cells,.bool (za8 s).2])∧Fr NoB w w':=by
 have hB:=fun(W:World)=>Tryz.strings_CutPrefix ⟨s.toArray⟩ ⟨#[107,101,121,58]⟩ W
 have e1:(ByteArray.mk s.toArray).data.toList=s:=rfl;have e2:(ByteArray.mk #[107,101,121,58]).data.toList=zp3:=rfl;rw[e1,e2,ByteArray.drop4]at hB;have hP:=heap_alloc_new w (.cells Tryz.zeroCells115 115);have hQ:Fr NoB w (w.alloc (.cells Tryz.zeroCells115 115)):=Fr.refl.alloc _
 have hN:(w.alloc (.cells Tryz.zeroCells115 115)).rangeAt w.heap.size 0 sg0.cells.toList:=by
  rw[zty];exact jm hP
 obtain⟨W,hW⟩:∃ x,w.alloc (.cells Tryz.zeroCells115 115)=x:=⟨_,rfl⟩;obtain⟨q,hq⟩:∃ x,w.heap.size=x:=⟨_,rfl⟩;have Hq:=za hq;rw[hW,hq]at hP hN;rw[hW]at hQ;obtain⟨d2,hi,ho⟩:=zdm;have hf:=za hi;have hg:=za ho
 have AA:W.cell? ⟨q,0,none⟩=some (.string ⟨#[]⟩):=by
  have h1:sg0.cells.toList[0]? = some (.string ⟨#[]⟩):=by rw[Sg.list];rfl
  simpa using hN 0 _ h1
 have hx:∀ k,W.frozen? ⟨q,k,none⟩=false:=fun k=>by simp[World.frozen?,hP]
 unfold za8;cases hp:Lib.hasPrefix s zp3 with
 | false =>
   rw[hp]at hB;simp only[Bool.false_eq_true,if_false]at hB ⊢;have hn:=fun W=>zo0 s W (by omega)
   have h4:(⟨s,jd,zc3⟩:Sg).ok:=⟨rfl,rfl⟩;have hJ:=Sg.setId hN s;have hX:Fr NoB w (W.setCell ⟨q,0,none⟩ (.string ⟨s.toArray⟩)):=hQ.trans (Fr.refl.setCell (M:=fun k _=>k=q) _ _ (fun _ _=>rfl)) (fun k _ hm => .inr (by omega));have he:=z7 (o:=0) (.string ⟨s.toArray⟩) hP;obtain⟨CS,hF⟩:∃ x,(⟨s,jd,zc3⟩:Sg).cells=x:=⟨_,rfl⟩;have hI:CS.size=97:=by rw[← hF];exact Sg.size h4
   have H1:=za (show CS.all (·.oneCell')=true by rw[← hF];exact Sg.one _);have hJ:(W.setCell ⟨q,0,none⟩ (.string ⟨s.toArray⟩)).rangeAt q 0 CS.toList:=by rw[← hF];exact hJ
   obtain⟨nb,hO⟩:∃ x,za0 s=x:=⟨_,rfl⟩;rw[hO]at hn;have hv:=za (show(Tryz.prog.info? 115).map (·.size)=some CS.size by rw[qv,hI]);have hb:=za (show(Tryz.prog.info? 115).map (·.size)=some CS.toList.length by rw[qv,Array.length_toList,hI]);have Hnm:=za hn;have Hcut:=za hB;have Hcz:=za hI;rw[hF,hO];clear hn hB hI hp h4 hF hO hN hi ho;go_enter Tryz.func82,Tryz.ntmps82
   go_upto_region 1 with(fail)
   clear hW hq
   go_wp2_with fail
   refine(Hcut.out _).mono ?_;rintro r w2 ⟨rfl,hS⟩;have hh:=hS.symm;subst hh;clear hS
   go_upto_region 7 with(fail)
   have hy:q<(W.setCell ⟨q,0,none⟩ (.string ⟨s.toArray⟩)).heap.size:=jb he;obtain⟨W6,AB⟩:∃ x,W.setCell ⟨q,0,none⟩ (.string ⟨s.toArray⟩)=x:=⟨_,rfl⟩;rw[AB]at hJ hX he hy ⊢;have HT:=za (jf he (n:=CS.size) (by rw[Array.size_setIfInBounds,Hcz.out];exact Nat.le_refl 97));clear AB he hP AA hx hQ;refine wp_region_held_drew (S:=fun V=>Hid (V.rangeAt q 0 CS.toList∧Fr NoB w V∧V.there q 0 CS.size∧q<V.heap.size)) (by kernel_rfl) (za ⟨by have:=hJ;exact this,hX.drew,by have:=HT.out;exact this,by have:=hy;exact this⟩) (fun hA=>?_);simp only[qV];obtain⟨V0,AF⟩:∃ V,World.drew W6=V:=⟨_,rfl⟩;rw[AF]at hA ⊢;clear AF;refine qi (i:=0) rfl (yieldsIf_load_mid (by rfl) 115 _ rfl q 0 rfl CS.toList d2 (fun V h=>h.out.1) hf.out hg.out hb.out) hA ?_
   try simp only[Act.put,qP]
   refine qt (v:=?_) rfl (Or.inl ⟨by rfl,?_⟩) hA ?_;rotate_left
   ·intro W hr
    try simp only[qQ]
    go_simp
    try rw[if_neg (by omega)]
    try with_reducible rfl
   try simp only[Act.put,qP]
   refine qr (i:=2) (by kernel_rfl) rfl (fun K hK=>?_)
   try simp only[qQ]
   go_simp;refine(Hnm.out V0).mono ?_;rintro r V1 ⟨rfl,hd⟩;refine hK.out _ _ (za ⟨ji hA.out.1 hd hA.out.2.2.2 (fun _ h=>h),hA.out.2.1.trans' hd,zfm hA.out.2.2.1 hd hA.out.2.2.2 (fun _ h=>h),zu hA.out.2.2.2 hd.size⟩) (fun hA=>?_);clear hK K
   try simp only[Act.put,qP]
   refine qr (i:=3) (by kernel_rfl) rfl (fun K hK=>?_)
   try simp only[qQ]
   rw[if_pos (by rfl)];refine wp_store_mid 115 (.tmp 2) (.tmp 26) (by rfl) q 0 CS (by rfl) (by rfl) hA.out.2.2.1 hv.out H1.out ?_;refine hK.out _ _ (za ⟨World.rangeAt_setCells_same _ q 0 CS.toList (by simpa using hA.out.2.2.1),hA.out.2.1.trans (z8 _ _ _ _) (fun k o hm => .inr (by have:=Hq.out;have h2:k=q:=hm;omega)),World.there_setCells hA.out.2.2.1 _ _ _,zu hA.out.2.2.2 (z8 _ _ _ _).size⟩) (fun hA=>?_);clear hK K
   try simp only[Act.put,qP]
   have HE:=hA;clear hA;have hA:=HE;refine qt (v:=?_) rfl (Or.inl ⟨by rfl,?_⟩) hA ?_;rotate_left
   ·intro W hr
    try simp only[qQ]
    go_simp
    try rw[if_neg (by omega)]
    try with_reducible rfl
   try simp only[Act.put,qP]
   refine wpAnyH_done (by kernel_rfl) ?_ _;clear hA;obtain⟨V9,hY⟩:∃ z,V1.setCells q 0 CS.toList=z:=⟨_,rfl⟩;rw[hY]at HE ⊢;clear hY
   go_wp2_with fail
   have hU:=run_loadVar_mid (P:=Tryz.prog) V9 q 0 115 CS.toList d2 HE.out.1 hf.out hg.out hb.out;refine bodyPost_ret (v := .tuple #[.agg CS,.bool nb]) ?_ rfl ⟨rfl,HE.out.2.1⟩;rw[results_cell_tmp rfl];simp only[Array.toArray_toList]at hU;simp[asAddr,Result.andThen,hU]
 | true =>
   rw[hp]at hB;simp only[if_true]at hB ⊢;obtain⟨t,ht⟩:∃ x,s.drop 4=x:=⟨_,rfl⟩;have h3:t.length≤1000000:=by rw[← ht,List.length_drop];omega
   rw[ht]at hB ⊢;have hL:=fun W=>z0r t W h3
   have hl:=fun r h=>(zc4 t r).1 h
   obtain⟨R,hR⟩:∃ R,zii t=R:=⟨_,rfl⟩;rw[hR]at hL hl ⊢;obtain⟨D,hD⟩:∃ D,R.getD jd=D:=⟨_,rfl⟩
   have hH:D.length=32:=by
    rw[← hD];cases R with
    | none=>rfl
    | some r=>exact(hl r rfl).2
   obtain⟨nb,hO⟩:∃ bn,R.isSome=bn:=⟨_,rfl⟩;obtain⟨E,hE⟩:∃ E,(if nb then Value.nilIface else Value.iface 49 (.int .i64 1))=E:=⟨_,rfl⟩
   have hG:∀ W,Calls Tryz.prog 79 #[.string ⟨t.toArray⟩] W fun e w'=>e = .returned (.tuple #[.agg (zb D).toArray,E])∧Fr NoB W w':=fun W=>(hL W).mono (by
    rintro e w' ⟨h1,h2⟩;refine⟨?_,h2⟩;rw[← hD,← hE,← hO];cases R with
    | none=>exact h1
    | some r=>exact h1)
   rw[hD,hO];have hJ:=Sg.setKey zyi hN D hH;have hX:Fr NoB w (W.setCells q 1 (zb D)):=hQ.trans (z8 _ _ _ _) (fun k _ hm => .inr (by have h2:k=q:=hm;omega));obtain⟨CS,hF⟩:∃ x,({ sg0 with key:=D }:Sg).cells=x:=⟨_,rfl⟩;have hZ:(⟨[],D,zc3⟩:Sg).cells=CS:=hF;have hI:CS.size=97:=by rw[← hF];exact Sg.size ⟨hH,rfl⟩
   have H1:=za (show CS.all (·.oneCell')=true by rw[← hF];exact Sg.one _);rw[hF]at hJ;rw[hZ];have hv:=za (show(Tryz.prog.info? 115).map (·.size)=some CS.size by rw[qv,hI]);have hb:=za (show(Tryz.prog.info? 115).map (·.size)=some CS.toList.length by rw[qv,Array.length_toList,hI]);obtain⟨C,hC⟩:∃ C,zb D=C:=⟨_,rfl⟩;have HC:Hid (C.length=32):=za (by rw[← hC,je,hH]);have AK:=za (show C.toArray.all (·.oneCell')=true by rw[← hC];exact all_oneCell_toArray (zau _));have Hset:=za (show ∀ V:World,V.rangeAt q 0 sg0.cells.toList→(V.setCells q 1 C).rangeAt q 0 CS.toList from fun V hV=>by rw[← hC,← hF];exact Sg.setKey zyi hV D hH);rw[hC]at hG hJ hX;have AO:=za (show(Tryz.prog.info? 23).map (·.size)=some C.toArray.size by rw[jr,zn,HC.out]);have hu:=za (show(Tryz.prog.info? 23).map (·.size)=some C.length by rw[jr,HC.out]);have AP:=za (show(Tryz.prog.info? 25).map (·.size)=some C.toArray.size by rw[za3,zn,HC.out]);have Hzz:=za (show(#[zy z6 0,zy z6 0,zy z6 0,zy z6 0,zy z6 0,zy z6 0,zy z6 0,zy z6 0,zy z6 0,zy z6 0,zy z6 0,zy z6 0,zy z6 0,zy z6 0,zy z6 0,zy z6 0,zy z6 0,zy z6 0,zy z6 0,zy z6 0,zy z6 0,zy z6 0,zy z6 0,zy z6 0,zy z6 0,zy z6 0,zy z6 0,zy z6 0,zy z6 0,zy z6 0,zy z6 0,zy z6 0]:Array Value).size=C.toArray.size from Eq.trans (b:=32) rfl (by rw[zn,HC.out]));have Hcut:=za hB;have Hsum:=za hG;have Hcz:=za hI;have AI:=za hN;have hw:=za hP;have AJ:=za hQ;clear hB hI hp hF hZ hO hN hi ho hL hG hl hR hD hH ht h3 hC hJ hX AA hx hP hQ;go_enter Tryz.func82,Tryz.ntmps82
   go_upto_region 1 with(fail)
   clear hW hq
   go_wp2_with fail
   refine(Hcut.out _).mono ?_;rintro r w2 ⟨rfl,hS⟩;have hh:=hS.symm;subst hh;clear hS
   go_wp2_with fail
   refine(Hsum.out _).mono ?_;rintro r w3 ⟨rfl,AH⟩
   go_upto_region 4 with((with_reducible refine qe (w:=w3) rfl 23 _ _ rfl _ C.toArray w3.heap.size rfl ?_ ?_ AO.out Hzz.out AK.out ?_);rfl;rfl)
   change Code.wp _ _ _ _ (w3.alloc (.cells C.toArray 23));have h7:Fr NoB w3 (w3.alloc (.cells C.toArray 23)):=Fr.refl.alloc _;have hT:=heap_alloc_new w3 (.cells C.toArray 23);have hc:=AH.trans' h7;have AM:=jb hw.out;have hM:=ji AI.out hc AM (fun _ h=>h);have ha:=hc.block _ _ hw.out (fun h=>h);have hs:=AJ.out.trans' hc;obtain⟨W4,AD⟩:∃ z,w3.alloc (.cells C.toArray 23)=z:=⟨_,rfl⟩;obtain⟨p1,h6⟩:∃ z,w3.heap.size=z:=⟨_,rfl⟩;rw[h6]at hT ⊢;rw[AD]at hT hM ha hs ⊢;have AQ:=za (show W4.rangeAt p1 0 C by simpa using jm hT)
   have AS:=za (show W4.there q 1 C.toArray.size from fun j hj=>by
    rw[zn,HC.out]at hj;have h1:=jf ha (n:=97) (Nat.le_refl 97) (1+j) (by omega)
    rwa [Nat.zero_add]at h1)
   have AL:=jb ha;have hp14:=jb hT;obtain⟨dS,h0,h9⟩:∃ d,Tryz.prog.underlying 23=some d∧d.isRow=true:=⟨_,jh,rfl⟩;have AN:=za h0;have AR:=za h9;clear h0 h9 AD h6 hc h7 AH
   go_upto_region 5 with(first
    | ((with_reducible refine wpList_load_mid ?_ 23 _ rfl p1 0 ?_ C dS AQ.out AN.out ?_ hu.out ?_);rfl;rfl;exact AR.out)
    | (with_reducible refine wpList_store_mid rfl 25 _ _ rfl q 1 C.toArray rfl rfl AS.out AP.out AK.out ?_))
   have h5:=Hset.out _ hM;have hk:=z8 q C 1 W4;have h8:Fr NoB w (W4.setCells q 1 C):=hs.trans hk (fun k _ hm => .inr (by have:=Hq.out;have h2:k=q:=hm;omega));have hz:q<(W4.setCells q 1 C).heap.size:=zu AL hk.size;have AG:=World.there_setCells (show W4.there q 0 CS.size from jf ha (by rw[Hcz.out];exact Nat.le_refl 97)) q 1 C;change Code.wp _ _ _ _ (W4.setCells q 1 C);obtain⟨W5,AC⟩:∃ z,W4.setCells q 1 C=z:=⟨_,rfl⟩;rw[AC]at h5 h8 hz AG ⊢;clear AC hk hM ha hs hT AI hw AJ Hset;cases nb
   all_goals
    first | (obtain rfl:Value.nilIface=E:=hE) | (obtain rfl:Value.iface 49 (.int .i64 1)=E:=hE)
    refine wp_region_held_drew (S:=fun V=>Hid (V.rangeAt q 0 CS.toList∧Fr NoB w V∧V.there q 0 CS.size∧q<V.heap.size)) (by kernel_rfl) (za ⟨by have:=h5;exact this,h8.drew,by have:=AG;exact this,by have:=hz;exact this⟩) (fun hA=>?_);simp only[qV];obtain⟨V1,AE⟩:∃ V,W5.drew=V:=⟨_,rfl⟩;rw[AE]at hA ⊢;clear AE;refine qi (i:=0) rfl (yieldsIf_load_mid (by rfl) 115 _ rfl q 0 rfl CS.toList d2 (fun V h=>h.out.1) hf.out hg.out hb.out) hA ?_
    try simp only[Act.put,qP]
    iterate 2
     refine qt (v:=?_) rfl (Or.inl ⟨by rfl,?_⟩) hA ?_;rotate_left
     ·intro W hr
      try simp only[qQ]
      go_simp
      try rw[if_neg (by omega)]
      try with_reducible rfl
     try simp only[Act.put,qP]
    refine qr (i:=3) (by kernel_rfl) rfl (fun K hK=>?_)
    try simp only[qQ]
    rw[if_pos (by rfl)];refine wp_store_mid 115 (.tmp 2) (.tmp 21) (by rfl) q 0 CS (by rfl) (by rfl) hA.out.2.2.1 hv.out H1.out ?_;refine hK.out _ _ (za ⟨World.rangeAt_setCells_same _ q 0 CS.toList (by simpa using hA.out.2.2.1),hA.out.2.1.trans (z8 _ _ _ _) (fun k o hm => .inr (by have:=Hq.out;have h2:k=q:=hm;omega)),World.there_setCells hA.out.2.2.1 _ _ _,zu hA.out.2.2.2 (z8 _ _ _ _).size⟩) (fun hA=>?_);clear hK K
    try simp only[Act.put,qP]
    have HE:=hA;clear hA;have hA:=HE;refine qt (v:=?_) rfl (Or.inl ⟨by rfl,?_⟩) hA ?_;rotate_left
    ·intro W hr
     try simp only[qQ]
     go_simp
     try rw[if_neg (by omega)]
     try with_reducible rfl
    try simp only[Act.put,qP]
    refine wpAnyH_done (by kernel_rfl) ?_ _;clear hA;obtain⟨V9,hY⟩:∃ z,V1.setCells q 0 CS.toList=z:=⟨_,rfl⟩;rw[hY]at HE ⊢;clear hY
    go_wp2_with fail
    have hU:=run_loadVar_mid (P:=Tryz.prog) V9 q 0 115 CS.toList d2 HE.out.1 hf.out hg.out hb.out;refine bodyPost_ret (v := .tuple #[.agg CS,.bool _]) ?_ rfl ⟨rfl,HE.out.2.1⟩;rw[results_cell_tmp rfl];simp only[Array.toArray_toList]at hU;simp[asAddr,Result.andThen,hU]
end
end Go.Proofs.YtmgfncjfgkllcaaGreatDoor
