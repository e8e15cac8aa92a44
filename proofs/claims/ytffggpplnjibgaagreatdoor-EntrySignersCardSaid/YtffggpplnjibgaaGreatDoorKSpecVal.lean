/-
 An entry's value and text (package entry),as plain data.
-/
import Derived.Test.YtffggpplnjibgaaGreatDoorKB64
import Derived.Test.YtffggpplnjibgaaGreatDoorKRefNamed
import Derived.Test.YtffggpplnjibgaaGreatDoorKStart5
import Derived.Test.YtffggpplnjibgaaGreatDoorKFits
import Derived.Lib.ValidLaws
open List renaming length_cons→zo,length_append→zq
namespace Go.Proofs.YtffggpplnjibgaaGreatDoor
set_option linter.unusedVariables false
set_option linter.unusedSimpArgs false
set_option linter.unusedSectionVars false
def pT (s:Bs):J := .mk 3 0 s [] []
def txP (q:Bs × Bs):Bs × J:=(q.1,pT q.2)
def nBy:Bs:=[98,121]
def zts:Bs:=[115,105,103]
def zaf:Bs:=[115,105,103,115]
def zj1:Bs:=[100,105,103,101,115,116]
def jw:Bs:=[107,105,110,100]
def zeb:Bs:=[112,97,121,108,111,97,100]
def zcy:Bs:=[116,121,112,101]
def j3:Bs:=[105,100,101,110,116,105,116,121]
def zgm:Bs:=[107,101,121]
def nOp:Bs:=[111,112]
def wArt:Bs:=[97,114,116,105,102,97,99,116]
def wEnv:Bs:=[101,110,118,101,108,111,112,101]
def wSta:Bs:=[115,116,97,116,101,109,101,110,116]
def wBin:Bs:=[98,105,110,100,105,110,103]
def wBind:Bs:=[98,105,110,100]
def wRot:Bs:=[114,111,116,97,116,101]
def wRev:Bs:=[114,101,118,111,107,101]
def wOp (k:Int):Bs:=if k=1 then wBind else if k=2 then wRot else if k=3 then wRev else []
def zj4 (k:Int):Bs:=if k=1 then wArt else if k=2 then wEnv else if k=3 then wSta else if k=4 then wBin else []
def zbu (l:List (Bs × J)):J := .mk 5 0 [] [] l
def zam (e:En):List (Bs × Bs) :=
 if e.kind=1 then [(zj1,zcz e.digest),(jw,wArt)]
 else if e.kind=2 then [(jw,wEnv),(zeb,zfs e.payload),(zcy,e.typ)]
 else if e.kind=3 then [(jw,wSta),(zeb,zfs e.payload)]
 else if e.op=3 then [(j3,e.ident),(jw,wBin),(nOp,wOp e.op)]
 else [(j3,e.ident),(zgm,zcz e.key),(jw,wBin),(nOp,wOp e.op)]
def sgJ (s:Sg):J:=zbu [(nBy,pT (qh s)),(zts,pT (zfs s.sig))]
def zeh (l:List Sg):J := .mk 4 0 [] (l.map sgJ) []
def zne (e:En):List (Bs × J) :=
 if e.kind=1 then [(zj1,pT (zcz e.digest)),(jw,pT wArt),(zaf,zeh e.sigs)]
 else if e.kind=2 then [(jw,pT wEnv),(zeb,pT (zfs e.payload)),(zaf,zeh e.sigs),(zcy,pT e.typ)]
 else if e.kind=3 then [(jw,pT wSta),(zeb,pT (zfs e.payload)),(zaf,zeh e.sigs)]
 else if e.op=3 then [(j3,pT e.ident),(jw,pT wBin),(nOp,pT (wOp e.op)),(zaf,zeh e.sigs)]
 else [(j3,pT e.ident),(zgm,pT (zcz e.key)),(jw,pT wBin),(nOp,pT (wOp e.op)),(zaf,zeh e.sigs)]
def zee (e:En):J:=zbu (zne e)
def zi7 (sub:Bs→Bool) (e:En):Bs × Nat:=if za8 sub e then (if 4096<(zc5 (zee e)).length then ([],10) else (zc5 (zee e),0)) else ([],11)
theorem zqr (f:Nat)(s:Sg):ji (f+2) (sgJ s)=sgJ s:=by
 obtain⟨A,hA⟩:∃ A,qh s=A:=⟨_,rfl⟩;obtain⟨B,hB⟩:∃ B,zfs s.sig=B:=⟨_,rfl⟩;unfold sgJ;rw[hA,hB];rfl
theorem zih (f:Nat) (l:List Sg):ji (f+3) (zeh l)=zeh l:=by
 unfold zeh
 have h:(l.map sgJ).map (ji (f+2))=l.map sgJ:=by
  rw[List.map_map];refine List.map_congr_left (fun s _=>?_);exact zqr f s
 show J.mk 4 0 [] ((l.map sgJ).map (ji (f+2))) _=_;rw[h];rfl
theorem zmx (i o:Bs)(k:Bs):ji 8 (zbu ([(j3,i),(jw,wBin),(nOp,o),(zgm,k)].map txP))=zbu ([(j3,i),(zgm,k),(jw,wBin),(nOp,o)].map txP):=rfl
theorem zmy (i o:Bs):ji 8 (zbu ([(j3,i),(jw,wBin),(nOp,o)].map txP))=zbu ([(j3,i),(jw,wBin),(nOp,o)].map txP):=rfl
theorem zow (g:J)(hg:ji 7 g=g)(a b:Bs):ji 8 (zbu ([(zj1,a),(jw,b)].map txP++[(zaf,g)]))=zbu [(zj1,pT a),(jw,pT b),(zaf,g)]:=by
 show zbu [_,_,(zaf,ji 7 g)]=_;rw[hg];rfl
theorem zov (g:J)(hg:ji 7 g=g)(a b c:Bs):ji 8 (zbu ([(jw,a),(zeb,b),(zcy,c)].map txP++[(zaf,g)]))=zbu [(jw,pT a),(zeb,pT b),(zaf,g),(zcy,pT c)]:=by
 show zbu [_,_,(zaf,ji 7 g),_]=_;rw[hg];rfl
theorem zou (g:J)(hg:ji 7 g=g)(a b:Bs):ji 8 (zbu ([(jw,a),(zeb,b)].map txP++[(zaf,g)]))=zbu [(jw,pT a),(zeb,pT b),(zaf,g)]:=by
 show zbu [_,_,(zaf,ji 7 g)]=_;rw[hg];rfl
theorem zot (g:J)(hg:ji 7 g=g)(a b c:Bs):ji 8 (zbu ([(j3,a),(jw,b),(nOp,c)].map txP++[(zaf,g)]))=zbu [(j3,pT a),(jw,pT b),(nOp,pT c),(zaf,g)]:=by
 show zbu [_,_,_,(zaf,ji 7 g)]=_;rw[hg];rfl
theorem zos (g:J)(hg:ji 7 g=g)(a b c d:Bs):ji 8 (zbu ([(j3,a),(zgm,b),(jw,c),(nOp,d)].map txP++[(zaf,g)]))=zbu [(j3,pT a),(zgm,pT b),(jw,pT c),(nOp,pT d),(zaf,g)]:=by
 show zbu [_,_,_,_,(zaf,ji 7 g)]=_;rw[hg];rfl
theorem zqb (e:En):ji 8 (zbu ((zam e).map txP++[(zaf,zeh e.sigs)]))=zee e:=by
 have hg:=zih 4 e.sigs;unfold zee zne zam
 repeat' split
 ·exact zow _ hg _ _
 ·exact zov _ hg _ _ _
 ·exact zou _ hg _ _
 ·exact zot _ hg _ _ _
 exact zos _ hg _ _ _ _
theorem zqd (e:En):ji 8 (zee e)=zee e:=by
 have hg:=zih 4 e.sigs;obtain⟨g,hA⟩:∃ g,zeh e.sigs=g:=⟨_,rfl⟩;have hg:ji 7 g=g:=by rw[← hA];exact hg
 unfold zee zne;rw[hA]
 repeat' split
 ·show zbu [_,_,(zaf,ji 7 g)]=_;rw[hg];rfl
 ·show zbu [_,_,(zaf,ji 7 g),_]=_;rw[hg];rfl
 ·show zbu [_,_,(zaf,ji 7 g)]=_;rw[hg];rfl
 ·show zbu [_,_,_,(zaf,ji 7 g)]=_;rw[hg];rfl
 show zbu [_,_,_,_,(zaf,ji 7 g)]=_;rw[hg];rfl
theorem ziq (e:En):zc5 (zee e)=jm (zee e):=by
 unfold zc5;rw[zqd]
/-! signs -/
def asc (l:Bs):Bool:=l.all fun c=>decide (c.toNat<128)
theorem zhs:∀ l:Bs,asc l=true→Lib.validD l=true
 | [],_=>rfl
 | c :: l,h=>by
   simp only[asc,List.all_cons,Bool.and_eq_true,decide_eq_true_eq]at h;rw[Lib.validD_cons _ _ h.1];exact zhs l h.2
theorem zsk (a b:Bs):asc (a++b)=(asc a&&asc b):=by simp[asc]
theorem zqp (l:Bs) (h:asc l=true) (n:Nat):(sgn l n).toNat<128:=by
 unfold sgn;rw[List.getD_eq_getElem?_getD];cases hn:l[n]? with
 | none=>decide
 | some x =>
   have:=List.mem_of_getElem? hn;simp only[asc,List.all_eq_true,decide_eq_true_eq]at h;exact h x this
theorem zrs (n:Nat):(sgn hexes n).toNat<128:=zqp _ (by decide) n
theorem zc3 (n:Nat):(sgn sixes n).toNat<128:=zqp _ (by decide) n
theorem zju:∀ l:Bs,asc (zcz l)=true
 | []=>rfl
 | c :: l=>by
   have h:=zju l;unfold asc at h ⊢;simp only[zcz,List.all_cons,Bool.and_eq_true,decide_eq_true_eq];exact⟨zrs _,zrs _,h⟩
theorem zof:∀ l:Bs,asc (b64C l)=true
 | []=>rfl
 | [a]=>by simp only[b64C,asc,List.all_cons,List.all_nil,Bool.and_eq_true,decide_eq_true_eq];exact⟨zc3 _,zc3 _,trivial⟩
 | [a,b]=>by simp only[b64C,asc,List.all_cons,List.all_nil,Bool.and_eq_true,decide_eq_true_eq];exact⟨zc3 _,zc3 _,zc3 _,trivial⟩
 | a :: b :: c :: l=>by
   have h:=zof l;unfold asc at h ⊢;simp only[b64C,List.all_cons,Bool.and_eq_true,decide_eq_true_eq];exact⟨zc3 _,zc3 _,zc3 _,zc3 _,h⟩
theorem zmz (l:Bs):asc (zfs l)=true:=by
 unfold zfs;rw[zsk,zof,Bool.true_and];unfold zkn asc;simp
theorem zk3 {s:Bs}(h:zaa s=true):asc s=true:=by
 unfold zaa at h;simp only[Bool.and_eq_true,List.all_eq_true]at h;unfold asc;simp only[List.all_eq_true,decide_eq_true_eq];intro c hc;have:=h.2.2 c hc;unfold zd1 at this;simp only[Bool.or_eq_true,Bool.and_eq_true,decide_eq_true_eq,beq_iff_eq]at this;omega
theorem zsj {s:Bs}(h:zdj s=true):asc s=true:=by
 unfold zdj at h;simp only[Bool.and_eq_true,List.all_eq_true]at h;unfold asc;simp only[List.all_eq_true,decide_eq_true_eq];intro c hc;have:=h.2.2.1 c hc;unfold zg1 at this;simp only[Bool.and_eq_true,decide_eq_true_eq]at this;omega
theorem zsi:∀ l:Bs,(b64C l).length≤2 * l.length
 | []=>Nat.le_refl _
 | [a]=>by simp[b64C]
 | [a,b]=>by simp[b64C]
 | a :: b :: c :: l=>by
   have:=zsi l;simp only[b64C,zo];omega
theorem zu9 (l:Bs):(zfs l).length≤2 * l.length+3:=by
 unfold zfs zkn;rw[zq,List.length_replicate];have:=zsi l;omega
structure Okay (sub:Bs→Bool) (e:En):Prop where
 kind:e.kind=1∨e.kind=2∨e.kind=3∨e.kind=4
 typ:e.kind=2→zdj e.typ=true∧e.payload.length≤2048
 pay:e.kind=3→sub e.payload=true
 op:e.kind=4→1≤e.op∧e.op≤3∧zaa e.ident=true
 sgs:1≤e.sigs.length∧e.sigs.length≤8
 sg:∀ s∈e.sigs,s.id=[]∨zaa s.id=true∧s.key=jb
theorem zo7 (l:List Sg):∀ last,zbg last l=true→∀ s∈l,s.id=[]∨zaa s.id=true∧s.key=jb:=by
 induction l with
 | nil=>intro _ _ s hs;cases hs
 | cons x l ih =>
   intro last h s hs;unfold zbg at h;split at h
   ·cases h
   rename_i hb
   rcases List.mem_cons.1 hs with rfl | hs
   ·unfold zvj at hb;by_cases hi:s.id=[]
    ·exact .inl hi
    right;have hA:s.id.isEmpty=false:=by cases h:s.id with | nil=>exact absurd h hi | cons _ _=>rfl
    rw[hA]at hb;simp at hb;exact hb.2
   exact ih _ h s hs
theorem zhd {sub:Bs→Bool} {e:En} (h:za8 sub e=true):Okay sub e:=by
 unfold za8 at h;simp only[Bool.and_eq_true]at h;obtain⟨h1,h2,-⟩:=h;unfold zdz at h2;simp only[Bool.and_eq_true,decide_eq_true_eq]at h2;unfold zq6 at h1;refine⟨?_,?_,?_,?_,h2.2,zo7 _ _ h2.1⟩
 ·repeat' split at h1
  all_goals first | (cases h1;done) | omega
 ·intro hk;rw[if_neg (by omega),if_pos hk]at h1;simpa using h1
 ·intro hk;rw[if_neg (by omega),if_neg (by omega),if_pos hk]at h1;exact h1
 intro hk;rw[if_neg (by omega),if_neg (by omega),if_neg (by omega),if_pos hk]at h1;simpa using h1
theorem zp6 {s:Sg}(h:s.id=[]∨zaa s.id=true∧s.key=jb):asc (qh s)=true:=by
 unfold qh;split
 ·rw[zsk,zju,Bool.and_true];rfl
 rcases h with h | h
 ·contradiction
 exact zk3 h.1
theorem zfg {s:Bs}(h:asc s=true)(d:Int):jq d (pT s)=true:=by
 unfold pT jq;simp[zhs s h]
theorem zka {d:Int}(hd:d<8)(l:List (Bs × J)):jq d (zbu l)=qp (d+1) [] l:=by
 unfold zbu jq;simp[show ¬ (8≤d) by omega]
theorem jr {d:Int}{names:List Bs}{nm:Bs}{j:J}{ps:List (Bs × J)}(h1:names.contains nm=false)(h2:asc nm=true)(h3:jq d j=true)(h4:qp d (names++[nm]) ps=true):qp d names ((nm,j) :: ps)=true:=by
 rw[qp,h1,zhs nm h2,h3,h4];rfl
theorem zbf (d:Int)(names:List Bs):qp d names []=true:=by rw[qp]
theorem zs9 {s:Sg}(h:s.id=[]∨zaa s.id=true∧s.key=jb)(d:Int)(hd:d<8):jq d (sgJ s)=true:=by
 unfold sgJ;rw[zka hd];exact jr (by decide) (by decide) (zfg (zp6 h) _) (jr (by decide) (by decide) (zfg (zmz _) _) (zbf _ _))
theorem zig (d:Int) (hd:d<8):∀ l:List Sg,(∀ s∈l,s.id=[]∨zaa s.id=true∧s.key=jb)→zae d (l.map sgJ)=true
 | [],_=>by rw[List.map_nil,zae]
 | s :: l,h=>by
   rw[List.map_cons,zae,zs9 (h s (by simp)) d hd,zig d hd l (fun x hx=>h x (by simp[hx]))];rfl
theorem zqo {l:List Sg}(h:∀ s∈l,s.id=[]∨zaa s.id=true∧s.key=jb):jq 1 (zeh l)=true:=by
 unfold zeh jq;simp[zig 2 (by omega) l h]
theorem zp9 (k:Int):asc (wOp k)=true:=by
 unfold wOp
 repeat' split
 all_goals decide
theorem zgx {sub:Bs→Bool} {e:En} (h:Okay sub e):jq 0 (zee e)=true:=by
 have hs:=zqo h.sg;have ht:=fun s (hs:asc s=true)=>zfg hs 1
 unfold zee;rw[zka (by omega)];unfold zne;split
 ·exact jr (by decide) (by decide) (ht _ (zju _)) (jr (by decide) (by decide) (ht _ (by decide)) (jr (by decide) (by decide) hs (zbf _ _)))
 split
 ·rename_i hk
  exact jr (by decide) (by decide) (ht _ (by decide)) (jr (by decide) (by decide) (ht _ (zmz _)) (jr (by decide) (by decide) hs (jr (by decide) (by decide) (ht _ (zsj (h.typ hk).1)) (zbf _ _))))
 split
 ·exact jr (by decide) (by decide) (ht _ (by decide)) (jr (by decide) (by decide) (ht _ (zmz _)) (jr (by decide) (by decide) hs (zbf _ _)))
 have hk:e.kind=4:=by have:=h.kind;omega
 have hi:=zk3 (h.op hk).2.2;split
 ·exact jr (by decide) (by decide) (ht _ hi) (jr (by decide) (by decide) (ht _ (by decide)) (jr (by decide) (by decide) (ht _ (zp9 _)) (jr (by decide) (by decide) hs (zbf _ _))))
 exact jr (by decide) (by decide) (ht _ hi) (jr (by decide) (by decide) (ht _ (zju _)) (jr (by decide) (by decide) (ht _ (by decide)) (jr (by decide) (by decide) (ht _ (zp9 _)) (jr (by decide) (by decide) hs (zbf _ _)))))
/-! sizes -/
theorem zgq (N:Nat)(s:Bs):few N (pT s)=true:=by unfold pT few fewl fewp;simp
theorem zjm {N:Nat}{l:List (Bs × J)}(h:l.length≤N)(hl:∀ q∈l,few N q.2=true):few N (zbu l)=true:=by
 unfold zbu few;simp only[List.map_nil,Bool.and_eq_true,decide_eq_true_eq];exact⟨h,by unfold fewl;rfl,zt4 l |>.2 hl⟩
theorem zr1 {N:Nat} (h2:2≤N) (l:List Sg):few N (zeh l)=true:=by
 unfold zeh few;simp only[Bool.and_eq_true,decide_eq_true_eq];refine⟨by simp,(zt5 _).2 ?_,by unfold fewp;rfl⟩;intro j hj;obtain⟨s,-,rfl⟩:=List.mem_map.1 hj
 exact zjm (by simpa using h2) (fun q hq=>by
  simp only[List.mem_cons,List.not_mem_nil,or_false]at hq
  rcases hq with rfl | rfl<;>exact zgq _ _)
theorem zqc {e:En} {q:Bs × J} (h:q∈zne e):(∃ s,q.2=pT s)∨q.2=zeh e.sigs:=by
 unfold zne at h
 repeat' split at h
 all_goals
  simp only[List.mem_cons,List.not_mem_nil,or_false]at h;rcases h with rfl | rfl | rfl | h
  all_goals first
   | exact .inl ⟨_,rfl⟩
   | exact .inr rfl
   | (rcases h with rfl | rfl<;>first | exact .inl ⟨_,rfl⟩ | exact .inr rfl)
   | (subst h;first | exact .inl ⟨_,rfl⟩ | exact .inr rfl)
theorem zir (e:En):(zne e).length≤5:=by
 unfold zne
 repeat' split
 all_goals simp
theorem zve {N:Nat}(hN:5≤N)(e:En):few N (zee e)=true:=by
 refine zjm (Nat.le_trans (zir e) hN) (fun q hq=>?_);rcases zqc hq with⟨s,h⟩ | h
 ·rw[h];exact zgq _ _
 rw[h];exact zr1 (by omega) _
theorem ze5 {N:Nat}{s:Bs}(h:s.length≤N):fits N (pT s)=true:=by
 unfold pT fits fitsl fitsp;simp[h]
theorem zgp {N:Nat}{l:List (Bs × J)}(h:l.length≤N)(hl:∀ q∈l,q.1.length≤N∧fits N q.2=true):fits N (zbu l)=true:=by
 unfold zbu fits;rw[(ze4 l).2 hl];unfold fitsl;simp[h]
theorem zjc {s:Bs}(h:zaa s=true):s.length≤64:=by
 unfold zaa at h;simp only[Bool.and_eq_true,decide_eq_true_eq]at h;exact h.2.1
theorem zsv {s:Bs}(h:zdj s=true):s.length≤64:=by
 unfold zdj at h;simp only[Bool.and_eq_true,decide_eq_true_eq]at h;exact h.2.1
theorem zqm {s:Sg}(h:s.id=[]∨zaa s.id=true∧s.key=jb)(hk:s.key.length=32):(qh s).length≤68:=by
 unfold qh;split
 ·rw[zq,zec,hk];decide
 rcases h with h | h
 ·contradiction
 have:=zjc h.1;omega
theorem zun (k:Int):(wOp k).length≤6:=by
 unfold wOp
 repeat' split
 all_goals decide
theorem nle {nm:Bs}{j:J}(h:nm.length≤10):((nm,j):Bs × J).1.length≤10:=h
theorem zj5 {sub:Bs→Bool} {e:En} (h:Okay sub e) (he:e.ok) (hsub:∀ b,sub b=true→b.length≤2048) {q:Bs × J} (hq:q∈zne e):q.1.length≤10∧((∃ s,q.2=pT s∧s.length≤5000)∨q.2=zeh e.sigs):=by
 have h1:(zcz e.digest).length≤5000:=by rw[zec,he.1];omega
 have h2:(zcz e.key).length≤5000:=by rw[zec,he.2.1];omega
 have h3:=zun e.op;have h4:=zu9 e.payload;unfold zne at hq;split at hq
 ·simp only[List.mem_cons,List.not_mem_nil,or_false]at hq;rcases hq with rfl | rfl | rfl
  ·exact⟨nle (by decide),.inl ⟨_,rfl,h1⟩⟩
  ·exact⟨nle (by decide),.inl ⟨_,rfl,by decide⟩⟩
  exact⟨nle (by decide),.inr rfl⟩
 split at hq
 ·rename_i hk
  have h5:=h.typ hk;have h6:=zsv h5.1;simp only[List.mem_cons,List.not_mem_nil,or_false]at hq;rcases hq with rfl | rfl | rfl | rfl
  ·exact⟨nle (by decide),.inl ⟨_,rfl,by decide⟩⟩
  ·exact⟨nle (by decide),.inl ⟨_,rfl,by omega⟩⟩
  ·exact⟨nle (by decide),.inr rfl⟩
  exact⟨nle (by decide),.inl ⟨_,rfl,by omega⟩⟩
 split at hq
 ·rename_i hk
  have h5:=hsub _ (h.pay hk);simp only[List.mem_cons,List.not_mem_nil,or_false]at hq;rcases hq with rfl | rfl | rfl
  ·exact⟨nle (by decide),.inl ⟨_,rfl,by decide⟩⟩
  ·exact⟨nle (by decide),.inl ⟨_,rfl,by omega⟩⟩
  exact⟨nle (by decide),.inr rfl⟩
 have hk:e.kind=4:=by have:=h.kind;omega
 have h5:=zjc (h.op hk).2.2;split at hq
 ·simp only[List.mem_cons,List.not_mem_nil,or_false]at hq;rcases hq with rfl | rfl | rfl | rfl
  ·exact⟨nle (by decide),.inl ⟨_,rfl,by omega⟩⟩
  ·exact⟨nle (by decide),.inl ⟨_,rfl,by decide⟩⟩
  ·exact⟨nle (by decide),.inl ⟨_,rfl,by omega⟩⟩
  exact⟨nle (by decide),.inr rfl⟩
 simp only[List.mem_cons,List.not_mem_nil,or_false]at hq;rcases hq with rfl | rfl | rfl | rfl | rfl
 ·exact⟨nle (by decide),.inl ⟨_,rfl,by omega⟩⟩
 ·exact⟨nle (by decide),.inl ⟨_,rfl,h2⟩⟩
 ·exact⟨nle (by decide),.inl ⟨_,rfl,by decide⟩⟩
 ·exact⟨nle (by decide),.inl ⟨_,rfl,by omega⟩⟩
 exact⟨nle (by decide),.inr rfl⟩
theorem zng {s:Sg}(h:s.id=[]∨zaa s.id=true∧s.key=jb)(hk:s.ok):(qh s).length≤131∧(zfs s.sig).length≤131:=by
 have h1:=zqm h hk.1;have h2:=zu9 s.sig;have h3:=hk.2;omega
theorem znd {sub:Bs→Bool}{e:En}(h:Okay sub e)(he:e.ok)(hsub:∀ b,sub b=true→b.length≤2048){N:Nat}(hN:5000≤N):fits N (zee e)=true:=by
 refine zgp (Nat.le_trans (zir e) (by omega)) (fun q hq=>?_);obtain⟨h1,⟨s,h2,h3⟩ | h2⟩:=zj5 h he hsub hq
 ·rw[h2];exact⟨by omega,ze5 (by omega)⟩
 rw[h2];refine⟨by omega,?_⟩;unfold zeh fits;rw[(zhn _).2 (fun j hj=>?_)]
 ·unfold fitsp;have:=h.sgs.2;simp only[List.length_map,List.length_nil];simp;omega
 obtain⟨s,hs,rfl⟩:=List.mem_map.1 hj;have h4:=zng (h.sg s hs) (he.2.2 s hs);refine zgp (by simp;omega) (fun q hq=>?_);simp only[List.mem_cons,List.not_mem_nil,or_false]at hq;rcases hq with rfl | rfl
 ·exact⟨by show 2≤N;omega,ze5 (by omega)⟩
 exact⟨by show 3≤N;omega,ze5 (by omega)⟩
theorem zlw (s:Bs):(jm (pT s)).length≤6 * s.length+2:=by
 unfold pT jm;simp only[show ¬ ((3:Int)=0) by decide,show ¬ ((3:Int)=1) by decide,show ¬ ((3:Int)=2) by decide,if_false,if_true];exact zkg s
theorem znb (K:Nat):∀ (l:List (Bs × J)) (c:UInt8),(∀ q∈l,q.1.length≤10∧(jm q.2).length≤K)→(qn c l).length≤l.length * (K+64)
 | [],c,_=>by rw[qn];exact Nat.zero_le _
 | (nm,j) :: l,c,h=>by
   obtain⟨h1,h2⟩:=h (nm,j) (by simp);have h3:=znb K l 44 (fun q hq=>h q (by simp[hq]));have h4:=zkg nm;simp only at h1 h2;rw[qn];simp only[zq,zo,List.length_nil,Nat.add_mul,Nat.one_mul]at h3 ⊢;omega
theorem zum {K:Nat}{l:List (Bs × J)}(h:∀ q∈l,q.1.length≤10∧(jm q.2).length≤K):(jm (zbu l)).length≤l.length * (K+64)+2:=by
 have h1:=znb K l 123 h;unfold zbu jm;simp only[show ¬ ((5:Int)=0) by decide,show ¬ ((5:Int)=1) by decide,show ¬ ((5:Int)=2) by decide,show ¬ ((5:Int)=3) by decide,show ¬ ((5:Int)=4) by decide,if_false,if_true];split
 ·simp
 simp only[zq,zo,List.length_nil];omega
theorem zp8 {K:Nat}:∀ (l:List J) (c:UInt8),(∀ j∈l,(jm j).length≤K)→(qm c l).length≤l.length * (K+1)
 | [],c,_=>by rw[qm];exact Nat.zero_le _
 | j :: l,c,h=>by
   have h1:=h j (by simp);have h2:=zp8 l 44 (fun q hq=>h q (by simp[hq]));rw[qm];simp only[zq,zo,Nat.add_mul,Nat.one_mul]at h2 ⊢;omega
theorem zwi {e:En} {sub:Bs→Bool} (h:Okay sub e) (he:e.ok):(jm (zeh e.sigs)).length≤30002:=by
 have h1:=zp8 (K:=1706) (e.sigs.map sgJ) 91 (fun j hj=>by
  obtain⟨s,hs,rfl⟩:=List.mem_map.1 hj;have h4:=zng (h.sg s hs) (he.2.2 s hs);have h5:=zlw (qh s);have h6:=zlw (zfs s.sig);refine Nat.le_trans (zum (K:=788) (fun q hq=>?_)) (by simp);simp only[List.mem_cons,List.not_mem_nil,or_false]at hq;rcases hq with rfl | rfl
  ·exact⟨nle (by decide),by simp only;omega⟩
  exact⟨nle (by decide),by simp only;omega⟩)
 have h2:=h.sgs.2;unfold zeh jm;simp only[show ¬ ((4:Int)=0) by decide,show ¬ ((4:Int)=1) by decide,show ¬ ((4:Int)=2) by decide,show ¬ ((4:Int)=3) by decide,if_false,if_true];rw[List.length_map]at h1;split
 ·simp
 simp only[zq,zo,List.length_nil];omega
theorem zvd {sub:Bs→Bool} {e:En} (h:Okay sub e) (he:e.ok) (hsub:∀ b,sub b=true→b.length≤2048):(zc5 (zee e)).length≤200000:=by
 rw[ziq]
 have h1:=zum (K:=30002) (l:=zne e) (fun q hq=>by
  obtain⟨h1,⟨s,h2,h3⟩ | h2⟩:=zj5 h he hsub hq
  ·rw[h2];have:=zlw s;exact⟨h1,by omega⟩
  rw[h2];exact⟨h1,zwi h he⟩)
 have h2:=zir e;unfold zee;omega
end Go.Proofs.YtffggpplnjibgaaGreatDoor
