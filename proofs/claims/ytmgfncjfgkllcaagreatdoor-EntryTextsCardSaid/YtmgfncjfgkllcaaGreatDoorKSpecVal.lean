/-
 An entry's value and text (package entry),as plain data.
-/
import Derived.Test.YtmgfncjfgkllcaaGreatDoorKB64
import Derived.Test.YtmgfncjfgkllcaaGreatDoorKSpecB64
import Derived.Test.YtmgfncjfgkllcaaGreatDoorKStart5
import Derived.Test.YtmgfncjfgkllcaaGreatDoorKFits
import Derived.Lib.ValidLaws
open List renaming length_cons→zo,length_append→zq
namespace Go.Proofs.YtmgfncjfgkllcaaGreatDoor
set_option linter.unusedVariables false
set_option linter.unusedSimpArgs false
set_option linter.unusedSectionVars false
def pT (s:Bs):J := .mk 3 0 s [] []
def txP (q:Bs × Bs):Bs × J:=(q.1,pT q.2)
def nBy:Bs:=[98,121]
def ztw:Bs:=[115,105,103]
def zah:Bs:=[115,105,103,115]
def zj4:Bs:=[100,105,103,101,115,116]
def jw:Bs:=[107,105,110,100]
def zeg:Bs:=[112,97,121,108,111,97,100]
def zcz:Bs:=[116,121,112,101]
def j3:Bs:=[105,100,101,110,116,105,116,121]
def zgr:Bs:=[107,101,121]
def nOp:Bs:=[111,112]
def wArt:Bs:=[97,114,116,105,102,97,99,116]
def wEnv:Bs:=[101,110,118,101,108,111,112,101]
def wSta:Bs:=[115,116,97,116,101,109,101,110,116]
def wBin:Bs:=[98,105,110,100,105,110,103]
def wBind:Bs:=[98,105,110,100]
def wRot:Bs:=[114,111,116,97,116,101]
def wRev:Bs:=[114,101,118,111,107,101]
def wOp (k:Int):Bs:=if k=1 then wBind else if k=2 then wRot else if k=3 then wRev else []
def zj7 (k:Int):Bs:=if k=1 then wArt else if k=2 then wEnv else if k=3 then wSta else if k=4 then wBin else []
def zbr (l:List (Bs × J)):J := .mk 5 0 [] [] l
def zao (e:En):List (Bs × Bs) :=
 if e.kind=1 then [(zj4,zei e.digest),(jw,wArt)]
 else if e.kind=2 then [(jw,wEnv),(zeg,zfx e.payload),(zcz,e.typ)]
 else if e.kind=3 then [(jw,wSta),(zeg,zfx e.payload)]
 else if e.op=3 then [(j3,e.ident),(jw,wBin),(nOp,wOp e.op)]
 else [(j3,e.ident),(zgr,zei e.key),(jw,wBin),(nOp,wOp e.op)]
def sgJ (s:Sg):J:=zbr [(nBy,pT (qn s)),(ztw,pT (zfx s.sig))]
def zek (l:List Sg):J := .mk 4 0 [] (l.map sgJ) []
def zni (e:En):List (Bs × J) :=
 if e.kind=1 then [(zj4,pT (zei e.digest)),(jw,pT wArt),(zah,zek e.sigs)]
 else if e.kind=2 then [(jw,pT wEnv),(zeg,pT (zfx e.payload)),(zah,zek e.sigs),(zcz,pT e.typ)]
 else if e.kind=3 then [(jw,pT wSta),(zeg,pT (zfx e.payload)),(zah,zek e.sigs)]
 else if e.op=3 then [(j3,pT e.ident),(jw,pT wBin),(nOp,pT (wOp e.op)),(zah,zek e.sigs)]
 else [(j3,pT e.ident),(zgr,pT (zei e.key)),(jw,pT wBin),(nOp,pT (wOp e.op)),(zah,zek e.sigs)]
def zee (e:En):J:=zbr (zni e)
def zdr (sub:Bs→Bool) (e:En):Bs × Nat:=if zad sub e then (if 4096<(zcx (zee e)).length then ([],10) else (zcx (zee e),0)) else ([],11)
theorem zqw (f:Nat)(s:Sg):ji (f+2) (sgJ s)=sgJ s:=by
 obtain⟨A,hA⟩:∃ A,qn s=A:=⟨_,rfl⟩;obtain⟨B,hB⟩:∃ B,zfx s.sig=B:=⟨_,rfl⟩;unfold sgJ;rw[hA,hB];rfl
theorem zik (f:Nat) (l:List Sg):ji (f+3) (zek l)=zek l:=by
 unfold zek
 have h:(l.map sgJ).map (ji (f+2))=l.map sgJ:=by
  rw[List.map_map];refine List.map_congr_left (fun s _=>?_);exact zqw f s
 show J.mk 4 0 [] ((l.map sgJ).map (ji (f+2))) _=_;rw[h];rfl
theorem zm2 (i o:Bs)(k:Bs):ji 8 (zbr ([(j3,i),(jw,wBin),(nOp,o),(zgr,k)].map txP))=zbr ([(j3,i),(zgr,k),(jw,wBin),(nOp,o)].map txP):=rfl
theorem zm3 (i o:Bs):ji 8 (zbr ([(j3,i),(jw,wBin),(nOp,o)].map txP))=zbr ([(j3,i),(jw,wBin),(nOp,o)].map txP):=rfl
theorem zo4 (g:J)(hg:ji 7 g=g)(a b:Bs):ji 8 (zbr ([(zj4,a),(jw,b)].map txP++[(zah,g)]))=zbr [(zj4,pT a),(jw,pT b),(zah,g)]:=by
 show zbr [_,_,(zah,ji 7 g)]=_;rw[hg];rfl
theorem zo3 (g:J)(hg:ji 7 g=g)(a b c:Bs):ji 8 (zbr ([(jw,a),(zeg,b),(zcz,c)].map txP++[(zah,g)]))=zbr [(jw,pT a),(zeg,pT b),(zah,g),(zcz,pT c)]:=by
 show zbr [_,_,(zah,ji 7 g),_]=_;rw[hg];rfl
theorem zo2 (g:J)(hg:ji 7 g=g)(a b:Bs):ji 8 (zbr ([(jw,a),(zeg,b)].map txP++[(zah,g)]))=zbr [(jw,pT a),(zeg,pT b),(zah,g)]:=by
 show zbr [_,_,(zah,ji 7 g)]=_;rw[hg];rfl
theorem zo1 (g:J)(hg:ji 7 g=g)(a b c:Bs):ji 8 (zbr ([(j3,a),(jw,b),(nOp,c)].map txP++[(zah,g)]))=zbr [(j3,pT a),(jw,pT b),(nOp,pT c),(zah,g)]:=by
 show zbr [_,_,_,(zah,ji 7 g)]=_;rw[hg];rfl
theorem zo0 (g:J)(hg:ji 7 g=g)(a b c d:Bs):ji 8 (zbr ([(j3,a),(zgr,b),(jw,c),(nOp,d)].map txP++[(zah,g)]))=zbr [(j3,pT a),(zgr,pT b),(jw,pT c),(nOp,pT d),(zah,g)]:=by
 show zbr [_,_,_,_,(zah,ji 7 g)]=_;rw[hg];rfl
theorem zqg (e:En):ji 8 (zbr ((zao e).map txP++[(zah,zek e.sigs)]))=zee e:=by
 have hg:=zik 4 e.sigs;unfold zee zni zao
 repeat' split
 ·exact zo4 _ hg _ _
 ·exact zo3 _ hg _ _ _
 ·exact zo2 _ hg _ _
 ·exact zo1 _ hg _ _ _
 exact zo0 _ hg _ _ _ _
theorem zqi (e:En):ji 8 (zee e)=zee e:=by
 have hg:=zik 4 e.sigs;obtain⟨g,hA⟩:∃ g,zek e.sigs=g:=⟨_,rfl⟩;have hg:ji 7 g=g:=by rw[← hA];exact hg
 unfold zee zni;rw[hA]
 repeat' split
 ·show zbr [_,_,(zah,ji 7 g)]=_;rw[hg];rfl
 ·show zbr [_,_,(zah,ji 7 g),_]=_;rw[hg];rfl
 ·show zbr [_,_,(zah,ji 7 g)]=_;rw[hg];rfl
 ·show zbr [_,_,_,(zah,ji 7 g)]=_;rw[hg];rfl
 show zbr [_,_,_,_,(zah,ji 7 g)]=_;rw[hg];rfl
theorem ziv (e:En):zcx (zee e)=jm (zee e):=by
 unfold zcx;rw[zqi]
/-! signs -/
def asc (l:Bs):Bool:=l.all fun c=>decide (c.toNat<128)
theorem zhw:∀ l:Bs,asc l=true→Lib.validD l=true
 | [],_=>rfl
 | c :: l,h=>by
   simp only[asc,List.all_cons,Bool.and_eq_true,decide_eq_true_eq]at h;rw[Lib.validD_cons _ _ h.1];exact zhw l h.2
theorem zsr (a b:Bs):asc (a++b)=(asc a&&asc b):=by simp[asc]
theorem zqu (l:Bs) (h:asc l=true) (n:Nat):(sgn l n).toNat<128:=by
 unfold sgn;rw[List.getD_eq_getElem?_getD];cases hn:l[n]? with
 | none=>decide
 | some x =>
   have:=List.mem_of_getElem? hn;simp only[asc,List.all_eq_true,decide_eq_true_eq]at h;exact h x this
theorem zrx (n:Nat):(sgn hexes n).toNat<128:=zqu _ (by decide) n
theorem zc3 (n:Nat):(sgn sixes n).toNat<128:=zqu _ (by decide) n
theorem zjx:∀ l:Bs,asc (zei l)=true
 | []=>rfl
 | c :: l=>by
   have h:=zjx l;unfold asc at h ⊢;simp only[zei,List.all_cons,Bool.and_eq_true,decide_eq_true_eq];exact⟨zrx _,zrx _,h⟩
theorem zon:∀ l:Bs,asc (b64C l)=true
 | []=>rfl
 | [a]=>by simp only[b64C,asc,List.all_cons,List.all_nil,Bool.and_eq_true,decide_eq_true_eq];exact⟨zc3 _,zc3 _,trivial⟩
 | [a,b]=>by simp only[b64C,asc,List.all_cons,List.all_nil,Bool.and_eq_true,decide_eq_true_eq];exact⟨zc3 _,zc3 _,zc3 _,trivial⟩
 | a :: b :: c :: l=>by
   have h:=zon l;unfold asc at h ⊢;simp only[b64C,List.all_cons,Bool.and_eq_true,decide_eq_true_eq];exact⟨zc3 _,zc3 _,zc3 _,zc3 _,h⟩
theorem zm4 (l:Bs):asc (zfx l)=true:=by
 unfold zfx;rw[zsr,zon,Bool.true_and];unfold zks asc;simp
theorem zk9 {s:Bs}(h:zaa s=true):asc s=true:=by
 unfold zaa at h;simp only[Bool.and_eq_true,List.all_eq_true]at h;unfold asc;simp only[List.all_eq_true,decide_eq_true_eq];intro c hc;have:=h.2.2 c hc;unfold zd4 at this;simp only[Bool.or_eq_true,Bool.and_eq_true,decide_eq_true_eq,beq_iff_eq]at this;omega
theorem zsq {s:Bs}(h:zdk s=true):asc s=true:=by
 unfold zdk at h;simp only[Bool.and_eq_true,List.all_eq_true]at h;unfold asc;simp only[List.all_eq_true,decide_eq_true_eq];intro c hc;have:=h.2.2.1 c hc;unfold zg6 at this;simp only[Bool.and_eq_true,decide_eq_true_eq]at this;omega
theorem zsp:∀ l:Bs,(b64C l).length≤2 * l.length
 | []=>Nat.le_refl _
 | [a]=>by simp[b64C]
 | [a,b]=>by simp[b64C]
 | a :: b :: c :: l=>by
   have:=zsp l;simp only[b64C,zo];omega
theorem zvd (l:Bs):(zfx l).length≤2 * l.length+3:=by
 unfold zfx zks;rw[zq,List.length_replicate];have:=zsp l;omega
structure Okay (sub:Bs→Bool) (e:En):Prop where
 kind:e.kind=1∨e.kind=2∨e.kind=3∨e.kind=4
 typ:e.kind=2→zdk e.typ=true∧e.payload.length≤2048
 pay:e.kind=3→sub e.payload=true
 op:e.kind=4→1≤e.op∧e.op≤3∧zaa e.ident=true
 sgs:1≤e.sigs.length∧e.sigs.length≤8
 sg:∀ s∈e.sigs,s.id=[]∨zaa s.id=true∧s.key=jc
theorem zpf (l:List Sg):∀ last,zbg last l=true→∀ s∈l,s.id=[]∨zaa s.id=true∧s.key=jc:=by
 induction l with
 | nil=>intro _ _ s hs;cases hs
 | cons x l ih =>
   intro last h s hs;unfold zbg at h;split at h
   ·cases h
   rename_i hb
   rcases List.mem_cons.1 hs with rfl | hs
   ·unfold zvn at hb;by_cases hi:s.id=[]
    ·exact .inl hi
    right;have hA:s.id.isEmpty=false:=by cases h:s.id with | nil=>exact absurd h hi | cons _ _=>rfl
    rw[hA]at hb;simp at hb;exact hb.2
   exact ih _ h s hs
theorem zeo {sub:Bs→Bool} {e:En} (h:zad sub e=true):Okay sub e:=by
 unfold zad at h;simp only[Bool.and_eq_true]at h;obtain⟨h1,h2,-⟩:=h;unfold zd2 at h2;simp only[Bool.and_eq_true,decide_eq_true_eq]at h2;unfold zra at h1;refine⟨?_,?_,?_,?_,h2.2,zpf _ _ h2.1⟩
 ·repeat' split at h1
  all_goals first | (cases h1;done) | omega
 ·intro hk;rw[if_neg (by omega),if_pos hk]at h1;simpa using h1
 ·intro hk;rw[if_neg (by omega),if_neg (by omega),if_pos hk]at h1;exact h1
 intro hk;rw[if_neg (by omega),if_neg (by omega),if_neg (by omega),if_pos hk]at h1;simpa using h1
theorem zqb {s:Sg}(h:s.id=[]∨zaa s.id=true∧s.key=jc):asc (qn s)=true:=by
 unfold qn;split
 ·rw[zsr,zjx,Bool.and_true];rfl
 rcases h with h | h
 ·contradiction
 exact zk9 h.1
theorem zfk {s:Bs}(h:asc s=true)(d:Int):jq d (pT s)=true:=by
 unfold pT jq;simp[zhw s h]
theorem zkd {d:Int}(hd:d<8)(l:List (Bs × J)):jq d (zbr l)=qp (d+1) [] l:=by
 unfold zbr jq;simp[show ¬ (8≤d) by omega]
theorem jr {d:Int}{names:List Bs}{nm:Bs}{j:J}{ps:List (Bs × J)}(h1:names.contains nm=false)(h2:asc nm=true)(h3:jq d j=true)(h4:qp d (names++[nm]) ps=true):qp d names ((nm,j) :: ps)=true:=by
 rw[qp,h1,zhw nm h2,h3,h4];rfl
theorem zbf (d:Int)(names:List Bs):qp d names []=true:=by rw[qp]
theorem ztf {s:Sg}(h:s.id=[]∨zaa s.id=true∧s.key=jc)(d:Int)(hd:d<8):jq d (sgJ s)=true:=by
 unfold sgJ;rw[zkd hd];exact jr (by decide) (by decide) (zfk (zqb h) _) (jr (by decide) (by decide) (zfk (zm4 _) _) (zbf _ _))
theorem zij (d:Int) (hd:d<8):∀ l:List Sg,(∀ s∈l,s.id=[]∨zaa s.id=true∧s.key=jc)→zag d (l.map sgJ)=true
 | [],_=>by rw[List.map_nil,zag]
 | s :: l,h=>by
   rw[List.map_cons,zag,ztf (h s (by simp)) d hd,zij d hd l (fun x hx=>h x (by simp[hx]))];rfl
theorem zqt {l:List Sg}(h:∀ s∈l,s.id=[]∨zaa s.id=true∧s.key=jc):jq 1 (zek l)=true:=by
 unfold zek jq;simp[zij 2 (by omega) l h]
theorem zqe (k:Int):asc (wOp k)=true:=by
 unfold wOp
 repeat' split
 all_goals decide
theorem zg2 {sub:Bs→Bool} {e:En} (h:Okay sub e):jq 0 (zee e)=true:=by
 have hs:=zqt h.sg;have ht:=fun s (hs:asc s=true)=>zfk hs 1
 unfold zee;rw[zkd (by omega)];unfold zni;split
 ·exact jr (by decide) (by decide) (ht _ (zjx _)) (jr (by decide) (by decide) (ht _ (by decide)) (jr (by decide) (by decide) hs (zbf _ _)))
 split
 ·rename_i hk
  exact jr (by decide) (by decide) (ht _ (by decide)) (jr (by decide) (by decide) (ht _ (zm4 _)) (jr (by decide) (by decide) hs (jr (by decide) (by decide) (ht _ (zsq (h.typ hk).1)) (zbf _ _))))
 split
 ·exact jr (by decide) (by decide) (ht _ (by decide)) (jr (by decide) (by decide) (ht _ (zm4 _)) (jr (by decide) (by decide) hs (zbf _ _)))
 have hk:e.kind=4:=by have:=h.kind;omega
 have hi:=zk9 (h.op hk).2.2;split
 ·exact jr (by decide) (by decide) (ht _ hi) (jr (by decide) (by decide) (ht _ (by decide)) (jr (by decide) (by decide) (ht _ (zqe _)) (jr (by decide) (by decide) hs (zbf _ _))))
 exact jr (by decide) (by decide) (ht _ hi) (jr (by decide) (by decide) (ht _ (zjx _)) (jr (by decide) (by decide) (ht _ (by decide)) (jr (by decide) (by decide) (ht _ (zqe _)) (jr (by decide) (by decide) hs (zbf _ _)))))
/-! sizes -/
theorem zgv (N:Nat)(s:Bs):few N (pT s)=true:=by unfold pT few fewl fewp;simp
theorem zjq {N:Nat}{l:List (Bs × J)}(h:l.length≤N)(hl:∀ q∈l,few N q.2=true):few N (zbr l)=true:=by
 unfold zbr few;simp only[List.map_nil,Bool.and_eq_true,decide_eq_true_eq];exact⟨h,by unfold fewl;rfl,zt8 l |>.2 hl⟩
theorem zr6 {N:Nat} (h2:2≤N) (l:List Sg):few N (zek l)=true:=by
 unfold zek few;simp only[Bool.and_eq_true,decide_eq_true_eq];refine⟨by simp,(zt9 _).2 ?_,by unfold fewp;rfl⟩;intro j hj;obtain⟨s,-,rfl⟩:=List.mem_map.1 hj
 exact zjq (by simpa using h2) (fun q hq=>by
  simp only[List.mem_cons,List.not_mem_nil,or_false]at hq
  rcases hq with rfl | rfl<;>exact zgv _ _)
theorem zqh {e:En} {q:Bs × J} (h:q∈zni e):(∃ s,q.2=pT s)∨q.2=zek e.sigs:=by
 unfold zni at h
 repeat' split at h
 all_goals
  simp only[List.mem_cons,List.not_mem_nil,or_false]at h;rcases h with rfl | rfl | rfl | h
  all_goals first
   | exact .inl ⟨_,rfl⟩
   | exact .inr rfl
   | (rcases h with rfl | rfl<;>first | exact .inl ⟨_,rfl⟩ | exact .inr rfl)
   | (subst h;first | exact .inl ⟨_,rfl⟩ | exact .inr rfl)
theorem ziw (e:En):(zni e).length≤5:=by
 unfold zni
 repeat' split
 all_goals simp
theorem zvi {N:Nat}(hN:5≤N)(e:En):few N (zee e)=true:=by
 refine zjq (Nat.le_trans (ziw e) hN) (fun q hq=>?_);rcases zqh hq with⟨s,h⟩ | h
 ·rw[h];exact zgv _ _
 rw[h];exact zr6 (by omega) _
theorem ze9 {N:Nat}{s:Bs}(h:s.length≤N):fits N (pT s)=true:=by
 unfold pT fits fitsl fitsp;simp[h]
theorem zgu {N:Nat}{l:List (Bs × J)}(h:l.length≤N)(hl:∀ q∈l,q.1.length≤N∧fits N q.2=true):fits N (zbr l)=true:=by
 unfold zbr fits;rw[(ze8 l).2 hl];unfold fitsl;simp[h]
theorem ze1 {s:Bs}(h:zaa s=true):s.length≤64:=by
 unfold zaa at h;simp only[Bool.and_eq_true,decide_eq_true_eq]at h;exact h.2.1
theorem znk {s:Bs}(h:zdk s=true):s.length≤64:=by
 unfold zdk at h;simp only[Bool.and_eq_true,decide_eq_true_eq]at h;exact h.2.1
theorem zqr {s:Sg}(h:s.id=[]∨zaa s.id=true∧s.key=jc)(hk:s.key.length=32):(qn s).length≤68:=by
 unfold qn;split
 ·rw[zq,ze6,hk];decide
 rcases h with h | h
 ·contradiction
 have:=ze1 h.1;omega
theorem zur (k:Int):(wOp k).length≤6:=by
 unfold wOp
 repeat' split
 all_goals decide
theorem nle {nm:Bs}{j:J}(h:nm.length≤10):((nm,j):Bs × J).1.length≤10:=h
theorem zj8 {sub:Bs→Bool} {e:En} (h:Okay sub e) (he:e.ok) (hsub:∀ b,sub b=true→b.length≤2048) {q:Bs × J} (hq:q∈zni e):q.1.length≤10∧((∃ s,q.2=pT s∧s.length≤5000)∨q.2=zek e.sigs):=by
 have h1:(zei e.digest).length≤5000:=by rw[ze6,he.1];omega
 have h2:(zei e.key).length≤5000:=by rw[ze6,he.2.1];omega
 have h3:=zur e.op;have h4:=zvd e.payload;unfold zni at hq;split at hq
 ·simp only[List.mem_cons,List.not_mem_nil,or_false]at hq;rcases hq with rfl | rfl | rfl
  ·exact⟨nle (by decide),.inl ⟨_,rfl,h1⟩⟩
  ·exact⟨nle (by decide),.inl ⟨_,rfl,by decide⟩⟩
  exact⟨nle (by decide),.inr rfl⟩
 split at hq
 ·rename_i hk
  have h5:=h.typ hk;have h6:=znk h5.1;simp only[List.mem_cons,List.not_mem_nil,or_false]at hq;rcases hq with rfl | rfl | rfl | rfl
  ·exact⟨nle (by decide),.inl ⟨_,rfl,by decide⟩⟩
  ·exact⟨nle (by decide),.inl ⟨_,rfl,by omega⟩⟩
  ·exact⟨nle (by decide),.inr rfl⟩
  exact⟨nle (by decide),.inl ⟨_,rfl,by omega⟩⟩
 split at hq
 ·rename_i hk
  have h5:=hsub _ (h.pay hk);simp only[List.mem_cons,List.not_mem_nil,or_false]at hq;rcases hq with rfl | rfl | rfl
  ·exact⟨nle (by decide),.inl ⟨_,rfl,by decide⟩⟩
  ·exact⟨nle (by decide),.inl ⟨_,rfl,by omega⟩⟩
  exact⟨nle (by decide),.inr rfl⟩
 have hk:e.kind=4:=by have:=h.kind;omega
 have h5:=ze1 (h.op hk).2.2;split at hq
 ·simp only[List.mem_cons,List.not_mem_nil,or_false]at hq;rcases hq with rfl | rfl | rfl | rfl
  ·exact⟨nle (by decide),.inl ⟨_,rfl,by omega⟩⟩
  ·exact⟨nle (by decide),.inl ⟨_,rfl,by decide⟩⟩
  ·exact⟨nle (by decide),.inl ⟨_,rfl,by omega⟩⟩
  exact⟨nle (by decide),.inr rfl⟩
 simp only[List.mem_cons,List.not_mem_nil,or_false]at hq;rcases hq with rfl | rfl | rfl | rfl | rfl
 ·exact⟨nle (by decide),.inl ⟨_,rfl,by omega⟩⟩
 ·exact⟨nle (by decide),.inl ⟨_,rfl,h2⟩⟩
 ·exact⟨nle (by decide),.inl ⟨_,rfl,by decide⟩⟩
 ·exact⟨nle (by decide),.inl ⟨_,rfl,by omega⟩⟩
 exact⟨nle (by decide),.inr rfl⟩
theorem znn {s:Sg}(h:s.id=[]∨zaa s.id=true∧s.key=jc)(hk:s.ok):(qn s).length≤131∧(zfx s.sig).length≤131:=by
 have h1:=zqr h hk.1;have h2:=zvd s.sig;have h3:=hk.2;omega
theorem znh {sub:Bs→Bool}{e:En}(h:Okay sub e)(he:e.ok)(hsub:∀ b,sub b=true→b.length≤2048){N:Nat}(hN:5000≤N):fits N (zee e)=true:=by
 refine zgu (Nat.le_trans (ziw e) (by omega)) (fun q hq=>?_);obtain⟨h1,⟨s,h2,h3⟩ | h2⟩:=zj8 h he hsub hq
 ·rw[h2];exact⟨by omega,ze9 (by omega)⟩
 rw[h2];refine⟨by omega,?_⟩;unfold zek fits;rw[(zhr _).2 (fun j hj=>?_)]
 ·unfold fitsp;have:=h.sgs.2;simp only[List.length_map,List.length_nil];simp;omega
 obtain⟨s,hs,rfl⟩:=List.mem_map.1 hj;have h4:=znn (h.sg s hs) (he.2.2 s hs);refine zgu (by simp;omega) (fun q hq=>?_);simp only[List.mem_cons,List.not_mem_nil,or_false]at hq;rcases hq with rfl | rfl
 ·exact⟨by show 2≤N;omega,ze9 (by omega)⟩
 exact⟨by show 3≤N;omega,ze9 (by omega)⟩
theorem zl0 (s:Bs):(jm (pT s)).length≤6 * s.length+2:=by
 unfold pT jm;simp only[show ¬ ((3:Int)=0) by decide,show ¬ ((3:Int)=1) by decide,show ¬ ((3:Int)=2) by decide,if_false,if_true];exact zkj s
theorem znf (K:Nat):∀ (l:List (Bs × J)) (c:UInt8),(∀ q∈l,q.1.length≤10∧(jm q.2).length≤K)→(qm c l).length≤l.length * (K+64)
 | [],c,_=>by rw[qm];exact Nat.zero_le _
 | (nm,j) :: l,c,h=>by
   obtain⟨h1,h2⟩:=h (nm,j) (by simp);have h3:=znf K l 44 (fun q hq=>h q (by simp[hq]));have h4:=zkj nm;simp only at h1 h2;rw[qm];simp only[zq,zo,List.length_nil,Nat.add_mul,Nat.one_mul]at h3 ⊢;omega
theorem zuq {K:Nat}{l:List (Bs × J)}(h:∀ q∈l,q.1.length≤10∧(jm q.2).length≤K):(jm (zbr l)).length≤l.length * (K+64)+2:=by
 have h1:=znf K l 123 h;unfold zbr jm;simp only[show ¬ ((5:Int)=0) by decide,show ¬ ((5:Int)=1) by decide,show ¬ ((5:Int)=2) by decide,show ¬ ((5:Int)=3) by decide,show ¬ ((5:Int)=4) by decide,if_false,if_true];split
 ·simp
 simp only[zq,zo,List.length_nil];omega
theorem zqd {K:Nat}:∀ (l:List J) (c:UInt8),(∀ j∈l,(jm j).length≤K)→(ql c l).length≤l.length * (K+1)
 | [],c,_=>by rw[ql];exact Nat.zero_le _
 | j :: l,c,h=>by
   have h1:=h j (by simp);have h2:=zqd l 44 (fun q hq=>h q (by simp[hq]));rw[ql];simp only[zq,zo,Nat.add_mul,Nat.one_mul]at h2 ⊢;omega
theorem zwm {e:En} {sub:Bs→Bool} (h:Okay sub e) (he:e.ok):(jm (zek e.sigs)).length≤30002:=by
 have h1:=zqd (K:=1706) (e.sigs.map sgJ) 91 (fun j hj=>by
  obtain⟨s,hs,rfl⟩:=List.mem_map.1 hj;have h4:=znn (h.sg s hs) (he.2.2 s hs);have h5:=zl0 (qn s);have h6:=zl0 (zfx s.sig);refine Nat.le_trans (zuq (K:=788) (fun q hq=>?_)) (by simp);simp only[List.mem_cons,List.not_mem_nil,or_false]at hq;rcases hq with rfl | rfl
  ·exact⟨nle (by decide),by simp only;omega⟩
  exact⟨nle (by decide),by simp only;omega⟩)
 have h2:=h.sgs.2;unfold zek jm;simp only[show ¬ ((4:Int)=0) by decide,show ¬ ((4:Int)=1) by decide,show ¬ ((4:Int)=2) by decide,show ¬ ((4:Int)=3) by decide,if_false,if_true];rw[List.length_map]at h1;split
 ·simp
 simp only[zq,zo,List.length_nil];omega
theorem zvh {sub:Bs→Bool} {e:En} (h:Okay sub e) (he:e.ok) (hsub:∀ b,sub b=true→b.length≤2048):(zcx (zee e)).length≤200000:=by
 rw[ziv]
 have h1:=zuq (K:=30002) (l:=zni e) (fun q hq=>by
  obtain⟨h1,⟨s,h2,h3⟩ | h2⟩:=zj8 h he hsub hq
  ·rw[h2];have:=zl0 s;exact⟨h1,by omega⟩
  rw[h2];exact⟨h1,zwm h he⟩)
 have h2:=ziw e;unfold zee;omega
end Go.Proofs.YtmgfncjfgkllcaaGreatDoor
