/-
 An entry's value and text (package entry),as plain data.
-/
import Derived.Test.YtmgfncjfgkllcaaGreatDoorKB64
import Derived.Test.YtmgfncjfgkllcaaGreatDoorKSpecB64
import Derived.Test.YtmgfncjfgkllcaaGreatDoorKStart5
import Derived.Test.YtmgfncjfgkllcaaGreatDoorKFits
import Derived.Lib.ValidLaws
open List renaming length_cons→zo,length_append→zq
namespace Go.Proofs.YtmgfncjfgkllcaaGreatDoor
set_option linter.unusedVariables false
set_option linter.unusedSimpArgs false
set_option linter.unusedSectionVars false
def pT (s:Bs):J := .mk 3 0 s [] []
def txP (q:Bs × Bs):Bs × J:=(q.1,pT q.2)
def nBy:Bs:=[98,121]
def zt7:Bs:=[115,105,103]
def zaf:Bs:=[115,105,103,115]
def zka:Bs:=[100,105,103,101,115,116]
def jy:Bs:=[107,105,110,100]
def zeg:Bs:=[112,97,121,108,111,97,100]
def zc1:Bs:=[116,121,112,101]
def j4:Bs:=[105,100,101,110,116,105,116,121]
def zgv:Bs:=[107,101,121]
def nOp:Bs:=[111,112]
def wArt:Bs:=[97,114,116,105,102,97,99,116]
def wEnv:Bs:=[101,110,118,101,108,111,112,101]
def wSta:Bs:=[115,116,97,116,101,109,101,110,116]
def wBin:Bs:=[98,105,110,100,105,110,103]
def wBind:Bs:=[98,105,110,100]
def wRot:Bs:=[114,111,116,97,116,101]
def wRev:Bs:=[114,101,118,111,107,101]
def wOp (k:Int):Bs:=if k=1 then wBind else if k=2 then wRot else if k=3 then wRev else []
def zkd (k:Int):Bs:=if k=1 then wArt else if k=2 then wEnv else if k=3 then wSta else if k=4 then wBin else []
def zbx (l:List (Bs × J)):J := .mk 5 0 [] [] l
def zan (e:En):List (Bs × Bs) :=
 if e.kind=1 then [(zka,zei e.digest),(jy,wArt)]
 else if e.kind=2 then [(jy,wEnv),(zeg,zfz e.payload),(zc1,e.typ)]
 else if e.kind=3 then [(jy,wSta),(zeg,zfz e.payload)]
 else if e.op=3 then [(j4,e.ident),(jy,wBin),(nOp,wOp e.op)]
 else [(j4,e.ident),(zgv,zei e.key),(jy,wBin),(nOp,wOp e.op)]
def sgJ (s:Sg):J:=zbx [(nBy,pT (qn s)),(zt7,pT (zfz s.sig))]
def zek (l:List Sg):J := .mk 4 0 [] (l.map sgJ) []
def zno (e:En):List (Bs × J) :=
 if e.kind=1 then [(zka,pT (zei e.digest)),(jy,pT wArt),(zaf,zek e.sigs)]
 else if e.kind=2 then [(jy,pT wEnv),(zeg,pT (zfz e.payload)),(zaf,zek e.sigs),(zc1,pT e.typ)]
 else if e.kind=3 then [(jy,pT wSta),(zeg,pT (zfz e.payload)),(zaf,zek e.sigs)]
 else if e.op=3 then [(j4,pT e.ident),(jy,pT wBin),(nOp,pT (wOp e.op)),(zaf,zek e.sigs)]
 else [(j4,pT e.ident),(zgv,pT (zei e.key)),(jy,pT wBin),(nOp,pT (wOp e.op)),(zaf,zek e.sigs)]
def zee (e:En):J:=zbx (zno e)
def zge (sub:Bs→Bool) (e:En):Bs × Nat:=if za2 sub e then (if 4096<(zcz (zee e)).length then ([],10) else (zcz (zee e),0)) else ([],11)
theorem zq4 (f:Nat)(s:Sg):ji (f+2) (sgJ s)=sgJ s:=by
 obtain⟨A,hA⟩:∃ A,qn s=A:=⟨_,rfl⟩;obtain⟨B,hB⟩:∃ B,zfz s.sig=B:=⟨_,rfl⟩;unfold sgJ;rw[hA,hB];rfl
theorem zis (f:Nat) (l:List Sg):ji (f+3) (zek l)=zek l:=by
 unfold zek
 have h:(l.map sgJ).map (ji (f+2))=l.map sgJ:=by
  rw[List.map_map];refine List.map_congr_left (fun s _=>?_);exact zq4 f s
 show J.mk 4 0 [] ((l.map sgJ).map (ji (f+2))) _=_;rw[h];rfl
theorem zm8 (i o:Bs)(k:Bs):ji 8 (zbx ([(j4,i),(jy,wBin),(nOp,o),(zgv,k)].map txP))=zbx ([(j4,i),(zgv,k),(jy,wBin),(nOp,o)].map txP):=rfl
theorem zm9 (i o:Bs):ji 8 (zbx ([(j4,i),(jy,wBin),(nOp,o)].map txP))=zbx ([(j4,i),(jy,wBin),(nOp,o)].map txP):=rfl
theorem zo8 (g:J)(hg:ji 7 g=g)(a b:Bs):ji 8 (zbx ([(zka,a),(jy,b)].map txP++[(zaf,g)]))=zbx [(zka,pT a),(jy,pT b),(zaf,g)]:=by
 show zbx [_,_,(zaf,ji 7 g)]=_;rw[hg];rfl
theorem zo7 (g:J)(hg:ji 7 g=g)(a b c:Bs):ji 8 (zbx ([(jy,a),(zeg,b),(zc1,c)].map txP++[(zaf,g)]))=zbx [(jy,pT a),(zeg,pT b),(zaf,g),(zc1,pT c)]:=by
 show zbx [_,_,(zaf,ji 7 g),_]=_;rw[hg];rfl
theorem zo6 (g:J)(hg:ji 7 g=g)(a b:Bs):ji 8 (zbx ([(jy,a),(zeg,b)].map txP++[(zaf,g)]))=zbx [(jy,pT a),(zeg,pT b),(zaf,g)]:=by
 show zbx [_,_,(zaf,ji 7 g)]=_;rw[hg];rfl
theorem zo5 (g:J)(hg:ji 7 g=g)(a b c:Bs):ji 8 (zbx ([(j4,a),(jy,b),(nOp,c)].map txP++[(zaf,g)]))=zbx [(j4,pT a),(jy,pT b),(nOp,pT c),(zaf,g)]:=by
 show zbx [_,_,_,(zaf,ji 7 g)]=_;rw[hg];rfl
theorem zo4 (g:J)(hg:ji 7 g=g)(a b c d:Bs):ji 8 (zbx ([(j4,a),(zgv,b),(jy,c),(nOp,d)].map txP++[(zaf,g)]))=zbx [(j4,pT a),(zgv,pT b),(jy,pT c),(nOp,pT d),(zaf,g)]:=by
 show zbx [_,_,_,_,(zaf,ji 7 g)]=_;rw[hg];rfl
theorem zqo (e:En):ji 8 (zbx ((zan e).map txP++[(zaf,zek e.sigs)]))=zee e:=by
 have hg:=zis 4 e.sigs;unfold zee zno zan
 repeat' split
 ·exact zo8 _ hg _ _
 ·exact zo7 _ hg _ _ _
 ·exact zo6 _ hg _ _
 ·exact zo5 _ hg _ _ _
 exact zo4 _ hg _ _ _ _
theorem zqq (e:En):ji 8 (zee e)=zee e:=by
 have hg:=zis 4 e.sigs;obtain⟨g,hA⟩:∃ g,zek e.sigs=g:=⟨_,rfl⟩;have hg:ji 7 g=g:=by rw[← hA];exact hg
 unfold zee zno;rw[hA]
 repeat' split
 ·show zbx [_,_,(zaf,ji 7 g)]=_;rw[hg];rfl
 ·show zbx [_,_,(zaf,ji 7 g),_]=_;rw[hg];rfl
 ·show zbx [_,_,(zaf,ji 7 g)]=_;rw[hg];rfl
 ·show zbx [_,_,_,(zaf,ji 7 g)]=_;rw[hg];rfl
 show zbx [_,_,_,_,(zaf,ji 7 g)]=_;rw[hg];rfl
theorem zi1 (e:En):zcz (zee e)=jo (zee e):=by
 unfold zcz;rw[zqq]
/-! signs -/
def asc (l:Bs):Bool:=l.all fun c=>decide (c.toNat<128)
theorem zh2:∀ l:Bs,asc l=true→Lib.validD l=true
 | [],_=>rfl
 | c :: l,h=>by
   simp only[asc,List.all_cons,Bool.and_eq_true,decide_eq_true_eq]at h;rw[Lib.validD_cons _ _ h.1];exact zh2 l h.2
theorem zs1 (a b:Bs):asc (a++b)=(asc a&&asc b):=by simp[asc]
theorem zq2 (l:Bs) (h:asc l=true) (n:Nat):(sgn l n).toNat<128:=by
 unfold sgn;rw[List.getD_eq_getElem?_getD];cases hn:l[n]? with
 | none=>decide
 | some x =>
   have:=List.mem_of_getElem? hn;simp only[asc,List.all_eq_true,decide_eq_true_eq]at h;exact h x this
theorem zr6 (n:Nat):(sgn hexes n).toNat<128:=zq2 _ (by decide) n
theorem zc5 (n:Nat):(sgn sixes n).toNat<128:=zq2 _ (by decide) n
theorem zj3:∀ l:Bs,asc (zei l)=true
 | []=>rfl
 | c :: l=>by
   have h:=zj3 l;unfold asc at h ⊢;simp only[zei,List.all_cons,Bool.and_eq_true,decide_eq_true_eq];exact⟨zr6 _,zr6 _,h⟩
theorem zor:∀ l:Bs,asc (b64C l)=true
 | []=>rfl
 | [a]=>by simp only[b64C,asc,List.all_cons,List.all_nil,Bool.and_eq_true,decide_eq_true_eq];exact⟨zc5 _,zc5 _,trivial⟩
 | [a,b]=>by simp only[b64C,asc,List.all_cons,List.all_nil,Bool.and_eq_true,decide_eq_true_eq];exact⟨zc5 _,zc5 _,zc5 _,trivial⟩
 | a :: b :: c :: l=>by
   have h:=zor l;unfold asc at h ⊢;simp only[b64C,List.all_cons,Bool.and_eq_true,decide_eq_true_eq];exact⟨zc5 _,zc5 _,zc5 _,zc5 _,h⟩
theorem zna (l:Bs):asc (zfz l)=true:=by
 unfold zfz;rw[zs1,zor,Bool.true_and];unfold zky asc;simp
theorem zle {s:Bs}(h:zaa s=true):asc s=true:=by
 unfold zaa at h;simp only[Bool.and_eq_true,List.all_eq_true]at h;unfold asc;simp only[List.all_eq_true,decide_eq_true_eq];intro c hc;have:=h.2.2 c hc;unfold zd4 at this;simp only[Bool.or_eq_true,Bool.and_eq_true,decide_eq_true_eq,beq_iff_eq]at this;omega
theorem zs0 {s:Bs}(h:zdm s=true):asc s=true:=by
 unfold zdm at h;simp only[Bool.and_eq_true,List.all_eq_true]at h;unfold asc;simp only[List.all_eq_true,decide_eq_true_eq];intro c hc;have:=h.2.2.1 c hc;unfold zha at this;simp only[Bool.and_eq_true,decide_eq_true_eq]at this;omega
theorem zsz:∀ l:Bs,(b64C l).length≤2 * l.length
 | []=>Nat.le_refl _
 | [a]=>by simp[b64C]
 | [a,b]=>by simp[b64C]
 | a :: b :: c :: l=>by
   have:=zsz l;simp only[b64C,zo];omega
theorem zvn (l:Bs):(zfz l).length≤2 * l.length+3:=by
 unfold zfz zky;rw[zq,List.length_replicate];have:=zsz l;omega
structure Okay (sub:Bs→Bool) (e:En):Prop where
 kind:e.kind=1∨e.kind=2∨e.kind=3∨e.kind=4
 typ:e.kind=2→zdm e.typ=true∧e.payload.length≤2048
 pay:e.kind=3→sub e.payload=true
 op:e.kind=4→1≤e.op∧e.op≤3∧zaa e.ident=true
 sgs:1≤e.sigs.length∧e.sigs.length≤8
 sg:∀ s∈e.sigs,s.id=[]∨zaa s.id=true∧s.key=jc
theorem zpj (l:List Sg):∀ last,zbi last l=true→∀ s∈l,s.id=[]∨zaa s.id=true∧s.key=jc:=by
 induction l with
 | nil=>intro _ _ s hs;cases hs
 | cons x l ih =>
   intro last h s hs;unfold zbi at h;split at h
   ·cases h
   rename_i hb
   rcases List.mem_cons.1 hs with rfl | hs
   ·unfold zvx at hb;by_cases hi:s.id=[]
    ·exact .inl hi
    right;have hA:s.id.isEmpty=false:=by cases h:s.id with | nil=>exact absurd h hi | cons _ _=>rfl
    rw[hA]at hb;simp at hb;exact hb.2
   exact ih _ h s hs
theorem zhm {sub:Bs→Bool} {e:En} (h:za2 sub e=true):Okay sub e:=by
 unfold za2 at h;simp only[Bool.and_eq_true]at h;obtain⟨h1,h2,-⟩:=h;unfold zd2 at h2;simp only[Bool.and_eq_true,decide_eq_true_eq]at h2;unfold zrj at h1;refine⟨?_,?_,?_,?_,h2.2,zpj _ _ h2.1⟩
 ·repeat' split at h1
  all_goals first | (cases h1;done) | omega
 ·intro hk;rw[if_neg (by omega),if_pos hk]at h1;simpa using h1
 ·intro hk;rw[if_neg (by omega),if_neg (by omega),if_pos hk]at h1;exact h1
 intro hk;rw[if_neg (by omega),if_neg (by omega),if_neg (by omega),if_pos hk]at h1;simpa using h1
theorem zqj {s:Sg}(h:s.id=[]∨zaa s.id=true∧s.key=jc):asc (qn s)=true:=by
 unfold qn;split
 ·rw[zs1,zj3,Bool.and_true];rfl
 rcases h with h | h
 ·contradiction
 exact zle h.1
theorem zfn {s:Bs}(h:asc s=true)(d:Int):jr d (pT s)=true:=by
 unfold pT jr;simp[zh2 s h]
theorem zkj {d:Int}(hd:d<8)(l:List (Bs × J)):jr d (zbx l)=qp (d+1) [] l:=by
 unfold zbx jr;simp[show ¬ (8≤d) by omega]
theorem ju {d:Int}{names:List Bs}{nm:Bs}{j:J}{ps:List (Bs × J)}(h1:names.contains nm=false)(h2:asc nm=true)(h3:jr d j=true)(h4:qp d (names++[nm]) ps=true):qp d names ((nm,j) :: ps)=true:=by
 rw[qp,h1,zh2 nm h2,h3,h4];rfl
theorem zbh (d:Int)(names:List Bs):qp d names []=true:=by rw[qp]
theorem ztr {s:Sg}(h:s.id=[]∨zaa s.id=true∧s.key=jc)(d:Int)(hd:d<8):jr d (sgJ s)=true:=by
 unfold sgJ;rw[zkj hd];exact ju (by decide) (by decide) (zfn (zqj h) _) (ju (by decide) (by decide) (zfn (zna _) _) (zbh _ _))
theorem zir (d:Int) (hd:d<8):∀ l:List Sg,(∀ s∈l,s.id=[]∨zaa s.id=true∧s.key=jc)→zae d (l.map sgJ)=true
 | [],_=>by rw[List.map_nil,zae]
 | s :: l,h=>by
   rw[List.map_cons,zae,ztr (h s (by simp)) d hd,zir d hd l (fun x hx=>h x (by simp[hx]))];rfl
theorem zq1 {l:List Sg}(h:∀ s∈l,s.id=[]∨zaa s.id=true∧s.key=jc):jr 1 (zek l)=true:=by
 unfold zek jr;simp[zir 2 (by omega) l h]
theorem zqm (k:Int):asc (wOp k)=true:=by
 unfold wOp
 repeat' split
 all_goals decide
theorem zg6 {sub:Bs→Bool} {e:En} (h:Okay sub e):jr 0 (zee e)=true:=by
 have hs:=zq1 h.sg;have ht:=fun s (hs:asc s=true)=>zfn hs 1
 unfold zee;rw[zkj (by omega)];unfold zno;split
 ·exact ju (by decide) (by decide) (ht _ (zj3 _)) (ju (by decide) (by decide) (ht _ (by decide)) (ju (by decide) (by decide) hs (zbh _ _)))
 split
 ·rename_i hk
  exact ju (by decide) (by decide) (ht _ (by decide)) (ju (by decide) (by decide) (ht _ (zna _)) (ju (by decide) (by decide) hs (ju (by decide) (by decide) (ht _ (zs0 (h.typ hk).1)) (zbh _ _))))
 split
 ·exact ju (by decide) (by decide) (ht _ (by decide)) (ju (by decide) (by decide) (ht _ (zna _)) (ju (by decide) (by decide) hs (zbh _ _)))
 have hk:e.kind=4:=by have:=h.kind;omega
 have hi:=zle (h.op hk).2.2;split
 ·exact ju (by decide) (by decide) (ht _ hi) (ju (by decide) (by decide) (ht _ (by decide)) (ju (by decide) (by decide) (ht _ (zqm _)) (ju (by decide) (by decide) hs (zbh _ _))))
 exact ju (by decide) (by decide) (ht _ hi) (ju (by decide) (by decide) (ht _ (zj3 _)) (ju (by decide) (by decide) (ht _ (by decide)) (ju (by decide) (by decide) (ht _ (zqm _)) (ju (by decide) (by decide) hs (zbh _ _)))))
/-! sizes -/
theorem zgz (N:Nat)(s:Bs):few N (pT s)=true:=by unfold pT few fewl fewp;simp
theorem zjw {N:Nat}{l:List (Bs × J)}(h:l.length≤N)(hl:∀ q∈l,few N q.2=true):few N (zbx l)=true:=by
 unfold zbx few;simp only[List.map_nil,Bool.and_eq_true,decide_eq_true_eq];exact⟨h,by unfold fewl;rfl,zuj l |>.2 hl⟩
theorem zsf {N:Nat} (h2:2≤N) (l:List Sg):few N (zek l)=true:=by
 unfold zek few;simp only[Bool.and_eq_true,decide_eq_true_eq];refine⟨by simp,(zuk _).2 ?_,by unfold fewp;rfl⟩;intro j hj;obtain⟨s,-,rfl⟩:=List.mem_map.1 hj
 exact zjw (by simpa using h2) (fun q hq=>by
  simp only[List.mem_cons,List.not_mem_nil,or_false]at hq
  rcases hq with rfl | rfl<;>exact zgz _ _)
theorem zqp {e:En} {q:Bs × J} (h:q∈zno e):(∃ s,q.2=pT s)∨q.2=zek e.sigs:=by
 unfold zno at h
 repeat' split at h
 all_goals
  simp only[List.mem_cons,List.not_mem_nil,or_false]at h;rcases h with rfl | rfl | rfl | h
  all_goals first
   | exact .inl ⟨_,rfl⟩
   | exact .inr rfl
   | (rcases h with rfl | rfl<;>first | exact .inl ⟨_,rfl⟩ | exact .inr rfl)
   | (subst h;first | exact .inl ⟨_,rfl⟩ | exact .inr rfl)
theorem zi2 (e:En):(zno e).length≤5:=by
 unfold zno
 repeat' split
 all_goals simp
theorem zvs {N:Nat}(hN:5≤N)(e:En):few N (zee e)=true:=by
 refine zjw (Nat.le_trans (zi2 e) hN) (fun q hq=>?_);rcases zqp hq with⟨s,h⟩ | h
 ·rw[h];exact zgz _ _
 rw[h];exact zsf (by omega) _
theorem zfb {N:Nat}{s:Bs}(h:s.length≤N):fits N (pT s)=true:=by
 unfold pT fits fitsl fitsp;simp[h]
theorem zgy {N:Nat}{l:List (Bs × J)}(h:l.length≤N)(hl:∀ q∈l,q.1.length≤N∧fits N q.2=true):fits N (zbx l)=true:=by
 unfold zbx fits;rw[(zfa l).2 hl];unfold fitsl;simp[h]
theorem zjm {s:Bs}(h:zaa s=true):s.length≤64:=by
 unfold zaa at h;simp only[Bool.and_eq_true,decide_eq_true_eq]at h;exact h.2.1
theorem ztd {s:Bs}(h:zdm s=true):s.length≤64:=by
 unfold zdm at h;simp only[Bool.and_eq_true,decide_eq_true_eq]at h;exact h.2.1
theorem zqz {s:Sg}(h:s.id=[]∨zaa s.id=true∧s.key=jc)(hk:s.key.length=32):(qn s).length≤68:=by
 unfold qn;split
 ·rw[zq,ze8,hk];decide
 rcases h with h | h
 ·contradiction
 have:=zjm h.1;omega
theorem zu2 (k:Int):(wOp k).length≤6:=by
 unfold wOp
 repeat' split
 all_goals decide
theorem nle {nm:Bs}{j:J}(h:nm.length≤10):((nm,j):Bs × J).1.length≤10:=h
theorem zke {sub:Bs→Bool} {e:En} (h:Okay sub e) (he:e.ok) (hsub:∀ b,sub b=true→b.length≤2048) {q:Bs × J} (hq:q∈zno e):q.1.length≤10∧((∃ s,q.2=pT s∧s.length≤5000)∨q.2=zek e.sigs):=by
 have h1:(zei e.digest).length≤5000:=by rw[ze8,he.1];omega
 have h2:(zei e.key).length≤5000:=by rw[ze8,he.2.1];omega
 have h3:=zu2 e.op;have h4:=zvn e.payload;unfold zno at hq;split at hq
 ·simp only[List.mem_cons,List.not_mem_nil,or_false]at hq;rcases hq with rfl | rfl | rfl
  ·exact⟨nle (by decide),.inl ⟨_,rfl,h1⟩⟩
  ·exact⟨nle (by decide),.inl ⟨_,rfl,by decide⟩⟩
  exact⟨nle (by decide),.inr rfl⟩
 split at hq
 ·rename_i hk
  have h5:=h.typ hk;have h6:=ztd h5.1;simp only[List.mem_cons,List.not_mem_nil,or_false]at hq;rcases hq with rfl | rfl | rfl | rfl
  ·exact⟨nle (by decide),.inl ⟨_,rfl,by decide⟩⟩
  ·exact⟨nle (by decide),.inl ⟨_,rfl,by omega⟩⟩
  ·exact⟨nle (by decide),.inr rfl⟩
  exact⟨nle (by decide),.inl ⟨_,rfl,by omega⟩⟩
 split at hq
 ·rename_i hk
  have h5:=hsub _ (h.pay hk);simp only[List.mem_cons,List.not_mem_nil,or_false]at hq;rcases hq with rfl | rfl | rfl
  ·exact⟨nle (by decide),.inl ⟨_,rfl,by decide⟩⟩
  ·exact⟨nle (by decide),.inl ⟨_,rfl,by omega⟩⟩
  exact⟨nle (by decide),.inr rfl⟩
 have hk:e.kind=4:=by have:=h.kind;omega
 have h5:=zjm (h.op hk).2.2;split at hq
 ·simp only[List.mem_cons,List.not_mem_nil,or_false]at hq;rcases hq with rfl | rfl | rfl | rfl
  ·exact⟨nle (by decide),.inl ⟨_,rfl,by omega⟩⟩
  ·exact⟨nle (by decide),.inl ⟨_,rfl,by decide⟩⟩
  ·exact⟨nle (by decide),.inl ⟨_,rfl,by omega⟩⟩
  exact⟨nle (by decide),.inr rfl⟩
 simp only[List.mem_cons,List.not_mem_nil,or_false]at hq;rcases hq with rfl | rfl | rfl | rfl | rfl
 ·exact⟨nle (by decide),.inl ⟨_,rfl,by omega⟩⟩
 ·exact⟨nle (by decide),.inl ⟨_,rfl,h2⟩⟩
 ·exact⟨nle (by decide),.inl ⟨_,rfl,by decide⟩⟩
 ·exact⟨nle (by decide),.inl ⟨_,rfl,by omega⟩⟩
 exact⟨nle (by decide),.inr rfl⟩
theorem znr {s:Sg}(h:s.id=[]∨zaa s.id=true∧s.key=jc)(hk:s.ok):(qn s).length≤131∧(zfz s.sig).length≤131:=by
 have h1:=zqz h hk.1;have h2:=zvn s.sig;have h3:=hk.2;omega
theorem znn {sub:Bs→Bool}{e:En}(h:Okay sub e)(he:e.ok)(hsub:∀ b,sub b=true→b.length≤2048){N:Nat}(hN:5000≤N):fits N (zee e)=true:=by
 refine zgy (Nat.le_trans (zi2 e) (by omega)) (fun q hq=>?_);obtain⟨h1,⟨s,h2,h3⟩ | h2⟩:=zke h he hsub hq
 ·rw[h2];exact⟨by omega,zfb (by omega)⟩
 rw[h2];refine⟨by omega,?_⟩;unfold zek fits;rw[(zhx _).2 (fun j hj=>?_)]
 ·unfold fitsp;have:=h.sgs.2;simp only[List.length_map,List.length_nil];simp;omega
 obtain⟨s,hs,rfl⟩:=List.mem_map.1 hj;have h4:=znr (h.sg s hs) (he.2.2 s hs);refine zgy (by simp;omega) (fun q hq=>?_);simp only[List.mem_cons,List.not_mem_nil,or_false]at hq;rcases hq with rfl | rfl
 ·exact⟨by show 2≤N;omega,zfb (by omega)⟩
 exact⟨by show 3≤N;omega,zfb (by omega)⟩
theorem zl7 (s:Bs):(jo (pT s)).length≤6 * s.length+2:=by
 unfold pT jo;simp only[show ¬ ((3:Int)=0) by decide,show ¬ ((3:Int)=1) by decide,show ¬ ((3:Int)=2) by decide,if_false,if_true];exact zkq s
theorem znl (K:Nat):∀ (l:List (Bs × J)) (c:UInt8),(∀ q∈l,q.1.length≤10∧(jo q.2).length≤K)→(qm c l).length≤l.length * (K+64)
 | [],c,_=>by rw[qm];exact Nat.zero_le _
 | (nm,j) :: l,c,h=>by
   obtain⟨h1,h2⟩:=h (nm,j) (by simp);have h3:=znl K l 44 (fun q hq=>h q (by simp[hq]));have h4:=zkq nm;simp only at h1 h2;rw[qm];simp only[zq,zo,List.length_nil,Nat.add_mul,Nat.one_mul]at h3 ⊢;omega
theorem zu1 {K:Nat}{l:List (Bs × J)}(h:∀ q∈l,q.1.length≤10∧(jo q.2).length≤K):(jo (zbx l)).length≤l.length * (K+64)+2:=by
 have h1:=znl K l 123 h;unfold zbx jo;simp only[show ¬ ((5:Int)=0) by decide,show ¬ ((5:Int)=1) by decide,show ¬ ((5:Int)=2) by decide,show ¬ ((5:Int)=3) by decide,show ¬ ((5:Int)=4) by decide,if_false,if_true];split
 ·simp
 simp only[zq,zo,List.length_nil];omega
theorem zql {K:Nat}:∀ (l:List J) (c:UInt8),(∀ j∈l,(jo j).length≤K)→(ql c l).length≤l.length * (K+1)
 | [],c,_=>by rw[ql];exact Nat.zero_le _
 | j :: l,c,h=>by
   have h1:=h j (by simp);have h2:=zql l 44 (fun q hq=>h q (by simp[hq]));rw[ql];simp only[zq,zo,Nat.add_mul,Nat.one_mul]at h2 ⊢;omega
theorem zww {e:En} {sub:Bs→Bool} (h:Okay sub e) (he:e.ok):(jo (zek e.sigs)).length≤30002:=by
 have h1:=zql (K:=1706) (e.sigs.map sgJ) 91 (fun j hj=>by
  obtain⟨s,hs,rfl⟩:=List.mem_map.1 hj;have h4:=znr (h.sg s hs) (he.2.2 s hs);have h5:=zl7 (qn s);have h6:=zl7 (zfz s.sig);refine Nat.le_trans (zu1 (K:=788) (fun q hq=>?_)) (by simp);simp only[List.mem_cons,List.not_mem_nil,or_false]at hq;rcases hq with rfl | rfl
  ·exact⟨nle (by decide),by simp only;omega⟩
  exact⟨nle (by decide),by simp only;omega⟩)
 have h2:=h.sgs.2;unfold zek jo;simp only[show ¬ ((4:Int)=0) by decide,show ¬ ((4:Int)=1) by decide,show ¬ ((4:Int)=2) by decide,show ¬ ((4:Int)=3) by decide,if_false,if_true];rw[List.length_map]at h1;split
 ·simp
 simp only[zq,zo,List.length_nil];omega
theorem zvr {sub:Bs→Bool} {e:En} (h:Okay sub e) (he:e.ok) (hsub:∀ b,sub b=true→b.length≤2048):(zcz (zee e)).length≤200000:=by
 rw[zi1]
 have h1:=zu1 (K:=30002) (l:=zno e) (fun q hq=>by
  obtain⟨h1,⟨s,h2,h3⟩ | h2⟩:=zke h he hsub hq
  ·rw[h2];have:=zl7 s;exact⟨h1,by omega⟩
  rw[h2];exact⟨h1,zww h he⟩)
 have h2:=zi2 e;unfold zee;omega
end Go.Proofs.YtmgfncjfgkllcaaGreatDoor
