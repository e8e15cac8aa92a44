/-
 An entry's value and text (package entry),as plain data.
-/
import Derived.Test.YtmgfncjfgkllcaaGreatDoorKB64
import Derived.Test.YtmgfncjfgkllcaaGreatDoorKSpecB64
import Derived.Test.YtmgfncjfgkllcaaGreatDoorKStart5
import Derived.Test.YtmgfncjfgkllcaaGreatDoorKFits
import Derived.Lib.ValidLaws
namespace Go.Proofs.YtmgfncjfgkllcaaGreatDoor
set_option linter.unusedVariables false
set_option linter.unusedSimpArgs false
set_option linter.unusedSectionVars false
def pT (s:Bs):J := .mk 3 0 s [] []
def txP (q:Bs × Bs):Bs × J:=(q.1,pT q.2)
def nBy:Bs:=[98,121]
def zso:Bs:=[115,105,103]
def zae:Bs:=[115,105,103,115]
def zje:Bs:=[100,105,103,101,115,116]
def jv:Bs:=[107,105,110,100]
def zd2:Bs:=[112,97,121,108,111,97,100]
def zcw:Bs:=[116,121,112,101]
def j0:Bs:=[105,100,101,110,116,105,116,121]
def zf2:Bs:=[107,101,121]
def nOp:Bs:=[111,112]
def wArt:Bs:=[97,114,116,105,102,97,99,116]
def wEnv:Bs:=[101,110,118,101,108,111,112,101]
def wSta:Bs:=[115,116,97,116,101,109,101,110,116]
def wBin:Bs:=[98,105,110,100,105,110,103]
def wBind:Bs:=[98,105,110,100]
def wRot:Bs:=[114,111,116,97,116,101]
def wRev:Bs:=[114,101,118,111,107,101]
def wOp (k:Int):Bs:=if k=1 then wBind else if k=2 then wRot else if k=3 then wRev else []
def zjh (k:Int):Bs:=if k=1 then wArt else if k=2 then wEnv else if k=3 then wSta else if k=4 then wBin else []
def zbq (l:List (Bs × J)):J := .mk 5 0 [] [] l
def zal (e:En):List (Bs × Bs) :=
 if e.kind=1 then [(zje,zd5 e.digest),(jv,wArt)]
 else if e.kind=2 then [(jv,wEnv),(zd2,zfl e.payload),(zcw,e.typ)]
 else if e.kind=3 then [(jv,wSta),(zd2,zfl e.payload)]
 else if e.op=3 then [(j0,e.ident),(jv,wBin),(nOp,wOp e.op)]
 else [(j0,e.ident),(zf2,zd5 e.key),(jv,wBin),(nOp,wOp e.op)]
def sgJ (s:Sg):J:=zbq [(nBy,pT (qm s)),(zso,pT (zfl s.sig))]
def zd7 (l:List Sg):J := .mk 4 0 [] (l.map sgJ) []
def zl9 (e:En):List (Bs × J) :=
 if e.kind=1 then [(zje,pT (zd5 e.digest)),(jv,pT wArt),(zae,zd7 e.sigs)]
 else if e.kind=2 then [(jv,pT wEnv),(zd2,pT (zfl e.payload)),(zae,zd7 e.sigs),(zcw,pT e.typ)]
 else if e.kind=3 then [(jv,pT wSta),(zd2,pT (zfl e.payload)),(zae,zd7 e.sigs)]
 else if e.op=3 then [(j0,pT e.ident),(jv,pT wBin),(nOp,pT (wOp e.op)),(zae,zd7 e.sigs)]
 else [(j0,pT e.ident),(zf2,pT (zd5 e.key)),(jv,pT wBin),(nOp,pT (wOp e.op)),(zae,zd7 e.sigs)]
def zd4 (e:En):J:=zbq (zl9 e)
def zim (sub:Bs→Bool) (e:En):Bs × Nat:=if za7 sub e then (if 4096<(zc2 (zd4 e)).length then ([],10) else (zc2 (zd4 e),0)) else ([],11)
theorem zpo (f:Nat)(s:Sg):jh (f+2) (sgJ s)=sgJ s:=by
 obtain⟨A,hA⟩:∃ A,qm s=A:=⟨_,rfl⟩;obtain⟨B,hB⟩:∃ B,zfl s.sig=B:=⟨_,rfl⟩;unfold sgJ;rw[hA,hB];rfl
theorem zhx (f:Nat) (l:List Sg):jh (f+3) (zd7 l)=zd7 l:=by
 unfold zd7
 have h:(l.map sgJ).map (jh (f+2))=l.map sgJ:=by
  rw[List.map_map];refine List.map_congr_left (fun s _=>?_);exact zpo f s
 show J.mk 4 0 [] ((l.map sgJ).map (jh (f+2))) _=_;rw[h];rfl
theorem zlu (i o:Bs)(k:Bs):jh 8 (zbq ([(j0,i),(jv,wBin),(nOp,o),(zf2,k)].map txP))=zbq ([(j0,i),(zf2,k),(jv,wBin),(nOp,o)].map txP):=rfl
theorem zlv (i o:Bs):jh 8 (zbq ([(j0,i),(jv,wBin),(nOp,o)].map txP))=zbq ([(j0,i),(jv,wBin),(nOp,o)].map txP):=rfl
theorem znt (g:J)(hg:jh 7 g=g)(a b:Bs):jh 8 (zbq ([(zje,a),(jv,b)].map txP++[(zae,g)]))=zbq [(zje,pT a),(jv,pT b),(zae,g)]:=by
 show zbq [_,_,(zae,jh 7 g)]=_;rw[hg];rfl
theorem zns (g:J)(hg:jh 7 g=g)(a b c:Bs):jh 8 (zbq ([(jv,a),(zd2,b),(zcw,c)].map txP++[(zae,g)]))=zbq [(jv,pT a),(zd2,pT b),(zae,g),(zcw,pT c)]:=by
 show zbq [_,_,(zae,jh 7 g),_]=_;rw[hg];rfl
theorem znr (g:J)(hg:jh 7 g=g)(a b:Bs):jh 8 (zbq ([(jv,a),(zd2,b)].map txP++[(zae,g)]))=zbq [(jv,pT a),(zd2,pT b),(zae,g)]:=by
 show zbq [_,_,(zae,jh 7 g)]=_;rw[hg];rfl
theorem znq (g:J)(hg:jh 7 g=g)(a b c:Bs):jh 8 (zbq ([(j0,a),(jv,b),(nOp,c)].map txP++[(zae,g)]))=zbq [(j0,pT a),(jv,pT b),(nOp,pT c),(zae,g)]:=by
 show zbq [_,_,_,(zae,jh 7 g)]=_;rw[hg];rfl
theorem znp (g:J)(hg:jh 7 g=g)(a b c d:Bs):jh 8 (zbq ([(j0,a),(zf2,b),(jv,c),(nOp,d)].map txP++[(zae,g)]))=zbq [(j0,pT a),(zf2,pT b),(jv,pT c),(nOp,pT d),(zae,g)]:=by
 show zbq [_,_,_,_,(zae,jh 7 g)]=_;rw[hg];rfl
theorem zo8 (e:En):jh 8 (zbq ((zal e).map txP++[(zae,zd7 e.sigs)]))=zd4 e:=by
 have hg:=zhx 4 e.sigs;unfold zd4 zl9 zal
 repeat' split
 ·exact znt _ hg _ _
 ·exact zns _ hg _ _ _
 ·exact znr _ hg _ _
 ·exact znq _ hg _ _ _
 exact znp _ hg _ _ _ _
theorem zpa (e:En):jh 8 (zd4 e)=zd4 e:=by
 have hg:=zhx 4 e.sigs;obtain⟨g,hA⟩:∃ g,zd7 e.sigs=g:=⟨_,rfl⟩;have hg:jh 7 g=g:=by rw[← hA];exact hg
 unfold zd4 zl9;rw[hA]
 repeat' split
 ·show zbq [_,_,(zae,jh 7 g)]=_;rw[hg];rfl
 ·show zbq [_,_,(zae,jh 7 g),_]=_;rw[hg];rfl
 ·show zbq [_,_,(zae,jh 7 g)]=_;rw[hg];rfl
 ·show zbq [_,_,_,(zae,jh 7 g)]=_;rw[hg];rfl
 show zbq [_,_,_,_,(zae,jh 7 g)]=_;rw[hg];rfl
theorem zh5 (e:En):zc2 (zd4 e)=ji (zd4 e):=by
 unfold zc2;rw[zpa]
/-! signs -/
def asc (l:Bs):Bool:=l.all fun c=>decide (c.toNat<128)
theorem zha:∀ l:Bs,asc l=true→Lib.validD l=true
 | [],_=>rfl
 | c :: l,h=>by
   simp only[asc,List.all_cons,Bool.and_eq_true,decide_eq_true_eq]at h;rw[Lib.validD_cons _ _ h.1];exact zha l h.2
theorem zrh (a b:Bs):asc (a++b)=(asc a&&asc b):=by simp[asc]
theorem zpm (l:Bs) (h:asc l=true) (n:Nat):(sgn l n).toNat<128:=by
 unfold sgn;rw[List.getD_eq_getElem?_getD];cases hn:l[n]? with
 | none=>decide
 | some x =>
   have:=List.mem_of_getElem? hn;simp only[asc,List.all_eq_true,decide_eq_true_eq]at h;exact h x this
theorem zqo (n:Nat):(sgn hexes n).toNat<128:=zpm _ (by decide) n
theorem zc0 (n:Nat):(sgn sixes n).toNat<128:=zpm _ (by decide) n
theorem zi9:∀ l:Bs,asc (zd5 l)=true
 | []=>rfl
 | c :: l=>by
   have h:=zi9 l;unfold asc at h ⊢;simp only[zd5,List.all_cons,Bool.and_eq_true,decide_eq_true_eq];exact⟨zqo _,zqo _,h⟩
theorem znc:∀ l:Bs,asc (b64C l)=true
 | []=>rfl
 | [a]=>by simp only[b64C,asc,List.all_cons,List.all_nil,Bool.and_eq_true,decide_eq_true_eq];exact⟨zc0 _,zc0 _,trivial⟩
 | [a,b]=>by simp only[b64C,asc,List.all_cons,List.all_nil,Bool.and_eq_true,decide_eq_true_eq];exact⟨zc0 _,zc0 _,zc0 _,trivial⟩
 | a :: b :: c :: l=>by
   have h:=znc l;unfold asc at h ⊢;simp only[b64C,List.all_cons,Bool.and_eq_true,decide_eq_true_eq];exact⟨zc0 _,zc0 _,zc0 _,zc0 _,h⟩
theorem zlw (l:Bs):asc (zfl l)=true:=by
 unfold zfl;rw[zrh,znc,Bool.true_and];unfold zj1 asc;simp
theorem zki {s:Bs}(h:q9 s=true):asc s=true:=by
 unfold q9 at h;simp only[Bool.and_eq_true,List.all_eq_true]at h;unfold asc;simp only[List.all_eq_true,decide_eq_true_eq];intro c hc;have:=h.2.2 c hc;unfold zdt at this;simp only[Bool.or_eq_true,Bool.and_eq_true,decide_eq_true_eq,beq_iff_eq]at this;omega
theorem zrg {s:Bs}(h:zdh s=true):asc s=true:=by
 unfold zdh at h;simp only[Bool.and_eq_true,List.all_eq_true]at h;unfold asc;simp only[List.all_eq_true,decide_eq_true_eq];intro c hc;have:=h.2.2.1 c hc;unfold zgi at this;simp only[Bool.and_eq_true,decide_eq_true_eq]at this;omega
theorem zre:∀ l:Bs,(b64C l).length≤2 * l.length
 | []=>Nat.le_refl _
 | [a]=>by simp[b64C]
 | [a,b]=>by simp[b64C]
 | a :: b :: c :: l=>by
   have:=zre l;simp only[b64C,List.length_cons];omega
theorem zt7 (l:Bs):(zfl l).length≤2 * l.length+3:=by
 unfold zfl zj1;rw[List.length_append,List.length_replicate];have:=zre l;omega
structure Okay (sub:Bs→Bool) (e:En):Prop where
 kind:e.kind=1∨e.kind=2∨e.kind=3∨e.kind=4
 typ:e.kind=2→zdh e.typ=true∧e.payload.length≤2048
 pay:e.kind=3→sub e.payload=true
 op:e.kind=4→1≤e.op∧e.op≤3∧q9 e.ident=true
 sgs:1≤e.sigs.length∧e.sigs.length≤8
 sg:∀ s∈e.sigs,s.id=[]∨q9 s.id=true∧s.key=jb
theorem zn4 (l:List Sg):∀ last,zbf last l=true→∀ s∈l,s.id=[]∨q9 s.id=true∧s.key=jb:=by
 induction l with
 | nil=>intro _ _ s hs;cases hs
 | cons x l ih =>
   intro last h s hs;unfold zbf at h;split at h
   ·cases h
   rename_i hb
   rcases List.mem_cons.1 hs with rfl | hs
   ·unfold zui at hb;by_cases hi:s.id=[]
    ·exact .inl hi
    right;have hA:s.id.isEmpty=false:=by cases h:s.id with | nil=>exact absurd h hi | cons _ _=>rfl
    rw[hA]at hb;simp at hb;exact hb.2
   exact ih _ h s hs
theorem zgu {sub:Bs→Bool} {e:En} (h:za7 sub e=true):Okay sub e:=by
 unfold za7 at h;simp only[Bool.and_eq_true]at h;obtain⟨h1,h2,-⟩:=h;unfold zdr at h2;simp only[Bool.and_eq_true,decide_eq_true_eq]at h2;unfold zp3 at h1;refine⟨?_,?_,?_,?_,h2.2,zn4 _ _ h2.1⟩
 ·repeat' split at h1
  all_goals first | (cases h1;done) | omega
 ·intro hk;rw[if_neg (by omega),if_pos hk]at h1;simpa using h1
 ·intro hk;rw[if_neg (by omega),if_neg (by omega),if_pos hk]at h1;exact h1
 intro hk;rw[if_neg (by omega),if_neg (by omega),if_neg (by omega),if_pos hk]at h1;simpa using h1
theorem zo3 {s:Sg}(h:s.id=[]∨q9 s.id=true∧s.key=jb):asc (qm s)=true:=by
 unfold qm;split
 ·rw[zrh,zi9,Bool.and_true];rfl
 rcases h with h | h
 ·contradiction
 exact zki h.1
theorem ze7 {s:Bs}(h:asc s=true)(d:Int):jo d (pT s)=true:=by
 unfold pT jo;simp[zha s h]
theorem zjo {d:Int}(hd:d<8)(l:List (Bs × J)):jo d (zbq l)=qn (d+1) [] l:=by
 unfold zbq jo;simp[show ¬ (8≤d) by omega]
theorem jq {d:Int}{names:List Bs}{nm:Bs}{j:J}{ps:List (Bs × J)}(h1:names.contains nm=false)(h2:asc nm=true)(h3:jo d j=true)(h4:qn d (names++[nm]) ps=true):qn d names ((nm,j) :: ps)=true:=by
 rw[qn,h1,zha nm h2,h3,h4];rfl
theorem zbe (d:Int)(names:List Bs):qn d names []=true:=by rw[qn]
theorem zr6 {s:Sg}(h:s.id=[]∨q9 s.id=true∧s.key=jb)(d:Int)(hd:d<8):jo d (sgJ s)=true:=by
 unfold sgJ;rw[zjo hd];exact jq (by decide) (by decide) (ze7 (zo3 h) _) (jq (by decide) (by decide) (ze7 (zlw _) _) (zbe _ _))
theorem zhw (d:Int) (hd:d<8):∀ l:List Sg,(∀ s∈l,s.id=[]∨q9 s.id=true∧s.key=jb)→zad d (l.map sgJ)=true
 | [],_=>by rw[List.map_nil,zad]
 | s :: l,h=>by
   rw[List.map_cons,zad,zr6 (h s (by simp)) d hd,zhw d hd l (fun x hx=>h x (by simp[hx]))];rfl
theorem zpl {l:List Sg}(h:∀ s∈l,s.id=[]∨q9 s.id=true∧s.key=jb):jo 1 (zd7 l)=true:=by
 unfold zd7 jo;simp[zhw 2 (by omega) l h]
theorem zo6 (k:Int):asc (wOp k)=true:=by
 unfold wOp
 repeat' split
 all_goals decide
theorem zge {sub:Bs→Bool} {e:En} (h:Okay sub e):jo 0 (zd4 e)=true:=by
 have hs:=zpl h.sg;have ht:=fun s (hs:asc s=true)=>ze7 hs 1
 unfold zd4;rw[zjo (by omega)];unfold zl9;split
 ·exact jq (by decide) (by decide) (ht _ (zi9 _)) (jq (by decide) (by decide) (ht _ (by decide)) (jq (by decide) (by decide) hs (zbe _ _)))
 split
 ·rename_i hk
  exact jq (by decide) (by decide) (ht _ (by decide)) (jq (by decide) (by decide) (ht _ (zlw _)) (jq (by decide) (by decide) hs (jq (by decide) (by decide) (ht _ (zrg (h.typ hk).1)) (zbe _ _))))
 split
 ·exact jq (by decide) (by decide) (ht _ (by decide)) (jq (by decide) (by decide) (ht _ (zlw _)) (jq (by decide) (by decide) hs (zbe _ _)))
 have hk:e.kind=4:=by have:=h.kind;omega
 have hi:=zki (h.op hk).2.2;split
 ·exact jq (by decide) (by decide) (ht _ hi) (jq (by decide) (by decide) (ht _ (by decide)) (jq (by decide) (by decide) (ht _ (zo6 _)) (jq (by decide) (by decide) hs (zbe _ _))))
 exact jq (by decide) (by decide) (ht _ hi) (jq (by decide) (by decide) (ht _ (zi9 _)) (jq (by decide) (by decide) (ht _ (by decide)) (jq (by decide) (by decide) (ht _ (zo6 _)) (jq (by decide) (by decide) hs (zbe _ _)))))
/-! sizes -/
theorem zf6 (N:Nat)(s:Bs):few N (pT s)=true:=by unfold pT few fewl fewp;simp
theorem zi1 {N:Nat}{l:List (Bs × J)}(h:l.length≤N)(hl:∀ q∈l,few N q.2=true):few N (zbq l)=true:=by
 unfold zbq few;simp only[List.map_nil,Bool.and_eq_true,decide_eq_true_eq];exact⟨h,by unfold fewl;rfl,zs0 l |>.2 hl⟩
theorem zqx {N:Nat} (h2:2≤N) (l:List Sg):few N (zd7 l)=true:=by
 unfold zd7 few;simp only[Bool.and_eq_true,decide_eq_true_eq];refine⟨by simp,(zs1 _).2 ?_,by unfold fewp;rfl⟩;intro j hj;obtain⟨s,-,rfl⟩:=List.mem_map.1 hj
 exact zi1 (by simpa using h2) (fun q hq=>by
  simp only[List.mem_cons,List.not_mem_nil,or_false]at hq
  rcases hq with rfl | rfl<;>exact zf6 _ _)
theorem zo9 {e:En} {q:Bs × J} (h:q∈zl9 e):(∃ s,q.2=pT s)∨q.2=zd7 e.sigs:=by
 unfold zl9 at h
 repeat' split at h
 all_goals
  simp only[List.mem_cons,List.not_mem_nil,or_false]at h;rcases h with rfl | rfl | rfl | h
  all_goals first
   | exact .inl ⟨_,rfl⟩
   | exact .inr rfl
   | (rcases h with rfl | rfl<;>first | exact .inl ⟨_,rfl⟩ | exact .inr rfl)
   | (subst h;first | exact .inl ⟨_,rfl⟩ | exact .inr rfl)
theorem zh6 (e:En):(zl9 e).length≤5:=by
 unfold zl9
 repeat' split
 all_goals simp
theorem zuc {N:Nat}(hN:5≤N)(e:En):few N (zd4 e)=true:=by
 refine zi1 (Nat.le_trans (zh6 e) hN) (fun q hq=>?_);rcases zo9 hq with⟨s,h⟩ | h
 ·rw[h];exact zf6 _ _
 rw[h];exact zqx (by omega) _
theorem zew {N:Nat}{s:Bs}(h:s.length≤N):fits N (pT s)=true:=by
 unfold pT fits fitsl fitsp;simp[h]
theorem zf5 {N:Nat}{l:List (Bs × J)}(h:l.length≤N)(hl:∀ q∈l,q.1.length≤N∧fits N q.2=true):fits N (zbq l)=true:=by
 unfold zbq fits;rw[(zev l).2 hl];unfold fitsl;simp[h]
theorem zir {s:Bs}(h:q9 s=true):s.length≤64:=by
 unfold q9 at h;simp only[Bool.and_eq_true,decide_eq_true_eq]at h;exact h.2.1
theorem zrs {s:Bs}(h:zdh s=true):s.length≤64:=by
 unfold zdh at h;simp only[Bool.and_eq_true,decide_eq_true_eq]at h;exact h.2.1
theorem zpj {s:Sg}(h:s.id=[]∨q9 s.id=true∧s.key=jb)(hk:s.key.length=32):(qm s).length≤68:=by
 unfold qm;split
 ·rw[List.length_append,zet,hk];decide
 rcases h with h | h
 ·contradiction
 have:=zir h.1;omega
theorem ztk (k:Int):(wOp k).length≤6:=by
 unfold wOp
 repeat' split
 all_goals decide
theorem nle {nm:Bs}{j:J}(h:nm.length≤10):((nm,j):Bs × J).1.length≤10:=h
theorem zji {sub:Bs→Bool} {e:En} (h:Okay sub e) (he:e.ok) (hsub:∀ b,sub b=true→b.length≤2048) {q:Bs × J} (hq:q∈zl9 e):q.1.length≤10∧((∃ s,q.2=pT s∧s.length≤5000)∨q.2=zd7 e.sigs):=by
 have h1:(zd5 e.digest).length≤5000:=by rw[zet,he.1];omega
 have h2:(zd5 e.key).length≤5000:=by rw[zet,he.2.1];omega
 have h3:=ztk e.op;have h4:=zt7 e.payload;unfold zl9 at hq;split at hq
 ·simp only[List.mem_cons,List.not_mem_nil,or_false]at hq;rcases hq with rfl | rfl | rfl
  ·exact⟨nle (by decide),.inl ⟨_,rfl,h1⟩⟩
  ·exact⟨nle (by decide),.inl ⟨_,rfl,by decide⟩⟩
  exact⟨nle (by decide),.inr rfl⟩
 split at hq
 ·rename_i hk
  have h5:=h.typ hk;have h6:=zrs h5.1;simp only[List.mem_cons,List.not_mem_nil,or_false]at hq;rcases hq with rfl | rfl | rfl | rfl
  ·exact⟨nle (by decide),.inl ⟨_,rfl,by decide⟩⟩
  ·exact⟨nle (by decide),.inl ⟨_,rfl,by omega⟩⟩
  ·exact⟨nle (by decide),.inr rfl⟩
  exact⟨nle (by decide),.inl ⟨_,rfl,by omega⟩⟩
 split at hq
 ·rename_i hk
  have h5:=hsub _ (h.pay hk);simp only[List.mem_cons,List.not_mem_nil,or_false]at hq;rcases hq with rfl | rfl | rfl
  ·exact⟨nle (by decide),.inl ⟨_,rfl,by decide⟩⟩
  ·exact⟨nle (by decide),.inl ⟨_,rfl,by omega⟩⟩
  exact⟨nle (by decide),.inr rfl⟩
 have hk:e.kind=4:=by have:=h.kind;omega
 have h5:=zir (h.op hk).2.2;split at hq
 ·simp only[List.mem_cons,List.not_mem_nil,or_false]at hq;rcases hq with rfl | rfl | rfl | rfl
  ·exact⟨nle (by decide),.inl ⟨_,rfl,by omega⟩⟩
  ·exact⟨nle (by decide),.inl ⟨_,rfl,by decide⟩⟩
  ·exact⟨nle (by decide),.inl ⟨_,rfl,by omega⟩⟩
  exact⟨nle (by decide),.inr rfl⟩
 simp only[List.mem_cons,List.not_mem_nil,or_false]at hq;rcases hq with rfl | rfl | rfl | rfl | rfl
 ·exact⟨nle (by decide),.inl ⟨_,rfl,by omega⟩⟩
 ·exact⟨nle (by decide),.inl ⟨_,rfl,h2⟩⟩
 ·exact⟨nle (by decide),.inl ⟨_,rfl,by decide⟩⟩
 ·exact⟨nle (by decide),.inl ⟨_,rfl,by omega⟩⟩
 exact⟨nle (by decide),.inr rfl⟩
theorem zmc {s:Sg}(h:s.id=[]∨q9 s.id=true∧s.key=jb)(hk:s.ok):(qm s).length≤131∧(zfl s.sig).length≤131:=by
 have h1:=zpj h hk.1;have h2:=zt7 s.sig;have h3:=hk.2;omega
theorem zl8 {sub:Bs→Bool}{e:En}(h:Okay sub e)(he:e.ok)(hsub:∀ b,sub b=true→b.length≤2048){N:Nat}(hN:5000≤N):fits N (zd4 e)=true:=by
 refine zf5 (Nat.le_trans (zh6 e) (by omega)) (fun q hq=>?_);obtain⟨h1,⟨s,h2,h3⟩ | h2⟩:=zji h he hsub hq
 ·rw[h2];exact⟨by omega,zew (by omega)⟩
 rw[h2];refine⟨by omega,?_⟩;unfold zd7 fits;rw[(zg4 _).2 (fun j hj=>?_)]
 ·unfold fitsp;have:=h.sgs.2;simp only[List.length_map,List.length_nil];simp;omega
 obtain⟨s,hs,rfl⟩:=List.mem_map.1 hj;have h4:=zmc (h.sg s hs) (he.2.2 s hs);refine zf5 (by simp;omega) (fun q hq=>?_);simp only[List.mem_cons,List.not_mem_nil,or_false]at hq;rcases hq with rfl | rfl
 ·exact⟨by show 2≤N;omega,zew (by omega)⟩
 exact⟨by show 3≤N;omega,zew (by omega)⟩
theorem zku (s:Bs):(ji (pT s)).length≤6 * s.length+2:=by
 unfold pT ji;simp only[show ¬ ((3:Int)=0) by decide,show ¬ ((3:Int)=1) by decide,show ¬ ((3:Int)=2) by decide,if_false,if_true];exact zju s
theorem zl6 (K:Nat):∀ (l:List (Bs × J)) (c:UInt8),(∀ q∈l,q.1.length≤10∧(ji q.2).length≤K)→(ql c l).length≤l.length * (K+64)
 | [],c,_=>by rw[ql];exact Nat.zero_le _
 | (nm,j) :: l,c,h=>by
   obtain⟨h1,h2⟩:=h (nm,j) (by simp);have h3:=zl6 K l 44 (fun q hq=>h q (by simp[hq]));have h4:=zju nm;simp only at h1 h2;rw[ql];simp only[List.length_append,List.length_cons,List.length_nil,Nat.add_mul,Nat.one_mul]at h3 ⊢;omega
theorem ztj {K:Nat}{l:List (Bs × J)}(h:∀ q∈l,q.1.length≤10∧(ji q.2).length≤K):(ji (zbq l)).length≤l.length * (K+64)+2:=by
 have h1:=zl6 K l 123 h;unfold zbq ji;simp only[show ¬ ((5:Int)=0) by decide,show ¬ ((5:Int)=1) by decide,show ¬ ((5:Int)=2) by decide,show ¬ ((5:Int)=3) by decide,show ¬ ((5:Int)=4) by decide,if_false,if_true];split
 ·simp
 simp only[List.length_append,List.length_cons,List.length_nil];omega
theorem zo5 {K:Nat}:∀ (l:List J) (c:UInt8),(∀ j∈l,(ji j).length≤K)→(qk c l).length≤l.length * (K+1)
 | [],c,_=>by rw[qk];exact Nat.zero_le _
 | j :: l,c,h=>by
   have h1:=h j (by simp);have h2:=zo5 l 44 (fun q hq=>h q (by simp[hq]));rw[qk];simp only[List.length_append,List.length_cons,Nat.add_mul,Nat.one_mul]at h2 ⊢;omega
theorem zvi {e:En} {sub:Bs→Bool} (h:Okay sub e) (he:e.ok):(ji (zd7 e.sigs)).length≤30002:=by
 have h1:=zo5 (K:=1706) (e.sigs.map sgJ) 91 (fun j hj=>by
  obtain⟨s,hs,rfl⟩:=List.mem_map.1 hj;have h4:=zmc (h.sg s hs) (he.2.2 s hs);have h5:=zku (qm s);have h6:=zku (zfl s.sig);refine Nat.le_trans (ztj (K:=788) (fun q hq=>?_)) (by simp);simp only[List.mem_cons,List.not_mem_nil,or_false]at hq;rcases hq with rfl | rfl
  ·exact⟨nle (by decide),by simp only;omega⟩
  exact⟨nle (by decide),by simp only;omega⟩)
 have h2:=h.sgs.2;unfold zd7 ji;simp only[show ¬ ((4:Int)=0) by decide,show ¬ ((4:Int)=1) by decide,show ¬ ((4:Int)=2) by decide,show ¬ ((4:Int)=3) by decide,if_false,if_true];rw[List.length_map]at h1;split
 ·simp
 simp only[List.length_append,List.length_cons,List.length_nil];omega
theorem zub {sub:Bs→Bool} {e:En} (h:Okay sub e) (he:e.ok) (hsub:∀ b,sub b=true→b.length≤2048):(zc2 (zd4 e)).length≤200000:=by
 rw[zh5]
 have h1:=ztj (K:=30002) (l:=zl9 e) (fun q hq=>by
  obtain⟨h1,⟨s,h2,h3⟩ | h2⟩:=zji h he hsub hq
  ·rw[h2];have:=zku s;exact⟨h1,by omega⟩
  rw[h2];exact⟨h1,zvi h he⟩)
 have h2:=zh6 e;unfold zd4;omega
end Go.Proofs.YtmgfncjfgkllcaaGreatDoor
