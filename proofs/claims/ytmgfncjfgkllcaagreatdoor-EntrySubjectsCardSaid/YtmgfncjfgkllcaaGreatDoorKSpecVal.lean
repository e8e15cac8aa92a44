/-
 An entry's value and text (package entry),as plain data.
-/
import Derived.Test.YtmgfncjfgkllcaaGreatDoorKEnAt
import Derived.Test.YtmgfncjfgkllcaaGreatDoorKSpecB64
import Derived.Test.YtmgfncjfgkllcaaGreatDoorKStart5
import Derived.Lib.ValidLaws
open List renaming length_cons→zo,length_append→zq
namespace Go.Proofs.YtmgfncjfgkllcaaGreatDoor
set_option linter.unusedVariables false
set_option linter.unusedSimpArgs false
set_option linter.unusedSectionVars false
def pT (s:Bs):J := .mk 3 0 s [] []
def txP (q:Bs × Bs):Bs × J:=(q.1,pT q.2)
def nBy:Bs:=[98,121]
def zxb:Bs:=[115,105,103]
def za6:Bs:=[115,105,103,115]
def zmb:Bs:=[100,105,103,101,115,116]
def j8:Bs:=[107,105,110,100]
def zft:Bs:=[112,97,121,108,111,97,100]
def zee:Bs:=[116,121,112,101]
def qg:Bs:=[105,100,101,110,116,105,116,121]
def zim:Bs:=[107,101,121]
def nOp:Bs:=[111,112]
def wArt:Bs:=[97,114,116,105,102,97,99,116]
def wEnv:Bs:=[101,110,118,101,108,111,112,101]
def wSta:Bs:=[115,116,97,116,101,109,101,110,116]
def wBin:Bs:=[98,105,110,100,105,110,103]
def wBind:Bs:=[98,105,110,100]
def wRot:Bs:=[114,111,116,97,116,101]
def wRev:Bs:=[114,101,118,111,107,101]
def wOp (k:Int):Bs:=if k=1 then wBind else if k=2 then wRot else if k=3 then wRev else []
def zmf (k:Int):Bs:=if k=1 then wArt else if k=2 then wEnv else if k=3 then wSta else if k=4 then wBin else []
def zcz (l:List (Bs × J)):J := .mk 5 0 [] [] l
def zbi (e:En):List (Bs × Bs) :=
 if e.kind=1 then [(zmb,zdf e.digest),(j8,wArt)]
 else if e.kind=2 then [(j8,wEnv),(zft,zhp e.payload),(zee,e.typ)]
 else if e.kind=3 then [(j8,wSta),(zft,zhp e.payload)]
 else if e.op=3 then [(qg,e.ident),(j8,wBin),(nOp,wOp e.op)]
 else [(qg,e.ident),(zim,zdf e.key),(j8,wBin),(nOp,wOp e.op)]
def sgJ (s:Sg):J:=zcz [(nBy,pT (zal s)),(zxb,pT (zhp s.sig))]
def zf1 (l:List Sg):J := .mk 4 0 [] (l.map sgJ) []
def zpw (e:En):List (Bs × J) :=
 if e.kind=1 then [(zmb,pT (zdf e.digest)),(j8,pT wArt),(za6,zf1 e.sigs)]
 else if e.kind=2 then [(j8,pT wEnv),(zft,pT (zhp e.payload)),(za6,zf1 e.sigs),(zee,pT e.typ)]
 else if e.kind=3 then [(j8,pT wSta),(zft,pT (zhp e.payload)),(za6,zf1 e.sigs)]
 else if e.op=3 then [(qg,pT e.ident),(j8,pT wBin),(nOp,pT (wOp e.op)),(za6,zf1 e.sigs)]
 else [(qg,pT e.ident),(zim,pT (zdf e.key)),(j8,pT wBin),(nOp,pT (wOp e.op)),(za6,zf1 e.sigs)]
def zfx (e:En):J:=zcz (zpw e)
def zli (sub:Bs→Bool) (e:En):Bs × Nat:=if zce sub e then (if 4096<(zeh (zfx e)).length then ([],10) else (zeh (zfx e),0)) else ([],11)
theorem ztw (f:Nat)(s:Sg):jw (f+2) (sgJ s)=sgJ s:=by
 obtain⟨A,hA⟩:∃ A,zal s=A:=⟨_,rfl⟩;obtain⟨B,hB⟩:∃ B,zhp s.sig=B:=⟨_,rfl⟩;unfold sgJ;rw[hA,hB];rfl
theorem zkp (f:Nat) (l:List Sg):jw (f+3) (zf1 l)=zf1 l:=by
 unfold zf1
 have h:(l.map sgJ).map (jw (f+2))=l.map sgJ:=by
  rw[List.map_map];refine List.map_congr_left (fun s _=>?_);exact ztw f s
 show J.mk 4 0 [] ((l.map sgJ).map (jw (f+2))) _=_;rw[h];rfl
theorem zph (i o:Bs)(k:Bs):jw 8 (zcz ([(qg,i),(j8,wBin),(nOp,o),(zim,k)].map txP))=zcz ([(qg,i),(zim,k),(j8,wBin),(nOp,o)].map txP):=rfl
theorem zpi (i o:Bs):jw 8 (zcz ([(qg,i),(j8,wBin),(nOp,o)].map txP))=zcz ([(qg,i),(j8,wBin),(nOp,o)].map txP):=rfl
theorem zrj (g:J)(hg:jw 7 g=g)(a b:Bs):jw 8 (zcz ([(zmb,a),(j8,b)].map txP++[(za6,g)]))=zcz [(zmb,pT a),(j8,pT b),(za6,g)]:=by
 show zcz [_,_,(za6,jw 7 g)]=_;rw[hg];rfl
theorem zri (g:J)(hg:jw 7 g=g)(a b c:Bs):jw 8 (zcz ([(j8,a),(zft,b),(zee,c)].map txP++[(za6,g)]))=zcz [(j8,pT a),(zft,pT b),(za6,g),(zee,pT c)]:=by
 show zcz [_,_,(za6,jw 7 g),_]=_;rw[hg];rfl
theorem zrh (g:J)(hg:jw 7 g=g)(a b:Bs):jw 8 (zcz ([(j8,a),(zft,b)].map txP++[(za6,g)]))=zcz [(j8,pT a),(zft,pT b),(za6,g)]:=by
 show zcz [_,_,(za6,jw 7 g)]=_;rw[hg];rfl
theorem zrg (g:J)(hg:jw 7 g=g)(a b c:Bs):jw 8 (zcz ([(qg,a),(j8,b),(nOp,c)].map txP++[(za6,g)]))=zcz [(qg,pT a),(j8,pT b),(nOp,pT c),(za6,g)]:=by
 show zcz [_,_,_,(za6,jw 7 g)]=_;rw[hg];rfl
theorem zrf (g:J)(hg:jw 7 g=g)(a b c d:Bs):jw 8 (zcz ([(qg,a),(zim,b),(j8,c),(nOp,d)].map txP++[(za6,g)]))=zcz [(qg,pT a),(zim,pT b),(j8,pT c),(nOp,pT d),(za6,g)]:=by
 show zcz [_,_,_,_,(za6,jw 7 g)]=_;rw[hg];rfl
theorem zs7 (e:En):jw 8 (zcz ((zbi e).map txP++[(za6,zf1 e.sigs)]))=zfx e:=by
 have hg:=zkp 4 e.sigs;unfold zfx zpw zbi
 repeat' split
 ·exact zrj _ hg _ _
 ·exact zri _ hg _ _ _
 ·exact zrh _ hg _ _
 ·exact zrg _ hg _ _ _
 exact zrf _ hg _ _ _ _
theorem zs9 (e:En):jw 8 (zfx e)=zfx e:=by
 have hg:=zkp 4 e.sigs;obtain⟨g,hA⟩:∃ g,zf1 e.sigs=g:=⟨_,rfl⟩;have hg:jw 7 g=g:=by rw[← hA];exact hg
 unfold zfx zpw;rw[hA]
 repeat' split
 ·show zcz [_,_,(za6,jw 7 g)]=_;rw[hg];rfl
 ·show zcz [_,_,(za6,jw 7 g),_]=_;rw[hg];rfl
 ·show zcz [_,_,(za6,jw 7 g)]=_;rw[hg];rfl
 ·show zcz [_,_,_,(za6,jw 7 g)]=_;rw[hg];rfl
 show zcz [_,_,_,_,(za6,jw 7 g)]=_;rw[hg];rfl
theorem zkz (e:En):zeh (zfx e)=jz (zfx e):=by
 unfold zeh;rw[zs9]
/-! signs -/
def asc (l:Bs):Bool:=l.all fun c=>decide (c.toNat<128)
theorem zjx:∀ l:Bs,asc l=true→Lib.validD l=true
 | [],_=>rfl
 | c :: l,h=>by
   simp only[asc,List.all_cons,Bool.and_eq_true,decide_eq_true_eq]at h;rw[Lib.validD_cons _ _ h.1];exact zjx l h.2
theorem zvx (a b:Bs):asc (a++b)=(asc a&&asc b):=by simp[asc]
theorem ztu (l:Bs) (h:asc l=true) (n:Nat):(sgn l n).toNat<128:=by
 unfold sgn;rw[List.getD_eq_getElem?_getD];cases hn:l[n]? with
 | none=>decide
 | some x =>
   have:=List.mem_of_getElem? hn;simp only[asc,List.all_eq_true,decide_eq_true_eq]at h;exact h x this
theorem zu3 (n:Nat):(sgn hexes n).toNat<128:=ztu _ (by decide) n
theorem zeg (n:Nat):(sgn sixes n).toNat<128:=ztu _ (by decide) n
theorem zl4:∀ l:Bs,asc (zdf l)=true
 | []=>rfl
 | c :: l=>by
   have h:=zl4 l;unfold asc at h ⊢;simp only[zdf,List.all_cons,Bool.and_eq_true,decide_eq_true_eq];exact⟨zu3 _,zu3 _,h⟩
theorem zq2:∀ l:Bs,asc (b64C l)=true
 | []=>rfl
 | [a]=>by simp only[b64C,asc,List.all_cons,List.all_nil,Bool.and_eq_true,decide_eq_true_eq];exact⟨zeg _,zeg _,trivial⟩
 | [a,b]=>by simp only[b64C,asc,List.all_cons,List.all_nil,Bool.and_eq_true,decide_eq_true_eq];exact⟨zeg _,zeg _,zeg _,trivial⟩
 | a :: b :: c :: l=>by
   have h:=zq2 l;unfold asc at h ⊢;simp only[b64C,List.all_cons,Bool.and_eq_true,decide_eq_true_eq];exact⟨zeg _,zeg _,zeg _,zeg _,h⟩
theorem zpj (l:Bs):asc (zhp l)=true:=by
 unfold zhp;rw[zvx,zq2,Bool.true_and];unfold zm4 asc;simp
theorem znn {s:Bs}(h:za0 s=true):asc s=true:=by
 unfold za0 at h;simp only[Bool.and_eq_true,List.all_eq_true]at h;unfold asc;simp only[List.all_eq_true,decide_eq_true_eq];intro c hc;have:=h.2.2 c hc;unfold zff at this;simp only[Bool.or_eq_true,Bool.and_eq_true,decide_eq_true_eq,beq_iff_eq]at this;omega
theorem zvw {s:Bs}(h:zcd s=true):asc s=true:=by
 unfold zcd at h;simp only[Bool.and_eq_true,List.all_eq_true]at h;unfold asc;simp only[List.all_eq_true,decide_eq_true_eq];intro c hc;have:=h.2.2.1 c hc;unfold zf0 at this;simp only[Bool.and_eq_true,decide_eq_true_eq]at this;omega
theorem zvv:∀ l:Bs,(b64C l).length≤2 * l.length
 | []=>Nat.le_refl _
 | [a]=>by simp[b64C]
 | [a,b]=>by simp[b64C]
 | a :: b :: c :: l=>by
   have:=zvv l;simp only[b64C,zo];omega
theorem zyz (l:Bs):(zhp l).length≤2 * l.length+3:=by
 unfold zhp zm4;rw[zq,List.length_replicate];have:=zvv l;omega
structure Okay (sub:Bs→Bool) (e:En):Prop where
 kind:e.kind=1∨e.kind=2∨e.kind=3∨e.kind=4
 typ:e.kind=2→zcd e.typ=true∧e.payload.length≤2048
 pay:e.kind=3→sub e.payload=true
 op:e.kind=4→1≤e.op∧e.op≤3∧za0 e.ident=true
 sgs:1≤e.sigs.length∧e.sigs.length≤8
 sg:∀ s∈e.sigs,s.id=[]∨za0 s.id=true∧s.key=jd
theorem zrx (l:List Sg):∀ last,zco last l=true→∀ s∈l,s.id=[]∨za0 s.id=true∧s.key=jd:=by
 induction l with
 | nil=>intro _ _ s hs;cases hs
 | cons x l ih =>
   intro last h s hs;unfold zco at h;split at h
   ·cases h
   rename_i hb
   rcases List.mem_cons.1 hs with rfl | hs
   ·unfold zzk at hb;by_cases hi:s.id=[]
    ·exact .inl hi
    right;have hA:s.id.isEmpty=false:=by cases h:s.id with | nil=>exact absurd h hi | cons _ _=>rfl
    rw[hA]at hb;simp at hb;exact hb.2
   exact ih _ h s hs
theorem zje {sub:Bs→Bool} {e:En} (h:zce sub e=true):Okay sub e:=by
 unfold zce at h;simp only[Bool.and_eq_true]at h;obtain⟨h1,h2,-⟩:=h;unfold zfe at h2;simp only[Bool.and_eq_true,decide_eq_true_eq]at h2;unfold zuf at h1;refine⟨?_,?_,?_,?_,h2.2,zrx _ _ h2.1⟩
 ·repeat' split at h1
  all_goals first | (cases h1;done) | omega
 ·intro hk;rw[if_neg (by omega),if_pos hk]at h1;simpa using h1
 ·intro hk;rw[if_neg (by omega),if_neg (by omega),if_pos hk]at h1;exact h1
 intro hk;rw[if_neg (by omega),if_neg (by omega),if_neg (by omega),if_pos hk]at h1;simpa using h1
theorem zs1 {s:Sg}(h:s.id=[]∨za0 s.id=true∧s.key=jd):asc (zal s)=true:=by
 unfold zal;split
 ·rw[zvx,zl4,Bool.and_true];rfl
 rcases h with h | h
 ·contradiction
 exact znn h.1
theorem zhf {s:Bs}(h:asc s=true)(d:Int):j0 d (pT s)=true:=by
 unfold pT j0;simp[zjx s h]
theorem zmm {d:Int}(hd:d<8)(l:List (Bs × J)):j0 d (zcz l)=zao (d+1) [] l:=by
 unfold zcz j0;simp[show ¬ (8≤d) by omega]
theorem j3 {d:Int}{names:List Bs}{nm:Bs}{j:J}{ps:List (Bs × J)}(h1:names.contains nm=false)(h2:asc nm=true)(h3:j0 d j=true)(h4:zao d (names++[nm]) ps=true):zao d names ((nm,j) :: ps)=true:=by
 rw[zao,h1,zjx nm h2,h3,h4];rfl
theorem zcn (d:Int)(names:List Bs):zao d names []=true:=by rw[zao]
theorem zws {s:Sg}(h:s.id=[]∨za0 s.id=true∧s.key=jd)(d:Int)(hd:d<8):j0 d (sgJ s)=true:=by
 unfold sgJ;rw[zmm hd];exact j3 (by decide) (by decide) (zhf (zs1 h) _) (j3 (by decide) (by decide) (zhf (zpj _) _) (zcn _ _))
theorem zko (d:Int) (hd:d<8):∀ l:List Sg,(∀ s∈l,s.id=[]∨za0 s.id=true∧s.key=jd)→za5 d (l.map sgJ)=true
 | [],_=>by rw[List.map_nil,za5]
 | s :: l,h=>by
   rw[List.map_cons,za5,zws (h s (by simp)) d hd,zko d hd l (fun x hx=>h x (by simp[hx]))];rfl
theorem ztt {l:List Sg}(h:∀ s∈l,s.id=[]∨za0 s.id=true∧s.key=jd):j0 1 (zf1 l)=true:=by
 unfold zf1 j0;simp[zko 2 (by omega) l h]
theorem zs5 (k:Int):asc (wOp k)=true:=by
 unfold wOp
 repeat' split
 all_goals decide
theorem ziy {sub:Bs→Bool} {e:En} (h:Okay sub e):j0 0 (zfx e)=true:=by
 have hs:=ztt h.sg;have ht:=fun s (hs:asc s=true)=>zhf hs 1
 unfold zfx;rw[zmm (by omega)];unfold zpw;split
 ·exact j3 (by decide) (by decide) (ht _ (zl4 _)) (j3 (by decide) (by decide) (ht _ (by decide)) (j3 (by decide) (by decide) hs (zcn _ _)))
 split
 ·rename_i hk
  exact j3 (by decide) (by decide) (ht _ (by decide)) (j3 (by decide) (by decide) (ht _ (zpj _)) (j3 (by decide) (by decide) hs (j3 (by decide) (by decide) (ht _ (zvw (h.typ hk).1)) (zcn _ _))))
 split
 ·exact j3 (by decide) (by decide) (ht _ (by decide)) (j3 (by decide) (by decide) (ht _ (zpj _)) (j3 (by decide) (by decide) hs (zcn _ _)))
 have hk:e.kind=4:=by have:=h.kind;omega
 have hi:=znn (h.op hk).2.2;split
 ·exact j3 (by decide) (by decide) (ht _ hi) (j3 (by decide) (by decide) (ht _ (by decide)) (j3 (by decide) (by decide) (ht _ (zs5 _)) (j3 (by decide) (by decide) hs (zcn _ _))))
 exact j3 (by decide) (by decide) (ht _ hi) (j3 (by decide) (by decide) (ht _ (zl4 _)) (j3 (by decide) (by decide) (ht _ (by decide)) (j3 (by decide) (by decide) (ht _ (zs5 _)) (j3 (by decide) (by decide) hs (zcn _ _)))))
/-! sizes -/
theorem ziq (N:Nat)(s:Bs):few N (pT s)=true:=by unfold pT few fewl fewp;simp
theorem zly {N:Nat}{l:List (Bs × J)}(h:l.length≤N)(hl:∀ q∈l,few N q.2=true):few N (zcz l)=true:=by
 unfold zcz few;simp only[List.map_nil,Bool.and_eq_true,decide_eq_true_eq];exact⟨h,by unfold fewl;rfl,zxq l |>.2 hl⟩
theorem zve {N:Nat} (h2:2≤N) (l:List Sg):few N (zf1 l)=true:=by
 unfold zf1 few;simp only[Bool.and_eq_true,decide_eq_true_eq];refine⟨by simp,(zxr _).2 ?_,by unfold fewp;rfl⟩;intro j hj;obtain⟨s,-,rfl⟩:=List.mem_map.1 hj
 exact zly (by simpa using h2) (fun q hq=>by
  simp only[List.mem_cons,List.not_mem_nil,or_false]at hq
  rcases hq with rfl | rfl<;>exact ziq _ _)
theorem zs8 {e:En} {q:Bs × J} (h:q∈zpw e):(∃ s,q.2=pT s)∨q.2=zf1 e.sigs:=by
 unfold zpw at h
 repeat' split at h
 all_goals
  simp only[List.mem_cons,List.not_mem_nil,or_false]at h;rcases h with rfl | rfl | rfl | h
  all_goals first
   | exact .inl ⟨_,rfl⟩
   | exact .inr rfl
   | (rcases h with rfl | rfl<;>first | exact .inl ⟨_,rfl⟩ | exact .inr rfl)
   | (subst h;first | exact .inl ⟨_,rfl⟩ | exact .inr rfl)
theorem zk0 (e:En):(zpw e).length≤5:=by
 unfold zpw
 repeat' split
 all_goals simp
theorem zy5 {N:Nat}(hN:5≤N)(e:En):few N (zfx e)=true:=by
 refine zly (Nat.le_trans (zk0 e) hN) (fun q hq=>?_);rcases zs8 hq with⟨s,h⟩ | h
 ·rw[h];exact ziq _ _
 rw[h];exact zve (by omega) _
theorem zg2 {N:Nat}{s:Bs}(h:s.length≤N):fits N (pT s)=true:=by
 unfold pT fits fitsl fitsp;simp[h]
theorem zip {N:Nat}{l:List (Bs × J)}(h:l.length≤N)(hl:∀ q∈l,q.1.length≤N∧fits N q.2=true):fits N (zcz l)=true:=by
 unfold zcz fits;rw[(zg1 l).2 hl];unfold fitsl;simp[h]
theorem zlm {s:Bs}(h:za0 s=true):s.length≤64:=by
 unfold za0 at h;simp only[Bool.and_eq_true,decide_eq_true_eq]at h;exact h.2.1
theorem zwa {s:Bs}(h:zcd s=true):s.length≤64:=by
 unfold zcd at h;simp only[Bool.and_eq_true,decide_eq_true_eq]at h;exact h.2.1
theorem ztr {s:Sg}(h:s.id=[]∨za0 s.id=true∧s.key=jd)(hk:s.key.length=32):(zal s).length≤68:=by
 unfold zal;split
 ·rw[zq,zgy,hk];decide
 rcases h with h | h
 ·contradiction
 have:=zlm h.1;omega
theorem zyc (k:Int):(wOp k).length≤6:=by
 unfold wOp
 repeat' split
 all_goals decide
theorem nle {nm:Bs}{j:J}(h:nm.length≤10):((nm,j):Bs × J).1.length≤10:=h
theorem zmg {sub:Bs→Bool} {e:En} (h:Okay sub e) (he:e.ok) (hsub:∀ b,sub b=true→b.length≤2048) {q:Bs × J} (hq:q∈zpw e):q.1.length≤10∧((∃ s,q.2=pT s∧s.length≤5000)∨q.2=zf1 e.sigs):=by
 have h1:(zdf e.digest).length≤5000:=by rw[zgy,he.1];omega
 have h2:(zdf e.key).length≤5000:=by rw[zgy,he.2.1];omega
 have h3:=zyc e.op;have h4:=zyz e.payload;unfold zpw at hq;split at hq
 ·simp only[List.mem_cons,List.not_mem_nil,or_false]at hq;rcases hq with rfl | rfl | rfl
  ·exact⟨nle (by decide),.inl ⟨_,rfl,h1⟩⟩
  ·exact⟨nle (by decide),.inl ⟨_,rfl,by decide⟩⟩
  exact⟨nle (by decide),.inr rfl⟩
 split at hq
 ·rename_i hk
  have h5:=h.typ hk;have h6:=zwa h5.1;simp only[List.mem_cons,List.not_mem_nil,or_false]at hq;rcases hq with rfl | rfl | rfl | rfl
  ·exact⟨nle (by decide),.inl ⟨_,rfl,by decide⟩⟩
  ·exact⟨nle (by decide),.inl ⟨_,rfl,by omega⟩⟩
  ·exact⟨nle (by decide),.inr rfl⟩
  exact⟨nle (by decide),.inl ⟨_,rfl,by omega⟩⟩
 split at hq
 ·rename_i hk
  have h5:=hsub _ (h.pay hk);simp only[List.mem_cons,List.not_mem_nil,or_false]at hq;rcases hq with rfl | rfl | rfl
  ·exact⟨nle (by decide),.inl ⟨_,rfl,by decide⟩⟩
  ·exact⟨nle (by decide),.inl ⟨_,rfl,by omega⟩⟩
  exact⟨nle (by decide),.inr rfl⟩
 have hk:e.kind=4:=by have:=h.kind;omega
 have h5:=zlm (h.op hk).2.2;split at hq
 ·simp only[List.mem_cons,List.not_mem_nil,or_false]at hq;rcases hq with rfl | rfl | rfl | rfl
  ·exact⟨nle (by decide),.inl ⟨_,rfl,by omega⟩⟩
  ·exact⟨nle (by decide),.inl ⟨_,rfl,by decide⟩⟩
  ·exact⟨nle (by decide),.inl ⟨_,rfl,by omega⟩⟩
  exact⟨nle (by decide),.inr rfl⟩
 simp only[List.mem_cons,List.not_mem_nil,or_false]at hq;rcases hq with rfl | rfl | rfl | rfl | rfl
 ·exact⟨nle (by decide),.inl ⟨_,rfl,by omega⟩⟩
 ·exact⟨nle (by decide),.inl ⟨_,rfl,h2⟩⟩
 ·exact⟨nle (by decide),.inl ⟨_,rfl,by decide⟩⟩
 ·exact⟨nle (by decide),.inl ⟨_,rfl,by omega⟩⟩
 exact⟨nle (by decide),.inr rfl⟩
theorem zp0 {s:Sg}(h:s.id=[]∨za0 s.id=true∧s.key=jd)(hk:s.ok):(zal s).length≤131∧(zhp s.sig).length≤131:=by
 have h1:=ztr h hk.1;have h2:=zyz s.sig;have h3:=hk.2;omega
theorem zpv {sub:Bs→Bool}{e:En}(h:Okay sub e)(he:e.ok)(hsub:∀ b,sub b=true→b.length≤2048){N:Nat}(hN:5000≤N):fits N (zfx e)=true:=by
 refine zip (Nat.le_trans (zk0 e) (by omega)) (fun q hq=>?_);obtain⟨h1,⟨s,h2,h3⟩ | h2⟩:=zmg h he hsub hq
 ·rw[h2];exact⟨by omega,zg2 (by omega)⟩
 rw[h2];refine⟨by omega,?_⟩;unfold zf1 fits;rw[(zjn _).2 (fun j hj=>?_)]
 ·unfold fitsp;have:=h.sgs.2;simp only[List.length_map,List.length_nil];simp;omega
 obtain⟨s,hs,rfl⟩:=List.mem_map.1 hj;have h4:=zp0 (h.sg s hs) (he.2.2 s hs);refine zip (by simp;omega) (fun q hq=>?_);simp only[List.mem_cons,List.not_mem_nil,or_false]at hq;rcases hq with rfl | rfl
 ·exact⟨by show 2≤N;omega,zg2 (by omega)⟩
 exact⟨by show 3≤N;omega,zg2 (by omega)⟩
theorem zoc (s:Bs):(jz (pT s)).length≤6 * s.length+2:=by
 unfold pT jz;simp only[show ¬ ((3:Int)=0) by decide,show ¬ ((3:Int)=1) by decide,show ¬ ((3:Int)=2) by decide,if_false,if_true];exact zmu s
theorem zpu (K:Nat):∀ (l:List (Bs × J)) (c:UInt8),(∀ q∈l,q.1.length≤10∧(jz q.2).length≤K)→(zak c l).length≤l.length * (K+64)
 | [],c,_=>by rw[zak];exact Nat.zero_le _
 | (nm,j) :: l,c,h=>by
   obtain⟨h1,h2⟩:=h (nm,j) (by simp);have h3:=zpu K l 44 (fun q hq=>h q (by simp[hq]));have h4:=zmu nm;simp only at h1 h2;rw[zak];simp only[zq,zo,List.length_nil,Nat.add_mul,Nat.one_mul]at h3 ⊢;omega
theorem zyb {K:Nat}{l:List (Bs × J)}(h:∀ q∈l,q.1.length≤10∧(jz q.2).length≤K):(jz (zcz l)).length≤l.length * (K+64)+2:=by
 have h1:=zpu K l 123 h;unfold zcz jz;simp only[show ¬ ((5:Int)=0) by decide,show ¬ ((5:Int)=1) by decide,show ¬ ((5:Int)=2) by decide,show ¬ ((5:Int)=3) by decide,show ¬ ((5:Int)=4) by decide,if_false,if_true];split
 ·simp
 simp only[zq,zo,List.length_nil];omega
theorem zs4 {K:Nat}:∀ (l:List J) (c:UInt8),(∀ j∈l,(jz j).length≤K)→(zaj c l).length≤l.length * (K+1)
 | [],c,_=>by rw[zaj];exact Nat.zero_le _
 | j :: l,c,h=>by
   have h1:=h j (by simp);have h2:=zs4 l 44 (fun q hq=>h q (by simp[hq]));rw[zaj];simp only[zq,zo,Nat.add_mul,Nat.one_mul]at h2 ⊢;omega
theorem z0o {e:En} {sub:Bs→Bool} (h:Okay sub e) (he:e.ok):(jz (zf1 e.sigs)).length≤30002:=by
 have h1:=zs4 (K:=1706) (e.sigs.map sgJ) 91 (fun j hj=>by
  obtain⟨s,hs,rfl⟩:=List.mem_map.1 hj;have h4:=zp0 (h.sg s hs) (he.2.2 s hs);have h5:=zoc (zal s);have h6:=zoc (zhp s.sig);refine Nat.le_trans (zyb (K:=788) (fun q hq=>?_)) (by simp);simp only[List.mem_cons,List.not_mem_nil,or_false]at hq;rcases hq with rfl | rfl
  ·exact⟨nle (by decide),by simp only;omega⟩
  exact⟨nle (by decide),by simp only;omega⟩)
 have h2:=h.sgs.2;unfold zf1 jz;simp only[show ¬ ((4:Int)=0) by decide,show ¬ ((4:Int)=1) by decide,show ¬ ((4:Int)=2) by decide,show ¬ ((4:Int)=3) by decide,if_false,if_true];rw[List.length_map]at h1;split
 ·simp
 simp only[zq,zo,List.length_nil];omega
theorem zy4 {sub:Bs→Bool} {e:En} (h:Okay sub e) (he:e.ok) (hsub:∀ b,sub b=true→b.length≤2048):(zeh (zfx e)).length≤200000:=by
 rw[zkz]
 have h1:=zyb (K:=30002) (l:=zpw e) (fun q hq=>by
  obtain⟨h1,⟨s,h2,h3⟩ | h2⟩:=zmg h he hsub hq
  ·rw[h2];have:=zoc s;exact⟨h1,by omega⟩
  rw[h2];exact⟨h1,z0o h he⟩)
 have h2:=zk0 e;unfold zfx;omega
end Go.Proofs.YtmgfncjfgkllcaaGreatDoor
