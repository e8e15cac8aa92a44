/-
 An entry's keys,as plain data: they are keys,they rise,and they don't hang on the bytes of its signatures.
-/
import Derived.Test.YtffggpplnjibgaaGreatDoorKKeysOfK
import Derived.Sort.Walk0
namespace Go.Proofs.YtffggpplnjibgaaGreatDoor
set_option linter.unusedVariables false
set_option linter.unusedSimpArgs false
set_option linter.unusedSectionVars false
open Go
variable [OldK]
theorem leT (x y z:Bs)(h:x≤y)(g:y≤z):x≤z:=List.le_trans h g
theorem znl (l:List Bs):(zd4 l).Pairwise (· ≤ ·):=by
 have:=List.pairwise_mergeSort (le:=fun x y:Bs=>decide (x≤y)) (fun a b c h1 h2=>by simpa using leT a b c (by simpa using h1) (by simpa using h2)) (fun a b=>by simpa using List.le_total a b) l;exact this.imp (fun h=>by simpa using h)
theorem zlk (l:List Bs)(x:Bs):x∈zd4 l↔x∈l:=List.mem_mergeSort
theorem zjg (l:List Bs)(x:Bs)(h:x∈Lib.compact l):x∈l:=by
 unfold Lib.compact Lib.compactUpTo at h;obtain⟨i,hi,rfl⟩:=List.mem_map.1 h;obtain⟨hi,-⟩:=List.mem_filter.1 hi;have hi:i<l.length:=List.mem_range.1 hi;have:l.toArray[i]! = l[i]:=by simp[hi]
 rw[this];exact List.getElem_mem hi
theorem zk7 (l:List Bs) (h:l.Pairwise (· ≤ ·)):(Lib.compact l).Pairwise (fun x y=>Op.bytesLess x y=true):=by
 unfold Lib.compact Lib.compactUpTo;rw[List.pairwise_map];have h1:((List.range l.length).filter (Lib.keeps l.toArray)).Pairwise (· < ·):=List.pairwise_lt_range.filter _;refine(List.pairwise_iff_forall_sublist.2 (fun {i j} hs=>?_));have hij:=List.pairwise_iff_forall_sublist.1 h1 hs;have hj:j∈(List.range l.length).filter (Lib.keeps l.toArray):=hs.subset (by simp);obtain⟨hj,hk⟩:=List.mem_filter.1 hj;have hj:j<l.length:=List.mem_range.1 hj;have e1:l.toArray[i]! = l[i]:=by simp[show i<l.length by omega]
 have e2:l.toArray[j]! = l[j]:=by simp[hj]
 have e3:l.toArray[j - 1]! = l[j - 1]:=by simp[show j - 1<l.length by omega]
 rw[e1,e2]
 have hA:l[j]≠l[j - 1]:=fun he=>by
  rw[Lib.keeps_neg (by omega) (by rw[e2,e3];exact he)]at hk;exact Bool.noConfusion hk
 rw[List.pairwise_iff_getElem]at h
 have a1:l[i]≤l[j - 1]:=by
  rcases Nat.lt_or_ge i (j - 1) with g | g
  ·exact h _ _ _ _ g
  have:i=j - 1:=by omega
  subst this;exact List.le_refl _
 have a2:l[j - 1]≤l[j]:=h _ _ _ _ (by omega);rw[Go.Proofs.bytesLess_eq];have a3:l[i]≤l[j]:=leT _ _ _ a1 a2;refine decide_eq_true ?_;refine Classical.byContradiction fun hn=>?_
 have a4:l[j]≤l[i]:=List.not_lt.1 hn;have a5:l[i]=l[j]:=List.le_antisymm a3 a4;apply hA;exact List.le_antisymm (by rw[← a5];exact a1) a2
theorem zeg:∀ (l:List Sg) (last:Bs),qh last l=true→∀ s∈l,s.id=[]∨zbh s.id=true
 | [],_,_,s,hs=>by cases hs
 | a :: r,last,h,s,hs=>by
   unfold qh at h;cases hb:zix last a with
   | true=>rw[hb,if_pos rfl]at h;cases h
   | false =>
     rw[hb,if_neg (by simp)]at h;rcases List.mem_cons.1 hs with rfl | hs
     ·unfold zix at hb;cases hi:s.id with
      | nil=>exact .inl rfl
      | cons c t =>
        rw[hi]at hb;refine .inr ?_;simp at hb;exact hb.2.1
     exact zeg r _ h s hs
theorem zcl {sub:Bs→Bool}{e:En}(h:zae sub e=true):zip sub e=true∧qw e.sigs=true∧zjc (qj e) (za7 e.kind e.sigs)=true:=by
 unfold zae at h;simp only[Bool.and_eq_true]at h;exact h
theorem zk1 {s:Sg}(hok:s.ok)(h:s.id=[]∨zbh s.id=true):zbt (qx s)=true:=by
 unfold qx;rcases h with h | h
 ·rw[if_pos h];exact zfo _ hok.1
 by_cases g:s.id=[]
 ·rw[if_pos g];exact zfo _ hok.1
 rw[if_neg g,zjx];exact h
theorem zhu {e:En} (hok:e.ok) (h:zae zi0 e=true):∀ k∈zac e,zbt k=true:=by
 intro k hk;obtain⟨h1,h2,-⟩:=zcl h;unfold zac at hk;have hk:=(zlk _ _).1 (zjg _ _ hk);rcases List.mem_append.1 hk with hk | hk
 ·obtain⟨s,hs,rfl⟩:=List.mem_map.1 hk;unfold qw at h2;simp only[Bool.and_eq_true]at h2;exact zk1 (hok.2.2 s hs) (zeg _ _ h2.1 s hs)
 unfold zds at hk;split at hk
 ·obtain rfl:=List.mem_singleton.1 hk;exact zdr _ hok.1
 split at hk
 ·rcases List.mem_append.1 hk with hk | hk
  ·obtain⟨x,hx,rfl⟩:=List.mem_map.1 hk;cases hs:q8 e.payload with
   | none=>rw[hs]at hx;cases hx
   | some l=>rw[hs]at hx;exact zdr _ ((zby hs).2 x hx)
  obtain rfl:=List.mem_singleton.1 hk;exact zdr _ (zbs _)
 split at hk
 ·obtain rfl:=List.mem_singleton.1 hk;exact zdr _ (zbs _)
 split at hk
 ·rename_i g1 g3 g2 g4
  rcases List.mem_cons.1 hk with rfl | hk
  ·rw[zjx];unfold zip at h1;rw[if_neg g1,if_neg g2,if_neg g3,if_pos g4]at h1;simp only[Bool.and_eq_true]at h1;exact h1.2.2
  split at hk
  ·cases hk
  obtain rfl:=List.mem_singleton.1 hk;exact zfo _ hok.2.1
 cases hk
theorem zmf (e:En):(zac e).Pairwise (fun x y=>Op.bytesLess x y=true):=zk7 _ (znl _)
theorem zgb {s:Bs}{n:Nat}(h:(zf3 (s.drop n)).isSome=true):s.length≤n+64:=by
 obtain⟨l,hl⟩:=Option.isSome_iff_exists.1 h;obtain⟨h1,h2⟩:=(zbd _ _).1 hl;have h3:=congrArg List.length h1;rw[ze1,h2,List.length_drop]at h3;omega
theorem zmg {s:Bs}(h:zbt s=true):s.length≤71:=by
 unfold zbt at h;split at h
 ·unfold zbh at h;simp only[Bool.and_eq_true,decide_eq_true_eq,List.length_drop]at h;omega
 split at h
 ·have:=zgb h;omega
 split at h
 ·have:=zgb h;omega
 cases h
theorem zht {e:En}(hok:e.ok)(h:zae zi0 e=true):∀ k∈zac e,k.length≤1000000:=fun k hk=>by
 have:=zmg (zhu hok h k hk);omega
theorem zmk (e:En):(zds e).length≤17:=by
 unfold zds;split
 ·simp
 split
 ·rw[List.length_append,List.length_map];cases hs:q8 e.payload with
  | none=>simp
  | some l=>have:=(zby hs).1;simp;omega
 split
 ·simp
 split
 ·split<;>simp
 simp
theorem zk0 {e:En} (h:zae zi0 e=true):(zac e).length≤25:=by
 unfold zac;have h1:=zgk (zd4 (e.sigs.map qx++zds e));rw[zaq,List.length_append,List.length_map]at h1;have h2:=zmk e
 have h3:e.sigs.length≤8:=by
  obtain⟨-,h2,-⟩:=zcl h;unfold qw at h2;simp only[Bool.and_eq_true,decide_eq_true_eq]at h2;exact h2.2.2
 omega
def Sg.put (g:Bs) (s:Sg):Sg:={ s with sig:=g }
def En.put (g:Bs) (e:En):En:={ e with sigs:=e.sigs.map (Sg.put g) }
theorem zgd (g:Bs):∀ (l:List Sg) (last:Bs),qh last (l.map (Sg.put g))=qh last l
 | [],_=>rfl
 | a :: r,last=>by
   have h1:zai (Sg.put g a)=zai a:=rfl;have h2:zix last (Sg.put g a)=zix last a:=rfl;rw[List.map_cons];unfold qh;rw[h1,h2,zgd g r]
theorem zon (g:Bs)(e:En):zjc (qj (e.put g)) (za7 (e.put g).kind (e.put g).sigs)=zjc (qj e) (za7 e.kind e.sigs):=by
 have h:∀ l:List Sg,zc3 l l=true:=zcw;unfold En.put qj;simp only;split
 all_goals (repeat' split)
 all_goals (unfold zjc za7;simp only[h])
theorem zkt (g:Bs) (e:En):zae zi0 (e.put g)=zae zi0 e:=by
 unfold zae;rw[zon]
 have h1:qw (e.put g).sigs=qw e.sigs:=by
  unfold qw En.put;rw[zgd,List.length_map]
 rw[h1];rfl
theorem zkz (g:Bs) (e:En):zac (e.put g)=zac e:=by
 unfold zac
 have h1:(e.put g).sigs.map qx=e.sigs.map qx:=by
  unfold En.put;rw[List.map_map];rfl
 rw[h1];rfl
theorem put_ok {g:Bs}{e:En}(hg:g.length=64)(h:e.ok):(e.put g).ok:=⟨h.1,h.2.1,fun s hs=>by
 obtain⟨t,ht,rfl⟩:=List.mem_map.1 hs
 exact⟨(h.2.2 t ht).1,hg⟩⟩
end Go.Proofs.YtffggpplnjibgaaGreatDoor
