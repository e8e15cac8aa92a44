/-
 Maps keyed by texts or by arrays of bytes,as plain functions: look-up,store,range,copy's reading. Nothing here speaks of the program.
-/
import Derived.Maps.RangeWalk
import Derived.Maps.OwnSet
import Derived.Maps.OwnOps
import Derived.DeepKeys4
import Derived.Test.YtmgfncjfgkllcaaGreatDoorKUtf
import Derived.Lib.UnsafeStr
import Derived.Test.YtmgfncjfgkllcaaGreatDoorKEnAt
namespace Go.Proofs.YtmgfncjfgkllcaaGreatDoor
set_option linter.unusedVariables false
set_option linter.unusedSimpArgs false
set_option linter.unusedSectionVars false
section
open Go.Maps (Keyed IsMap)
def zu6 (v:Value):Option (DataW Value × List MemPlace):=some (.held v,[])
theorem zm2 {v:Value}{d:DataW Value}{ps:List MemPlace}(h:zu6 v=some (d,ps)):d = .held v∧ps=[]:=by
 unfold zu6 at h;simp only[Option.some.injEq,Prod.mk.injEq]at h;exact⟨h.1.symm,h.2.symm⟩
def upd {α:Type} (f:Bs→α) (x:Bs) (v:α):Bs→α:=fun y=>if y=x then v else f y
theorem zk2 {α:Type}(f:Bs→α)(x:Bs)(v:α):upd f x v x=v:=if_pos rfl
theorem ziz {α:Type}(f:Bs→α){x y:Bs}(v:α)(h:y≠x):upd f x v y=f y:=if_neg h
structure KeyB (P:Program) (k:TypeId) where
 kv:Bs→Value
 dom:Bs→Prop
 law:Keyed P k
 key:∀ x,dom x→keyOf P k (kv x)=some (.string x)
structure DM {P:Program} {k:TypeId} (K:KeyB P k) (D:DataW Value) (M:Bs→Option Value):Prop where
 isMap:IsMap D
 has:∀ x,K.dom x→Maps.has D (.string x)=(M x).isSome
 at':∀ x z,K.dom x→D.atKey (.string x) (.held z) = .held ((M x).getD z)
 dom:∀ l,Maps.has D l=true→∃ x,K.dom x∧l = .string x
section
variable {P:Program} {k:TypeId} {K:KeyB P k} {D:DataW Value} {M:Bs→Option Value}
theorem DM.empty:DM K (.map []) (fun _=>none) where
 isMap:=Maps.isMap_empty
 has _ _:=rfl
 at' _ _ _:=rfl
 dom l h:=by cases h
theorem DM.put (h:DM K D M) {x:Bs} (hx:K.dom x) (v:Value):DM K (D.put (.string x) (.held v)) (upd M x (some v)) where
 isMap:=h.isMap.put _ _
 has y hy:=by
  by_cases e:y=x
  ·subst e;rw[Maps.has_put_same h.isMap (K.law.key (K.key y hx)),zk2];rfl
  rw[Maps.has_put_other (fun e'=>e (by injection e')),ziz _ _ e];exact h.has y hy
 at' y z hy:=by
  by_cases e:y=x
  ·subst e;rw[Maps.atKey_put_same h.isMap (K.law.key (K.key y hx)),zk2];rfl
  rw[Maps.atKey_put_other (fun e'=>e (by injection e')),ziz _ _ e];exact h.at' y z hy
 dom l hl:=by
  by_cases e:l = .string x
  ·exact⟨x,hx,e⟩
  rw[Maps.has_put_other e]at hl;exact h.dom l hl
end
def MapB {P:Program} {k:TypeId} (K:KeyB P k) (w:World) (b n:Nat) (M:Bs→Option Value):Prop:=∃ D,w.ownsMap P k zu6 b n D∧DM K D M
section
variable {P:Program} {k t e:TypeId} {K:KeyB P k} {w:World} {b n:Nat} {M:Bs→Option Value}
theorem MapB.made (w:World):MapB K (w.alloc (.map #[] 0)) w.heap.size 0 (fun _=>none):=⟨_,World.ownsMap_made w P k zu6,DM.empty⟩
theorem MapB.mono (h:MapB K w b n M){n':Nat}(hn:n≤n'):MapB K w b n' M:=by
 obtain⟨D,h1,h2⟩:=h;exact⟨D,h1.mono hn,h2⟩
theorem MapB.lt (h:MapB K w b n M):b<w.heap.size:=by
 obtain⟨D,h1,h2⟩:=h;exact h1.lt
theorem MapB.same {w':World}(h:MapB K w b n M)(hb:w'.heap[b]? = w.heap[b]?):MapB K w' b n M:=by
 obtain⟨D,⟨es,hA,h0,h1⟩,h2⟩:=h;exact⟨D,⟨es,hA,hb.trans h0,h1⟩,h2⟩
theorem MapB.look (h:MapB K w b n M)(ht:P.underlying t=some (.map k e)){z:Value}(hz:(zeroValue e).run P w = .ok z w){x:Bs}(hx:K.dom x) :
 (Instr.lookup t (.map (some b)) (K.kv x) false).run P w = .ok ((M x).getD z) w:=by
 obtain⟨D,h1,h2⟩:=h;obtain⟨v,ps,hr,hv⟩:=h1.lookup K.law ht hz (zd := .held z) (zp:=[]) rfl (K.key x hx);obtain⟨hd,-⟩:=zm2 hv;rw[h2.at' x z hx]at hd
 injection hd with hd
 rw[hr,← hd]
theorem MapB.store (h:MapB K w b n M)(ht:P.underlying t=some (.map k e))(hn:n<maxLen){x:Bs}(hx:K.dom x)(v:Value) :
 ∃ w',(Instr.mapUpdate t (.map (some b)) (K.kv x) v).run P w = .ok () w'∧MapB K w' b (n+1) (upd M x (some v))∧w.grownBy w' (some b):=by
 obtain⟨D,h1,h2⟩:=h;obtain⟨w',hr,ho,hg⟩:=h1.update K.law ht hn (K.key x hx) (val:=v) (d := .held v) (ps:=[]) rfl;exact⟨w',hr,⟨_,ho,h2.put hx v⟩,hg⟩
end
def RangeB {P:Program} {k:TypeId} (K:KeyB P k) (w:World) (b r n:Nat) (M:Bs→Option Value) (left:Bs→Bool) (cnt:Nat):Prop :=
 ∃ D lf,w.ranges P k zu6 b r n D lf cnt∧DM K D M∧(∀ x,K.dom x→lf (.string x)=left x)∧∀ l,lf l=true→∃ x,K.dom x∧l = .string x
section
variable {P:Program} {k t e:TypeId} {K:KeyB P k} {w:World} {b r n:Nat} {M:Bs→Option Value} {left:Bs→Bool} {cnt:Nat}
theorem RangeB.map (h:RangeB K w b r n M left cnt):MapB K w b n M:=by
 obtain⟨D,lf,h1,h2,-⟩:=h;exact⟨D,h1.owns,h2⟩
theorem RangeB.lt (h:RangeB K w b r n M left cnt):r<w.heap.size:=by
 obtain⟨D,lf,h1,-⟩:=h;exact h1.lt
theorem RangeB.same {w':World}(h:RangeB K w b r n M left cnt)(hb:w'.heap[b]? = w.heap[b]?)(hr:w'.heap[r]? = w.heap[r]?):RangeB K w' b r n M left cnt:=by
 obtain⟨D,lf,⟨es,hB,hA,hC,c0,h0,h1,h2,h3,h4,h5⟩,h6⟩:=h;exact⟨D,lf,⟨es,hB,hA,hC,c0,hb.trans h0,h1,h2,h3,hr.trans h4,h5⟩,h6⟩
theorem MapB.range (h:MapB K w b n M)(ht:P.underlying t=some (.map k e)) :
 ∃ w',(Instr.range t (.map (some b))).run P w = .ok (.pointer (some ⟨w.heap.size,0,none⟩)) w'∧(∃ cnt,RangeB K w' b w.heap.size n M (fun x=>(M x).isSome) cnt)∧w.grownBy w' none∧w'.heap.size=w.heap.size+1:=by
 obtain⟨D,h1,h2⟩:=h;obtain⟨w',hr,hg,h3,h4⟩:=h1.range K.law ht;exact⟨w',hr,⟨_,D,_,hg,h2,h2.has,h2.dom⟩,h3,h4⟩
theorem RangeB.next (h:RangeB K w b r n M left cnt) (ty:TypeId) :
 (cnt=0∧(∀ x,K.dom x→left x=false)∧(Instr.next (.pointer (some ⟨r,0,none⟩)) false ty).run P w = .ok (.tuple #[.bool false]) w) ∨
 ∃ x v w' cnt',K.dom x∧left x=true∧M x=some v∧(Instr.next (.pointer (some ⟨r,0,none⟩)) false ty).run P w = .ok (.tuple #[.bool true,K.kv x,v]) w' ∧
  RangeB K w' b r n M (upd left x false) cnt'∧cnt'<cnt∧w.grownBy w' (some r)∧w'.heap.size=w.heap.size∧(Instr.entry (.pointer (some ⟨r,0,none⟩))).run P w' = .ok (.tuple #[K.kv x,v]) w':=by
 obtain⟨D,lf,h1,h2,h3,h4⟩:=h;rcases h1.next K.law ty with⟨h0,hl,hrun⟩ | ⟨key,v,kl,y,w',cnt',hkey,hlk,hv,hat,hrun,hrg,hlt,hgr,hsz,hen⟩
 ·exact .inl ⟨h0,fun x hx=>by rw[← h3 x hx];exact hl _,hrun⟩
 obtain⟨x,hx,rfl⟩:=h4 kl hlk;obtain rfl:=K.law.inj hkey (K.key x hx);have hh:Maps.has D (.string x)=true:=Maps.has_true_of_atKey hat
 have hm:M x=some v:=by
  have e1:=h2.has x hx;rw[hh]at e1;obtain⟨u,hu⟩:=Option.isSome_iff_exists.1 e1.symm;have e2:=h2.at' x v hx;rw[hat,hu]at e2;obtain⟨hd,-⟩:=zm2 (v:=v) (d:=y.1) (ps:=y.2) (by simpa using hv);rw[hd]at e2
  injection e2 with e2
  rw[hu,e2];rfl
 refine .inr ⟨x,v,w',cnt',hx,by rw[← h3 x hx];exact hlk,hm,hrun,⟨D,_,hrg,h2,fun z hz=>?_,fun l hl=>?_⟩,hlt,hgr,hsz,hen⟩
 ·by_cases e:z=x
  ·subst e;simp only[zk2];rw[WideAt.sameKey_self (K.law.key (K.key z hx))];simp
  rw[ziz _ _ e];show(lf (.string z) && !(Lit.string z).sameKey (.string x))=left z;rw[Maps.sameKey_ne (fun e'=>e (by injection e')),h3 z hz];simp
 simp only[Bool.and_eq_true]at hl;exact h4 l hl.1
end
end
section
structure Chg where
 pos:Int
 has:Bool
 key:Bs
def Chg.zero:Chg:=⟨0,false,jd⟩
structure Tb where
 hist:Bs→List Chg
 life:Bs→Int
def Tb.new:Tb:=⟨fun _=>[],fun _=>0⟩
def z2b (l:List Chg):Chg:=l.getLast?.getD Chg.zero
def Tb.last (t:Tb) (n:Bs):Chg:=z2b (t.hist n)
def zya:Bs:=List.replicate 64 0
def zyh (e:En):Sg:=⟨e.ident,jd,zya⟩
def z0u (e:En):Sg:=⟨[],e.key,zya⟩
def z17 (e:En):List Sg:=if e.op=1 then [z0u e] else if e.op=2 then [zyh e,z0u e] else [zyh e]
def z13:List Sg→List Sg
 | [a,b]=>if Op.bytesLess (zal b) (zal a) then [b,a] else [a,b]
 | l=>l
def zyj:List Sg→List Sg→Bool
 | [],[]=>true
 | a :: l,b :: m=>zal a==zal b&&zyj l m
 | _,_=>false
def pBy (e:En) (want:List Sg):Bool:=zyj e.sigs (z13 want)
def z02 (sub:Bs→Bool) (t:Tb) (e:En):Nat :=
 if zce sub e=false∨e.kind≠4 then 11
 else if (t.last e.ident).has≠decide (e.op≠1)∨(e.op≠3∧t.life e.key≠0)∨pBy e (z17 e)=false then 8 else 0
def z2k (e:En) (p:Int):Chg:=if e.op=3 then ⟨p,false,jd⟩ else ⟨p,true,e.key⟩
def Tb.came (t:Tb) (e:En) (p:Int):Tb :=
 let l1:=if (t.last e.ident).has then upd t.life (t.last e.ident).key 2 else t.life
 ⟨upd t.hist e.ident (t.hist e.ident++[z2k e p]),if e.op=3 then l1 else upd l1 e.key 1⟩
def Tb.take (sub:Bs→Bool) (t:Tb) (e:En) (p:Int):Tb:=if z02 sub t e=0 then t.came e p else t
def Tb.right (t:Tb):Prop:=∀ n,(t.last n).has=true→t.life (t.last n).key≠0
structure OnceSt where
 t:Tb
 times:Bs→Int
 gone:Bs→Bool
def OnceSt.new:OnceSt:=⟨Tb.new,fun _=>0,fun _=>false⟩
def OnceSt.ok (s:OnceSt):Prop:=s.t.right∧(∀ k,s.t.life k=0→s.times k=0)∧∀ k,s.gone k=true→s.t.life k=2
def OnceSt.step (sub:Bs→Bool) (s:OnceSt) (e:En) (p:Int):OnceSt :=
 if z02 sub s.t e=0 then ⟨s.t.came e p,if e.op=3 then s.times else upd s.times e.key (s.times e.key+1),if (s.t.last e.ident).has then upd s.gone (s.t.last e.ident).key true else s.gone⟩ else s
end
end Go.Proofs.YtmgfncjfgkllcaaGreatDoor
