/-
 The walks of keys.signer and of keys.Of at an artifact.
-/
import Derived.Test.YtffggpplnjibgaaGreatDoorKTextsEq
import Derived.Test.YtffggpplnjibgaaGreatDoorKKeysIs
open Go.Lib renaming hid→zi
namespace Go.Proofs.YtffggpplnjibgaaGreatDoor
set_option linter.unusedVariables false
set_option linter.unusedSimpArgs false
set_option linter.unusedSectionVars false
set_option maxRecDepth 100000
set_option maxHeartbeats 1000000
open Go.RowKit Go.Sort
variable [OldK]
def qx (s:Sg):Bs:=if s.id=[] then sKey++za9 s.key else sId++s.id
theorem zmi (s:Sg) (w:World) (hok:s.ok) (hlen:s.id.length≤1000000) :
 Calls Tryz.prog 53 #[.agg s.cells] w fun e w'=>e = .returned (.string ⟨(qx s).toArray⟩)∧Fr NoB w w':=by
 have hR:(w.alloc (.cells s.cells 40)).rangeAt w.heap.size 0 s.cells.toList:=jz (heap_alloc_new w (.cells s.cells 40));have hF:=(Fr.refl (M:=NoB)).alloc (w:=w) (.cells s.cells 40);have hW:w.heap.size<(w.alloc (.cells s.cells 40)).heap.size:=by rw[World.size_alloc];omega
 rw[Sg.list,j7,j7,zck]at hR;obtain⟨c0,cK,-⟩:=hR;obtain⟨R,hB⟩:∃ R,qx s=R:=⟨_,rfl⟩;rw[hB];have hC:=hok.1;obtain⟨cs,hD⟩:∃ cs,s.cells=cs:=⟨_,rfl⟩;rw[hD]at c0 cK hF hW ⊢;clear hD hok;obtain⟨id,hA,sig⟩:=s;simp only at c0 cK hC hlen;go_enter Tryz.func53,Tryz.ntmps53
 go_upto_region 1 with(fail)
 change Code.wp _ _ _ _ (w.alloc (.cells cs 40));obtain⟨W,hE⟩:∃ W,w.alloc (.cells cs 40)=W:=⟨_,rfl⟩;rw[hE]at c0 cK hF hW ⊢;obtain⟨p,hp⟩:∃ p,w.heap.size=p:=⟨_,rfl⟩;rw[hp]at c0 cK hW;rw[hp];clear hE hp;have HF:=zi hF;cases id with
 | cons c r =>
   have hI:(c :: r:Bs).isEmpty=false:=rfl;have HR:Hid (sId++(c :: r)=R):=zi (by rw[← hB];rfl);obtain⟨l,hl⟩:∃ l,(c :: r:Bs)=l:=⟨_,rfl⟩;rw[hl]at c0 hI hlen HR;have HI:=zi (fun V=>zfp l V (by omega));clear hl hB hF cK
   go_wp2_with fail
   refine(HI.out _).mono ?_;rintro e w1 ⟨rfl,rfl⟩
   go_wp2_with fail
   go_ret;exact⟨by rw[HR.out]<;>rfl,HF.out⟩
 | nil =>
   have HR:Hid (sKey++za9 hA=R):=zi (by rw[← hB];rfl);have HI:=zi (fun V=>zpa hA V hC);have hH:W.rangeAt p 1 (Lib.byteCells hA):=cK;have HK:=zi hH;have HZ:=zi (show(Tryz.prog.info? 25).map (·.size)=some (Lib.byteCells hA).length by rw[ql,jj,hC]);clear hB hF cK hH hC
   go_wp2_with((with_reducible refine wpList_load_mid ?_ 25 _ rfl p 1 ?_ (Lib.byteCells hA) (.array 32 5) HK.out j5 ?_ HZ.out ?_);rfl;rfl;rfl)
   refine(HI.out _).mono ?_;rintro e w1 ⟨rfl,hG⟩;have hJ:=zi (HF.out.trans' hG);clear hG
   go_wp2_with fail
   go_ret;exact⟨by rw[HR.out]<;>rfl,hJ.out⟩
theorem zij:(Tryz.prog.info? 9).map (fun i=>(i.zero,i.size,i.bytes))=some (some (.string ⟨#[]⟩),1,16):=by kernel_rfl
end Go.Proofs.YtffggpplnjibgaaGreatDoor
