/-
 The short digest (package sum),as plain data: as the program's code has it.
-/
import Derived.Test.YtffggpplnjibgaaGreatDoorKSpecEntry
import Derived.Laws.BitsAllLaws
import Derived.Test.YtffggpplnjibgaaGreatDoorKConcat
import Derived.Test.YtffggpplnjibgaaGreatDoorKOwn
import Derived.Great.BuildSlice
import Derived.Great.Walk
open Go.Lib renaming hid→zi,byteCells→zj
open Go.World renaming size_alloc→zm
open Or renaming inl→jc
open Option.some renaming inj→je
open Go.Value renaming int→jf
open Go.IntKind renaming u8→jg
namespace Go.Proofs.YtffggpplnjibgaaGreatDoor
set_option linter.unusedVariables false
set_option linter.unusedSimpArgs false
set_option linter.unusedSectionVars false
set_option maxRecDepth 100000
set_option maxHeartbeats 4000000
section
def zdn (x n:Nat):Nat:=x / 2 ^ n ||| x * 2 ^ (32 - n) % 4294967296
def trn:Nat→Nat × Nat × Nat
 | 0=>(2,13,22)
 | 1=>(6,11,25)
 | 2=>(7,18,3)
 | _=>(17,19,10)
def zjd (k x:Nat):Nat:=(zdn x (trn k).1 ^^^ zdn x (trn k).2.1) ^^^ (if 1<k then x / 2 ^ (trn k).2.2 else zdn x (trn k).2.2)
theorem zbj {x n:Nat}(h:x<4294967296):zdn x n<4294967296:=by
 unfold zdn;have h1:x / 2 ^ n<2 ^ 32:=Nat.lt_of_le_of_lt (Nat.div_le_self _ _) h;have h2:x * 2 ^ (32 - n) % 4294967296<2 ^ 32:=Nat.mod_lt _ (by decide);exact Nat.or_lt_two_pow h1 h2
theorem zko {k x:Nat}(h:x<4294967296):zjd k x<4294967296:=by
 unfold zjd;have h1:∀ n,zdn x n<2 ^ 32:=fun n=>zbj h
 have h2:∀ n,x / 2 ^ n<2 ^ 32:=fun n=>Nat.lt_of_le_of_lt (Nat.div_le_self _ _) h
 refine Nat.xor_lt_two_pow (Nat.xor_lt_two_pow (h1 _) (h1 _)) ?_;split
 ·exact h2 _
 exact h1 _
def za0 (c:Bs):Nat:=c.foldl (fun x b=>x * 256 % 4294967296 ||| b.toNat) 0
theorem zh4 (c:Bs):za0 c<4294967296:=by
 unfold za0
 have:∀ (l:Bs) (x:Nat),x<4294967296→l.foldl (fun x b=>x * 256 % 4294967296 ||| b.toNat) x<4294967296:=by
  intro l
  induction l with
  | nil=>intro x h;exact h
  | cons b l ih =>
    intro x h;refine ih _ ?_;have h1:x * 256 % 4294967296<2 ^ 32:=Nat.mod_lt _ (by decide);have h2:b.toNat<2 ^ 32:=Nat.lt_of_lt_of_le b.toNat_lt (by decide);exact Nat.or_lt_two_pow h1 h2
 exact this c 0 (by decide)
def za9 (n:Nat):Nat→Bs→List Bs
 | 0,_=>[]
 | m+1,l=>l.take n :: za9 n m (l.drop n)
theorem zdv (n m:Nat)(l:Bs):(za9 n m l).length=m:=by
 induction m generalizing l with
 | zero=>rfl
 | succ m ih=>simp[za9,ih]
theorem ze8 (n m:Nat) (l:Bs) (i:Nat) (h:i<m):(za9 n m l)[i]? = some ((l.drop (i * n)).take n):=by
 induction m generalizing l i with
 | zero=>omega
 | succ m ih =>
   cases i with
   | zero=>simp[za9]
   | succ i =>
     simp only[za9,List.getElem?_cons_succ];rw[ih _ _ (by omega),List.drop_drop]
     congr 3
     rw[Nat.add_mul];omega
def znf (w:List Nat):Nat:=(((zjd 3 (w.getD (w.length - 2) 0)+w.getD (w.length - 7) 0) % 4294967296+zjd 2 (w.getD (w.length - 15) 0)) % 4294967296+w.getD (w.length - 16) 0) % 4294967296
def zcv (w:List Nat):Nat→List Nat
 | 0=>w
 | n+1=>zcv w n++[znf (zcv w n)]
theorem zf6 (w:List Nat)(n:Nat):(zcv w n).length=w.length+n:=by
 induction n with
 | zero=>rfl
 | succ n ih=>simp[zcv,ih];omega
theorem zt3 (w:List Nat):znf w<4294967296:=Nat.mod_lt _ (by decide)
theorem zkf (w:List Nat) (h:∀ x∈w,x<4294967296) (n:Nat):∀ x∈zcv w n,x<4294967296:=by
 induction n with
 | zero=>exact h
 | succ n ih =>
   intro x hx;rcases List.mem_append.1 hx with hx | hx
   ·exact ih x hx
   obtain rfl:x=znf (zcv w n):=by simpa using hx
   exact zt3 _
structure Wk where
 a:Nat
 b:Nat
 c:Nat
 d:Nat
 e:Nat
 f:Nat
 g:Nat
 h:Nat
def Wk.list (s:Wk):List Nat:=[s.a,s.b,s.c,s.d,s.e,s.f,s.g,s.h]
def Wk.lt (s:Wk):Prop:=s.a<4294967296∧s.b<4294967296∧s.c<4294967296∧s.d<4294967296∧s.e<4294967296∧s.f<4294967296∧s.g<4294967296∧s.h<4294967296
def zke (s:Wk) (k x:Nat):Nat:=((((s.h+zjd 1 s.e) % 4294967296+(s.e &&& s.f ||| (4294967295 - s.e) &&& s.g)) % 4294967296+k) % 4294967296+x) % 4294967296
def zpe (s:Wk):Nat:=(zjd 0 s.a+(s.a &&& s.b ||| s.a &&& s.c ||| s.b &&& s.c)) % 4294967296
def Wk.step (s:Wk) (k x:Nat):Wk:=⟨(zke s k x+zpe s) % 4294967296,s.a,s.b,s.c,(s.d+zke s k x) % 4294967296,s.e,s.f,s.g⟩
theorem Wk.step_lt {s:Wk}(h:s.lt)(k x:Nat):(s.step k x).lt:=by
 obtain⟨h1,h2,h3,h4,h5,h6,h7,h8⟩:=h;exact⟨Nat.mod_lt _ (by decide),h1,h2,h3,Nat.mod_lt _ (by decide),h5,h6,h7⟩
def Wk.add (s t:Wk):Wk:=⟨(s.a+t.a) % 4294967296,(s.b+t.b) % 4294967296,(s.c+t.c) % 4294967296,(s.d+t.d) % 4294967296,(s.e+t.e) % 4294967296,(s.f+t.f) % 4294967296,(s.g+t.g) % 4294967296,(s.h+t.h) % 4294967296⟩
theorem Wk.add_lt (s t:Wk):(s.add t).lt:=by
 refine⟨?_,?_,?_,?_,?_,?_,?_,?_⟩<;>exact Nat.mod_lt _ (by decide)
def zf7 (s:Wk):List Nat→List Nat→Wk
 | k :: ks,x :: xs=>zf7 (s.step k x) ks xs
 | _,_=>s
def zbf (ks:List Nat) (s:Wk) (p:Bs):Wk:=s.add (zf7 s ks (zcv ((za9 4 16 p).map za0) 48))
def zqd (l:Bs):Bs:=l++[128]++List.replicate ((119 - l.length % 64) % 64) 0++(List.range 8).map fun i=>UInt8.ofNat (l.length * 8 / 2 ^ (8 * (7 - i)))
theorem zoe (l:Bs):(zqd l).length=64 * ((l.length+72) / 64):=by
 simp[zqd];omega
def zco (x:Nat):Bs:=[UInt8.ofNat (x / 2 ^ 24),UInt8.ofNat (x / 2 ^ 16),UInt8.ofNat (x / 2 ^ 8),UInt8.ofNat x]
def kTab:List Nat:=[4794697086780616226,8158064640168781261,13096744586834688815,16840607885511220156,4131703408338449720,6480981068601479193,10538285296894168987,12329834152419229976,15566598209576043074,1334009975649890238,2608012711638119052,6128411473006802146,8268148722764581231,9286055187155687089,11230858885718282805,13951009754708518548,16472876342353939154,17275323862435702243,1135362057144423861,2597628984639134821,3308224258029322869,5365058923640841347,6679025012923562964,8573033837759648693,10970295158949994411,12119686244451234320,12683024718118986047,13788192230050041572,14330467153632333762,15395433587784984357,489312712824947311,1452737877330783856,2861767655752347644,3322285676063803686,5560940570517711597,5996557281743188959,7280758554555802590,8532644243296465576,9350256976987008742,10552545826968843579,11727347734174303076,12113106623233404929,14000437183269869457,14369950271660146224,15101387698204529176,15463397548674623760,17586052441742319658,1182934255886127544,1847814050463011016,2177327727835720531,2830643537854262169,3796741975233480872,4115178125766777443,5681478168544905931,6601373596472566643,7507060721942968483,8399075790359081724,8693463985226723168,9568029438360202098,10144078919501101548,10430055236837252648,11840083180663258601,13761210420658862357,14299343276471374635,14566680578165727644,15097957966210449927,16922976911328602910,17689382322260857208,500013540394364858,748580250866718886,1242879168328830382,1977374033974150939,2944078676154940804,3659926193048069267,4368137639120453308,4836135668995329356,5532061633213252278,6448918945643986474,6902733635092675308,7801388544844847127]
def kShort:List Nat:=(kTab.take 64).map (· / 4294967296)
def rTab:List Nat:=[7640891576956012808,13503953896175478587,4354685564936845355,11912009170470909681,5840696475078001361,11170449401992604703,2270897969802886507,6620516959819538809]
def wk0:Wk:=⟨1779033703,3144134277,1013904242,2773480762,1359893119,2600822924,528734635,1541459225⟩
def zrm (l:Bs):Wk:=(za9 64 ((l.length+72) / 64) (zqd l)).foldl (zbf kShort) wk0
def zak (l:Bs):Bs:=(zrm l).list.flatMap zco
theorem zdw (l:Bs):(zak l).length=32:=rfl
end
section
open Go.RowKit Go.Shelf
variable [OldK]
def zc4 (tv:Value) (s:Wk):Array Value:=#[.int .i64 32,tv,.int .u32 s.a,.int .u32 s.b,.int .u32 s.c,.int .u32 s.d,.int .u32 s.e,.int .u32 s.f,.int .u32 s.g,.int .u32 s.h,.int .i64 2,.int .i64 13,.int .i64 22,.int .i64 6,.int .i64 11,.int .i64 25,.int .i64 7,.int .i64 18,.int .i64 3,.int .i64 17,.int .i64 19,.int .i64 10,.int .i64 8]
theorem zy1 (x n:Nat)(hx:x<4294967296):bits .or .u32 ((x:Int) / 2 ^ n) (IntKind.u32.wrap ((x:Int) * 2 ^ (32 - n)))=((zdn x n:Nat):Int):=by
 have h1:x / 2 ^ n<4294967296:=Nat.lt_of_le_of_lt (Nat.div_le_self _ _) hx;have h2:x * 2 ^ (32 - n) % 4294967296<4294967296:=Nat.mod_lt _ (by decide);have e1:((x:Int) / 2 ^ n)=((x / 2 ^ n:Nat):Int):=by rw[Int.natCast_ediv,Int.natCast_pow];rfl
 have e2:((x:Int) * 2 ^ (32 - n) % 4294967296)=((x * 2 ^ (32 - n) % 4294967296:Nat):Int):=by rw[Int.natCast_emod,Int.natCast_mul,Int.natCast_pow];rfl
 rw[IntKind.wrap_u32',e1,e2,u32_or_nat _ _ h1 h2];rfl
theorem zxa (b x n:Nat) (w:World) (h0:w.cell? ⟨b,0,none⟩=some (.int .i64 32)) (hx:x<4294967296) (hn:n≤31) :
 Calls Tryz.prog 254 #[.pointer (some ⟨b,0,none⟩),.int .u32 x,.int .i64 n] w fun e w'=>e = .returned (.int .u32 (zdn x n))∧w'=w.drew:=by
 have hq:=zy1 x n hx;have hi:IntKind.i64.wrap (32 - (n:Int))=32 - (n:Int):=by rw[IntKind.wrap_i64];omega
 have hp:(0:Int)≤32 - (n:Int):=by omega
 have hp2:32 - (n:Int)≤32:=by omega
 have hp3:(n:Int)≤32:=by omega
 have hp4:(32 - (n:Int)).toNat=32 - n:=by omega
 clear hx hn;go_enter Tryz.func254,Tryz.ntmps254
 go_upto_region 1 with(fail)
 refine wp_region_held_drew (S:=fun V=>V=w.drew) (by kernel_rfl) rfl (fun hB=>?_);simp only[qV]
 iterate 13
  refine qt (v:=?_) rfl (jc ⟨by rfl,?_⟩) hB ?_;rotate_left
  ·intro W hC;obtain rfl:=hC
   try simp only[qQ]
   go_simp
   try rw[if_neg (by omega)]
   try with_reducible rfl
  try simp only[Act.put,qP]
 refine wpAnyH_done (by kernel_rfl) ?_ _;clear hB
 go_wp2_with fail
 go_ret;exact⟨rfl,rfl⟩
theorem zqe (a b:Nat)(ha:a<4294967296)(hb:b<4294967296):bits .xor .u32 (a:Int) (b:Int)=((a ^^^ b:Nat):Int):=u32_xor_nat a b ha hb
theorem zt8 (b x k:Nat) (hk:k<4) (tv:Value) (s:Wk) (w:World) (hS:w.heap[b]? = some (.cells (zc4 tv s) 162 (0,0))) (hx:x<4294967296) :
 Calls Tryz.prog 212 #[.pointer (some ⟨b,0,none⟩),.int .u32 x,.int .i64 k] w fun e w'=>e = .returned (.int .u32 (zjd k x))∧Fr NoB w w':=by
 have h0:w.cell? ⟨b,0,none⟩=some (.int .i64 32):=by simp[World.cell?,hS,zc4]
 obtain ⟨a1,a2,a3,hA,h1,h2,h3,hU,hQ,ha⟩:∃ a1 a2 a3:Nat,trn k=(a1,a2,a3)∧w.cell? ⟨b,10+k * 3,none⟩=some (.int .i64 a1)∧w.cell? ⟨b,10+k * 3+1,none⟩=some (.int .i64 a2)∧w.cell? ⟨b,10+k * 3+2,none⟩=some (.int .i64 a3)∧a1≤31∧a2≤31∧a3≤31:=by
  match k,hk with
  | 0,_=>exact⟨2,13,22,rfl,by simp[World.cell?,hS,zc4],by simp[World.cell?,hS,zc4],by simp[World.cell?,hS,zc4],by omega,by omega,by omega⟩
  | 1,_=>exact⟨6,11,25,rfl,by simp[World.cell?,hS,zc4],by simp[World.cell?,hS,zc4],by simp[World.cell?,hS,zc4],by omega,by omega,by omega⟩
  | 2,_=>exact⟨7,18,3,rfl,by simp[World.cell?,hS,zc4],by simp[World.cell?,hS,zc4],by simp[World.cell?,hS,zc4],by omega,by omega,by omega⟩
  | 3,_=>exact⟨17,19,10,rfl,by simp[World.cell?,hS,zc4],by simp[World.cell?,hS,zc4],by simp[World.cell?,hS,zc4],by omega,by omega,by omega⟩
  | n+4,h=>omega
 have hZ:=ju hS
 have hL:w.rangeAt b (10+k * 3) [.int .i64 a1,.int .i64 a2,.int .i64 a3]:=fun j v hv=>by
  match j,hv with
  | 0,hv=>obtain rfl:=je hv;exact h1
  | 1,hv=>obtain rfl:=je hv;exact h2
  | 2,hv=>obtain rfl:=je hv;exact h3
 have hG:=fun(V:World) n (hn:n≤31) (hF:Fr NoB w V)=>zxa b x n V (Fr.cell hF h0) hx hn
 obtain⟨R,hR⟩:∃ R,zjd k x=R:=⟨_,rfl⟩;rw[hR];unfold zjd at hR;rw[hA]at hR;simp only at hR;have hV:R=(zdn x a1 ^^^ zdn x a2) ^^^ (if 1<k then x / 2 ^ a3 else zdn x a3):=hR.symm;have hM:=zbj (n:=a1) hx;have hJ:=zbj (n:=a2) hx;have hO:=zbj (n:=a3) hx;have hP:x / 2 ^ a3<4294967296:=Nat.lt_of_le_of_lt (Nat.div_le_self _ _) hx;have hH:=zqe _ _ hM hJ;have hN:zdn x a1 ^^^ zdn x a2<4294967296:=Nat.xor_lt_two_pow (n:=32) hM hJ;have hk3:(k:Int)<4:=by omega
 have hk0:(0:Int)≤(k:Int):=by omega
 have Hturn:=zi hG;have HL:=zi hL;have hX:=zi hV;have Hx:=zi (And.intro hH (And.intro hN (And.intro hO hP)));clear hG hL hV hR hA h1 h2 h3 hH hN hM hJ hO hP hS h0 hx;go_enter Tryz.func212,Tryz.ntmps212
 go_upto_region 2 with((with_reducible refine wpList_load_mid rfl 156 _ rfl b (10+k * 3) rfl [.int .i64 a1,.int .i64 a2,.int .i64 a3] (.array 3 3) HL.out Tryz.underlying156 rfl (by kernel_rfl) ?_))
 have hF:=(Fr.refl (M:=NoB)).alloc (w:=w) (.cells #[.int .i64 a1,.int .i64 a2,.int .i64 a3] 156);have hT:=heap_alloc_new w (.cells #[.int .i64 a1,.int .i64 a2,.int .i64 a3] 156);change Code.wp _ _ _ _ (w.alloc (.cells #[.int .i64 a1,.int .i64 a2,.int .i64 a3] 156));obtain⟨W,hW⟩:∃ V,w.alloc (.cells #[.int .i64 a1,.int .i64 a2,.int .i64 a3] 156)=V:=⟨_,rfl⟩;rw[hW]at hF hT ⊢;obtain⟨q,hq⟩:∃ x,w.heap.size=x:=⟨_,rfl⟩;rw[hq]at hT ⊢;have q0:W.cell? ⟨q,0,none⟩=some (.int .i64 a1):=by simp[World.cell?,hT]
 have q1:W.cell? ⟨q,1,none⟩=some (.int .i64 a2):=by simp[World.cell?,hT]
 have q2:W.cell? ⟨q,2,none⟩=some (.int .i64 a3):=by simp[World.cell?,hT]
 have HF:=zi hF;clear hW hq hT hF hZ
 go_wp2_with fail
 refine(Hturn.out _ _ ha HF.out).mono ?_;rintro e w1 ⟨rfl,rfl⟩;have HT:=zi (fun(V:World) n (hn:n≤31) (hF:Fr NoB W V)=>Hturn.out V n hn (HF.out.trans' hF));have hH:=Hx.out.1;by_cases hI:1<k
 ·have hb:bits .xor .u32 ((zdn x a1 ^^^ zdn x a2:Nat):Int) ((x:Int) / 2 ^ a3)=(R:Int):=by
   obtain⟨-,h2,h3,h4⟩:=Hx.out;have h5:=hX.out;rw[if_pos hI]at h5;rw[h5,show((x:Int) / 2 ^ a3)=((x / 2 ^ a3:Nat):Int) by rw[Int.natCast_ediv,Int.natCast_pow];rfl];exact zqe _ _ h2 h4
  have h3i:(a3:Int)≤32:=by omega
  have hY:decide ((1:Int)<(k:Int))=true:=decide_eq_true (by omega);clear hI
  go_upto_region 5 with(fail)
  refine wp_region_held_drew (S:=fun V=>Hid (Fr NoB W V)) (by kernel_rfl) (zi (Fr.refl.drew.drew)) (fun hB=>?_);simp only[qV]
  iterate 4
   refine qt (v:=?_) rfl (jc ⟨by rfl,?_⟩) hB ?_;rotate_left
   ·intro W hC;have hE:=Fr.cell hC.out q0;have hD:=Fr.cell hC.out q1
    try simp only[qQ]
    go_simp
    try rw[if_neg (by omega)]
    try with_reducible rfl
   try simp only[Act.put,qP]
  refine qi (i:=5) (v:=?_) rfl (jc ⟨by rfl,?_⟩) hB ?_;rotate_left
  ·intro W hC;have hE:=Fr.cell hC.out q0;have hD:=Fr.cell hC.out q1
   try simp only[qQ]
   go_simp
   try rw[if_neg (by omega)]
   try with_reducible rfl
  try simp only[Act.put,qP]
  refine qi (i:=6) (v:=?_) rfl (jc ⟨by rfl,?_⟩) hB ?_;rotate_left
  ·intro W hC;have hE:=Fr.cell hC.out q0;have hD:=Fr.cell hC.out q1
   try simp only[qQ]
   go_simp
   try rw[if_neg (by omega)]
   try with_reducible rfl
  try simp only[Act.put,qP]
  refine qi (i:=7) (v:=?_) rfl (jc ⟨by rfl,?_⟩) hB ?_;rotate_left
  ·intro W hC;have hE:=Fr.cell hC.out q0;have hD:=Fr.cell hC.out q1
   try simp only[qQ]
   go_simp
   try rw[if_neg (by omega)]
   try with_reducible rfl
  try simp only[Act.put,qP]
  refine qi (i:=8) (v:=?_) rfl (jc ⟨by rfl,?_⟩) hB ?_;rotate_left
  ·intro W hC;have hE:=Fr.cell hC.out q0;have hD:=Fr.cell hC.out q1
   try simp only[qQ]
   go_simp
   try rw[if_neg (by omega)]
   try with_reducible rfl
  try simp only[Act.put,qP]
  refine qi (i:=11) (v:=?_) rfl (jc ⟨by rfl,?_⟩) hB ?_;rotate_left
  ·intro W hC;have hE:=Fr.cell hC.out q0;have hD:=Fr.cell hC.out q1
   try simp only[qQ]
   go_simp
   try rw[if_neg (by omega)]
   try with_reducible rfl
  try simp only[Act.put,qP]
  refine qr (i:=4) (by kernel_rfl) rfl (fun K hK=>?_)
  try simp only[qQ]
  go_simp;refine(HT.out _ _ hU hB.out).mono ?_;rintro r w2 ⟨rfl,rfl⟩;refine hK.out _ _ (zi hB.out.drew) (fun hB=>?_);clear hK K
  try simp only[Act.put,qP]
  refine qr (i:=9) (by kernel_rfl) rfl (fun K hK=>?_)
  try simp only[qQ]
  go_simp;refine(HT.out _ _ hQ hB.out).mono ?_;rintro r w2 ⟨rfl,rfl⟩;refine hK.out _ _ (zi hB.out.drew) (fun hB=>?_);clear hK K
  try simp only[Act.put,qP]
  iterate 3
   refine qt (v:=?_) rfl (jc ⟨by rfl,?_⟩) hB ?_;rotate_left
   ·intro W hC;have hE:=Fr.cell hC.out q0;have hD:=Fr.cell hC.out q1
    try simp only[qQ]
    go_simp
    try rw[if_neg (by omega)]
    try with_reducible rfl
   try simp only[Act.put,qP]
  refine wpAnyH_done (by kernel_rfl) ?_ _;have HG:=zi hB.out;clear hB
  go_wp2_with fail
  go_ret;exact⟨rfl,HF.out.trans' HG.out⟩
 have hb:bits .xor .u32 ((zdn x a1 ^^^ zdn x a2:Nat):Int) ((zdn x a3:Nat):Int)=(R:Int):=by
  obtain⟨-,h2,h3,h4⟩:=Hx.out;have h5:=hX.out;rw[if_neg hI]at h5;rw[h5];exact zqe _ _ h2 h3
 have hY:decide ((1:Int)<(k:Int))=false:=decide_eq_false (by omega);clear hI
 go_upto_region 5 with(fail)
 refine wp_region_held_drew (S:=fun V=>Hid (Fr NoB W V)) (by kernel_rfl) (zi (Fr.refl.drew.drew)) (fun hB=>?_);simp only[qV]
 iterate 4
  refine qt (v:=?_) rfl (jc ⟨by rfl,?_⟩) hB ?_;rotate_left
  ·intro W hC;have hE:=Fr.cell hC.out q0;have hD:=Fr.cell hC.out q1
   try simp only[qQ]
   go_simp
   try rw[if_neg (by omega)]
   try with_reducible rfl
  try simp only[Act.put,qP]
 refine qi (i:=5) (v:=?_) rfl (jc ⟨by rfl,?_⟩) hB ?_;rotate_left
 ·intro W hC;have hE:=Fr.cell hC.out q0;have hD:=Fr.cell hC.out q1
  try simp only[qQ]
  go_simp
  try rw[if_neg (by omega)]
  try with_reducible rfl
 try simp only[Act.put,qP]
 refine qi (i:=6) (v:=?_) rfl (jc ⟨by rfl,?_⟩) hB ?_;rotate_left
 ·intro W hC;have hE:=Fr.cell hC.out q0;have hD:=Fr.cell hC.out q1
  try simp only[qQ]
  go_simp
  try rw[if_neg (by omega)]
  try with_reducible rfl
 try simp only[Act.put,qP]
 refine qi (i:=7) (v:=?_) rfl (jc ⟨by rfl,?_⟩) hB ?_;rotate_left
 ·intro W hC;have hE:=Fr.cell hC.out q0;have hD:=Fr.cell hC.out q1
  try simp only[qQ]
  go_simp
  try rw[if_neg (by omega)]
  try with_reducible rfl
 try simp only[Act.put,qP]
 refine qi (i:=8) (v:=?_) rfl (jc ⟨by rfl,?_⟩) hB ?_;rotate_left
 ·intro W hC;have hE:=Fr.cell hC.out q0;have hD:=Fr.cell hC.out q1
  try simp only[qQ]
  go_simp
  try rw[if_neg (by omega)]
  try with_reducible rfl
 try simp only[Act.put,qP]
 refine qi (i:=11) (v:=?_) rfl (jc ⟨by rfl,?_⟩) hB ?_;rotate_left
 ·intro W hC;have hE:=Fr.cell hC.out q0;have hD:=Fr.cell hC.out q1
  try simp only[qQ]
  go_simp
  try rw[if_neg (by omega)]
  try with_reducible rfl
 try simp only[Act.put,qP]
 refine qr (i:=4) (by kernel_rfl) rfl (fun K hK=>?_)
 try simp only[qQ]
 go_simp;refine(HT.out _ _ hU hB.out).mono ?_;rintro r w2 ⟨rfl,rfl⟩;refine hK.out _ _ (zi hB.out.drew) (fun hB=>?_);clear hK K
 try simp only[Act.put,qP]
 refine qr (i:=9) (by kernel_rfl) rfl (fun K hK=>?_)
 try simp only[qQ]
 go_simp;refine(HT.out _ _ hQ hB.out).mono ?_;rintro r w2 ⟨rfl,rfl⟩;refine hK.out _ _ (zi hB.out.drew) (fun hB=>?_);clear hK K
 try simp only[Act.put,qP]
 iterate 3
  refine qt (v:=?_) rfl (jc ⟨by rfl,?_⟩) hB ?_;rotate_left
  ·intro W hC;have hE:=Fr.cell hC.out q0;have hD:=Fr.cell hC.out q1
   try simp only[qQ]
   go_simp
   try rw[if_neg (by omega)]
   try with_reducible rfl
  try simp only[Act.put,qP]
 refine wpAnyH_done (by kernel_rfl) ?_ _;have HG:=zi hB.out;clear hB
 go_wp2_with fail
 go_ret;exact⟨rfl,HF.out.trans' HG.out⟩
end
section
open Go.RowKit Go.Shelf
variable [OldK]
theorem zv5 {x n:Nat}(hn:n≤31):x / 2 ^ n+x * 2 ^ (32 - n) % 4294967296=x / 2 ^ n+x % 2 ^ n * 2 ^ (32 - n):=by
 have h:(4294967296:Nat)=2 ^ n * 2 ^ (32 - n):=by rw[← Nat.pow_add,show n+(32 - n)=32 by omega]
 rw[h,Nat.mul_mod_mul_right]
theorem zxj {x n:Nat}(hx:x<4294967296)(hn:n≤31):x / 2 ^ n+x * 2 ^ (32 - n) % 4294967296=zdn x n:=by
 have h:(4294967296:Nat)=2 ^ (32 - n) * 2 ^ n:=by rw[← Nat.pow_add,show 32 - n+n=32 by omega]
 have hb:x / 2 ^ n<2 ^ (32 - n):=Nat.div_lt_of_lt_mul (by rw[Nat.mul_comm,← h];exact hx);have h2:=Nat.shiftLeft_add_eq_or_of_lt (i:=32 - n) (b:=x / 2 ^ n) hb (x % 2 ^ n);have h3:=zv5 (x:=x) hn;have h4:x * 2 ^ (32 - n) % 4294967296=x % 2 ^ n * 2 ^ (32 - n):=by omega
 unfold zdn;rw[h4];rw[Nat.shiftLeft_eq]at h2;rw[Nat.add_comm,h2,Nat.or_comm]
theorem ztx {a b:Nat} (ha:a<4294967296) (hb:b<4294967296) (h:a &&& b=0):a+b=a ||| b:=by
 have h1:BitVec.ofNat 32 a &&& BitVec.ofNat 32 b=0#32:=by
  apply BitVec.eq_of_toNat_eq;rw[BitVec.toNat_and,BitVec.toNat_ofNat,BitVec.toNat_ofNat,Nat.mod_eq_of_lt ha,Nat.mod_eq_of_lt hb,h];rfl
 have h2:=BitVec.add_eq_or_of_and_eq_zero _ _ h1;have h3:=congrArg BitVec.toNat h2;have h4:a ||| b<2 ^ 32:=Nat.or_lt_two_pow ha hb
 rw[BitVec.toNat_add,BitVec.toNat_or,BitVec.toNat_ofNat,BitVec.toNat_ofNat,Nat.mod_eq_of_lt (show a<2 ^ 32 from ha),Nat.mod_eq_of_lt (show b<2 ^ 32 from hb)]at h3;have h5:=BitVec.toNat_add_of_and_eq_zero h1;rw[BitVec.toNat_add,BitVec.toNat_ofNat,BitVec.toNat_ofNat,Nat.mod_eq_of_lt (show a<2 ^ 32 from ha),Nat.mod_eq_of_lt (show b<2 ^ 32 from hb)]at h5;omega
theorem zyv {e f g:Nat} (he:e<4294967296) (hf:f<4294967296) (hg:g<4294967296):(e &&& f)+((4294967295 - e) &&& g)=(e &&& f ||| (4294967295 - e) &&& g):=by
 refine ztx (Nat.and_lt_two_pow (n:=32) _ hf) (Nat.and_lt_two_pow (n:=32) _ hg) ?_
 have h1:e &&& (4294967295 - e)=0:=by
  have h2:(~~~(BitVec.ofNat 32 e)).toNat=4294967295 - e:=by
   rw[BitVec.toNat_not,BitVec.toNat_ofNat,Nat.mod_eq_of_lt (show e<2 ^ 32 from he)]
  have h3:(BitVec.ofNat 32 e &&& ~~~(BitVec.ofNat 32 e))=0#32:=BitVec.and_not_self _;have h4:=congrArg BitVec.toNat h3;rw[BitVec.toNat_and,h2,BitVec.toNat_ofNat,Nat.mod_eq_of_lt (show e<2 ^ 32 from he)]at h4;exact h4
 rw [show(e &&& f) &&& ((4294967295 - e) &&& g)=(e &&& (4294967295 - e)) &&& (f &&& g) by
  apply Nat.eq_of_testBit_eq;intro i;simp only[Nat.testBit_and]
  cases e.testBit i<;>cases f.testBit i<;>cases(4294967295 - e).testBit i<;>cases g.testBit i<;>rfl]
 rw[h1,Nat.zero_and]
theorem zvk (x b:Nat) (hb:b<256):x * 256 % 4294967296+b=(x * 256 % 4294967296 ||| b)∧x * 256 % 4294967296+b<4294967296:=by
 have h:x * 256 % 4294967296=x % 16777216 * 256:=by
  rw[show(4294967296:Nat)=16777216 * 256 from rfl,Nat.mul_mod_mul_right]
 have h2:=Nat.shiftLeft_add_eq_or_of_lt (i:=8) (b:=b) hb (x % 16777216);rw[Nat.shiftLeft_eq]at h2;rw[h];exact⟨h2,by omega⟩
theorem zdm (x n:Nat)(w:World)(hx:x<4294967296)(hn:n≤31) :
 Calls Tryz.prog 127 #[.int .u32 x,.int .u64 n] w fun e w'=>e = .returned (.int .u32 (zdn x n))∧w=w':=by
 have hq:=zxj hx hn;have hB:=zbj (n:=n) hx;have hi:IntKind.u64.wrap (32 - (n:Int))=32 - (n:Int):=by unfold IntKind.wrap;simp[IntKind.signed,IntKind.bits];omega
 have hp:(0:Int)≤32 - (n:Int):=by omega
 have hp4:(32 - (n:Int)).toNat=32 - n:=by omega
 have e1:((x:Int) / 2 ^ n)=((x / 2 ^ n:Nat):Int):=by rw[Int.natCast_ediv,Int.natCast_pow];rfl
 have e2:((x:Int) * 2 ^ (32 - n) % 4294967296)=((x * 2 ^ (32 - n) % 4294967296:Nat):Int):=by rw[Int.natCast_emod,Int.natCast_mul,Int.natCast_pow];rfl
 have HX:=zi (And.intro hq (And.intro hB (And.intro e1 e2)));clear hq hB e1 e2 hx hn;go_enter Tryz.func127,Tryz.ntmps127
 go_wp2_with fail
 go_ret;obtain⟨hq,hB,e1,e2⟩:=HX.out;refine⟨?_,rfl⟩;show Ending.returned (.int .u32 (((x:Int) / 2 ^ n+(x:Int) * 2 ^ (32 - n) % 4294967296) % 4294967296))=_;rw[e1,e2,← Int.natCast_add,hq,show((zdn x n:Nat):Int) % 4294967296=(zdn x n:Nat) by omega]
def tlC (L k:Nat):Array Value:=((List.range 8).map fun j=>Value.int .u8 (((if 7 - k≤j then UInt8.ofNat (L * 8 / 2 ^ (8 * (7 - j))) else 0:UInt8).toNat:Nat):Int)).toArray
def tlB (L:Nat):Bs:=(List.range 8).map fun i=>UInt8.ofNat (L * 8 / 2 ^ (8 * (7 - i)))
theorem zk7 (L:Nat):(tlC L 7).toList=zj (tlB L):=by
 unfold tlC tlB zj;rw[List.toList_toArray,List.map_map];apply List.map_congr_left;intro j hj;simp
theorem zn8 (L:Nat):(#[jf jg 0,jf jg 0,jf jg 0,jf jg 0,jf jg 0,jf jg 0,jf jg 0,jf jg 0]:Array Value).setIfInBounds 7 (.int .u8 ((L:Int) % 32 * 8))=tlC L 0:=by
 have h:((UInt8.ofNat (L * 8 / 2 ^ (8 * (7 - 7)))).toNat:Int)=(L:Int) % 32 * 8:=by
  simp only[Nat.sub_self,Nat.mul_zero,Nat.pow_zero,Nat.div_one,UInt8.toNat_ofNat'];omega
 unfold tlC;rw[← h];rfl
theorem zn9 (L k:Nat) (hk:k<7) (v:Value) (hv:v = .int .u8 ((L / 32 / 256 ^ k % 256:Nat):Int)):(tlC L k).setIfInBounds (6 - k) v=tlC L (k+1):=by
 apply Array.ext';rw[Array.toList_setIfInBounds];unfold tlC;apply List.ext_getElem?;intro j;rw[List.getElem?_set]
 have hB:∀ n,L * 8 / 2 ^ (8 * (n+1))=L / 32 / 256 ^ n:=fun n=>by
  rw[show 2 ^ (8 * (n+1))=8 * 32 * 256 ^ n by rw[Nat.pow_mul,Nat.pow_succ,Nat.mul_comm],← Nat.div_div_eq_div_mul,← Nat.div_div_eq_div_mul,Nat.mul_div_cancel _ (by decide)]
 by_cases hj:j<8
 ·by_cases hC:6 - k=j
  ·rw[if_pos hC,if_pos (by rw[hC];simpa using hj)];simp only[List.getElem?_map,List.getElem?_range hj,Option.map_some,Option.some.injEq];rw[if_pos (by omega),hv];rw[show 8 * (7 - j)=8 * (k+1) by omega,hB k]
   congr 1
  rw[if_neg hC];simp only[List.getElem?_map,List.getElem?_range hj,Option.map_some]
  congr 3
  by_cases h7:7 - k≤j
  ·rw[if_pos h7,if_pos (by omega)]
  rw[if_neg h7,if_neg (by omega)]
 rw[if_neg (by omega),List.getElem?_eq_none (by simpa using hj),List.getElem?_eq_none (by simpa using hj)]
theorem zxs (W:World):(Instr.makeSlice 24 (.int .i64 8) (.int .i64 8)).run Tryz.prog W = .ok (.slice (some ⟨W.heap.size,0,none⟩) 8 8) (W.alloc (.cells #[jf jg 0,jf jg 0,jf jg 0,jf jg 0,jf jg 0,jf jg 0,jf jg 0,jf jg 0] 5)):=by kernel_rfl
theorem zm0 (S:Nat→Prop) (l:Bs) (v:Value) (w:World) (hv:SB S l v w) (hnil:∀ n c,v = .slice none n c→c=0) (hlen:l.length≤1000000) :
 Calls Tryz.prog 126 #[v,.int .i64 64,.int .i64 8] w fun e w'=>(∃ v',e = .returned v'∧OB w.heap.size (zqd l) v' w')∧Fr NoB w w':=by
 obtain⟨i0,hI,hN,hM,hJ⟩:=info_parts zdj;have AM:OB w.heap.size [] (.slice (some ⟨w.heap.size,0,none⟩) 0 0) (w.alloc (.cells #[] 5)):=World.ownsRow_made w #[] 0 (Nat.le_refl _) (Nat.zero_le _) rfl;have hb:=zi AM;obtain⟨K,hK⟩:∃ K,(119 - l.length % 64) % 64=K:=⟨_,rfl⟩;have hK64:K<64:=by omega
 have Hv:=zi hv;have HK:=zi hK;obtain⟨a,cp,AK,hcp,hE⟩:=hv
 have hH:∀ ad,a=some ad→∀ j u,(zj l)[j]? = some u→(w.alloc (.cells #[] 5)).cell? (ad.add j)=some u:=fun ad ha j u hj=>by
  have AQ:l≠[]:=fun h=>by rw[h]at hj;simp[zj]at hj
  obtain⟨b,o,c',e1,-,-,hbw,hf⟩:=Hv.out.cellsAt AQ;rw[AK,ha]at e1
  injection e1 with e1
  injection e1 with e1
  subst e1;unfold zj at hj;rw[List.getElem?_map]at hj;cases hq:l[j]? with
  | none=>rw[hq]at hj;cases hj
  | some y =>
    rw[hq]at hj;obtain rfl:=je hj;rw[Addr.add_lit];exact Lib.cell?_alloc_some _ (hf j y hq)
 have Hnews:=zi hH;have Hnil:=zi hnil;clear AM hK hH hnil;subst AK;go_enter Tryz.func126,Tryz.ntmps126
 go_upto_region 1 with(fail)
 cases a with
 | none =>
   have AL:l=[]:=by
    rcases hE with h | ⟨b,o,cs,T,f,h,-⟩
    ·exact h
    cases h
   obtain rfl:=Hnil.out _ _ rfl;have h5:=zi AL;clear hE Hnil Hnews AL
   go_wp2_with(at_builtin;refine zck ?_)
   refine zi ?_;refine zdr rfl _ _ 24 rfl w.heap.size 5 i0 1 Tryz.underlying24 hI (.slice (some ⟨w.heap.size,0,none⟩) l.length 0) l.length (zj l) (by show Value.slice (some ⟨w.heap.size,0,none⟩) 0 0=_;rw[h5.out];rfl) (by rw[h5.out];exact hb.out) (by show Value.slice none l.length 0 = .slice none 0 0;rw[h5.out];rfl) ?_;have hZ:Fr (fun k _=>w.heap.size≤k) w (w.alloc (.cells #[] 5)):=Fr.refl.alloc _;obtain⟨w1,AJ⟩:∃ z,w.alloc (.cells #[] 5)=z:=⟨_,rfl⟩;rw[AJ]at hb hZ ⊢;have hY:=zi hZ;have hU:Hid (OB w.heap.size l (.slice (some ⟨w.heap.size,0,none⟩) l.length 0) w1):=zi (by rw[h5.out];exact hb.out);clear AJ hZ hb;have h4:=zi (hU.out.fr (Fr.refl (M:=NoB).alloc (.cells #[.int .u8 128] 5)) (fun _ _ _ _ h=>h));have h9:=hY.out.size
   go_wp2_with(at_builtin;refine zck ?_)
   refine zi ?_;refine wpList_append_own _ rfl _ _ 24 rfl w.heap.size 5 i0 (jf jg 0) 1 1 Tryz.underlying24 hI hN hM hJ rfl (by decide) (.slice (some ⟨w.heap.size,0,none⟩) (List.length l) 0) (List.length l) _ rfl h4.out ⟨w1.heap.size,0,none⟩ 1 1 (zj [128]) rfl rfl (q6 w1 _ (zj [128]) _ rfl) (fun u hu=>qv _ _ hu) (by unfold maxLen;omega) (by omega) (by rw[zm];omega) ?_;intro v2 w2 hC hB _;obtain⟨ho,ht⟩:=hU.out.push (news:=[128]) (Fr.refl.alloc _) hC hB;have hy:Hid (OB w.heap.size (l++[128]++List.replicate 0 0) v2 w2):=zi (by simpa using ho);have h3:=zi (hY.out.trans' ht);clear hC hB ho ht h4 h9 hU hY
   go_wp2_with fail
   go_loopg [7] (K+1) (fun gf vo wr=>∃ k:Nat,k≤K∧k+gf=K+1∧Hid (OB w.heap.size (l++[128]++List.replicate k 0) vo wr)∧Hid (Fr (fun k _=>w.heap.size≤k) w wr))
   case atStart=>exact⟨0,by omega,by omega,hy,h3⟩
   case round =>
    clear hy h3;obtain⟨k,hk,AR,HO,HF⟩:=hrel;have hD:(l++[128]++List.replicate k (0:UInt8)).length=(List.length l)+1+k:=by simp;omega
    obtain⟨X,hX⟩:∃ X,l++[128]++List.replicate k (0:UInt8)=X:=⟨_,rfl⟩;have hP:l++[128]++List.replicate (k+1) (0:UInt8)=X++[0]:=by rw[← hX,List.replicate_succ',List.append_assoc];simp
    rw[hX]at HO hD;obtain⟨a2,c2,h6⟩:=HO.out.form;subst h6;have AO:=HF.out.size;have hp:=HK.out;have AN:X.length≤2000000:=by omega
    by_cases hd:k<K
    ·have hm:(((X.length:Int)+8) % 64 != 0)=true:=by rw[hD];simp;omega
     have AC:((X.length:Int)+8) % 64≠0:=by simpa using hm
     have HX:=zi hP;have Hlk:=zi hD;have HA:=zi (HO.out.fr (Fr.refl (M:=NoB).alloc (.cells #[jf jg 0] 5)) (fun _ _ _ _ h=>h));clear hX hP hp hD
     go_wp2_with(at_builtin;refine zck ?_)
     refine zi ?_;refine wpList_append_own _ rfl _ _ 24 rfl w.heap.size 5 i0 (jf jg 0) 1 1 Tryz.underlying24 hI hN hM hJ rfl (by decide) (.slice a2 X.length c2) X.length _ rfl HA.out ⟨wr.heap.size,0,none⟩ 1 1 (zj [0]) rfl rfl (q6 wr _ (zj [0]) _ rfl) (fun u hu=>qv _ _ hu) (by have:=Hlk.out;unfold maxLen;omega) (by have:=Hlk.out;omega) (by rw[zm];omega) ?_;intro v3 w3 hC hB _;obtain⟨hl,hs⟩:=HO.out.push (news:=[0]) (Fr.refl.alloc _) hC hB;have AH:=zi hl;have AI:=zi (HF.out.trans' hs);clear hC hB hl hs HA
     go_wp2_with fail
     go_roundg (gk - 1)
     case measure=>omega
     case rel=>exact⟨k+1,by omega,by omega,by rw[HX.out];exact AH,AI⟩
    obtain rfl:k=K:=by omega
    have hm:(((X.length:Int)+8) % 64 != 0)=false:=by rw[hD];simp;omega
    have AC:((X.length:Int)+8) % 64=0:=by simpa using hm
    obtain⟨L,hL⟩:∃ L,List.length l=L:=⟨_,rfl⟩;have HX:=zi hX;have Hlk:=zi hD;obtain⟨w4,hO⟩:∃ z:World,z=wr:=⟨_,rfl⟩;subst hO;have AB:=zxs w4;have hT:=heap_alloc_new w4 (.cells #[jf jg 0,jf jg 0,jf jg 0,jf jg 0,jf jg 0,jf jg 0,jf jg 0,jf jg 0] 5);have hR:Fr NoB w4 (w4.alloc (.cells #[jf jg 0,jf jg 0,jf jg 0,jf jg 0,jf jg 0,jf jg 0,jf jg 0,jf jg 0] 5)):=Fr.refl.alloc _;clear hX hP hp hD;rw[hL]at hlen
    go_upto_region 6 with(fail)
    obtain⟨W3,hg⟩:∃ W,w4.alloc (.cells #[jf jg 0,jf jg 0,jf jg 0,jf jg 0,jf jg 0,jf jg 0,jf jg 0,jf jg 0] 5)=W:=⟨_,rfl⟩;rw[hg]at hT hR ⊢;obtain⟨T,hQ⟩:∃ T,w4.heap.size=T:=⟨_,rfl⟩;rw[hQ]at hT ⊢;have c7:W3.cell? ⟨T,7,none⟩=some (jf jg 0):=by simp[World.cell?,hT]
    have f7:W3.frozen? ⟨T,7,none⟩=false:=by simp[World.frozen?,hT]
    have HT:=zi hT;have h0:=zi hR;have hw:=zi hQ;have HL:=zi hL;clear AB hT hR hg hQ hL
    go_wp2_with fail
    go_loopg [9,10] 8 (fun gf vn vi wq=>∃ k:Nat,vn = .int .i64 ((L / 32 / 256 ^ k:Nat):Int)∧vi = .int .i64 (6 - (k:Int))∧k≤7∧k+gf=8∧Hid (wq.heap[T]? = some (.cells (tlC L k) 5 (0,0)))∧Hid (Fr (fun q _=>q=T) W3 wq))
    case atStart =>
     refine⟨0,by rw[Nat.pow_zero,Nat.div_one,Int.natCast_ediv];rfl,by rfl,by omega,by omega,zi ?_,zi (Fr.refl.setCell _ _ (fun _ _=>rfl))⟩;rw[jh _ HT.out,zn8]
    case round =>
     obtain⟨k,rfl,rfl,AS,AD,hS,hW⟩:=hrel;obtain⟨n,hn⟩:∃ n,L / 32 / 256 ^ k=n:=⟨_,rfl⟩;have AP:n≤1000000:=by rw[← hn];exact Nat.le_trans (Nat.div_le_self _ _) (Nat.le_trans (Nat.div_le_self _ _) hlen)
     rw[hn];have Hn:=zi hn;clear hn;by_cases hd:k<7
     ·have he:decide ((0:Int)≤6 - (k:Int))=true:=decide_eq_true (by omega);have AE:(0:Int)≤6 - (k:Int):=by omega
      have AT:((6:Int) - (k:Int)).toNat=6 - k:=by omega
      have AU:(6:Int) - (k:Int)<8:=by omega
      have hT:=hS.out;obtain⟨z,hz⟩:∃ z:Value,(tlC L k)[6 - k]? = some z:=⟨_,Array.getElem?_eq_getElem (by show 6 - k<(tlC L k).size;simp[tlC];omega)⟩;have ck:wr.cell? ⟨T,6 - k,none⟩=some z:=by simp only[World.cell?,hT];exact hz
      have fk:wr.frozen? ⟨T,6 - k,none⟩=false:=by simp[World.frozen?,hT]
      clear hT hz
      go_wp2_with fail
      go_roundg (gk - 1)
      case measure=>omega
      case rel =>
       refine⟨k+1,?_,by congr 1;omega,by omega,by omega,zi ?_,zi (hW.out.setCell _ _ (fun _ _=>rfl))⟩
       ·rw[Nat.pow_succ,← Nat.div_div_eq_div_mul,Hn.out,Int.natCast_ediv];rfl
       rw[jh _ hS.out,zn9 L k hd _ (by rw[Hn.out,Int.natCast_emod];rfl)]
     obtain rfl:k=7:=by omega
     have he:decide ((0:Int)≤6 - ((7:Nat):Int))=false:=rfl
     have hi:wr.ownsRow w.heap.size 5 1 (.slice a2 X.length c2) X.length (zj X):=zc0 (HO.out.fr h0.out (fun _ _ _ _ h=>h)) hW.out (fun k o hk _ _ hm=>by
      obtain⟨-,o',AA,-⟩:=zcj HO.out k hk;have h1:=ju AA;have h2:=hw.out
      omega)
     have hx:Hid (OB w.heap.size X (.slice a2 X.length c2) wr):=zi hi
     have hc:∀ j u,(zj (tlB L))[j]? = some u→wr.cell? ((⟨T,0,none⟩:Addr).add j)=some u:=fun j u hj=>by
      rw[Addr.add_lit,Nat.zero_add];have h1:=hS.out;simp only[World.cell?,h1,Option.isSome_none,Bool.false_eq_true,if_false];rw[← zk7]at hj;rw[← Array.getElem?_toList];exact hj
     have Hnw:=zi hc;have hF:Fr (fun k _=>w.heap.size≤k) w wr:=(HF.out.trans h0.out (fun _ _ h=>h.elim)).trans hW.out (fun k _ hm => .inr (by have:=hw.out;omega));have h8:=hF.size;have hV:=zi hF;have h7:¬ ((7:Int)≤6):=by omega
     clear hi hc hF he
     go_wp2_with(at_builtin;refine zck ?_)
     refine zi ?_;refine wpList_append_own _ rfl _ _ 24 rfl w.heap.size 5 i0 (jf jg 0) 1 1 Tryz.underlying24 hI hN hM hJ rfl (by decide) (.slice a2 X.length c2) X.length _ rfl hx.out ⟨T,0,none⟩ 8 8 (zj (tlB L)) rfl rfl Hnw.out (fun u hu=>qv _ _ hu) (by unfold maxLen;omega) (by omega) (by omega) ?_;intro v6 w6 hC hB _;obtain⟨hh,hr⟩:=hx.out.push (news:=tlB L) Fr.refl hC hB;have AG:=zi hh;have hG:=zi (hV.out.trans' hr);clear hC hB hh hr
     go_wp2_with fail
     go_ret;refine⟨⟨_,rfl,?_⟩,?_⟩
     ·have h:=AG.out;rw[← HX.out,← HK.out]at h;have e:l++[128]++List.replicate ((119 - (List.length l) % 64) % 64) (0:UInt8)++tlB L=zqd l:=by rw[← HL.out];rfl
      rw[e]at h;exact h
     exact⟨hG.out.os,hG.out.tape,hG.out.output,hG.out.size,fun k o hk _=>hG.out.block k o hk (fun h=>by have:=ju hk;omega)⟩
 | some ad =>
   clear hE Hnil
   go_wp2_with(at_builtin;refine zck ?_)
   refine zi ?_;refine wpList_append_own _ rfl _ _ 24 rfl w.heap.size 5 i0 (jf jg 0) 1 1 Tryz.underlying24 hI hN hM hJ rfl (by decide) (.slice (some ⟨w.heap.size,0,none⟩) 0 0) 0 _ rfl hb.out ad l.length cp (zj l) rfl (by rw[jm,Nat.mul_one]) (Hnews.out ad rfl) (fun u hu=>qv _ _ hu) (by unfold maxLen;omega) (by omega) (by rw[zm];omega) ?_;intro v1 w1 hC hB _;obtain⟨AF,hZ⟩:=hb.out.push (news:=l) Fr.refl (by simpa using hC) hB;have hY:Hid (Fr (fun k _=>w.heap.size≤k) w w1):=zi (((Fr.refl.alloc _).mono (fun _ _ h=>h)).trans' hZ);obtain⟨a1,c1,rfl⟩:=AF.form;have hU:Hid (OB w.heap.size l (.slice a1 l.length c1) w1):=zi AF;clear hC hB AF hZ;have h4:=zi (hU.out.fr (Fr.refl (M:=NoB).alloc (.cells #[.int .u8 128] 5)) (fun _ _ _ _ h=>h));have h9:=hY.out.size
   go_wp2_with(at_builtin;refine zck ?_)
   refine zi ?_;refine wpList_append_own _ rfl _ _ 24 rfl w.heap.size 5 i0 (jf jg 0) 1 1 Tryz.underlying24 hI hN hM hJ rfl (by decide) (.slice a1 (List.length l) c1) (List.length l) _ rfl h4.out ⟨w1.heap.size,0,none⟩ 1 1 (zj [128]) rfl rfl (q6 w1 _ (zj [128]) _ rfl) (fun u hu=>qv _ _ hu) (by unfold maxLen;omega) (by omega) (by rw[zm];omega) ?_;intro v2 w2 hC hB _;obtain⟨ho,ht⟩:=hU.out.push (news:=[128]) (Fr.refl.alloc _) hC hB;have hy:Hid (OB w.heap.size (l++[128]++List.replicate 0 0) v2 w2):=zi (by simpa using ho);have h3:=zi (hY.out.trans' ht);clear hC hB ho ht h4 h9 hU hY
   go_wp2_with fail
   go_loopg [7] (K+1) (fun gf vo wr=>∃ k:Nat,k≤K∧k+gf=K+1∧Hid (OB w.heap.size (l++[128]++List.replicate k 0) vo wr)∧Hid (Fr (fun k _=>w.heap.size≤k) w wr))
   case atStart=>exact⟨0,by omega,by omega,hy,h3⟩
   case round =>
    clear hy h3;obtain⟨k,hk,AR,HO,HF⟩:=hrel;have hD:(l++[128]++List.replicate k (0:UInt8)).length=(List.length l)+1+k:=by simp;omega
    obtain⟨X,hX⟩:∃ X,l++[128]++List.replicate k (0:UInt8)=X:=⟨_,rfl⟩;have hP:l++[128]++List.replicate (k+1) (0:UInt8)=X++[0]:=by rw[← hX,List.replicate_succ',List.append_assoc];simp
    rw[hX]at HO hD;obtain⟨a2,c2,h6⟩:=HO.out.form;subst h6;have AO:=HF.out.size;have hp:=HK.out;have AN:X.length≤2000000:=by omega
    by_cases hd:k<K
    ·have hm:(((X.length:Int)+8) % 64 != 0)=true:=by rw[hD];simp;omega
     have AC:((X.length:Int)+8) % 64≠0:=by simpa using hm
     have HX:=zi hP;have Hlk:=zi hD;have HA:=zi (HO.out.fr (Fr.refl (M:=NoB).alloc (.cells #[jf jg 0] 5)) (fun _ _ _ _ h=>h));clear hX hP hp hD
     go_wp2_with(at_builtin;refine zck ?_)
     refine zi ?_;refine wpList_append_own _ rfl _ _ 24 rfl w.heap.size 5 i0 (jf jg 0) 1 1 Tryz.underlying24 hI hN hM hJ rfl (by decide) (.slice a2 X.length c2) X.length _ rfl HA.out ⟨wr.heap.size,0,none⟩ 1 1 (zj [0]) rfl rfl (q6 wr _ (zj [0]) _ rfl) (fun u hu=>qv _ _ hu) (by have:=Hlk.out;unfold maxLen;omega) (by have:=Hlk.out;omega) (by rw[zm];omega) ?_;intro v3 w3 hC hB _;obtain⟨hl,hs⟩:=HO.out.push (news:=[0]) (Fr.refl.alloc _) hC hB;have AH:=zi hl;have AI:=zi (HF.out.trans' hs);clear hC hB hl hs HA
     go_wp2_with fail
     go_roundg (gk - 1)
     case measure=>omega
     case rel=>exact⟨k+1,by omega,by omega,by rw[HX.out];exact AH,AI⟩
    obtain rfl:k=K:=by omega
    have hm:(((X.length:Int)+8) % 64 != 0)=false:=by rw[hD];simp;omega
    have AC:((X.length:Int)+8) % 64=0:=by simpa using hm
    obtain⟨L,hL⟩:∃ L,List.length l=L:=⟨_,rfl⟩;have HX:=zi hX;have Hlk:=zi hD;obtain⟨w4,hO⟩:∃ z:World,z=wr:=⟨_,rfl⟩;subst hO;have AB:=zxs w4;have hT:=heap_alloc_new w4 (.cells #[jf jg 0,jf jg 0,jf jg 0,jf jg 0,jf jg 0,jf jg 0,jf jg 0,jf jg 0] 5);have hR:Fr NoB w4 (w4.alloc (.cells #[jf jg 0,jf jg 0,jf jg 0,jf jg 0,jf jg 0,jf jg 0,jf jg 0,jf jg 0] 5)):=Fr.refl.alloc _;clear hX hP hp hD;rw[hL]at hlen
    go_upto_region 6 with(fail)
    obtain⟨W3,hg⟩:∃ W,w4.alloc (.cells #[jf jg 0,jf jg 0,jf jg 0,jf jg 0,jf jg 0,jf jg 0,jf jg 0,jf jg 0] 5)=W:=⟨_,rfl⟩;rw[hg]at hT hR ⊢;obtain⟨T,hQ⟩:∃ T,w4.heap.size=T:=⟨_,rfl⟩;rw[hQ]at hT ⊢;have c7:W3.cell? ⟨T,7,none⟩=some (jf jg 0):=by simp[World.cell?,hT]
    have f7:W3.frozen? ⟨T,7,none⟩=false:=by simp[World.frozen?,hT]
    have HT:=zi hT;have h0:=zi hR;have hw:=zi hQ;have HL:=zi hL;clear AB hT hR hg hQ hL
    go_wp2_with fail
    go_loopg [9,10] 8 (fun gf vn vi wq=>∃ k:Nat,vn = .int .i64 ((L / 32 / 256 ^ k:Nat):Int)∧vi = .int .i64 (6 - (k:Int))∧k≤7∧k+gf=8∧Hid (wq.heap[T]? = some (.cells (tlC L k) 5 (0,0)))∧Hid (Fr (fun q _=>q=T) W3 wq))
    case atStart =>
     refine⟨0,by rw[Nat.pow_zero,Nat.div_one,Int.natCast_ediv];rfl,by rfl,by omega,by omega,zi ?_,zi (Fr.refl.setCell _ _ (fun _ _=>rfl))⟩;rw[jh _ HT.out,zn8]
    case round =>
     obtain⟨k,rfl,rfl,AS,AD,hS,hW⟩:=hrel;obtain⟨n,hn⟩:∃ n,L / 32 / 256 ^ k=n:=⟨_,rfl⟩;have AP:n≤1000000:=by rw[← hn];exact Nat.le_trans (Nat.div_le_self _ _) (Nat.le_trans (Nat.div_le_self _ _) hlen)
     rw[hn];have Hn:=zi hn;clear hn;by_cases hd:k<7
     ·have he:decide ((0:Int)≤6 - (k:Int))=true:=decide_eq_true (by omega);have AE:(0:Int)≤6 - (k:Int):=by omega
      have AT:((6:Int) - (k:Int)).toNat=6 - k:=by omega
      have AU:(6:Int) - (k:Int)<8:=by omega
      have hT:=hS.out;obtain⟨z,hz⟩:∃ z:Value,(tlC L k)[6 - k]? = some z:=⟨_,Array.getElem?_eq_getElem (by show 6 - k<(tlC L k).size;simp[tlC];omega)⟩;have ck:wr.cell? ⟨T,6 - k,none⟩=some z:=by simp only[World.cell?,hT];exact hz
      have fk:wr.frozen? ⟨T,6 - k,none⟩=false:=by simp[World.frozen?,hT]
      clear hT hz
      go_wp2_with fail
      go_roundg (gk - 1)
      case measure=>omega
      case rel =>
       refine⟨k+1,?_,by congr 1;omega,by omega,by omega,zi ?_,zi (hW.out.setCell _ _ (fun _ _=>rfl))⟩
       ·rw[Nat.pow_succ,← Nat.div_div_eq_div_mul,Hn.out,Int.natCast_ediv];rfl
       rw[jh _ hS.out,zn9 L k hd _ (by rw[Hn.out,Int.natCast_emod];rfl)]
     obtain rfl:k=7:=by omega
     have he:decide ((0:Int)≤6 - ((7:Nat):Int))=false:=rfl
     have hi:wr.ownsRow w.heap.size 5 1 (.slice a2 X.length c2) X.length (zj X):=zc0 (HO.out.fr h0.out (fun _ _ _ _ h=>h)) hW.out (fun k o hk _ _ hm=>by
      obtain⟨-,o',AA,-⟩:=zcj HO.out k hk;have h1:=ju AA;have h2:=hw.out
      omega)
     have hx:Hid (OB w.heap.size X (.slice a2 X.length c2) wr):=zi hi
     have hc:∀ j u,(zj (tlB L))[j]? = some u→wr.cell? ((⟨T,0,none⟩:Addr).add j)=some u:=fun j u hj=>by
      rw[Addr.add_lit,Nat.zero_add];have h1:=hS.out;simp only[World.cell?,h1,Option.isSome_none,Bool.false_eq_true,if_false];rw[← zk7]at hj;rw[← Array.getElem?_toList];exact hj
     have Hnw:=zi hc;have hF:Fr (fun k _=>w.heap.size≤k) w wr:=(HF.out.trans h0.out (fun _ _ h=>h.elim)).trans hW.out (fun k _ hm => .inr (by have:=hw.out;omega));have h8:=hF.size;have hV:=zi hF;have h7:¬ ((7:Int)≤6):=by omega
     clear hi hc hF he
     go_wp2_with(at_builtin;refine zck ?_)
     refine zi ?_;refine wpList_append_own _ rfl _ _ 24 rfl w.heap.size 5 i0 (jf jg 0) 1 1 Tryz.underlying24 hI hN hM hJ rfl (by decide) (.slice a2 X.length c2) X.length _ rfl hx.out ⟨T,0,none⟩ 8 8 (zj (tlB L)) rfl rfl Hnw.out (fun u hu=>qv _ _ hu) (by unfold maxLen;omega) (by omega) (by omega) ?_;intro v6 w6 hC hB _;obtain⟨hh,hr⟩:=hx.out.push (news:=tlB L) Fr.refl hC hB;have AG:=zi hh;have hG:=zi (hV.out.trans' hr);clear hC hB hh hr
     go_wp2_with fail
     go_ret;refine⟨⟨_,rfl,?_⟩,?_⟩
     ·have h:=AG.out;rw[← HX.out,← HK.out]at h;have e:l++[128]++List.replicate ((119 - (List.length l) % 64) % 64) (0:UInt8)++tlB L=zqd l:=by rw[← HL.out];rfl
      rw[e]at h;exact h
     exact⟨hG.out.os,hG.out.tape,hG.out.output,hG.out.size,fun k o hk _=>hG.out.block k o hk (fun h=>by have:=ju hk;omega)⟩
end
end Go.Proofs.YtffggpplnjibgaaGreatDoor
