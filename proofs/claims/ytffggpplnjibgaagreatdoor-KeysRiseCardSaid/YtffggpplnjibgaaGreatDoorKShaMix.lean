/-
 The short digest (package sum),as plain data: as the program's code has it.
-/
import Derived.Test.YtffggpplnjibgaaGreatDoorKSpecSound
import Derived.Laws.BitsAllLaws
import Derived.Test.YtffggpplnjibgaaGreatDoorKConcat
open Go.Lib renaming hid→zi
open Or renaming inl→jc
open Option.some renaming inj→je
namespace Go.Proofs.YtffggpplnjibgaaGreatDoor
set_option linter.unusedVariables false
set_option linter.unusedSimpArgs false
set_option linter.unusedSectionVars false
set_option maxRecDepth 100000
set_option maxHeartbeats 2000000
section
def zhf (x n:Nat):Nat:=x / 2 ^ n ||| x * 2 ^ (32 - n) % 4294967296
def trn:Nat→Nat × Nat × Nat
 | 0=>(2,13,22)
 | 1=>(6,11,25)
 | 2=>(7,18,3)
 | _=>(17,19,10)
def zhp (k x:Nat):Nat:=(zhf x (trn k).1 ^^^ zhf x (trn k).2.1) ^^^ (if 1<k then x / 2 ^ (trn k).2.2 else zhf x (trn k).2.2)
theorem zg0 {x n:Nat}(h:x<4294967296):zhf x n<4294967296:=by
 unfold zhf;have h1:x / 2 ^ n<2 ^ 32:=Nat.lt_of_le_of_lt (Nat.div_le_self _ _) h;have h2:x * 2 ^ (32 - n) % 4294967296<2 ^ 32:=Nat.mod_lt _ (by decide);exact Nat.or_lt_two_pow h1 h2
theorem zg1 {k x:Nat}(h:x<4294967296):zhp k x<4294967296:=by
 unfold zhp;have h1:∀ n,zhf x n<2 ^ 32:=fun n=>zg0 h
 have h2:∀ n,x / 2 ^ n<2 ^ 32:=fun n=>Nat.lt_of_le_of_lt (Nat.div_le_self _ _) h
 refine Nat.xor_lt_two_pow (Nat.xor_lt_two_pow (h1 _) (h1 _)) ?_;split
 ·exact h2 _
 exact h1 _
def zbn (c:Bs):Nat:=c.foldl (fun x b=>x * 256 % 4294967296 ||| b.toNat) 0
theorem zhg (c:Bs):zbn c<4294967296:=by
 unfold zbn
 have:∀ (l:Bs) (x:Nat),x<4294967296→l.foldl (fun x b=>x * 256 % 4294967296 ||| b.toNat) x<4294967296:=by
  intro l
  induction l with
  | nil=>intro x h;exact h
  | cons b l ih =>
    intro x h;refine ih _ ?_;have h1:x * 256 % 4294967296<2 ^ 32:=Nat.mod_lt _ (by decide);have h2:b.toNat<2 ^ 32:=Nat.lt_of_lt_of_le b.toNat_lt (by decide);exact Nat.or_lt_two_pow h1 h2
 exact this c 0 (by decide)
def zaz (n:Nat):Nat→Bs→List Bs
 | 0,_=>[]
 | m+1,l=>l.take n :: zaz n m (l.drop n)
theorem zd9 (n m:Nat)(l:Bs):(zaz n m l).length=m:=by
 induction m generalizing l with
 | zero=>rfl
 | succ m ih=>simp[zaz,ih]
theorem zgg (n m:Nat) (l:Bs) (i:Nat) (h:i<m):(zaz n m l)[i]? = some ((l.drop (i * n)).take n):=by
 induction m generalizing l i with
 | zero=>omega
 | succ m ih =>
   cases i with
   | zero=>simp[zaz]
   | succ i =>
     simp only[zaz,List.getElem?_cons_succ];rw[ih _ _ (by omega),List.drop_drop]
     congr 3
     rw[Nat.add_mul];omega
def zkw (w:List Nat):Nat:=(((zhp 3 (w.getD (w.length - 2) 0)+w.getD (w.length - 7) 0) % 4294967296+zhp 2 (w.getD (w.length - 15) 0)) % 4294967296+w.getD (w.length - 16) 0) % 4294967296
def zd6 (w:List Nat):Nat→List Nat
 | 0=>w
 | n+1=>zd6 w n++[zkw (zd6 w n)]
theorem zlr (w:List Nat)(n:Nat):(zd6 w n).length=w.length+n:=by
 induction n with
 | zero=>rfl
 | succ n ih=>simp[zd6,ih];omega
theorem zn6 (w:List Nat):zkw w<4294967296:=Nat.mod_lt _ (by decide)
theorem zjo (w:List Nat) (h:∀ x∈w,x<4294967296) (n:Nat):∀ x∈zd6 w n,x<4294967296:=by
 induction n with
 | zero=>exact h
 | succ n ih =>
   intro x hx;rcases List.mem_append.1 hx with hx | hx
   ·exact ih x hx
   obtain rfl:x=zkw (zd6 w n):=by simpa using hx
   exact zn6 _
structure Wk where
 a:Nat
 b:Nat
 c:Nat
 d:Nat
 e:Nat
 f:Nat
 g:Nat
 h:Nat
def Wk.list (s:Wk):List Nat:=[s.a,s.b,s.c,s.d,s.e,s.f,s.g,s.h]
def Wk.lt (s:Wk):Prop:=s.a<4294967296∧s.b<4294967296∧s.c<4294967296∧s.d<4294967296∧s.e<4294967296∧s.f<4294967296∧s.g<4294967296∧s.h<4294967296
def zkg (s:Wk) (k x:Nat):Nat:=((((s.h+zhp 1 s.e) % 4294967296+(s.e &&& s.f ||| (4294967295 - s.e) &&& s.g)) % 4294967296+k) % 4294967296+x) % 4294967296
def znk (s:Wk):Nat:=(zhp 0 s.a+(s.a &&& s.b ||| s.a &&& s.c ||| s.b &&& s.c)) % 4294967296
def Wk.step (s:Wk) (k x:Nat):Wk:=⟨(zkg s k x+znk s) % 4294967296,s.a,s.b,s.c,(s.d+zkg s k x) % 4294967296,s.e,s.f,s.g⟩
theorem Wk.step_lt {s:Wk}(h:s.lt)(k x:Nat):(s.step k x).lt:=by
 obtain⟨h1,h2,h3,h4,h5,h6,h7,h8⟩:=h;exact⟨Nat.mod_lt _ (by decide),h1,h2,h3,Nat.mod_lt _ (by decide),h5,h6,h7⟩
def Wk.add (s t:Wk):Wk:=⟨(s.a+t.a) % 4294967296,(s.b+t.b) % 4294967296,(s.c+t.c) % 4294967296,(s.d+t.d) % 4294967296,(s.e+t.e) % 4294967296,(s.f+t.f) % 4294967296,(s.g+t.g) % 4294967296,(s.h+t.h) % 4294967296⟩
theorem Wk.add_lt (s t:Wk):(s.add t).lt:=by
 refine⟨?_,?_,?_,?_,?_,?_,?_,?_⟩<;>exact Nat.mod_lt _ (by decide)
def zgf (s:Wk):List Nat→List Nat→Wk
 | k :: ks,x :: xs=>zgf (s.step k x) ks xs
 | _,_=>s
def zbg (ks:List Nat) (s:Wk) (p:Bs):Wk:=s.add (zgf s ks (zd6 ((zaz 4 16 p).map zbn) 48))
def zqi (l:Bs):Bs:=l++[128]++List.replicate ((119 - l.length % 64) % 64) 0++(List.range 8).map fun i=>UInt8.ofNat (l.length * 8 / 2 ^ (8 * (7 - i)))
theorem zn0 (l:Bs):(zqi l).length=64 * ((l.length+72) / 64):=by
 simp[zqi];omega
def zbl (x:Nat):Bs:=[UInt8.ofNat (x / 2 ^ 24),UInt8.ofNat (x / 2 ^ 16),UInt8.ofNat (x / 2 ^ 8),UInt8.ofNat x]
def kTab:List Nat:=[4794697086780616226,8158064640168781261,13096744586834688815,16840607885511220156,4131703408338449720,6480981068601479193,10538285296894168987,12329834152419229976,15566598209576043074,1334009975649890238,2608012711638119052,6128411473006802146,8268148722764581231,9286055187155687089,11230858885718282805,13951009754708518548,16472876342353939154,17275323862435702243,1135362057144423861,2597628984639134821,3308224258029322869,5365058923640841347,6679025012923562964,8573033837759648693,10970295158949994411,12119686244451234320,12683024718118986047,13788192230050041572,14330467153632333762,15395433587784984357,489312712824947311,1452737877330783856,2861767655752347644,3322285676063803686,5560940570517711597,5996557281743188959,7280758554555802590,8532644243296465576,9350256976987008742,10552545826968843579,11727347734174303076,12113106623233404929,14000437183269869457,14369950271660146224,15101387698204529176,15463397548674623760,17586052441742319658,1182934255886127544,1847814050463011016,2177327727835720531,2830643537854262169,3796741975233480872,4115178125766777443,5681478168544905931,6601373596472566643,7507060721942968483,8399075790359081724,8693463985226723168,9568029438360202098,10144078919501101548,10430055236837252648,11840083180663258601,13761210420658862357,14299343276471374635,14566680578165727644,15097957966210449927,16922976911328602910,17689382322260857208,500013540394364858,748580250866718886,1242879168328830382,1977374033974150939,2944078676154940804,3659926193048069267,4368137639120453308,4836135668995329356,5532061633213252278,6448918945643986474,6902733635092675308,7801388544844847127]
def kShort:List Nat:=(kTab.take 64).map (· / 4294967296)
def rTab:List Nat:=[7640891576956012808,13503953896175478587,4354685564936845355,11912009170470909681,5840696475078001361,11170449401992604703,2270897969802886507,6620516959819538809]
def wk0:Wk:=⟨1779033703,3144134277,1013904242,2773480762,1359893119,2600822924,528734635,1541459225⟩
def zo5 (l:Bs):Wk:=(zaz 64 ((l.length+72) / 64) (zqi l)).foldl (zbg kShort) wk0
def zau (l:Bs):Bs:=(zo5 l).list.flatMap zbl
theorem zbs (l:Bs):(zau l).length=32:=rfl
end
section
open Go.RowKit Go.Shelf
variable [OldK]
def zba (tv:Value) (s:Wk):Array Value:=#[.int .i64 32,tv,.int .u32 s.a,.int .u32 s.b,.int .u32 s.c,.int .u32 s.d,.int .u32 s.e,.int .u32 s.f,.int .u32 s.g,.int .u32 s.h,.int .i64 2,.int .i64 13,.int .i64 22,.int .i64 6,.int .i64 11,.int .i64 25,.int .i64 7,.int .i64 18,.int .i64 3,.int .i64 17,.int .i64 19,.int .i64 10,.int .i64 8]
theorem zr1 (x n:Nat)(hx:x<4294967296):bits .or .u32 ((x:Int) / 2 ^ n) (IntKind.u32.wrap ((x:Int) * 2 ^ (32 - n)))=((zhf x n:Nat):Int):=by
 have h1:x / 2 ^ n<4294967296:=Nat.lt_of_le_of_lt (Nat.div_le_self _ _) hx;have h2:x * 2 ^ (32 - n) % 4294967296<4294967296:=Nat.mod_lt _ (by decide);have e1:((x:Int) / 2 ^ n)=((x / 2 ^ n:Nat):Int):=by rw[Int.natCast_ediv,Int.natCast_pow];rfl
 have e2:((x:Int) * 2 ^ (32 - n) % 4294967296)=((x * 2 ^ (32 - n) % 4294967296:Nat):Int):=by rw[Int.natCast_emod,Int.natCast_mul,Int.natCast_pow];rfl
 rw[IntKind.wrap_u32',e1,e2,u32_or_nat _ _ h1 h2];rfl
theorem zqn (b x n:Nat) (w:World) (h0:w.cell? ⟨b,0,none⟩=some (.int .i64 32)) (hx:x<4294967296) (hn:n≤31) :
 Calls Tryz.prog 254 #[.pointer (some ⟨b,0,none⟩),.int .u32 x,.int .i64 n] w fun e w'=>e = .returned (.int .u32 (zhf x n))∧w'=w.drew:=by
 have hq:=zr1 x n hx;have hi:IntKind.i64.wrap (32 - (n:Int))=32 - (n:Int):=by rw[IntKind.wrap_i64];omega
 have hp:(0:Int)≤32 - (n:Int):=by omega
 have hp2:32 - (n:Int)≤32:=by omega
 have hp3:(n:Int)≤32:=by omega
 have hp4:(32 - (n:Int)).toNat=32 - n:=by omega
 clear hx hn;go_enter Tryz.func254,Tryz.ntmps254
 go_upto_region 1 with(fail)
 refine wp_region_held_drew (S:=fun V=>V=w.drew) (by kernel_rfl) rfl (fun hA=>?_);simp only[qV]
 iterate 13
  refine qt (v:=?_) rfl (jc ⟨by rfl,?_⟩) hA ?_;rotate_left
  ·intro W hB;obtain rfl:=hB
   try simp only[qQ]
   go_simp
   try rw[if_neg (by omega)]
   try with_reducible rfl
  try simp only[Act.put,qP]
 refine wpAnyH_done (by kernel_rfl) ?_ _;clear hA
 go_wp2_with fail
 go_ret;exact⟨rfl,rfl⟩
theorem zrl (a b:Nat)(ha:a<4294967296)(hb:b<4294967296):bits .xor .u32 (a:Int) (b:Int)=((a ^^^ b:Nat):Int):=u32_xor_nat a b ha hb
theorem zoa (b x k:Nat) (hk:k<4) (tv:Value) (s:Wk) (w:World) (hS:w.heap[b]? = some (.cells (zba tv s) 162 (0,0))) (hx:x<4294967296) :
 Calls Tryz.prog 212 #[.pointer (some ⟨b,0,none⟩),.int .u32 x,.int .i64 k] w fun e w'=>e = .returned (.int .u32 (zhp k x))∧Fr NoB w w':=by
 have h0:w.cell? ⟨b,0,none⟩=some (.int .i64 32):=by simp[World.cell?,hS,zba]
 obtain ⟨a1,a2,a3,hA,h1,h2,h3,hU,hQ,ha⟩:∃ a1 a2 a3:Nat,trn k=(a1,a2,a3)∧w.cell? ⟨b,10+k * 3,none⟩=some (.int .i64 a1)∧w.cell? ⟨b,10+k * 3+1,none⟩=some (.int .i64 a2)∧w.cell? ⟨b,10+k * 3+2,none⟩=some (.int .i64 a3)∧a1≤31∧a2≤31∧a3≤31:=by
  match k,hk with
  | 0,_=>exact⟨2,13,22,rfl,by simp[World.cell?,hS,zba],by simp[World.cell?,hS,zba],by simp[World.cell?,hS,zba],by omega,by omega,by omega⟩
  | 1,_=>exact⟨6,11,25,rfl,by simp[World.cell?,hS,zba],by simp[World.cell?,hS,zba],by simp[World.cell?,hS,zba],by omega,by omega,by omega⟩
  | 2,_=>exact⟨7,18,3,rfl,by simp[World.cell?,hS,zba],by simp[World.cell?,hS,zba],by simp[World.cell?,hS,zba],by omega,by omega,by omega⟩
  | 3,_=>exact⟨17,19,10,rfl,by simp[World.cell?,hS,zba],by simp[World.cell?,hS,zba],by simp[World.cell?,hS,zba],by omega,by omega,by omega⟩
  | n+4,h=>omega
 have hZ:=jq hS
 have hL:w.rangeAt b (10+k * 3) [.int .i64 a1,.int .i64 a2,.int .i64 a3]:=fun j v hv=>by
  match j,hv with
  | 0,hv=>obtain rfl:=je hv;exact h1
  | 1,hv=>obtain rfl:=je hv;exact h2
  | 2,hv=>obtain rfl:=je hv;exact h3
 have hG:=fun(V:World) n (hn:n≤31) (hF:Fr NoB w V)=>zqn b x n V (Fr.cell hF h0) hx hn
 obtain⟨R,hR⟩:∃ R,zhp k x=R:=⟨_,rfl⟩;rw[hR];unfold zhp at hR;rw[hA]at hR;simp only at hR;have hV:R=(zhf x a1 ^^^ zhf x a2) ^^^ (if 1<k then x / 2 ^ a3 else zhf x a3):=hR.symm;have hM:=zg0 (n:=a1) hx;have hJ:=zg0 (n:=a2) hx;have hO:=zg0 (n:=a3) hx;have hP:x / 2 ^ a3<4294967296:=Nat.lt_of_le_of_lt (Nat.div_le_self _ _) hx;have hH:=zrl _ _ hM hJ;have hN:zhf x a1 ^^^ zhf x a2<4294967296:=Nat.xor_lt_two_pow (n:=32) hM hJ;have hk3:(k:Int)<4:=by omega
 have hk0:(0:Int)≤(k:Int):=by omega
 have Hturn:=zi hG;have HL:=zi hL;have hX:=zi hV;have Hx:=zi (And.intro hH (And.intro hN (And.intro hO hP)));clear hG hL hV hR hA h1 h2 h3 hH hN hM hJ hO hP hS h0 hx;go_enter Tryz.func212,Tryz.ntmps212
 go_upto_region 2 with((with_reducible refine wpList_load_mid rfl 156 _ rfl b (10+k * 3) rfl [.int .i64 a1,.int .i64 a2,.int .i64 a3] (.array 3 3) HL.out Tryz.underlying156 rfl (by kernel_rfl) ?_))
 have hF:=(Fr.refl (M:=NoB)).alloc (w:=w) (.cells #[.int .i64 a1,.int .i64 a2,.int .i64 a3] 156);have hT:=heap_alloc_new w (.cells #[.int .i64 a1,.int .i64 a2,.int .i64 a3] 156);change Code.wp _ _ _ _ (w.alloc (.cells #[.int .i64 a1,.int .i64 a2,.int .i64 a3] 156));obtain⟨W,hW⟩:∃ V,w.alloc (.cells #[.int .i64 a1,.int .i64 a2,.int .i64 a3] 156)=V:=⟨_,rfl⟩;rw[hW]at hF hT ⊢;obtain⟨q,hq⟩:∃ x,w.heap.size=x:=⟨_,rfl⟩;rw[hq]at hT ⊢;have q0:W.cell? ⟨q,0,none⟩=some (.int .i64 a1):=by simp[World.cell?,hT]
 have q1:W.cell? ⟨q,1,none⟩=some (.int .i64 a2):=by simp[World.cell?,hT]
 have q2:W.cell? ⟨q,2,none⟩=some (.int .i64 a3):=by simp[World.cell?,hT]
 have HF:=zi hF;clear hW hq hT hF hZ
 go_wp2_with fail
 refine(Hturn.out _ _ ha HF.out).mono ?_;rintro e w1 ⟨rfl,rfl⟩;have HT:=zi (fun(V:World) n (hn:n≤31) (hF:Fr NoB W V)=>Hturn.out V n hn (HF.out.trans' hF));have hH:=Hx.out.1;by_cases hI:1<k
 ·have hb:bits .xor .u32 ((zhf x a1 ^^^ zhf x a2:Nat):Int) ((x:Int) / 2 ^ a3)=(R:Int):=by
   obtain⟨-,h2,h3,h4⟩:=Hx.out;have h5:=hX.out;rw[if_pos hI]at h5;rw[h5,show((x:Int) / 2 ^ a3)=((x / 2 ^ a3:Nat):Int) by rw[Int.natCast_ediv,Int.natCast_pow];rfl];exact zrl _ _ h2 h4
  have h3i:(a3:Int)≤32:=by omega
  have hY:decide ((1:Int)<(k:Int))=true:=decide_eq_true (by omega);clear hI
  go_upto_region 5 with(fail)
  refine wp_region_held_drew (S:=fun V=>Hid (Fr NoB W V)) (by kernel_rfl) (zi (Fr.refl.drew.drew)) (fun hB=>?_);simp only[qV]
  iterate 4
   refine qt (v:=?_) rfl (jc ⟨by rfl,?_⟩) hB ?_;rotate_left
   ·intro W hC;have hE:=Fr.cell hC.out q0;have hD:=Fr.cell hC.out q1
    try simp only[qQ]
    go_simp
    try rw[if_neg (by omega)]
    try with_reducible rfl
   try simp only[Act.put,qP]
  refine qi (i:=5) (v:=?_) rfl (jc ⟨by rfl,?_⟩) hB ?_;rotate_left
  ·intro W hC;have hE:=Fr.cell hC.out q0;have hD:=Fr.cell hC.out q1
   try simp only[qQ]
   go_simp
   try rw[if_neg (by omega)]
   try with_reducible rfl
  try simp only[Act.put,qP]
  refine qi (i:=6) (v:=?_) rfl (jc ⟨by rfl,?_⟩) hB ?_;rotate_left
  ·intro W hC;have hE:=Fr.cell hC.out q0;have hD:=Fr.cell hC.out q1
   try simp only[qQ]
   go_simp
   try rw[if_neg (by omega)]
   try with_reducible rfl
  try simp only[Act.put,qP]
  refine qi (i:=7) (v:=?_) rfl (jc ⟨by rfl,?_⟩) hB ?_;rotate_left
  ·intro W hC;have hE:=Fr.cell hC.out q0;have hD:=Fr.cell hC.out q1
   try simp only[qQ]
   go_simp
   try rw[if_neg (by omega)]
   try with_reducible rfl
  try simp only[Act.put,qP]
  refine qi (i:=8) (v:=?_) rfl (jc ⟨by rfl,?_⟩) hB ?_;rotate_left
  ·intro W hC;have hE:=Fr.cell hC.out q0;have hD:=Fr.cell hC.out q1
   try simp only[qQ]
   go_simp
   try rw[if_neg (by omega)]
   try with_reducible rfl
  try simp only[Act.put,qP]
  refine qi (i:=11) (v:=?_) rfl (jc ⟨by rfl,?_⟩) hB ?_;rotate_left
  ·intro W hC;have hE:=Fr.cell hC.out q0;have hD:=Fr.cell hC.out q1
   try simp only[qQ]
   go_simp
   try rw[if_neg (by omega)]
   try with_reducible rfl
  try simp only[Act.put,qP]
  refine qr (i:=4) (by kernel_rfl) rfl (fun K hK=>?_)
  try simp only[qQ]
  go_simp;refine(HT.out _ _ hU hB.out).mono ?_;rintro r w2 ⟨rfl,rfl⟩;refine hK.out _ _ (zi hB.out.drew) (fun hB=>?_);clear hK K
  try simp only[Act.put,qP]
  refine qr (i:=9) (by kernel_rfl) rfl (fun K hK=>?_)
  try simp only[qQ]
  go_simp;refine(HT.out _ _ hQ hB.out).mono ?_;rintro r w2 ⟨rfl,rfl⟩;refine hK.out _ _ (zi hB.out.drew) (fun hB=>?_);clear hK K
  try simp only[Act.put,qP]
  iterate 3
   refine qt (v:=?_) rfl (jc ⟨by rfl,?_⟩) hB ?_;rotate_left
   ·intro W hC;have hE:=Fr.cell hC.out q0;have hD:=Fr.cell hC.out q1
    try simp only[qQ]
    go_simp
    try rw[if_neg (by omega)]
    try with_reducible rfl
   try simp only[Act.put,qP]
  refine wpAnyH_done (by kernel_rfl) ?_ _;have HG:=zi hB.out;clear hB
  go_wp2_with fail
  go_ret;exact⟨rfl,HF.out.trans' HG.out⟩
 have hb:bits .xor .u32 ((zhf x a1 ^^^ zhf x a2:Nat):Int) ((zhf x a3:Nat):Int)=(R:Int):=by
  obtain⟨-,h2,h3,h4⟩:=Hx.out;have h5:=hX.out;rw[if_neg hI]at h5;rw[h5];exact zrl _ _ h2 h3
 have hY:decide ((1:Int)<(k:Int))=false:=decide_eq_false (by omega);clear hI
 go_upto_region 5 with(fail)
 refine wp_region_held_drew (S:=fun V=>Hid (Fr NoB W V)) (by kernel_rfl) (zi (Fr.refl.drew.drew)) (fun hB=>?_);simp only[qV]
 iterate 4
  refine qt (v:=?_) rfl (jc ⟨by rfl,?_⟩) hB ?_;rotate_left
  ·intro W hC;have hE:=Fr.cell hC.out q0;have hD:=Fr.cell hC.out q1
   try simp only[qQ]
   go_simp
   try rw[if_neg (by omega)]
   try with_reducible rfl
  try simp only[Act.put,qP]
 refine qi (i:=5) (v:=?_) rfl (jc ⟨by rfl,?_⟩) hB ?_;rotate_left
 ·intro W hC;have hE:=Fr.cell hC.out q0;have hD:=Fr.cell hC.out q1
  try simp only[qQ]
  go_simp
  try rw[if_neg (by omega)]
  try with_reducible rfl
 try simp only[Act.put,qP]
 refine qi (i:=6) (v:=?_) rfl (jc ⟨by rfl,?_⟩) hB ?_;rotate_left
 ·intro W hC;have hE:=Fr.cell hC.out q0;have hD:=Fr.cell hC.out q1
  try simp only[qQ]
  go_simp
  try rw[if_neg (by omega)]
  try with_reducible rfl
 try simp only[Act.put,qP]
 refine qi (i:=7) (v:=?_) rfl (jc ⟨by rfl,?_⟩) hB ?_;rotate_left
 ·intro W hC;have hE:=Fr.cell hC.out q0;have hD:=Fr.cell hC.out q1
  try simp only[qQ]
  go_simp
  try rw[if_neg (by omega)]
  try with_reducible rfl
 try simp only[Act.put,qP]
 refine qi (i:=8) (v:=?_) rfl (jc ⟨by rfl,?_⟩) hB ?_;rotate_left
 ·intro W hC;have hE:=Fr.cell hC.out q0;have hD:=Fr.cell hC.out q1
  try simp only[qQ]
  go_simp
  try rw[if_neg (by omega)]
  try with_reducible rfl
 try simp only[Act.put,qP]
 refine qi (i:=11) (v:=?_) rfl (jc ⟨by rfl,?_⟩) hB ?_;rotate_left
 ·intro W hC;have hE:=Fr.cell hC.out q0;have hD:=Fr.cell hC.out q1
  try simp only[qQ]
  go_simp
  try rw[if_neg (by omega)]
  try with_reducible rfl
 try simp only[Act.put,qP]
 refine qr (i:=4) (by kernel_rfl) rfl (fun K hK=>?_)
 try simp only[qQ]
 go_simp;refine(HT.out _ _ hU hB.out).mono ?_;rintro r w2 ⟨rfl,rfl⟩;refine hK.out _ _ (zi hB.out.drew) (fun hB=>?_);clear hK K
 try simp only[Act.put,qP]
 refine qr (i:=9) (by kernel_rfl) rfl (fun K hK=>?_)
 try simp only[qQ]
 go_simp;refine(HT.out _ _ hQ hB.out).mono ?_;rintro r w2 ⟨rfl,rfl⟩;refine hK.out _ _ (zi hB.out.drew) (fun hB=>?_);clear hK K
 try simp only[Act.put,qP]
 iterate 3
  refine qt (v:=?_) rfl (jc ⟨by rfl,?_⟩) hB ?_;rotate_left
  ·intro W hC;have hE:=Fr.cell hC.out q0;have hD:=Fr.cell hC.out q1
   try simp only[qQ]
   go_simp
   try rw[if_neg (by omega)]
   try with_reducible rfl
  try simp only[Act.put,qP]
 refine wpAnyH_done (by kernel_rfl) ?_ _;have HG:=zi hB.out;clear hB
 go_wp2_with fail
 go_ret;exact⟨rfl,HF.out.trans' HG.out⟩
end
end Go.Proofs.YtffggpplnjibgaaGreatDoor
