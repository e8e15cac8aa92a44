/-
  DERIVED: THE SHELF's CONTRACTS AT THIS DUMP,IN PLAIN WORDS (tools/lay-plain.mjs out of 'TryzShelf.lean',which tools/lay-shelf.mjs wrote): THE SAME DECLARATIONS UNDER THE SAME NAMES: 'import','namespace','open','def','theorem' AND NOTHING ELSE: no command of the shelf's: FOR A HAND-IN. Each laying: the table of numbers ('.._ren') and one theorem,a field a fact of the dump's own or the kernel's comparison;each zoy: ONE APPLICATION.
-/
import Derived.Shelf.Strings.SlTrimAscii
import Derived.Shelf.Unicode.ValidAny
import Derived.Shelf.Spec.SlicesGrow
import Derived.Ground.Names8Prog
import Derived.Shelf.Strings.Builder1
import Derived.Shelf.Strings.Builder2
import Derived.Shelf.Strings.OnBuilder
import Derived.Shelf.Strings.Trim
import Derived.Shelf.Small.Utf8
import Derived.Shelf.Small.Bits
import Derived.Shelf.Small.Strs
import Derived.Shelf.Small.Wraps
import Derived.Shelf.Strings.BuilderF
import Derived.Shelf.Strings.BuilderK
import Derived.Shelf.Strings.BuilderRune
import Derived.Shelf.Utf8.AppendRune
import Derived.Shelf.Utf8.AppendRunePlain
import Derived.Shelf.Strings.Builder2Cap
import Derived.Shelf.Strconv.Itoa0
import Derived.Shelf.Strconv.Itoa1
import Derived.Shelf.LaysM
import Derived.Shelf.Strconv.Itoa2
import Derived.Shelf.Strconv.Itoa3
import Derived.Shelf.Strings.Search1
import Derived.Shelf.Sort.Plain
import Derived.Shelf.GgClosure.StringsIndexFunc
import Derived.Ground.GgwProg
import Derived.Shelf.GgClosure.StringsIndexFuncTop
import Derived.Shelf.GgClosure.StringsRunes
import Derived.Shelf.Strings.Prefix
import Derived.Shelf.Strings.Runes
import Derived.Shelf.Strings.AsciiSet
import Derived.Shelf.Bits.Mul64
import Derived.Shelf.Strings.Repeat
import Derived.Shelf.Unicode.DecodeSlow
import Derived.Shelf.Unicode.DecodeAny
import Derived.Shelf.Unicode.DecodeLast
import Derived.Shelf.Strings.BuilderCap
import Derived.Shelf.Slices.Turned
import Derived.Shelf.Slices.CompactS
import Derived.Test.YtffggpplnjibgaaGreatDoorProg
namespace Go.Proofs
open Go.Shelf
def zek:Go.Shelf.Ren:=⟨fun | 169=>151 | n=>n,fun | 70=>195 | 9=>9 | 0=>0 | 72=>197 | 37=>24 | 127=>249 | 3=>3 | 5=>5 | n=>n,fun | n=>n⟩
theorem zml:Go.Proofs.Lays.n169 Tryz.prog zek:={
  mixed:=by kernel_rfl
  f169:=Tryz.func151.trans (congrArg some (by kernel_rfl))
  t0:=Tryz.underlying0
  a0:=Tryz.isAgg0
  z0:=Tryz.sizeOf0
  v0:=Tryz.zeroValue0
  t3:=Tryz.underlying3
  a3:=Tryz.isAgg3
  z3:=Tryz.sizeOf3
  v3:=Tryz.zeroValue3
  t9:=Tryz.underlying9
  a9:=Tryz.isAgg9
  z9:=Tryz.sizeOf9
  v9:=Tryz.zeroValue9
  t37:=Tryz.underlying24
  a37:=Tryz.isAgg24
  z37:=Tryz.sizeOf24
  v37:=Tryz.zeroValue24
  t70:=Tryz.underlying195
  a70:=Tryz.isAgg195
  z70:=Tryz.sizeOf195
  v70:=Tryz.zeroValue195
  t72:=Tryz.underlying197
  a72:=Tryz.isAgg197
  z72:=Tryz.sizeOf197
  v72:=Tryz.zeroValue197
  t127:=Tryz.underlying249
  a127:=Tryz.isAgg249
  z127:=Tryz.sizeOf249
  v127:=Tryz.zeroValue249 }
theorem zem:Builder.Extra Tryz.prog zek:={
  sizeBuilder:=by kernel_rfl
  liesBuilder:=by kernel_rfl
  t5:=Tryz.underlying5
  a5:=Tryz.isAgg5
  z5:=Tryz.sizeOf5
  v5:=Tryz.zeroValue5
  infoByte:=by kernel_rfl
  cellsByte:=by kernel_rfl
  sizeByte:=by kernel_rfl
  neB5:=by decide }
def zhn:Go.Shelf.Ren:=⟨fun | 161=>181 | 231=>228 | 227=>190 | 233=>229 | 235=>230 | 228=>235 | 197=>256 | 151=>197 | 260=>278 | 152=>240 | 137=>194 | 119=>268 | 224=>269 | 225=>270 | 217=>238 | 266=>267 | n=>n,fun | 9=>9 | 4=>4 | 3=>3 | 5=>5 | 117=>229 | 116=>228 | 0=>0 | 124=>232 | 105=>267 | 21=>21 | 119=>262 | 46=>166 | 139=>265 | 138=>264 | n=>n,fun | 3=>0 | 4=>1 | n=>n⟩
theorem zmm:Go.Proofs.Lays.n161 Tryz.prog zhn:={
  mixed:=by kernel_rfl
  f119:=Tryz.func268.trans (congrArg some (by kernel_rfl))
  f137:=Tryz.func194.trans (congrArg some (by kernel_rfl))
  f151:=Tryz.func197.trans (congrArg some (by kernel_rfl))
  f152:=Tryz.func240.trans (congrArg some (by kernel_rfl))
  f161:=Tryz.func181.trans (congrArg some (by kernel_rfl))
  f197:=Tryz.func256.trans (congrArg some (by kernel_rfl))
  f217:=Tryz.func238.trans (congrArg some (by kernel_rfl))
  f224:=Tryz.func269.trans (congrArg some (by kernel_rfl))
  f225:=Tryz.func270.trans (congrArg some (by kernel_rfl))
  f227:=Tryz.func190.trans (congrArg some (by kernel_rfl))
  f228:=Tryz.func235.trans (congrArg some (by kernel_rfl))
  f231:=Tryz.func228.trans (congrArg some (by kernel_rfl))
  f233:=Tryz.func229.trans (congrArg some (by kernel_rfl))
  f235:=Tryz.func230.trans (congrArg some (by kernel_rfl))
  f260:=Tryz.func278.trans (congrArg some (by kernel_rfl))
  f266:=Tryz.func267.trans (congrArg some (by kernel_rfl))
  t0:=Tryz.underlying0
  a0:=Tryz.isAgg0
  z0:=Tryz.sizeOf0
  v0:=Tryz.zeroValue0
  t3:=Tryz.underlying3
  a3:=Tryz.isAgg3
  z3:=Tryz.sizeOf3
  v3:=Tryz.zeroValue3
  t4:=Tryz.underlying4
  a4:=Tryz.isAgg4
  z4:=Tryz.sizeOf4
  v4:=Tryz.zeroValue4
  t5:=Tryz.underlying5
  a5:=Tryz.isAgg5
  z5:=Tryz.sizeOf5
  v5:=Tryz.zeroValue5
  t9:=Tryz.underlying9
  a9:=Tryz.isAgg9
  z9:=Tryz.sizeOf9
  v9:=Tryz.zeroValue9
  t21:=Tryz.underlying21
  a21:=Tryz.isAgg21
  z21:=Tryz.sizeOf21
  v21:=Tryz.zeroValue21
  t46:=Tryz.underlying166
  a46:=Tryz.isAgg166
  z46:=Tryz.sizeOf166
  v46:=Tryz.zeroValue166
  t105:=Tryz.underlying267
  a105:=Tryz.isAgg267
  z105:=Tryz.sizeOf267
  v105:=Tryz.zeroValue267
  t116:=Tryz.underlying228
  a116:=Tryz.isAgg228
  z116:=Tryz.sizeOf228
  t117:=Tryz.underlying229
  a117:=Tryz.isAgg229
  z117:=Tryz.sizeOf229
  v117:=Tryz.zeroValue229
  t119:=Tryz.underlying262
  a119:=Tryz.isAgg262
  z119:=Tryz.sizeOf262
  t124:=Tryz.underlying232
  a124:=Tryz.isAgg232
  z124:=Tryz.sizeOf232
  v124:=Tryz.zeroValue232
  t138:=Tryz.underlying264
  a138:=Tryz.isAgg264
  z138:=Tryz.sizeOf264
  v138:=Tryz.zeroValue264
  t139:=Tryz.underlying265
  a139:=Tryz.isAgg265
  z139:=Tryz.sizeOf265
  v139:=Tryz.zeroValue265
  g3:=by kernel_rfl
  g4:=by kernel_rfl }
def zhq:Go.Shelf.Ren:=⟨fun | 119=>268 | n=>n,fun | 21=>21 | 4=>4 | n=>n,fun | n=>n⟩
theorem zmp:Go.Proofs.Lays.n119 Tryz.prog zhq:={
  mixed:=by kernel_rfl
  f119:=Tryz.func268.trans (congrArg some (by kernel_rfl))
  t4:=Tryz.underlying4
  a4:=Tryz.isAgg4
  z4:=Tryz.sizeOf4
  v4:=Tryz.zeroValue4
  t21:=Tryz.underlying21
  a21:=Tryz.isAgg21
  z21:=Tryz.sizeOf21
  v21:=Tryz.zeroValue21 }
theorem Tryz.utf8_ValidRune (r:Int) (w:World) :
    Calls Tryz.prog 268 #[.int .i32 r] w fun e w'=>e = .returned (.bool (Lib.validRune r))∧w'=w:=Any.utf8_ValidRune zmp r w
def zhp:Go.Shelf.Ren:=⟨fun | 137=>194 | 217=>238 | 266=>267 | n=>n,fun | 9=>9 | 5=>5 | 3=>3 | n=>n,fun | n=>n⟩
theorem zmo:Go.Proofs.Lays.n137 Tryz.prog zhp:={
  mixed:=by kernel_rfl
  f137:=Tryz.func194.trans (congrArg some (by kernel_rfl))
  f217:=Tryz.func238.trans (congrArg some (by kernel_rfl))
  f266:=Tryz.func267.trans (congrArg some (by kernel_rfl))
  t3:=Tryz.underlying3
  a3:=Tryz.isAgg3
  z3:=Tryz.sizeOf3
  v3:=Tryz.zeroValue3
  t5:=Tryz.underlying5
  a5:=Tryz.isAgg5
  z5:=Tryz.sizeOf5
  v5:=Tryz.zeroValue5
  t9:=Tryz.underlying9
  a9:=Tryz.isAgg9
  z9:=Tryz.sizeOf9
  v9:=Tryz.zeroValue9 }
open Go.RowKit in
theorem Tryz.strings_IndexByte (s:ByteArray) (c:Int) (w:World) :
    Calls Tryz.prog 194 #[.string s,.int .u8 c] w fun e w'=>e = .returned (.int .i64 (Lib.indexByte s.data.toList c.toNat.toUInt8))∧w'=w:=Any.strings_IndexByte zmo s c w
def zhs:Go.Shelf.Ren:=⟨fun | 103=>59 | 210=>121 | 206=>177 | n=>n,fun | 9=>9 | 4=>4 | 24=>99 | 3=>3 | n=>n,fun | n=>n⟩
theorem zmq:Go.Proofs.Lays.n103 Tryz.prog zhs:={
  mixed:=by kernel_rfl
  f103:=Tryz.func59.trans (congrArg some (by kernel_rfl))
  f206:=Tryz.func177.trans (congrArg some (by kernel_rfl))
  f210:=Tryz.func121.trans (congrArg some (by kernel_rfl))
  t3:=Tryz.underlying3
  a3:=Tryz.isAgg3
  z3:=Tryz.sizeOf3
  v3:=Tryz.zeroValue3
  t4:=Tryz.underlying4
  a4:=Tryz.isAgg4
  z4:=Tryz.sizeOf4
  v4:=Tryz.zeroValue4
  t9:=Tryz.underlying9
  a9:=Tryz.isAgg9
  z9:=Tryz.sizeOf9
  v9:=Tryz.zeroValue9
  t24:=Tryz.underlying99
  a24:=Tryz.isAgg99
  z24:=Tryz.sizeOf99
  v24:=Tryz.zeroValue99 }
open Go.RowKit in
theorem Tryz.strings_CutPrefix (s p:ByteArray) (w:World) :
    Calls Tryz.prog 59 #[.string s,.string p] w fun e w'=>e = .returned (.tuple #[.string ⟨(Lib.trimPrefix s.data.toList p.data.toList).toArray⟩,.bool (Lib.hasPrefix s.data.toList p.data.toList)])∧w'=w:=Any.strings_CutPrefix zmq s p w
open Go.RowKit in
theorem Tryz.Builder_String_any_k (B b:Nat) (l:List UInt8) (w:World) (h:Lib.IsBuilderF 197 5 B b (Lib.byteCells l) w) (hBw:B≤w.heap.size) :
    Calls Tryz.prog 151 #[.pointer (some ⟨b,0,none⟩)] w fun e w'=>e = .returned (.string ⟨l.toArray⟩)∧(Lib.IsBuilderF 197 5 B b (Lib.byteCells l) w'∧Below B w w'∧Lib.OthersKept 5 (some b) w w'):=Any.Builder_String_any_k zml zem B b l w h hBw
def zhj:Go.Shelf.Ren:=⟨fun | 242=>246 | 278=>273 | n=>n,fun | 37=>24 | 21=>21 | 51=>159 | 4=>4 | 5=>5 | 46=>166 | n=>n,fun | n=>n⟩
theorem zmh:Go.Proofs.Lays.n242 Tryz.prog zhj:={
  mixed:=by kernel_rfl
  f242:=Tryz.func246.trans (congrArg some (by kernel_rfl))
  f278:=Tryz.func273.trans (congrArg some (by kernel_rfl))
  t4:=Tryz.underlying4
  a4:=Tryz.isAgg4
  z4:=Tryz.sizeOf4
  v4:=Tryz.zeroValue4
  t5:=Tryz.underlying5
  a5:=Tryz.isAgg5
  z5:=Tryz.sizeOf5
  v5:=Tryz.zeroValue5
  t21:=Tryz.underlying21
  a21:=Tryz.isAgg21
  z21:=Tryz.sizeOf21
  v21:=Tryz.zeroValue21
  t37:=Tryz.underlying24
  a37:=Tryz.isAgg24
  z37:=Tryz.sizeOf24
  v37:=Tryz.zeroValue24
  t46:=Tryz.underlying166
  a46:=Tryz.isAgg166
  z46:=Tryz.sizeOf166
  v46:=Tryz.zeroValue166
  t51:=Tryz.underlying159
  a51:=Tryz.isAgg159
  z51:=Tryz.sizeOf159
  v51:=Tryz.zeroValue159 }
open Go.RowKit in
theorem Tryz.utf8_AppendRune_plain (B:Nat) (v:Value) (n:Nat) (xs:List Value) (r:Int) (hr0 : -2147483648≤r) (hr1:r≤2147483647) (w:World) (hown:w.ownsRow B 5 1 v n xs) (hlen:n+4≤140737488355328) (hBw:B≤w.heap.size) :
    Calls Tryz.prog 246 #[v,.int .i32 r] w fun e w'=>∃ v',e = .returned v'∧w'.ownsRow B 5 1 v' (n+(Lib.runeCells r).length) (xs++Lib.runeCells r)∧∃ o,(w.alloc o).grownBy w' v.ownBlock:=Any.utf8_AppendRune_plain zmh (by kernel_rfl) B v n xs r hr0 hr1 w hown hlen hBw
def zhm:Go.Shelf.Ren:=⟨fun | 190=>57 | 125=>120 | 258=>119 | 128=>175 | 129=>176 | 302=>166 | 303=>167 | 304=>168 | 305=>169 | 306=>170 | 307=>171 | 308=>172 | 309=>173 | 310=>174 | 333=>213 | 329=>214 | 330=>215 | 334=>216 | 335=>217 | 336=>218 | 344=>255 | n=>n,fun | 31=>33 | 9=>9 | 3=>3 | 46=>166 | 0=>0 | 51=>159 | 53=>165 | 4=>4 | 183=>215 | 182=>214 | 131=>219 | 5=>5 | 218=>254 | 222=>258 | 228=>285 | 229=>239 | n=>n,fun | n=>n⟩
theorem zmk:Go.Proofs.Lays.n190 Tryz.prog zhm:={
  mixed:=by kernel_rfl
  f125:=Tryz.func120.trans (congrArg some (by kernel_rfl))
  f128:=Tryz.func175.trans (congrArg some (by kernel_rfl))
  f129:=Tryz.func176.trans (congrArg some (by kernel_rfl))
  f190:=Tryz.func57.trans (congrArg some (by kernel_rfl))
  f258:=Tryz.func119.trans (congrArg some (by kernel_rfl))
  f302:=Tryz.func166.trans (congrArg some (by kernel_rfl))
  f303:=Tryz.func167.trans (congrArg some (by kernel_rfl))
  f304:=Tryz.func168.trans (congrArg some (by kernel_rfl))
  f305:=Tryz.func169.trans (congrArg some (by kernel_rfl))
  f306:=Tryz.func170.trans (congrArg some (by kernel_rfl))
  f307:=Tryz.func171.trans (congrArg some (by kernel_rfl))
  f308:=Tryz.func172.trans (congrArg some (by kernel_rfl))
  f309:=Tryz.func173.trans (congrArg some (by kernel_rfl))
  f310:=Tryz.func174.trans (congrArg some (by kernel_rfl))
  f329:=Tryz.func214.trans (congrArg some (by kernel_rfl))
  f330:=Tryz.func215.trans (congrArg some (by kernel_rfl))
  f333:=Tryz.func213.trans (congrArg some (by kernel_rfl))
  f334:=Tryz.func216.trans (congrArg some (by kernel_rfl))
  f335:=Tryz.func217.trans (congrArg some (by kernel_rfl))
  f336:=Tryz.func218.trans (congrArg some (by kernel_rfl))
  f344:=Tryz.func255.trans (congrArg some (by kernel_rfl))
  t0:=Tryz.underlying0
  a0:=Tryz.isAgg0
  z0:=Tryz.sizeOf0
  v0:=Tryz.zeroValue0
  t3:=Tryz.underlying3
  a3:=Tryz.isAgg3
  z3:=Tryz.sizeOf3
  v3:=Tryz.zeroValue3
  t4:=Tryz.underlying4
  a4:=Tryz.isAgg4
  z4:=Tryz.sizeOf4
  v4:=Tryz.zeroValue4
  t5:=Tryz.underlying5
  a5:=Tryz.isAgg5
  z5:=Tryz.sizeOf5
  v5:=Tryz.zeroValue5
  t9:=Tryz.underlying9
  a9:=Tryz.isAgg9
  z9:=Tryz.sizeOf9
  v9:=Tryz.zeroValue9
  t31:=Tryz.underlying33
  a31:=Tryz.isAgg33
  z31:=Tryz.sizeOf33
  v31:=Tryz.zeroValue33
  t46:=Tryz.underlying166
  a46:=Tryz.isAgg166
  z46:=Tryz.sizeOf166
  v46:=Tryz.zeroValue166
  t51:=Tryz.underlying159
  a51:=Tryz.isAgg159
  z51:=Tryz.sizeOf159
  v51:=Tryz.zeroValue159
  t53:=Tryz.underlying165
  a53:=Tryz.isAgg165
  z53:=Tryz.sizeOf165
  v53:=Tryz.zeroValue165
  t131:=Tryz.underlying219
  a131:=Tryz.isAgg219
  z131:=Tryz.sizeOf219
  v131:=Tryz.zeroValue219
  t182:=Tryz.underlying214
  a182:=Tryz.isAgg214
  z182:=Tryz.sizeOf214
  v182:=Tryz.zeroValue214
  t183:=Tryz.underlying215
  a183:=Tryz.isAgg215
  z183:=Tryz.sizeOf215
  v183:=Tryz.zeroValue215
  t218:=Tryz.underlying254
  a218:=Tryz.isAgg254
  z218:=Tryz.sizeOf254
  v218:=Tryz.zeroValue254
  t222:=Tryz.underlying258
  a222:=Tryz.isAgg258
  z222:=Tryz.sizeOf258
  v222:=Tryz.zeroValue258
  t228:=Tryz.underlying285
  a228:=Tryz.isAgg285
  z228:=Tryz.sizeOf285
  v228:=Tryz.zeroValue285
  t229:=Tryz.underlying239
  a229:=Tryz.isAgg239
  z229:=Tryz.sizeOf239
  v229:=Tryz.zeroValue239 }
open Go.Sort Go.RowKit in
theorem Tryz.slices_Sort_string (blk off cap:Nat) (ss:List (List UInt8)) (w:World) (hH:Holds encStr w blk off ss.toArray) (hblk:blk<w.heap.size) (hsz:ss.length<4611686018427387904) :
    Calls Tryz.prog 57 #[.slice (some ⟨blk,off,none⟩) ss.length cap] w fun e w' =>
      e = .returned (.tuple #[])∧∃ n os,w'=grow (putRow encStr (Sort.ahead w n) blk off (ss.mergeSort fun x y=>decide (x≤y)).toArray) os:=Any.slices_Sort_string zmk blk off cap ss w hH hblk hsz
def zg2:Go.Shelf.Ren:=⟨fun | 17=>153 | 15=>206 | 20=>247 | n=>n,fun | 9=>9 | 23=>201 | 4=>4 | 3=>3 | 0=>0 | 21=>21 | n=>n,fun | n=>n⟩
theorem zky:Go.Proofs.LaysGw.n17 Tryz.prog zg2:={
  mixed:=by kernel_rfl
  f15:=Tryz.func206.trans (congrArg some (by kernel_rfl))
  f17:=Tryz.func153.trans (congrArg some (by kernel_rfl))
  f20:=Tryz.func247.trans (congrArg some (by kernel_rfl))
  t0:=Tryz.underlying0
  a0:=Tryz.isAgg0
  z0:=Tryz.sizeOf0
  v0:=Tryz.zeroValue0
  i0:=by kernel_rfl
  t3:=Tryz.underlying3
  a3:=Tryz.isAgg3
  z3:=Tryz.sizeOf3
  v3:=Tryz.zeroValue3
  i3:=by kernel_rfl
  t4:=Tryz.underlying4
  a4:=Tryz.isAgg4
  z4:=Tryz.sizeOf4
  v4:=Tryz.zeroValue4
  i4:=by kernel_rfl
  t9:=Tryz.underlying9
  a9:=Tryz.isAgg9
  z9:=Tryz.sizeOf9
  v9:=Tryz.zeroValue9
  i9:=by kernel_rfl
  t21:=Tryz.underlying21
  a21:=Tryz.isAgg21
  z21:=Tryz.sizeOf21
  v21:=Tryz.zeroValue21
  i21:=by kernel_rfl
  t23:=Tryz.underlying201
  a23:=Tryz.isAgg201
  z23:=Tryz.sizeOf201
  v23:=Tryz.zeroValue201
  i23:=by kernel_rfl }
open Go.RowKit Go.Lib in
theorem Tryz.strings_ContainsFunc_runes (g:Nat) (lb:Array Value) (eg:∀ args w,(callFunc g args).run Tryz.prog w = .ok (.enter g args) w) (p:Nat→Bool) (s:ByteArray) (w:World) (hp:PredAtRunes Tryz.prog g lb p w) :
    Calls Tryz.prog 153 #[.string s,.func (.func g) #[] lb] w fun e w'=>e = .returned (.bool (decide (0≤Lib.idxFunc p true s)))∧Below w.heap.size w w':=Any.strings_ContainsFunc_runes zky g lb eg p s w hp
def zi8:Go.Shelf.Ren:=⟨fun | 99=>154 | 206=>177 | n=>n,fun | 9=>9 | 4=>4 | 3=>3 | n=>n,fun | n=>n⟩
theorem zn4:Go.Proofs.Lays.n99 Tryz.prog zi8:={
  mixed:=by kernel_rfl
  f99:=Tryz.func154.trans (congrArg some (by kernel_rfl))
  f206:=Tryz.func177.trans (congrArg some (by kernel_rfl))
  t3:=Tryz.underlying3
  a3:=Tryz.isAgg3
  z3:=Tryz.sizeOf3
  v3:=Tryz.zeroValue3
  t4:=Tryz.underlying4
  a4:=Tryz.isAgg4
  z4:=Tryz.sizeOf4
  v4:=Tryz.zeroValue4
  t9:=Tryz.underlying9
  a9:=Tryz.isAgg9
  z9:=Tryz.sizeOf9
  v9:=Tryz.zeroValue9 }
open Go.RowKit Go.Lib in
theorem Tryz.strings_HasPrefix (s p:ByteArray) (w:World) :
    Calls Tryz.prog 154 #[.string s,.string p] w fun e w'=>e = .returned (.bool (Lib.hasPrefix s.data.toList p.data.toList))∧w'=w:=Any.strings_HasPrefix zn4 s p w
def zho:Go.Shelf.Ren:=⟨fun | 151=>197 | 152=>240 | 137=>194 | 119=>268 | 224=>269 | 225=>270 | 217=>238 | 266=>267 | n=>n,fun | 9=>9 | 21=>21 | 4=>4 | 3=>3 | 5=>5 | 0=>0 | 46=>166 | n=>n,fun | n=>n⟩
theorem zmn:Go.Proofs.Lays.n151 Tryz.prog zho:={
  mixed:=by kernel_rfl
  f119:=Tryz.func268.trans (congrArg some (by kernel_rfl))
  f137:=Tryz.func194.trans (congrArg some (by kernel_rfl))
  f151:=Tryz.func197.trans (congrArg some (by kernel_rfl))
  f152:=Tryz.func240.trans (congrArg some (by kernel_rfl))
  f217:=Tryz.func238.trans (congrArg some (by kernel_rfl))
  f224:=Tryz.func269.trans (congrArg some (by kernel_rfl))
  f225:=Tryz.func270.trans (congrArg some (by kernel_rfl))
  f266:=Tryz.func267.trans (congrArg some (by kernel_rfl))
  t0:=Tryz.underlying0
  a0:=Tryz.isAgg0
  z0:=Tryz.sizeOf0
  v0:=Tryz.zeroValue0
  t3:=Tryz.underlying3
  a3:=Tryz.isAgg3
  z3:=Tryz.sizeOf3
  v3:=Tryz.zeroValue3
  t4:=Tryz.underlying4
  a4:=Tryz.isAgg4
  z4:=Tryz.sizeOf4
  v4:=Tryz.zeroValue4
  t5:=Tryz.underlying5
  a5:=Tryz.isAgg5
  z5:=Tryz.sizeOf5
  v5:=Tryz.zeroValue5
  t9:=Tryz.underlying9
  a9:=Tryz.isAgg9
  z9:=Tryz.sizeOf9
  v9:=Tryz.zeroValue9
  t21:=Tryz.underlying21
  a21:=Tryz.isAgg21
  z21:=Tryz.sizeOf21
  v21:=Tryz.zeroValue21
  t46:=Tryz.underlying166
  a46:=Tryz.isAgg166
  z46:=Tryz.sizeOf166
  v46:=Tryz.zeroValue166 }
open Go.RowKit Go.Lib in
theorem Tryz.strings_ContainsRune_ascii (s:ByteArray) (r:Int) (w:World) (h0:0≤r) (h1:r<128) :
    Calls Tryz.prog 197 #[.string s,.int .i32 r] w fun e w'=>e = .returned (.bool (decide (0≤Lib.indexByte s.data.toList r.toNat.toUInt8)))∧w'=w:=Any.strings_ContainsRune_ascii zmn s r w h0 h1
def zhk:Go.Shelf.Ren:=⟨fun | 197=>256 | 260=>278 | n=>n,fun | 9=>9 | 21=>21 | 3=>3 | 4=>4 | 5=>5 | 105=>267 | 119=>262 | 0=>0 | 46=>166 | 139=>265 | 138=>264 | n=>n,fun | 3=>0 | 4=>1 | n=>n⟩
theorem zmi:Go.Proofs.Lays.n197 Tryz.prog zhk:={
  mixed:=by kernel_rfl
  f197:=Tryz.func256.trans (congrArg some (by kernel_rfl))
  f260:=Tryz.func278.trans (congrArg some (by kernel_rfl))
  t0:=Tryz.underlying0
  a0:=Tryz.isAgg0
  z0:=Tryz.sizeOf0
  v0:=Tryz.zeroValue0
  t3:=Tryz.underlying3
  a3:=Tryz.isAgg3
  z3:=Tryz.sizeOf3
  v3:=Tryz.zeroValue3
  t4:=Tryz.underlying4
  a4:=Tryz.isAgg4
  z4:=Tryz.sizeOf4
  v4:=Tryz.zeroValue4
  t5:=Tryz.underlying5
  a5:=Tryz.isAgg5
  z5:=Tryz.sizeOf5
  v5:=Tryz.zeroValue5
  t9:=Tryz.underlying9
  a9:=Tryz.isAgg9
  z9:=Tryz.sizeOf9
  v9:=Tryz.zeroValue9
  t21:=Tryz.underlying21
  a21:=Tryz.isAgg21
  z21:=Tryz.sizeOf21
  v21:=Tryz.zeroValue21
  t46:=Tryz.underlying166
  a46:=Tryz.isAgg166
  z46:=Tryz.sizeOf166
  v46:=Tryz.zeroValue166
  t105:=Tryz.underlying267
  a105:=Tryz.isAgg267
  z105:=Tryz.sizeOf267
  v105:=Tryz.zeroValue267
  t119:=Tryz.underlying262
  a119:=Tryz.isAgg262
  z119:=Tryz.sizeOf262
  t138:=Tryz.underlying264
  a138:=Tryz.isAgg264
  z138:=Tryz.sizeOf264
  v138:=Tryz.zeroValue264
  t139:=Tryz.underlying265
  a139:=Tryz.isAgg265
  z139:=Tryz.sizeOf265
  v139:=Tryz.zeroValue265
  g3:=by kernel_rfl
  g4:=by kernel_rfl }
open Go.RowKit Go.Lib in
theorem Tryz.utf8_DecodeRuneInString (s:ByteArray) (w:World) (hT:Lib.Utf8Tabs 0 1 w) :
    Calls Tryz.prog 256 #[.string s] w fun e w'=>e = .returned (.tuple #[.int .i32 (Lib.decodeGo s).1,.int .i64 (Lib.decodeGo s).2])∧Below w.heap.size w w':=Any.utf8_DecodeRuneInString zmi s w hT
def zhr:Go.Shelf.Ren:=⟨fun | 110=>70 | 109=>82 | n=>n,fun | 31=>33 | 9=>9 | 4=>4 | 3=>3 | 0=>0 | n=>n,fun | n=>n⟩
theorem zhb:Go.Proofs.Lays.n110 Tryz.prog zhr:={
  mixed:=by kernel_rfl
  f109:=Tryz.func82.trans (congrArg some (by kernel_rfl))
  f110:=Tryz.func70.trans (congrArg some (by kernel_rfl))
  t0:=Tryz.underlying0
  a0:=Tryz.isAgg0
  z0:=Tryz.sizeOf0
  v0:=Tryz.zeroValue0
  t3:=Tryz.underlying3
  a3:=Tryz.isAgg3
  z3:=Tryz.sizeOf3
  v3:=Tryz.zeroValue3
  t4:=Tryz.underlying4
  a4:=Tryz.isAgg4
  z4:=Tryz.sizeOf4
  v4:=Tryz.zeroValue4
  t9:=Tryz.underlying9
  a9:=Tryz.isAgg9
  z9:=Tryz.sizeOf9
  v9:=Tryz.zeroValue9
  t31:=Tryz.underlying33
  a31:=Tryz.isAgg33
  z31:=Tryz.sizeOf33
  v31:=Tryz.zeroValue33 }
open Go.Lib in
theorem Tryz.slices_Contains_string (b off n c:Nat) (zs:List ByteArray) (x:ByteArray) (w:World) (hz:n≤zs.length) (hbig:n≤9223372036854775807) (hc:∀ j,j<zs.length→w.cell? ⟨b,off+j,none⟩=some (.string (zs.getD j ByteArray.empty))) :
    Calls Tryz.prog 70 #[.slice (some ⟨b,off,none⟩) n c,.string x] w fun e w'=>e = .returned (.bool (Lib.containsS (zs.take n) x))∧w'=w:=Any.slices_Contains_string zhb b off n c zs x w hz hbig hc
open Go.Lib in
theorem Tryz.slices_Contains_string_empty (a:Option Addr) (c:Nat) (x:ByteArray) (w:World) :
    Calls Tryz.prog 70 #[.slice a 0 c,.string x] w fun e w'=>e = .returned (.bool false)∧w'=w:=Any.slices_Contains_string_empty zhb a c x w
def zhl:Go.Shelf.Ren:=⟨fun | 194=>58 | n=>n,fun | 31=>33 | 9=>9 | 3=>3 | 4=>4 | 0=>0 | n=>n,fun | n=>n⟩
theorem zmj:Go.Proofs.Lays.n194 Tryz.prog zhl:={
  mixed:=by kernel_rfl
  f194:=Tryz.func58.trans (congrArg some (by kernel_rfl))
  t0:=Tryz.underlying0
  a0:=Tryz.isAgg0
  z0:=Tryz.sizeOf0
  v0:=Tryz.zeroValue0
  t3:=Tryz.underlying3
  a3:=Tryz.isAgg3
  z3:=Tryz.sizeOf3
  v3:=Tryz.zeroValue3
  t4:=Tryz.underlying4
  a4:=Tryz.isAgg4
  z4:=Tryz.sizeOf4
  v4:=Tryz.zeroValue4
  t9:=Tryz.underlying9
  a9:=Tryz.isAgg9
  z9:=Tryz.sizeOf9
  v9:=Tryz.zeroValue9
  t31:=Tryz.underlying33
  a31:=Tryz.isAgg33
  z31:=Tryz.sizeOf33
  v31:=Tryz.zeroValue33 }
open Go.RowKit Go.Lib Go.Sort in
theorem Tryz.slices_Compact_string (blk off cap:Nat) (zs:List (List UInt8)) (w:World) (hH:Holds encStr w blk off zs.toArray) (hsz:zs.length≤9223372036854775807) (hcap:zs.length≤cap) :
    Calls Tryz.prog 58 #[.slice (some ⟨blk,off,none⟩) zs.length cap] w fun e w'=>e = .returned (.slice (some ⟨blk,off,none⟩) (Lib.compact zs).length cap)∧∃ q,w'=putRow encStr (Sort.ahead w q) blk off (Lib.compact zs++List.replicate (zs.length - (Lib.compact zs).length) []).toArray:=Any.slices_Compact_string zmj blk off cap zs w hH hsz hcap
open Go.RowKit Go.Lib in
theorem Tryz.strings_TrimLeft_set (s cutset:ByteArray) (w:World) (hcs:cutset.size<4294967281) (hascii:∀ (j:Nat) b,cutset.data.toList[j]? = some b→b.toNat<128) :
    Calls Tryz.prog 181 #[.string s,.string cutset] w fun e w'=>e = .returned (.string ⟨(Lib.trimLeftS s.data.toList cutset.data.toList).toArray⟩)∧Below w.heap.size w w':=Any.strings_TrimLeft_laid zmm (by kernel_rfl) s cutset w hcs hascii
def zjg:Go.Shelf.Ren:=⟨fun | 4=>210 | n=>n,fun | 22=>24 | 25=>5 | 3=>3 | 4=>4 | 9=>9 | 20=>20 | 0=>0 | n=>n,fun | n=>n⟩
theorem zj6:Go.Proofs.Lays8.n4 Tryz.prog zjg:={
  mixed:=by kernel_rfl
  f4:=⟨Tryz.f210.name,by decide,Tryz.func210.trans (congrArg some (by kernel_rfl))⟩
  t0:=Tryz.underlying0
  a0:=Tryz.isAgg0
  z0:=Tryz.sizeOf0
  v0:=Tryz.zeroValue0
  t3:=Tryz.underlying3
  a3:=Tryz.isAgg3
  z3:=Tryz.sizeOf3
  v3:=Tryz.zeroValue3
  t4:=Tryz.underlying4
  a4:=Tryz.isAgg4
  z4:=Tryz.sizeOf4
  v4:=Tryz.zeroValue4
  t9:=Tryz.underlying9
  a9:=Tryz.isAgg9
  z9:=Tryz.sizeOf9
  v9:=Tryz.zeroValue9
  t20:=Tryz.underlying20
  a20:=Tryz.isAgg20
  z20:=Tryz.sizeOf20
  v20:=Tryz.zeroValue20
  t22:=Tryz.underlying24
  a22:=Tryz.isAgg24
  z22:=Tryz.sizeOf24
  v22:=Tryz.zeroValue24 }
end Go.Proofs
