/-
  DERIVED: THE SHELF's CONTRACTS AT THIS DUMP,IN PLAIN WORDS (tools/lay-plain.mjs out of 'TryzShelf.lean',which tools/lay-shelf.mjs wrote): THE SAME DECLARATIONS UNDER THE SAME NAMES: 'import','namespace','open','def','theorem' AND NOTHING ELSE: no command of the shelf's: FOR A HAND-IN. Each laying: the table of numbers ('.._ren') and one theorem,a field a fact of the dump's own or the kernel's comparison;each zn2: ONE APPLICATION.
-/
import Derived.Shelf.Strings.SlTrimAscii
import Derived.Shelf.Strings.Builder1
import Derived.Shelf.Strings.Trim
import Derived.Shelf.Small.Utf8
import Derived.Shelf.Small.Bits
import Derived.Shelf.Small.Strs
import Derived.Shelf.Small.Wraps
import Derived.Shelf.Strings.BuilderF
import Derived.Shelf.Strings.BuilderK
import Derived.Shelf.Strings.BuilderRune
import Derived.Shelf.Utf8.AppendRune
import Derived.Shelf.Utf8.AppendRunePlain
import Derived.Shelf.Strconv.Itoa0
import Derived.Shelf.Strings.Search1
import Derived.Shelf.Sort.Plain
import Derived.Shelf.GgClosure.StringsIndexFunc
import Derived.Ground.GgwProg
import Derived.Shelf.GgClosure.StringsIndexFuncTop
import Derived.Shelf.GgClosure.StringsRunes
import Derived.Shelf.Strings.Prefix
import Derived.Shelf.Strings.Runes
import Derived.Shelf.Strings.AsciiSet
import Derived.Shelf.Unicode.DecodeSlow
import Derived.Shelf.Unicode.DecodeAny
import Derived.Shelf.Strings.BuilderCap
import Derived.Shelf.Slices.CompactS
import Derived.Test.YtcddlemkimbkcaaGreatDoorProg
namespace Go.Proofs
open Go.Shelf
def zdv:Go.Shelf.Ren:=⟨fun | 169=>167 | n=>n,fun | 70=>260 | 9=>9 | 0=>0 | 72=>262 | 37=>36 | 127=>310 | 3=>3 | 5=>5 | n=>n,fun | n=>n⟩
theorem zlp:Go.Proofs.Lays.n169 Tryz.prog zdv:={
  mixed:=by kernel_rfl
  f169:=Tryz.func167.trans (congrArg some (by kernel_rfl))
  t0:=Tryz.underlying0
  a0:=Tryz.isAgg0
  z0:=Tryz.sizeOf0
  v0:=Tryz.zeroValue0
  t3:=Tryz.underlying3
  a3:=Tryz.isAgg3
  z3:=Tryz.sizeOf3
  v3:=Tryz.zeroValue3
  t9:=Tryz.underlying9
  a9:=Tryz.isAgg9
  z9:=Tryz.sizeOf9
  v9:=Tryz.zeroValue9
  t37:=Tryz.underlying36
  a37:=Tryz.isAgg36
  z37:=Tryz.sizeOf36
  v37:=Tryz.zeroValue36
  t70:=Tryz.underlying260
  a70:=Tryz.isAgg260
  z70:=Tryz.sizeOf260
  v70:=Tryz.zeroValue260
  t72:=Tryz.underlying262
  a72:=Tryz.isAgg262
  z72:=Tryz.sizeOf262
  v72:=Tryz.zeroValue262
  t127:=Tryz.underlying310
  a127:=Tryz.isAgg310
  z127:=Tryz.sizeOf310
  v127:=Tryz.zeroValue310 }
theorem zdz:Builder.Extra Tryz.prog zdv:={
  sizeBuilder:=by kernel_rfl
  liesBuilder:=by kernel_rfl
  t5:=Tryz.underlying5
  a5:=Tryz.isAgg5
  z5:=Tryz.sizeOf5
  v5:=Tryz.zeroValue5
  infoByte:=by kernel_rfl
  cellsByte:=by kernel_rfl
  sizeByte:=by kernel_rfl
  neB5:=by decide }
def zgz:Go.Shelf.Ren:=⟨fun | 161=>223 | 231=>265 | 227=>266 | 233=>267 | 235=>268 | 228=>293 | 197=>285 | 151=>204 | 260=>296 | 152=>241 | 137=>205 | 119=>277 | 224=>278 | 225=>279 | 217=>242 | 266=>280 | n=>n,fun | 9=>9 | 4=>4 | 3=>3 | 5=>5 | 117=>349 | 116=>348 | 0=>0 | 124=>352 | 105=>364 | 21=>21 | 119=>373 | 46=>84 | 139=>376 | 138=>375 | n=>n,fun | 3=>1 | 4=>2 | n=>n⟩
theorem zlq:Go.Proofs.Lays.n161 Tryz.prog zgz:={
  mixed:=by kernel_rfl
  f119:=Tryz.func277.trans (congrArg some (by kernel_rfl))
  f137:=Tryz.func205.trans (congrArg some (by kernel_rfl))
  f151:=Tryz.func204.trans (congrArg some (by kernel_rfl))
  f152:=Tryz.func241.trans (congrArg some (by kernel_rfl))
  f161:=Tryz.func223.trans (congrArg some (by kernel_rfl))
  f197:=Tryz.func285.trans (congrArg some (by kernel_rfl))
  f217:=Tryz.func242.trans (congrArg some (by kernel_rfl))
  f224:=Tryz.func278.trans (congrArg some (by kernel_rfl))
  f225:=Tryz.func279.trans (congrArg some (by kernel_rfl))
  f227:=Tryz.func266.trans (congrArg some (by kernel_rfl))
  f228:=Tryz.func293.trans (congrArg some (by kernel_rfl))
  f231:=Tryz.func265.trans (congrArg some (by kernel_rfl))
  f233:=Tryz.func267.trans (congrArg some (by kernel_rfl))
  f235:=Tryz.func268.trans (congrArg some (by kernel_rfl))
  f260:=Tryz.func296.trans (congrArg some (by kernel_rfl))
  f266:=Tryz.func280.trans (congrArg some (by kernel_rfl))
  t0:=Tryz.underlying0
  a0:=Tryz.isAgg0
  z0:=Tryz.sizeOf0
  v0:=Tryz.zeroValue0
  t3:=Tryz.underlying3
  a3:=Tryz.isAgg3
  z3:=Tryz.sizeOf3
  v3:=Tryz.zeroValue3
  t4:=Tryz.underlying4
  a4:=Tryz.isAgg4
  z4:=Tryz.sizeOf4
  v4:=Tryz.zeroValue4
  t5:=Tryz.underlying5
  a5:=Tryz.isAgg5
  z5:=Tryz.sizeOf5
  v5:=Tryz.zeroValue5
  t9:=Tryz.underlying9
  a9:=Tryz.isAgg9
  z9:=Tryz.sizeOf9
  v9:=Tryz.zeroValue9
  t21:=Tryz.underlying21
  a21:=Tryz.isAgg21
  z21:=Tryz.sizeOf21
  v21:=Tryz.zeroValue21
  t46:=Tryz.underlying84
  a46:=Tryz.isAgg84
  z46:=Tryz.sizeOf84
  v46:=Tryz.zeroValue84
  t105:=Tryz.underlying364
  a105:=Tryz.isAgg364
  z105:=Tryz.sizeOf364
  v105:=Tryz.zeroValue364
  t116:=Tryz.underlying348
  a116:=Tryz.isAgg348
  z116:=Tryz.sizeOf348
  t117:=Tryz.underlying349
  a117:=Tryz.isAgg349
  z117:=Tryz.sizeOf349
  v117:=Tryz.zeroValue349
  t119:=Tryz.underlying373
  a119:=Tryz.isAgg373
  z119:=Tryz.sizeOf373
  t124:=Tryz.underlying352
  a124:=Tryz.isAgg352
  z124:=Tryz.sizeOf352
  v124:=Tryz.zeroValue352
  t138:=Tryz.underlying375
  a138:=Tryz.isAgg375
  z138:=Tryz.sizeOf375
  v138:=Tryz.zeroValue375
  t139:=Tryz.underlying376
  a139:=Tryz.isAgg376
  z139:=Tryz.sizeOf376
  v139:=Tryz.zeroValue376
  g3:=by kernel_rfl
  g4:=by kernel_rfl }
def zg3:Go.Shelf.Ren:=⟨fun | 119=>277 | n=>n,fun | 21=>21 | 4=>4 | n=>n,fun | n=>n⟩
theorem zlv:Go.Proofs.Lays.n119 Tryz.prog zg3:={
  mixed:=by kernel_rfl
  f119:=Tryz.func277.trans (congrArg some (by kernel_rfl))
  t4:=Tryz.underlying4
  a4:=Tryz.isAgg4
  z4:=Tryz.sizeOf4
  v4:=Tryz.zeroValue4
  t21:=Tryz.underlying21
  a21:=Tryz.isAgg21
  z21:=Tryz.sizeOf21
  v21:=Tryz.zeroValue21 }
theorem Tryz.utf8_ValidRune (r:Int) (w:World) :
    Calls Tryz.prog 277 #[.int .i32 r] w fun e w'=>e = .returned (.bool (Lib.validRune r))∧w'=w:=Any.utf8_ValidRune zlv r w
def zg2:Go.Shelf.Ren:=⟨fun | 125=>150 | 128=>199 | 129=>200 | n=>n,fun | 46=>84 | 3=>3 | 51=>234 | 53=>240 | 4=>4 | 5=>5 | 9=>9 | n=>n,fun | n=>n⟩
theorem zlu:Go.Proofs.Lays.n125 Tryz.prog zg2:={
  mixed:=by kernel_rfl
  f125:=Tryz.func150.trans (congrArg some (by kernel_rfl))
  f128:=Tryz.func199.trans (congrArg some (by kernel_rfl))
  f129:=Tryz.func200.trans (congrArg some (by kernel_rfl))
  t3:=Tryz.underlying3
  a3:=Tryz.isAgg3
  z3:=Tryz.sizeOf3
  v3:=Tryz.zeroValue3
  t4:=Tryz.underlying4
  a4:=Tryz.isAgg4
  z4:=Tryz.sizeOf4
  v4:=Tryz.zeroValue4
  t5:=Tryz.underlying5
  a5:=Tryz.isAgg5
  z5:=Tryz.sizeOf5
  v5:=Tryz.zeroValue5
  t9:=Tryz.underlying9
  a9:=Tryz.isAgg9
  z9:=Tryz.sizeOf9
  v9:=Tryz.zeroValue9
  t46:=Tryz.underlying84
  a46:=Tryz.isAgg84
  z46:=Tryz.sizeOf84
  v46:=Tryz.zeroValue84
  t51:=Tryz.underlying234
  a51:=Tryz.isAgg234
  z51:=Tryz.sizeOf234
  v51:=Tryz.zeroValue234
  t53:=Tryz.underlying240
  a53:=Tryz.isAgg240
  z53:=Tryz.sizeOf240
  v53:=Tryz.zeroValue240 }
theorem Tryz.bits_Len (x:Int) (w:World) (h0:0≤x) (h1:x≤18446744073709551615) :
    Calls Tryz.prog 150 #[.int .u64 x] w fun e w'=>e = .returned (.int .i64 (Lib.bitLen x.toNat))∧w'=w:=Any.bits_Len zlu x w h0 h1
def zg1:Go.Shelf.Ren:=⟨fun | 137=>205 | 217=>242 | 266=>280 | n=>n,fun | 9=>9 | 5=>5 | 3=>3 | n=>n,fun | n=>n⟩
theorem zls:Go.Proofs.Lays.n137 Tryz.prog zg1:={
  mixed:=by kernel_rfl
  f137:=Tryz.func205.trans (congrArg some (by kernel_rfl))
  f217:=Tryz.func242.trans (congrArg some (by kernel_rfl))
  f266:=Tryz.func280.trans (congrArg some (by kernel_rfl))
  t3:=Tryz.underlying3
  a3:=Tryz.isAgg3
  z3:=Tryz.sizeOf3
  v3:=Tryz.zeroValue3
  t5:=Tryz.underlying5
  a5:=Tryz.isAgg5
  z5:=Tryz.sizeOf5
  v5:=Tryz.zeroValue5
  t9:=Tryz.underlying9
  a9:=Tryz.isAgg9
  z9:=Tryz.sizeOf9
  v9:=Tryz.zeroValue9 }
open Go.RowKit in
theorem Tryz.strings_IndexByte (s:ByteArray) (c:Int) (w:World) :
    Calls Tryz.prog 205 #[.string s,.int .u8 c] w fun e w'=>e = .returned (.int .i64 (Lib.indexByte s.data.toList c.toNat.toUInt8))∧w'=w:=Any.strings_IndexByte zls s c w
def zg4:Go.Shelf.Ren:=⟨fun | 103=>58 | 210=>105 | 206=>159 | n=>n,fun | 9=>9 | 4=>4 | 24=>103 | 3=>3 | n=>n,fun | n=>n⟩
theorem zlw:Go.Proofs.Lays.n103 Tryz.prog zg4:={
  mixed:=by kernel_rfl
  f103:=Tryz.func58.trans (congrArg some (by kernel_rfl))
  f206:=Tryz.func159.trans (congrArg some (by kernel_rfl))
  f210:=Tryz.func105.trans (congrArg some (by kernel_rfl))
  t3:=Tryz.underlying3
  a3:=Tryz.isAgg3
  z3:=Tryz.sizeOf3
  v3:=Tryz.zeroValue3
  t4:=Tryz.underlying4
  a4:=Tryz.isAgg4
  z4:=Tryz.sizeOf4
  v4:=Tryz.zeroValue4
  t9:=Tryz.underlying9
  a9:=Tryz.isAgg9
  z9:=Tryz.sizeOf9
  v9:=Tryz.zeroValue9
  t24:=Tryz.underlying103
  a24:=Tryz.isAgg103
  z24:=Tryz.sizeOf103
  v24:=Tryz.zeroValue103 }
open Go.RowKit in
theorem Tryz.strings_CutPrefix (s p:ByteArray) (w:World) :
    Calls Tryz.prog 58 #[.string s,.string p] w fun e w'=>e = .returned (.tuple #[.string ⟨(Lib.trimPrefix s.data.toList p.data.toList).toArray⟩,.bool (Lib.hasPrefix s.data.toList p.data.toList)])∧w'=w:=Any.strings_CutPrefix zlw s p w
open Go.RowKit in
theorem Tryz.Builder_String_any_k (B b:Nat) (l:List UInt8) (w:World) (h:Lib.IsBuilderF 262 5 B b (Lib.byteCells l) w) (hBw:B≤w.heap.size) :
    Calls Tryz.prog 167 #[.pointer (some ⟨b,0,none⟩)] w fun e w'=>e = .returned (.string ⟨l.toArray⟩)∧(Lib.IsBuilderF 262 5 B b (Lib.byteCells l) w'∧Below B w w'∧Lib.OthersKept 5 (some b) w w'):=Any.Builder_String_any_k zlp zdz B b l w h hBw
def zgx:Go.Shelf.Ren:=⟨fun | 242=>297 | 278=>300 | n=>n,fun | 37=>36 | 21=>21 | 51=>234 | 4=>4 | 5=>5 | 46=>84 | n=>n,fun | n=>n⟩
theorem zln:Go.Proofs.Lays.n242 Tryz.prog zgx:={
  mixed:=by kernel_rfl
  f242:=Tryz.func297.trans (congrArg some (by kernel_rfl))
  f278:=Tryz.func300.trans (congrArg some (by kernel_rfl))
  t4:=Tryz.underlying4
  a4:=Tryz.isAgg4
  z4:=Tryz.sizeOf4
  v4:=Tryz.zeroValue4
  t5:=Tryz.underlying5
  a5:=Tryz.isAgg5
  z5:=Tryz.sizeOf5
  v5:=Tryz.zeroValue5
  t21:=Tryz.underlying21
  a21:=Tryz.isAgg21
  z21:=Tryz.sizeOf21
  v21:=Tryz.zeroValue21
  t37:=Tryz.underlying36
  a37:=Tryz.isAgg36
  z37:=Tryz.sizeOf36
  v37:=Tryz.zeroValue36
  t46:=Tryz.underlying84
  a46:=Tryz.isAgg84
  z46:=Tryz.sizeOf84
  v46:=Tryz.zeroValue84
  t51:=Tryz.underlying234
  a51:=Tryz.isAgg234
  z51:=Tryz.sizeOf234
  v51:=Tryz.zeroValue234 }
open Go.RowKit in
theorem Tryz.utf8_AppendRune_plain (B:Nat) (v:Value) (n:Nat) (xs:List Value) (r:Int) (hr0 : -2147483648≤r) (hr1:r≤2147483647) (w:World) (hown:w.ownsRow B 5 1 v n xs) (hlen:n+4≤140737488355328) (hBw:B≤w.heap.size) :
    Calls Tryz.prog 297 #[v,.int .i32 r] w fun e w'=>∃ v',e = .returned v'∧w'.ownsRow B 5 1 v' (n+(Lib.runeCells r).length) (xs++Lib.runeCells r)∧∃ o,(w.alloc o).grownBy w' v.ownBlock:=Any.utf8_AppendRune_plain zln (by kernel_rfl) B v n xs r hr0 hr1 w hown hlen hBw
def zgg:Go.Shelf.Ren:=⟨fun | 17=>183 | 15=>224 | 20=>269 | n=>n,fun | 9=>9 | 23=>284 | 4=>4 | 3=>3 | 0=>0 | 21=>21 | n=>n,fun | n=>n⟩
theorem zj0:Go.Proofs.LaysGw.n17 Tryz.prog zgg:={
  mixed:=by kernel_rfl
  f15:=Tryz.func224.trans (congrArg some (by kernel_rfl))
  f17:=Tryz.func183.trans (congrArg some (by kernel_rfl))
  f20:=Tryz.func269.trans (congrArg some (by kernel_rfl))
  t0:=Tryz.underlying0
  a0:=Tryz.isAgg0
  z0:=Tryz.sizeOf0
  v0:=Tryz.zeroValue0
  i0:=by kernel_rfl
  t3:=Tryz.underlying3
  a3:=Tryz.isAgg3
  z3:=Tryz.sizeOf3
  v3:=Tryz.zeroValue3
  i3:=by kernel_rfl
  t4:=Tryz.underlying4
  a4:=Tryz.isAgg4
  z4:=Tryz.sizeOf4
  v4:=Tryz.zeroValue4
  i4:=by kernel_rfl
  t9:=Tryz.underlying9
  a9:=Tryz.isAgg9
  z9:=Tryz.sizeOf9
  v9:=Tryz.zeroValue9
  i9:=by kernel_rfl
  t21:=Tryz.underlying21
  a21:=Tryz.isAgg21
  z21:=Tryz.sizeOf21
  v21:=Tryz.zeroValue21
  i21:=by kernel_rfl
  t23:=Tryz.underlying284
  a23:=Tryz.isAgg284
  z23:=Tryz.sizeOf284
  v23:=Tryz.zeroValue284
  i23:=by kernel_rfl }
open Go.RowKit Go.Lib in
theorem Tryz.strings_ContainsFunc_runes (g:Nat) (lb:Array Value) (eg:∀ args w,(callFunc g args).run Tryz.prog w = .ok (.enter g args) w) (p:Nat→Bool) (s:ByteArray) (w:World) (hp:PredAtRunes Tryz.prog g lb p w) :
    Calls Tryz.prog 183 #[.string s,.func (.func g) #[] lb] w fun e w'=>e = .returned (.bool (decide (0≤Lib.idxFunc p true s)))∧Below w.heap.size w w':=Any.strings_ContainsFunc_runes zj0 g lb eg p s w hp
def zia:Go.Shelf.Ren:=⟨fun | 99=>184 | 206=>159 | n=>n,fun | 9=>9 | 4=>4 | 3=>3 | n=>n,fun | n=>n⟩
theorem zm8:Go.Proofs.Lays.n99 Tryz.prog zia:={
  mixed:=by kernel_rfl
  f99:=Tryz.func184.trans (congrArg some (by kernel_rfl))
  f206:=Tryz.func159.trans (congrArg some (by kernel_rfl))
  t3:=Tryz.underlying3
  a3:=Tryz.isAgg3
  z3:=Tryz.sizeOf3
  v3:=Tryz.zeroValue3
  t4:=Tryz.underlying4
  a4:=Tryz.isAgg4
  z4:=Tryz.sizeOf4
  v4:=Tryz.zeroValue4
  t9:=Tryz.underlying9
  a9:=Tryz.isAgg9
  z9:=Tryz.sizeOf9
  v9:=Tryz.zeroValue9 }
open Go.RowKit Go.Lib in
theorem Tryz.strings_HasPrefix (s p:ByteArray) (w:World) :
    Calls Tryz.prog 184 #[.string s,.string p] w fun e w'=>e = .returned (.bool (Lib.hasPrefix s.data.toList p.data.toList))∧w'=w:=Any.strings_HasPrefix zm8 s p w
def zg0:Go.Shelf.Ren:=⟨fun | 151=>204 | 152=>241 | 137=>205 | 119=>277 | 224=>278 | 225=>279 | 217=>242 | 266=>280 | n=>n,fun | 9=>9 | 21=>21 | 4=>4 | 3=>3 | 5=>5 | 0=>0 | 46=>84 | n=>n,fun | n=>n⟩
theorem zlr:Go.Proofs.Lays.n151 Tryz.prog zg0:={
  mixed:=by kernel_rfl
  f119:=Tryz.func277.trans (congrArg some (by kernel_rfl))
  f137:=Tryz.func205.trans (congrArg some (by kernel_rfl))
  f151:=Tryz.func204.trans (congrArg some (by kernel_rfl))
  f152:=Tryz.func241.trans (congrArg some (by kernel_rfl))
  f217:=Tryz.func242.trans (congrArg some (by kernel_rfl))
  f224:=Tryz.func278.trans (congrArg some (by kernel_rfl))
  f225:=Tryz.func279.trans (congrArg some (by kernel_rfl))
  f266:=Tryz.func280.trans (congrArg some (by kernel_rfl))
  t0:=Tryz.underlying0
  a0:=Tryz.isAgg0
  z0:=Tryz.sizeOf0
  v0:=Tryz.zeroValue0
  t3:=Tryz.underlying3
  a3:=Tryz.isAgg3
  z3:=Tryz.sizeOf3
  v3:=Tryz.zeroValue3
  t4:=Tryz.underlying4
  a4:=Tryz.isAgg4
  z4:=Tryz.sizeOf4
  v4:=Tryz.zeroValue4
  t5:=Tryz.underlying5
  a5:=Tryz.isAgg5
  z5:=Tryz.sizeOf5
  v5:=Tryz.zeroValue5
  t9:=Tryz.underlying9
  a9:=Tryz.isAgg9
  z9:=Tryz.sizeOf9
  v9:=Tryz.zeroValue9
  t21:=Tryz.underlying21
  a21:=Tryz.isAgg21
  z21:=Tryz.sizeOf21
  v21:=Tryz.zeroValue21
  t46:=Tryz.underlying84
  a46:=Tryz.isAgg84
  z46:=Tryz.sizeOf84
  v46:=Tryz.zeroValue84 }
open Go.RowKit Go.Lib in
theorem Tryz.strings_ContainsRune_ascii (s:ByteArray) (r:Int) (w:World) (h0:0≤r) (h1:r<128) :
    Calls Tryz.prog 204 #[.string s,.int .i32 r] w fun e w'=>e = .returned (.bool (decide (0≤Lib.indexByte s.data.toList r.toNat.toUInt8)))∧w'=w:=Any.strings_ContainsRune_ascii zlr s r w h0 h1
def zgy:Go.Shelf.Ren:=⟨fun | 197=>285 | 260=>296 | n=>n,fun | 9=>9 | 21=>21 | 3=>3 | 4=>4 | 5=>5 | 105=>364 | 119=>373 | 0=>0 | 46=>84 | 139=>376 | 138=>375 | n=>n,fun | 3=>1 | 4=>2 | n=>n⟩
theorem zlo:Go.Proofs.Lays.n197 Tryz.prog zgy:={
  mixed:=by kernel_rfl
  f197:=Tryz.func285.trans (congrArg some (by kernel_rfl))
  f260:=Tryz.func296.trans (congrArg some (by kernel_rfl))
  t0:=Tryz.underlying0
  a0:=Tryz.isAgg0
  z0:=Tryz.sizeOf0
  v0:=Tryz.zeroValue0
  t3:=Tryz.underlying3
  a3:=Tryz.isAgg3
  z3:=Tryz.sizeOf3
  v3:=Tryz.zeroValue3
  t4:=Tryz.underlying4
  a4:=Tryz.isAgg4
  z4:=Tryz.sizeOf4
  v4:=Tryz.zeroValue4
  t5:=Tryz.underlying5
  a5:=Tryz.isAgg5
  z5:=Tryz.sizeOf5
  v5:=Tryz.zeroValue5
  t9:=Tryz.underlying9
  a9:=Tryz.isAgg9
  z9:=Tryz.sizeOf9
  v9:=Tryz.zeroValue9
  t21:=Tryz.underlying21
  a21:=Tryz.isAgg21
  z21:=Tryz.sizeOf21
  v21:=Tryz.zeroValue21
  t46:=Tryz.underlying84
  a46:=Tryz.isAgg84
  z46:=Tryz.sizeOf84
  v46:=Tryz.zeroValue84
  t105:=Tryz.underlying364
  a105:=Tryz.isAgg364
  z105:=Tryz.sizeOf364
  v105:=Tryz.zeroValue364
  t119:=Tryz.underlying373
  a119:=Tryz.isAgg373
  z119:=Tryz.sizeOf373
  t138:=Tryz.underlying375
  a138:=Tryz.isAgg375
  z138:=Tryz.sizeOf375
  v138:=Tryz.zeroValue375
  t139:=Tryz.underlying376
  a139:=Tryz.isAgg376
  z139:=Tryz.sizeOf376
  v139:=Tryz.zeroValue376
  g3:=by kernel_rfl
  g4:=by kernel_rfl }
open Go.RowKit Go.Lib in
theorem Tryz.utf8_DecodeRuneInString (s:ByteArray) (w:World) (hT:Lib.Utf8Tabs 1 2 w) :
    Calls Tryz.prog 285 #[.string s] w fun e w'=>e = .returned (.tuple #[.int .i32 (Lib.decodeGo s).1,.int .i64 (Lib.decodeGo s).2])∧Below w.heap.size w w':=Any.utf8_DecodeRuneInString zlo s w hT
open Go.RowKit Go.Lib in
theorem Tryz.strings_TrimLeft_set (s cutset:ByteArray) (w:World) (hcs:cutset.size<4294967281) (hascii:∀ (j:Nat) b,cutset.data.toList[j]? = some b→b.toNat<128) :
    Calls Tryz.prog 223 #[.string s,.string cutset] w fun e w'=>e = .returned (.string ⟨(Lib.trimLeftS s.data.toList cutset.data.toList).toArray⟩)∧Below w.heap.size w w':=Any.strings_TrimLeft_laid zlq (by kernel_rfl) s cutset w hcs hascii
end Go.Proofs
