/-
  DERIVED: THE SHELF's CONTRACTS AT THIS DUMP,IN PLAIN WORDS (tools/lay-plain.mjs out of 'TryzShelf.lean',which tools/lay-shelf.mjs wrote): THE SAME DECLARATIONS UNDER THE SAME NAMES: 'import','namespace','open','def','theorem' AND NOTHING ELSE: no command of the shelf's: FOR A HAND-IN. Each laying: the table of numbers ('.._ren') and one theorem,a field a fact of the dump's own or the kernel's comparison;each zn9: ONE APPLICATION.
-/
import Derived.Shelf.Strings.SlTrimAscii
import Derived.Shelf.Unicode.ValidAny
import Derived.Shelf.Spec.SlicesGrow
import Derived.Ground.Names8Prog
import Derived.Shelf.Strings.Builder1
import Derived.Shelf.Strings.Builder2
import Derived.Shelf.Strings.OnBuilder
import Derived.Shelf.Strings.Trim
import Derived.Shelf.Small.Utf8
import Derived.Shelf.Small.Bits
import Derived.Shelf.Small.Strs
import Derived.Shelf.Small.Wraps
import Derived.Shelf.Strings.BuilderF
import Derived.Shelf.Strings.BuilderK
import Derived.Shelf.Strings.BuilderRune
import Derived.Shelf.Utf8.AppendRune
import Derived.Shelf.Utf8.AppendRunePlain
import Derived.Shelf.Strings.Builder2Cap
import Derived.Shelf.Strconv.Itoa0
import Derived.Shelf.Strconv.Itoa1
import Derived.Shelf.LaysM
import Derived.Shelf.Strconv.Itoa2
import Derived.Shelf.Strconv.Itoa3
import Derived.Shelf.Strings.Search1
import Derived.Shelf.Sort.Plain
import Derived.Shelf.GgClosure.StringsIndexFunc
import Derived.Ground.GgwProg
import Derived.Shelf.GgClosure.StringsIndexFuncTop
import Derived.Shelf.GgClosure.StringsRunes
import Derived.Shelf.Strings.Prefix
import Derived.Shelf.Strings.Runes
import Derived.Shelf.Strings.AsciiSet
import Derived.Shelf.Bits.Mul64
import Derived.Shelf.Strings.Repeat
import Derived.Shelf.Unicode.DecodeSlow
import Derived.Shelf.Unicode.DecodeAny
import Derived.Shelf.Unicode.DecodeLast
import Derived.Shelf.Strings.BuilderCap
import Derived.Shelf.Slices.Turned
import Derived.Shelf.Slices.CompactS
import Derived.Test.YtffggpplnjibgaaGreatDoorProg
namespace Go.Proofs
open Go.Shelf
def zga:Go.Shelf.Ren:=⟨fun | 170=>150 | n=>n,fun | 70=>195 | 3=>3 | 0=>0 | 72=>197 | 37=>24 | 5=>5 | n=>n,fun | n=>n⟩
theorem zk9:Go.Proofs.Lays.n170 Tryz.prog zga:={
  mixed:=by kernel_rfl
  f170:=Tryz.func150.trans (congrArg some (by kernel_rfl))
  t0:=Tryz.underlying0
  a0:=Tryz.isAgg0
  z0:=Tryz.sizeOf0
  v0:=Tryz.zeroValue0
  t3:=Tryz.underlying3
  a3:=Tryz.isAgg3
  z3:=Tryz.sizeOf3
  v3:=Tryz.zeroValue3
  t37:=Tryz.underlying24
  a37:=Tryz.isAgg24
  z37:=Tryz.sizeOf24
  v37:=Tryz.zeroValue24
  t70:=Tryz.underlying195
  a70:=Tryz.isAgg195
  z70:=Tryz.sizeOf195
  v70:=Tryz.zeroValue195
  t72:=Tryz.underlying197
  a72:=Tryz.isAgg197
  z72:=Tryz.sizeOf197
  v72:=Tryz.zeroValue197 }
open Go.RowKit in
theorem Tryz.Builder_Len (B b:Nat) (bs:List Value) (w:World) (h:Lib.IsBuilder 197 5 B b bs w) :
    Calls Tryz.prog 150 #[.pointer (some ⟨b,0,none⟩)] w fun e w'=>e = .returned (.int .i64 bs.length)∧w'=w:=Any.Builder_Len zk9 B b bs w h
def zdl:Go.Shelf.Ren:=⟨fun | 169=>151 | n=>n,fun | 70=>195 | 9=>9 | 0=>0 | 72=>197 | 37=>24 | 127=>249 | 3=>3 | 5=>5 | n=>n,fun | n=>n⟩
theorem zla:Go.Proofs.Lays.n169 Tryz.prog zdl:={
  mixed:=by kernel_rfl
  f169:=Tryz.func151.trans (congrArg some (by kernel_rfl))
  t0:=Tryz.underlying0
  a0:=Tryz.isAgg0
  z0:=Tryz.sizeOf0
  v0:=Tryz.zeroValue0
  t3:=Tryz.underlying3
  a3:=Tryz.isAgg3
  z3:=Tryz.sizeOf3
  v3:=Tryz.zeroValue3
  t9:=Tryz.underlying9
  a9:=Tryz.isAgg9
  z9:=Tryz.sizeOf9
  v9:=Tryz.zeroValue9
  t37:=Tryz.underlying24
  a37:=Tryz.isAgg24
  z37:=Tryz.sizeOf24
  v37:=Tryz.zeroValue24
  t70:=Tryz.underlying195
  a70:=Tryz.isAgg195
  z70:=Tryz.sizeOf195
  v70:=Tryz.zeroValue195
  t72:=Tryz.underlying197
  a72:=Tryz.isAgg197
  z72:=Tryz.sizeOf197
  v72:=Tryz.zeroValue197
  t127:=Tryz.underlying249
  a127:=Tryz.isAgg249
  z127:=Tryz.sizeOf249
  v127:=Tryz.zeroValue249 }
theorem zdp:Builder.Extra Tryz.prog zdl:={
  sizeBuilder:=by kernel_rfl
  liesBuilder:=by kernel_rfl
  t5:=Tryz.underlying5
  a5:=Tryz.isAgg5
  z5:=Tryz.sizeOf5
  v5:=Tryz.zeroValue5
  infoByte:=by kernel_rfl
  cellsByte:=by kernel_rfl
  sizeByte:=by kernel_rfl
  neB5:=by decide }
def zdm:Go.Shelf.Ren:=⟨fun | 156=>107 | 165=>157 | 166=>158 | 169=>151 | 240=>207 | 241=>208 | 276=>248 | 277=>249 | n=>n,fun | 31=>33 | 9=>9 | 3=>3 | 4=>4 | 0=>0 | 20=>20 | 72=>197 | 76=>205 | 70=>195 | 37=>24 | 75=>35 | 127=>249 | 164=>279 | 5=>5 | 80=>200 | n=>n,fun | n=>n⟩
theorem zld:Go.Proofs.Lays.n156 Tryz.prog zdm:={
  mixed:=by kernel_rfl
  f156:=Tryz.func107.trans (congrArg some (by kernel_rfl))
  f165:=Tryz.func157.trans (congrArg some (by kernel_rfl))
  f166:=Tryz.func158.trans (congrArg some (by kernel_rfl))
  f169:=Tryz.func151.trans (congrArg some (by kernel_rfl))
  f240:=Tryz.func207.trans (congrArg some (by kernel_rfl))
  f241:=Tryz.func208.trans (congrArg some (by kernel_rfl))
  f276:=Tryz.func248.trans (congrArg some (by kernel_rfl))
  f277:=Tryz.func249.trans (congrArg some (by kernel_rfl))
  t0:=Tryz.underlying0
  a0:=Tryz.isAgg0
  z0:=Tryz.sizeOf0
  v0:=Tryz.zeroValue0
  t3:=Tryz.underlying3
  a3:=Tryz.isAgg3
  z3:=Tryz.sizeOf3
  v3:=Tryz.zeroValue3
  t4:=Tryz.underlying4
  a4:=Tryz.isAgg4
  z4:=Tryz.sizeOf4
  v4:=Tryz.zeroValue4
  t9:=Tryz.underlying9
  a9:=Tryz.isAgg9
  z9:=Tryz.sizeOf9
  v9:=Tryz.zeroValue9
  t20:=Tryz.underlying20
  a20:=Tryz.isAgg20
  z20:=Tryz.sizeOf20
  v20:=Tryz.zeroValue20
  t31:=Tryz.underlying33
  a31:=Tryz.isAgg33
  z31:=Tryz.sizeOf33
  v31:=Tryz.zeroValue33
  t37:=Tryz.underlying24
  a37:=Tryz.isAgg24
  z37:=Tryz.sizeOf24
  v37:=Tryz.zeroValue24
  t70:=Tryz.underlying195
  a70:=Tryz.isAgg195
  z70:=Tryz.sizeOf195
  v70:=Tryz.zeroValue195
  t72:=Tryz.underlying197
  a72:=Tryz.isAgg197
  z72:=Tryz.sizeOf197
  v72:=Tryz.zeroValue197
  t75:=Tryz.underlying35
  a75:=Tryz.isAgg35
  z75:=Tryz.sizeOf35
  v75:=Tryz.zeroValue35
  t76:=Tryz.underlying205
  a76:=Tryz.isAgg205
  z76:=Tryz.sizeOf205
  v76:=Tryz.zeroValue205
  t127:=Tryz.underlying249
  a127:=Tryz.isAgg249
  z127:=Tryz.sizeOf249
  v127:=Tryz.zeroValue249
  t164:=Tryz.underlying279
  a164:=Tryz.isAgg279
  z164:=Tryz.sizeOf279
  v164:=Tryz.zeroValue279 }
theorem zdq:Builder.Extra Tryz.prog zdm:={
  sizeBuilder:=by kernel_rfl
  liesBuilder:=by kernel_rfl
  t5:=Tryz.underlying5
  a5:=Tryz.isAgg5
  z5:=Tryz.sizeOf5
  v5:=Tryz.zeroValue5
  infoByte:=by kernel_rfl
  cellsByte:=by kernel_rfl
  sizeByte:=by kernel_rfl
  neB5:=by decide }
open Go.RowKit in
theorem Tryz.strings_Join (bk o c:Nat) (xs:List ByteArray) (sep:ByteArray) (w:World) (hcells:∀ (j:Nat) x,xs[j]? = some x→w.cell? ⟨bk,o+j,none⟩=some (.string x)) (hbk:bk<w.heap.size) (hN:xs.length≤140737488355328) (hcap:xs.length≤c) (hlen:(Lib.join (xs.map (·.data.toList)) sep.data.toList).length≤140737488355328) :
    Calls Tryz.prog 107 #[.slice (some ⟨bk,o,none⟩) xs.length c,.string sep] w fun e w'=>e = .returned (.string ⟨(Lib.join (xs.map (·.data.toList)) sep.data.toList).toArray⟩)∧Below w.heap.size w w':=Any.strings_Join zld zdq bk o c xs sep w hcells hbk hN hcap hlen
def zgc:Go.Shelf.Ren:=⟨fun | 161=>181 | 231=>228 | 227=>190 | 233=>229 | 235=>230 | 228=>235 | 197=>256 | 151=>197 | 260=>278 | 152=>240 | 137=>194 | 119=>268 | 224=>269 | 225=>270 | 217=>238 | 266=>267 | n=>n,fun | 9=>9 | 4=>4 | 3=>3 | 5=>5 | 117=>229 | 116=>228 | 0=>0 | 124=>232 | 105=>267 | 21=>21 | 119=>262 | 46=>166 | 139=>265 | 138=>264 | n=>n,fun | 3=>0 | 4=>1 | n=>n⟩
theorem zlc:Go.Proofs.Lays.n161 Tryz.prog zgc:={
  mixed:=by kernel_rfl
  f119:=Tryz.func268.trans (congrArg some (by kernel_rfl))
  f137:=Tryz.func194.trans (congrArg some (by kernel_rfl))
  f151:=Tryz.func197.trans (congrArg some (by kernel_rfl))
  f152:=Tryz.func240.trans (congrArg some (by kernel_rfl))
  f161:=Tryz.func181.trans (congrArg some (by kernel_rfl))
  f197:=Tryz.func256.trans (congrArg some (by kernel_rfl))
  f217:=Tryz.func238.trans (congrArg some (by kernel_rfl))
  f224:=Tryz.func269.trans (congrArg some (by kernel_rfl))
  f225:=Tryz.func270.trans (congrArg some (by kernel_rfl))
  f227:=Tryz.func190.trans (congrArg some (by kernel_rfl))
  f228:=Tryz.func235.trans (congrArg some (by kernel_rfl))
  f231:=Tryz.func228.trans (congrArg some (by kernel_rfl))
  f233:=Tryz.func229.trans (congrArg some (by kernel_rfl))
  f235:=Tryz.func230.trans (congrArg some (by kernel_rfl))
  f260:=Tryz.func278.trans (congrArg some (by kernel_rfl))
  f266:=Tryz.func267.trans (congrArg some (by kernel_rfl))
  t0:=Tryz.underlying0
  a0:=Tryz.isAgg0
  z0:=Tryz.sizeOf0
  v0:=Tryz.zeroValue0
  t3:=Tryz.underlying3
  a3:=Tryz.isAgg3
  z3:=Tryz.sizeOf3
  v3:=Tryz.zeroValue3
  t4:=Tryz.underlying4
  a4:=Tryz.isAgg4
  z4:=Tryz.sizeOf4
  v4:=Tryz.zeroValue4
  t5:=Tryz.underlying5
  a5:=Tryz.isAgg5
  z5:=Tryz.sizeOf5
  v5:=Tryz.zeroValue5
  t9:=Tryz.underlying9
  a9:=Tryz.isAgg9
  z9:=Tryz.sizeOf9
  v9:=Tryz.zeroValue9
  t21:=Tryz.underlying21
  a21:=Tryz.isAgg21
  z21:=Tryz.sizeOf21
  v21:=Tryz.zeroValue21
  t46:=Tryz.underlying166
  a46:=Tryz.isAgg166
  z46:=Tryz.sizeOf166
  v46:=Tryz.zeroValue166
  t105:=Tryz.underlying267
  a105:=Tryz.isAgg267
  z105:=Tryz.sizeOf267
  v105:=Tryz.zeroValue267
  t116:=Tryz.underlying228
  a116:=Tryz.isAgg228
  z116:=Tryz.sizeOf228
  t117:=Tryz.underlying229
  a117:=Tryz.isAgg229
  z117:=Tryz.sizeOf229
  v117:=Tryz.zeroValue229
  t119:=Tryz.underlying262
  a119:=Tryz.isAgg262
  z119:=Tryz.sizeOf262
  t124:=Tryz.underlying232
  a124:=Tryz.isAgg232
  z124:=Tryz.sizeOf232
  v124:=Tryz.zeroValue232
  t138:=Tryz.underlying264
  a138:=Tryz.isAgg264
  z138:=Tryz.sizeOf264
  v138:=Tryz.zeroValue264
  t139:=Tryz.underlying265
  a139:=Tryz.isAgg265
  z139:=Tryz.sizeOf265
  v139:=Tryz.zeroValue265
  g3:=by kernel_rfl
  g4:=by kernel_rfl }
def zgb:Go.Shelf.Ren:=⟨fun | 162=>134 | 232=>189 | 227=>190 | 234=>191 | 236=>192 | 228=>235 | 271=>236 | 151=>197 | 120=>264 | 197=>256 | 152=>240 | 260=>278 | 137=>194 | 119=>268 | 224=>269 | 225=>270 | 217=>238 | 266=>267 | n=>n,fun | 9=>9 | 4=>4 | 3=>3 | 5=>5 | 117=>229 | 116=>228 | 0=>0 | 124=>232 | 21=>21 | 105=>267 | 46=>166 | 119=>262 | 139=>265 | 138=>264 | n=>n,fun | 3=>0 | 4=>1 | n=>n⟩
theorem zlb:Go.Proofs.Lays.n162 Tryz.prog zgb:={
  mixed:=by kernel_rfl
  f119:=Tryz.func268.trans (congrArg some (by kernel_rfl))
  f120:=Tryz.func264.trans (congrArg some (by kernel_rfl))
  f137:=Tryz.func194.trans (congrArg some (by kernel_rfl))
  f151:=Tryz.func197.trans (congrArg some (by kernel_rfl))
  f152:=Tryz.func240.trans (congrArg some (by kernel_rfl))
  f162:=Tryz.func134.trans (congrArg some (by kernel_rfl))
  f197:=Tryz.func256.trans (congrArg some (by kernel_rfl))
  f217:=Tryz.func238.trans (congrArg some (by kernel_rfl))
  f224:=Tryz.func269.trans (congrArg some (by kernel_rfl))
  f225:=Tryz.func270.trans (congrArg some (by kernel_rfl))
  f227:=Tryz.func190.trans (congrArg some (by kernel_rfl))
  f228:=Tryz.func235.trans (congrArg some (by kernel_rfl))
  f232:=Tryz.func189.trans (congrArg some (by kernel_rfl))
  f234:=Tryz.func191.trans (congrArg some (by kernel_rfl))
  f236:=Tryz.func192.trans (congrArg some (by kernel_rfl))
  f260:=Tryz.func278.trans (congrArg some (by kernel_rfl))
  f266:=Tryz.func267.trans (congrArg some (by kernel_rfl))
  f271:=Tryz.func236.trans (congrArg some (by kernel_rfl))
  t0:=Tryz.underlying0
  a0:=Tryz.isAgg0
  z0:=Tryz.sizeOf0
  v0:=Tryz.zeroValue0
  t3:=Tryz.underlying3
  a3:=Tryz.isAgg3
  z3:=Tryz.sizeOf3
  v3:=Tryz.zeroValue3
  t4:=Tryz.underlying4
  a4:=Tryz.isAgg4
  z4:=Tryz.sizeOf4
  v4:=Tryz.zeroValue4
  t5:=Tryz.underlying5
  a5:=Tryz.isAgg5
  z5:=Tryz.sizeOf5
  v5:=Tryz.zeroValue5
  t9:=Tryz.underlying9
  a9:=Tryz.isAgg9
  z9:=Tryz.sizeOf9
  v9:=Tryz.zeroValue9
  t21:=Tryz.underlying21
  a21:=Tryz.isAgg21
  z21:=Tryz.sizeOf21
  v21:=Tryz.zeroValue21
  t46:=Tryz.underlying166
  a46:=Tryz.isAgg166
  z46:=Tryz.sizeOf166
  v46:=Tryz.zeroValue166
  t105:=Tryz.underlying267
  a105:=Tryz.isAgg267
  z105:=Tryz.sizeOf267
  v105:=Tryz.zeroValue267
  t116:=Tryz.underlying228
  a116:=Tryz.isAgg228
  z116:=Tryz.sizeOf228
  t117:=Tryz.underlying229
  a117:=Tryz.isAgg229
  z117:=Tryz.sizeOf229
  v117:=Tryz.zeroValue229
  t119:=Tryz.underlying262
  a119:=Tryz.isAgg262
  z119:=Tryz.sizeOf262
  t124:=Tryz.underlying232
  a124:=Tryz.isAgg232
  z124:=Tryz.sizeOf232
  v124:=Tryz.zeroValue232
  t138:=Tryz.underlying264
  a138:=Tryz.isAgg264
  z138:=Tryz.sizeOf264
  v138:=Tryz.zeroValue264
  t139:=Tryz.underlying265
  a139:=Tryz.isAgg265
  z139:=Tryz.sizeOf265
  v139:=Tryz.zeroValue265
  g3:=by kernel_rfl
  g4:=by kernel_rfl }
open Go.RowKit in
theorem Tryz.strings_TrimRight_one (s:ByteArray) (c:UInt8) (hc:c.toNat<128) (w:World) (hs:s.size≤9223372036854775807) :
    Calls Tryz.prog 134 #[.string s,.string ⟨#[c]⟩] w fun e w'=>e = .returned (.string ⟨(Lib.trimRightB s.data.toList c).toArray⟩)∧w'=w:=Any.strings_TrimRight_one zlb s c hc w hs
def zgg:Go.Shelf.Ren:=⟨fun | 119=>268 | n=>n,fun | 21=>21 | 4=>4 | n=>n,fun | n=>n⟩
theorem zlh:Go.Proofs.Lays.n119 Tryz.prog zgg:={
  mixed:=by kernel_rfl
  f119:=Tryz.func268.trans (congrArg some (by kernel_rfl))
  t4:=Tryz.underlying4
  a4:=Tryz.isAgg4
  z4:=Tryz.sizeOf4
  v4:=Tryz.zeroValue4
  t21:=Tryz.underlying21
  a21:=Tryz.isAgg21
  z21:=Tryz.sizeOf21
  v21:=Tryz.zeroValue21 }
theorem Tryz.utf8_ValidRune (r:Int) (w:World) :
    Calls Tryz.prog 268 #[.int .i32 r] w fun e w'=>e = .returned (.bool (Lib.validRune r))∧w'=w:=Any.utf8_ValidRune zlh r w
def zge:Go.Shelf.Ren:=⟨fun | 137=>194 | 217=>238 | 266=>267 | n=>n,fun | 9=>9 | 5=>5 | 3=>3 | n=>n,fun | n=>n⟩
theorem zlf:Go.Proofs.Lays.n137 Tryz.prog zge:={
  mixed:=by kernel_rfl
  f137:=Tryz.func194.trans (congrArg some (by kernel_rfl))
  f217:=Tryz.func238.trans (congrArg some (by kernel_rfl))
  f266:=Tryz.func267.trans (congrArg some (by kernel_rfl))
  t3:=Tryz.underlying3
  a3:=Tryz.isAgg3
  z3:=Tryz.sizeOf3
  v3:=Tryz.zeroValue3
  t5:=Tryz.underlying5
  a5:=Tryz.isAgg5
  z5:=Tryz.sizeOf5
  v5:=Tryz.zeroValue5
  t9:=Tryz.underlying9
  a9:=Tryz.isAgg9
  z9:=Tryz.sizeOf9
  v9:=Tryz.zeroValue9 }
open Go.RowKit in
theorem Tryz.strings_IndexByte (s:ByteArray) (c:Int) (w:World) :
    Calls Tryz.prog 194 #[.string s,.int .u8 c] w fun e w'=>e = .returned (.int .i64 (Lib.indexByte s.data.toList c.toNat.toUInt8))∧w'=w:=Any.strings_IndexByte zlf s c w
def zgi:Go.Shelf.Ren:=⟨fun | 103=>59 | 210=>121 | 206=>177 | n=>n,fun | 9=>9 | 4=>4 | 24=>99 | 3=>3 | n=>n,fun | n=>n⟩
theorem zlj:Go.Proofs.Lays.n103 Tryz.prog zgi:={
  mixed:=by kernel_rfl
  f103:=Tryz.func59.trans (congrArg some (by kernel_rfl))
  f206:=Tryz.func177.trans (congrArg some (by kernel_rfl))
  f210:=Tryz.func121.trans (congrArg some (by kernel_rfl))
  t3:=Tryz.underlying3
  a3:=Tryz.isAgg3
  z3:=Tryz.sizeOf3
  v3:=Tryz.zeroValue3
  t4:=Tryz.underlying4
  a4:=Tryz.isAgg4
  z4:=Tryz.sizeOf4
  v4:=Tryz.zeroValue4
  t9:=Tryz.underlying9
  a9:=Tryz.isAgg9
  z9:=Tryz.sizeOf9
  v9:=Tryz.zeroValue9
  t24:=Tryz.underlying99
  a24:=Tryz.isAgg99
  z24:=Tryz.sizeOf99
  v24:=Tryz.zeroValue99 }
open Go.RowKit in
theorem Tryz.strings_CutPrefix (s p:ByteArray) (w:World) :
    Calls Tryz.prog 59 #[.string s,.string p] w fun e w'=>e = .returned (.tuple #[.string ⟨(Lib.trimPrefix s.data.toList p.data.toList).toArray⟩,.bool (Lib.hasPrefix s.data.toList p.data.toList)])∧w'=w:=Any.strings_CutPrefix zlj s p w
def zgf:Go.Shelf.Ren:=⟨fun | 121=>202 | 214=>244 | n=>n,fun | 4=>4 | 9=>9 | n=>n,fun | n=>n⟩
theorem zlg:Go.Proofs.Lays.n121 Tryz.prog zgf:={
  mixed:=by kernel_rfl
  f121:=Tryz.func202.trans (congrArg some (by kernel_rfl))
  f214:=Tryz.func244.trans (congrArg some (by kernel_rfl))
  t4:=Tryz.underlying4
  a4:=Tryz.isAgg4
  z4:=Tryz.sizeOf4
  v4:=Tryz.zeroValue4
  t9:=Tryz.underlying9
  a9:=Tryz.isAgg9
  z9:=Tryz.sizeOf9
  v9:=Tryz.zeroValue9 }
open Go.RowKit in
theorem Tryz.strconv_FormatBool (b:Bool) (w:World) :
    Calls Tryz.prog 202 #[.bool b] w fun e w'=>e = .returned (.string ⟨(Lib.formatBool b).toArray⟩)∧w'=w:=Any.strconv_FormatBool zlg b w
open Go.RowKit in
theorem Tryz.Builder_String_any_k (B b:Nat) (l:List UInt8) (w:World) (h:Lib.IsBuilderF 197 5 B b (Lib.byteCells l) w) (hBw:B≤w.heap.size) :
    Calls Tryz.prog 151 #[.pointer (some ⟨b,0,none⟩)] w fun e w'=>e = .returned (.string ⟨l.toArray⟩)∧(Lib.IsBuilderF 197 5 B b (Lib.byteCells l) w'∧Below B w w'∧Lib.OthersKept 5 (some b) w w'):=Any.Builder_String_any_k zla zdp B b l w h hBw
def zf7:Go.Shelf.Ren:=⟨fun | 242=>246 | 278=>273 | n=>n,fun | 37=>24 | 21=>21 | 51=>159 | 4=>4 | 5=>5 | 46=>166 | n=>n,fun | n=>n⟩
theorem zk6:Go.Proofs.Lays.n242 Tryz.prog zf7:={
  mixed:=by kernel_rfl
  f242:=Tryz.func246.trans (congrArg some (by kernel_rfl))
  f278:=Tryz.func273.trans (congrArg some (by kernel_rfl))
  t4:=Tryz.underlying4
  a4:=Tryz.isAgg4
  z4:=Tryz.sizeOf4
  v4:=Tryz.zeroValue4
  t5:=Tryz.underlying5
  a5:=Tryz.isAgg5
  z5:=Tryz.sizeOf5
  v5:=Tryz.zeroValue5
  t21:=Tryz.underlying21
  a21:=Tryz.isAgg21
  z21:=Tryz.sizeOf21
  v21:=Tryz.zeroValue21
  t37:=Tryz.underlying24
  a37:=Tryz.isAgg24
  z37:=Tryz.sizeOf24
  v37:=Tryz.zeroValue24
  t46:=Tryz.underlying166
  a46:=Tryz.isAgg166
  z46:=Tryz.sizeOf166
  v46:=Tryz.zeroValue166
  t51:=Tryz.underlying159
  a51:=Tryz.isAgg159
  z51:=Tryz.sizeOf159
  v51:=Tryz.zeroValue159 }
open Go.RowKit in
theorem Tryz.utf8_AppendRune_plain (B:Nat) (v:Value) (n:Nat) (xs:List Value) (r:Int) (hr0 : -2147483648≤r) (hr1:r≤2147483647) (w:World) (hown:w.ownsRow B 5 1 v n xs) (hlen:n+4≤140737488355328) (hBw:B≤w.heap.size) :
    Calls Tryz.prog 246 #[v,.int .i32 r] w fun e w'=>∃ v',e = .returned v'∧w'.ownsRow B 5 1 v' (n+(Lib.runeCells r).length) (xs++Lib.runeCells r)∧∃ o,(w.alloc o).grownBy w' v.ownBlock:=Any.utf8_AppendRune_plain zk6 (by kernel_rfl) B v n xs r hr0 hr1 w hown hlen hBw
def zft:Go.Shelf.Ren:=⟨fun | 171=>108 | 243=>159 | 246=>209 | 283=>250 | 284=>251 | 285=>252 | 286=>253 | 129=>176 | 317=>274 | 318=>275 | 319=>276 | 320=>277 | 337=>283 | 338=>284 | n=>n,fun | 3=>3 | 9=>9 | 2=>2 | 4=>4 | 171=>281 | 0=>0 | 53=>165 | 37=>24 | 5=>5 | 173=>283 | 212=>297 | 51=>159 | 20=>20 | 213=>298 | 46=>166 | 232=>22 | 233=>29 | n=>n,fun | 17=>3 | 18=>4 | 19=>5 | n=>n⟩
theorem zjv:Go.Proofs.LaysM.n171 Tryz.prog zft:={
  mixed:=by kernel_rfl
  f129:=Tryz.func176.trans (congrArg some (by kernel_rfl))
  f171:=Tryz.func108.trans (congrArg some (by kernel_rfl))
  f243:=Tryz.func159.trans (congrArg some (by kernel_rfl))
  f246:=Tryz.func209.trans (congrArg some (by kernel_rfl))
  f283:=Tryz.func250.trans (congrArg some (by kernel_rfl))
  f284:=Tryz.func251.trans (congrArg some (by kernel_rfl))
  f285:=Tryz.func252.trans (congrArg some (by kernel_rfl))
  f286:=Tryz.func253.trans (congrArg some (by kernel_rfl))
  f317:=Tryz.func274.trans (congrArg some (by kernel_rfl))
  f318:=Tryz.func275.trans (congrArg some (by kernel_rfl))
  f319:=Tryz.func276.trans (congrArg some (by kernel_rfl))
  f320:=Tryz.func277.trans (congrArg some (by kernel_rfl))
  f337:=Tryz.func283.trans (congrArg some (by kernel_rfl))
  f338:=Tryz.func284.trans (congrArg some (by kernel_rfl))
  t0:=Tryz.underlying0
  a0:=Tryz.isAgg0
  z0:=Tryz.sizeOf0
  v0:=Tryz.zeroValue0
  t2:=Tryz.underlying2
  a2:=Tryz.isAgg2
  z2:=Tryz.sizeOf2
  v2:=Tryz.zeroValue2
  t3:=Tryz.underlying3
  a3:=Tryz.isAgg3
  z3:=Tryz.sizeOf3
  v3:=Tryz.zeroValue3
  t4:=Tryz.underlying4
  a4:=Tryz.isAgg4
  z4:=Tryz.sizeOf4
  v4:=Tryz.zeroValue4
  t5:=Tryz.underlying5
  a5:=Tryz.isAgg5
  z5:=Tryz.sizeOf5
  v5:=Tryz.zeroValue5
  t9:=Tryz.underlying9
  a9:=Tryz.isAgg9
  z9:=Tryz.sizeOf9
  v9:=Tryz.zeroValue9
  t20:=Tryz.underlying20
  a20:=Tryz.isAgg20
  z20:=Tryz.sizeOf20
  v20:=Tryz.zeroValue20
  t37:=Tryz.underlying24
  a37:=Tryz.isAgg24
  z37:=Tryz.sizeOf24
  v37:=Tryz.zeroValue24
  t46:=Tryz.underlying166
  a46:=Tryz.isAgg166
  z46:=Tryz.sizeOf166
  v46:=Tryz.zeroValue166
  t51:=Tryz.underlying159
  a51:=Tryz.isAgg159
  z51:=Tryz.sizeOf159
  v51:=Tryz.zeroValue159
  t53:=Tryz.underlying165
  a53:=Tryz.isAgg165
  z53:=Tryz.sizeOf165
  v53:=Tryz.zeroValue165
  t171:=Tryz.underlying281
  a171:=Tryz.isAgg281
  z171:=Tryz.sizeOf281
  v171:=Tryz.zeroValue281
  t173:=Tryz.underlying283
  a173:=Tryz.isAgg283
  z173:=Tryz.sizeOf283
  v173:=Tryz.zeroValue283
  t212:=Tryz.underlying297
  a212:=Tryz.isAgg297
  z212:=Tryz.sizeOf297
  v212:=Tryz.zeroValue297
  t213:=Tryz.underlying298
  a213:=Tryz.isAgg298
  z213:=Tryz.sizeOf298
  t232:=Tryz.underlying22
  a232:=Tryz.isAgg22
  z232:=Tryz.sizeOf22
  v232:=Tryz.zeroValue22
  t233:=Tryz.underlying29
  a233:=Tryz.isAgg29
  z233:=Tryz.sizeOf29
  v233:=Tryz.zeroValue29
  g17:=by kernel_rfl
  g18:=by kernel_rfl
  g19:=by kernel_rfl
  i0:=by kernel_rfl
  i2:=by kernel_rfl
  i3:=by kernel_rfl
  i4:=by kernel_rfl
  i5:=by kernel_rfl
  i9:=by kernel_rfl
  i20:=by kernel_rfl
  i37:=by kernel_rfl
  i46:=by kernel_rfl
  i51:=by kernel_rfl
  i53:=by kernel_rfl
  i171:=by kernel_rfl
  i173:=by kernel_rfl
  i212:=by kernel_rfl
  i232:=by kernel_rfl
  i233:=by kernel_rfl
  m17:=by kernel_rfl
  m18:=by kernel_rfl
  m19:=by kernel_rfl }
open Go.RowKit Go.Sort Go.Lib in
theorem Tryz.strconv_Itoa (n:Int) (h0 : -9223372036854775808≤n) (h1:n≤9223372036854775807) (w:World) (htab:Lib.TabIs Tryz.prog w "internal/strconv.uint64pow10" .u64 Lib.pow10Tab) :
    Calls Tryz.prog 108 #[.int .i64 n] w fun e w'=>e = .returned (.string ⟨(Lib.itoa n).toArray⟩)∧∃ k os,w'=grow (w.drewN k) os:=Any.strconv_Itoa zjv n h0 h1 w htab
def zfu:Go.Shelf.Ren:=⟨fun | 17=>153 | 15=>206 | 20=>247 | n=>n,fun | 9=>9 | 23=>201 | 4=>4 | 3=>3 | 0=>0 | 21=>21 | n=>n,fun | n=>n⟩
theorem zjw:Go.Proofs.LaysGw.n17 Tryz.prog zfu:={
  mixed:=by kernel_rfl
  f15:=Tryz.func206.trans (congrArg some (by kernel_rfl))
  f17:=Tryz.func153.trans (congrArg some (by kernel_rfl))
  f20:=Tryz.func247.trans (congrArg some (by kernel_rfl))
  t0:=Tryz.underlying0
  a0:=Tryz.isAgg0
  z0:=Tryz.sizeOf0
  v0:=Tryz.zeroValue0
  i0:=by kernel_rfl
  t3:=Tryz.underlying3
  a3:=Tryz.isAgg3
  z3:=Tryz.sizeOf3
  v3:=Tryz.zeroValue3
  i3:=by kernel_rfl
  t4:=Tryz.underlying4
  a4:=Tryz.isAgg4
  z4:=Tryz.sizeOf4
  v4:=Tryz.zeroValue4
  i4:=by kernel_rfl
  t9:=Tryz.underlying9
  a9:=Tryz.isAgg9
  z9:=Tryz.sizeOf9
  v9:=Tryz.zeroValue9
  i9:=by kernel_rfl
  t21:=Tryz.underlying21
  a21:=Tryz.isAgg21
  z21:=Tryz.sizeOf21
  v21:=Tryz.zeroValue21
  i21:=by kernel_rfl
  t23:=Tryz.underlying201
  a23:=Tryz.isAgg201
  z23:=Tryz.sizeOf201
  v23:=Tryz.zeroValue201
  i23:=by kernel_rfl }
open Go.RowKit Go.Lib in
theorem Tryz.strings_ContainsFunc_runes (g:Nat) (lb:Array Value) (eg:∀ args w,(callFunc g args).run Tryz.prog w = .ok (.enter g args) w) (p:Nat→Bool) (s:ByteArray) (w:World) (hp:PredAtRunes Tryz.prog g lb p w) :
    Calls Tryz.prog 153 #[.string s,.func (.func g) #[] lb] w fun e w'=>e = .returned (.bool (decide (0≤Lib.idxFunc p true s)))∧Below w.heap.size w w':=Any.strings_ContainsFunc_runes zjw g lb eg p s w hp
def zht:Go.Shelf.Ren:=⟨fun | 99=>154 | 206=>177 | n=>n,fun | 9=>9 | 4=>4 | 3=>3 | n=>n,fun | n=>n⟩
theorem zm4:Go.Proofs.Lays.n99 Tryz.prog zht:={
  mixed:=by kernel_rfl
  f99:=Tryz.func154.trans (congrArg some (by kernel_rfl))
  f206:=Tryz.func177.trans (congrArg some (by kernel_rfl))
  t3:=Tryz.underlying3
  a3:=Tryz.isAgg3
  z3:=Tryz.sizeOf3
  v3:=Tryz.zeroValue3
  t4:=Tryz.underlying4
  a4:=Tryz.isAgg4
  z4:=Tryz.sizeOf4
  v4:=Tryz.zeroValue4
  t9:=Tryz.underlying9
  a9:=Tryz.isAgg9
  z9:=Tryz.sizeOf9
  v9:=Tryz.zeroValue9 }
open Go.RowKit Go.Lib in
theorem Tryz.strings_HasPrefix (s p:ByteArray) (w:World) :
    Calls Tryz.prog 154 #[.string s,.string p] w fun e w'=>e = .returned (.bool (Lib.hasPrefix s.data.toList p.data.toList))∧w'=w:=Any.strings_HasPrefix zm4 s p w
def zgd:Go.Shelf.Ren:=⟨fun | 151=>197 | 152=>240 | 137=>194 | 119=>268 | 224=>269 | 225=>270 | 217=>238 | 266=>267 | n=>n,fun | 9=>9 | 21=>21 | 4=>4 | 3=>3 | 5=>5 | 0=>0 | 46=>166 | n=>n,fun | n=>n⟩
theorem zle:Go.Proofs.Lays.n151 Tryz.prog zgd:={
  mixed:=by kernel_rfl
  f119:=Tryz.func268.trans (congrArg some (by kernel_rfl))
  f137:=Tryz.func194.trans (congrArg some (by kernel_rfl))
  f151:=Tryz.func197.trans (congrArg some (by kernel_rfl))
  f152:=Tryz.func240.trans (congrArg some (by kernel_rfl))
  f217:=Tryz.func238.trans (congrArg some (by kernel_rfl))
  f224:=Tryz.func269.trans (congrArg some (by kernel_rfl))
  f225:=Tryz.func270.trans (congrArg some (by kernel_rfl))
  f266:=Tryz.func267.trans (congrArg some (by kernel_rfl))
  t0:=Tryz.underlying0
  a0:=Tryz.isAgg0
  z0:=Tryz.sizeOf0
  v0:=Tryz.zeroValue0
  t3:=Tryz.underlying3
  a3:=Tryz.isAgg3
  z3:=Tryz.sizeOf3
  v3:=Tryz.zeroValue3
  t4:=Tryz.underlying4
  a4:=Tryz.isAgg4
  z4:=Tryz.sizeOf4
  v4:=Tryz.zeroValue4
  t5:=Tryz.underlying5
  a5:=Tryz.isAgg5
  z5:=Tryz.sizeOf5
  v5:=Tryz.zeroValue5
  t9:=Tryz.underlying9
  a9:=Tryz.isAgg9
  z9:=Tryz.sizeOf9
  v9:=Tryz.zeroValue9
  t21:=Tryz.underlying21
  a21:=Tryz.isAgg21
  z21:=Tryz.sizeOf21
  v21:=Tryz.zeroValue21
  t46:=Tryz.underlying166
  a46:=Tryz.isAgg166
  z46:=Tryz.sizeOf166
  v46:=Tryz.zeroValue166 }
open Go.RowKit Go.Lib in
theorem Tryz.strings_ContainsRune_ascii (s:ByteArray) (r:Int) (w:World) (h0:0≤r) (h1:r<128) :
    Calls Tryz.prog 197 #[.string s,.int .i32 r] w fun e w'=>e = .returned (.bool (decide (0≤Lib.indexByte s.data.toList r.toNat.toUInt8)))∧w'=w:=Any.strings_ContainsRune_ascii zle s r w h0 h1
def zdn:Go.Shelf.Ren:=⟨fun | 105=>193 | 212=>237 | 99=>154 | 165=>157 | 166=>158 | 170=>150 | 169=>151 | 263=>265 | 264=>266 | 206=>177 | 240=>207 | 241=>208 | 276=>248 | 277=>249 | n=>n,fun | 9=>9 | 3=>3 | 4=>4 | 20=>20 | 0=>0 | 46=>166 | 109=>269 | 5=>5 | 72=>197 | 76=>205 | 51=>159 | 146=>289 | 53=>165 | 148=>291 | 70=>195 | 37=>24 | 75=>35 | 127=>249 | 164=>279 | 80=>200 | n=>n,fun | n=>n⟩
theorem zd6:Go.Proofs.Lays.n105 Tryz.prog zdn:={
  mixed:=by kernel_rfl
  f99:=Tryz.func154.trans (congrArg some (by kernel_rfl))
  f105:=Tryz.func193.trans (congrArg some (by kernel_rfl))
  f165:=Tryz.func157.trans (congrArg some (by kernel_rfl))
  f166:=Tryz.func158.trans (congrArg some (by kernel_rfl))
  f169:=Tryz.func151.trans (congrArg some (by kernel_rfl))
  f170:=Tryz.func150.trans (congrArg some (by kernel_rfl))
  f206:=Tryz.func177.trans (congrArg some (by kernel_rfl))
  f212:=Tryz.func237.trans (congrArg some (by kernel_rfl))
  f240:=Tryz.func207.trans (congrArg some (by kernel_rfl))
  f241:=Tryz.func208.trans (congrArg some (by kernel_rfl))
  f263:=Tryz.func265.trans (congrArg some (by kernel_rfl))
  f264:=Tryz.func266.trans (congrArg some (by kernel_rfl))
  f276:=Tryz.func248.trans (congrArg some (by kernel_rfl))
  f277:=Tryz.func249.trans (congrArg some (by kernel_rfl))
  t0:=Tryz.underlying0
  a0:=Tryz.isAgg0
  z0:=Tryz.sizeOf0
  v0:=Tryz.zeroValue0
  t3:=Tryz.underlying3
  a3:=Tryz.isAgg3
  z3:=Tryz.sizeOf3
  v3:=Tryz.zeroValue3
  t4:=Tryz.underlying4
  a4:=Tryz.isAgg4
  z4:=Tryz.sizeOf4
  v4:=Tryz.zeroValue4
  t5:=Tryz.underlying5
  a5:=Tryz.isAgg5
  z5:=Tryz.sizeOf5
  v5:=Tryz.zeroValue5
  t9:=Tryz.underlying9
  a9:=Tryz.isAgg9
  z9:=Tryz.sizeOf9
  v9:=Tryz.zeroValue9
  t20:=Tryz.underlying20
  a20:=Tryz.isAgg20
  z20:=Tryz.sizeOf20
  v20:=Tryz.zeroValue20
  t37:=Tryz.underlying24
  a37:=Tryz.isAgg24
  z37:=Tryz.sizeOf24
  v37:=Tryz.zeroValue24
  t46:=Tryz.underlying166
  a46:=Tryz.isAgg166
  z46:=Tryz.sizeOf166
  v46:=Tryz.zeroValue166
  t51:=Tryz.underlying159
  a51:=Tryz.isAgg159
  z51:=Tryz.sizeOf159
  v51:=Tryz.zeroValue159
  t53:=Tryz.underlying165
  a53:=Tryz.isAgg165
  z53:=Tryz.sizeOf165
  v53:=Tryz.zeroValue165
  t70:=Tryz.underlying195
  a70:=Tryz.isAgg195
  z70:=Tryz.sizeOf195
  v70:=Tryz.zeroValue195
  t72:=Tryz.underlying197
  a72:=Tryz.isAgg197
  z72:=Tryz.sizeOf197
  v72:=Tryz.zeroValue197
  t75:=Tryz.underlying35
  a75:=Tryz.isAgg35
  z75:=Tryz.sizeOf35
  v75:=Tryz.zeroValue35
  t76:=Tryz.underlying205
  a76:=Tryz.isAgg205
  z76:=Tryz.sizeOf205
  v76:=Tryz.zeroValue205
  t109:=Tryz.underlying269
  a109:=Tryz.isAgg269
  z109:=Tryz.sizeOf269
  v109:=Tryz.zeroValue269
  t127:=Tryz.underlying249
  a127:=Tryz.isAgg249
  z127:=Tryz.sizeOf249
  v127:=Tryz.zeroValue249
  t146:=Tryz.underlying289
  a146:=Tryz.isAgg289
  z146:=Tryz.sizeOf289
  v146:=Tryz.zeroValue289
  t148:=Tryz.underlying291
  a148:=Tryz.isAgg291
  z148:=Tryz.sizeOf291
  v148:=Tryz.zeroValue291
  t164:=Tryz.underlying279
  a164:=Tryz.isAgg279
  z164:=Tryz.sizeOf279
  v164:=Tryz.zeroValue279 }
theorem zdr:Builder.Extra Tryz.prog zdn:={
  sizeBuilder:=by kernel_rfl
  liesBuilder:=by kernel_rfl
  t5:=Tryz.underlying5
  a5:=Tryz.isAgg5
  z5:=Tryz.sizeOf5
  v5:=Tryz.zeroValue5
  infoByte:=by kernel_rfl
  cellsByte:=by kernel_rfl
  sizeByte:=by kernel_rfl
  neB5:=by decide }
open Go.RowKit Go.Lib in
theorem Tryz.strings_Repeat_main (s:ByteArray) (c:Nat) (w:World) (hc2:2≤c) (hc:c≤9223372036854775807) (hlen:s.size * c≤140737488355328) (h0:0<s.size) :
    Calls Tryz.prog 193 #[.string s,.int .i64 c] w fun e w'=>e = .returned (.string ⟨(Lib.repeatL s.data.toList c).toArray⟩)∧Below w.heap.size w w':=Any.strings_Repeat_main zd6 zdr s c w hc2 hc hlen h0
open Go.RowKit Go.Lib in
theorem Tryz.strings_Repeat_zero (s:ByteArray) (w:World) :
    Calls Tryz.prog 193 #[.string s,.int .i64 0] w fun e w'=>e = .returned (.string ⟨#[]⟩)∧w'=w:=Any.strings_Repeat_zero zd6 s w
open Go.RowKit Go.Lib in
theorem Tryz.strings_Repeat_one (s:ByteArray) (w:World) :
    Calls Tryz.prog 193 #[.string s,.int .i64 1] w fun e w'=>e = .returned (.string s)∧w'=w:=Any.strings_Repeat_one zd6 s w
def zf8:Go.Shelf.Ren:=⟨fun | 197=>256 | 260=>278 | n=>n,fun | 9=>9 | 21=>21 | 3=>3 | 4=>4 | 5=>5 | 105=>267 | 119=>262 | 0=>0 | 46=>166 | 139=>265 | 138=>264 | n=>n,fun | 3=>0 | 4=>1 | n=>n⟩
theorem zk7:Go.Proofs.Lays.n197 Tryz.prog zf8:={
  mixed:=by kernel_rfl
  f197:=Tryz.func256.trans (congrArg some (by kernel_rfl))
  f260:=Tryz.func278.trans (congrArg some (by kernel_rfl))
  t0:=Tryz.underlying0
  a0:=Tryz.isAgg0
  z0:=Tryz.sizeOf0
  v0:=Tryz.zeroValue0
  t3:=Tryz.underlying3
  a3:=Tryz.isAgg3
  z3:=Tryz.sizeOf3
  v3:=Tryz.zeroValue3
  t4:=Tryz.underlying4
  a4:=Tryz.isAgg4
  z4:=Tryz.sizeOf4
  v4:=Tryz.zeroValue4
  t5:=Tryz.underlying5
  a5:=Tryz.isAgg5
  z5:=Tryz.sizeOf5
  v5:=Tryz.zeroValue5
  t9:=Tryz.underlying9
  a9:=Tryz.isAgg9
  z9:=Tryz.sizeOf9
  v9:=Tryz.zeroValue9
  t21:=Tryz.underlying21
  a21:=Tryz.isAgg21
  z21:=Tryz.sizeOf21
  v21:=Tryz.zeroValue21
  t46:=Tryz.underlying166
  a46:=Tryz.isAgg166
  z46:=Tryz.sizeOf166
  v46:=Tryz.zeroValue166
  t105:=Tryz.underlying267
  a105:=Tryz.isAgg267
  z105:=Tryz.sizeOf267
  v105:=Tryz.zeroValue267
  t119:=Tryz.underlying262
  a119:=Tryz.isAgg262
  z119:=Tryz.sizeOf262
  t138:=Tryz.underlying264
  a138:=Tryz.isAgg264
  z138:=Tryz.sizeOf264
  v138:=Tryz.zeroValue264
  t139:=Tryz.underlying265
  a139:=Tryz.isAgg265
  z139:=Tryz.sizeOf265
  v139:=Tryz.zeroValue265
  g3:=by kernel_rfl
  g4:=by kernel_rfl }
open Go.RowKit Go.Lib in
theorem Tryz.utf8_DecodeRuneInString (s:ByteArray) (w:World) (hT:Lib.Utf8Tabs 0 1 w) :
    Calls Tryz.prog 256 #[.string s] w fun e w'=>e = .returned (.tuple #[.int .i32 (Lib.decodeGo s).1,.int .i64 (Lib.decodeGo s).2])∧Below w.heap.size w w':=Any.utf8_DecodeRuneInString zk7 s w hT
def zgh:Go.Shelf.Ren:=⟨fun | 109=>82 | n=>n,fun | 31=>33 | 9=>9 | 3=>3 | 0=>0 | 4=>4 | n=>n,fun | n=>n⟩
theorem zli:Go.Proofs.Lays.n109 Tryz.prog zgh:={
  mixed:=by kernel_rfl
  f109:=Tryz.func82.trans (congrArg some (by kernel_rfl))
  t0:=Tryz.underlying0
  a0:=Tryz.isAgg0
  z0:=Tryz.sizeOf0
  v0:=Tryz.zeroValue0
  t3:=Tryz.underlying3
  a3:=Tryz.isAgg3
  z3:=Tryz.sizeOf3
  v3:=Tryz.zeroValue3
  t4:=Tryz.underlying4
  a4:=Tryz.isAgg4
  z4:=Tryz.sizeOf4
  v4:=Tryz.zeroValue4
  t9:=Tryz.underlying9
  a9:=Tryz.isAgg9
  z9:=Tryz.sizeOf9
  v9:=Tryz.zeroValue9
  t31:=Tryz.underlying33
  a31:=Tryz.isAgg33
  z31:=Tryz.sizeOf33
  v31:=Tryz.zeroValue33 }
open Go.Lib in
theorem Tryz.slices_Index_string (b off n c:Nat) (zs:List ByteArray) (x:ByteArray) (w:World) (hz:n≤zs.length) (hbig:n≤9223372036854775807) (hc:∀ j,j<zs.length→w.cell? ⟨b,off+j,none⟩=some (.string (zs.getD j ByteArray.empty))) :
    Calls Tryz.prog 82 #[.slice (some ⟨b,off,none⟩) n c,.string x] w fun e w'=>e = .returned (.int .i64 (Lib.idxOfS (zs.take n) x))∧w'=w:=Any.slices_Index_string zli b off n c zs x w hz hbig hc
open Go.RowKit Go.Lib in
theorem Tryz.strings_TrimLeft_set (s cutset:ByteArray) (w:World) (hcs:cutset.size<4294967281) (hascii:∀ (j:Nat) b,cutset.data.toList[j]? = some b→b.toNat<128) :
    Calls Tryz.prog 181 #[.string s,.string cutset] w fun e w'=>e = .returned (.string ⟨(Lib.trimLeftS s.data.toList cutset.data.toList).toArray⟩)∧Below w.heap.size w w':=Any.strings_TrimLeft_laid zlc (by kernel_rfl) s cutset w hcs hascii
def zf9:Go.Shelf.Ren:=⟨fun | 196=>188 | 259=>234 | n=>n,fun | 9=>9 | 4=>4 | 3=>3 | 5=>5 | 12=>12 | 119=>262 | 0=>0 | 46=>166 | 139=>265 | 138=>264 | 53=>165 | n=>n,fun | 3=>0 | 4=>1 | n=>n⟩
theorem zk8:Go.Proofs.Lays.n196 Tryz.prog zf9:={
  mixed:=by kernel_rfl
  f196:=Tryz.func188.trans (congrArg some (by kernel_rfl))
  f259:=Tryz.func234.trans (congrArg some (by kernel_rfl))
  t0:=Tryz.underlying0
  a0:=Tryz.isAgg0
  z0:=Tryz.sizeOf0
  v0:=Tryz.zeroValue0
  t3:=Tryz.underlying3
  a3:=Tryz.isAgg3
  z3:=Tryz.sizeOf3
  v3:=Tryz.zeroValue3
  t4:=Tryz.underlying4
  a4:=Tryz.isAgg4
  z4:=Tryz.sizeOf4
  v4:=Tryz.zeroValue4
  t5:=Tryz.underlying5
  a5:=Tryz.isAgg5
  z5:=Tryz.sizeOf5
  v5:=Tryz.zeroValue5
  t9:=Tryz.underlying9
  a9:=Tryz.isAgg9
  z9:=Tryz.sizeOf9
  v9:=Tryz.zeroValue9
  t12:=Tryz.underlying12
  a12:=Tryz.isAgg12
  z12:=Tryz.sizeOf12
  v12:=Tryz.zeroValue12
  t46:=Tryz.underlying166
  a46:=Tryz.isAgg166
  z46:=Tryz.sizeOf166
  v46:=Tryz.zeroValue166
  t53:=Tryz.underlying165
  a53:=Tryz.isAgg165
  z53:=Tryz.sizeOf165
  v53:=Tryz.zeroValue165
  t119:=Tryz.underlying262
  a119:=Tryz.isAgg262
  z119:=Tryz.sizeOf262
  t138:=Tryz.underlying264
  a138:=Tryz.isAgg264
  z138:=Tryz.sizeOf264
  v138:=Tryz.zeroValue264
  t139:=Tryz.underlying265
  a139:=Tryz.isAgg265
  z139:=Tryz.sizeOf265
  v139:=Tryz.zeroValue265
  g3:=by kernel_rfl
  g4:=by kernel_rfl }
open Go.RowKit Go.Lib in
theorem Tryz.utf8_ValidString (s:ByteArray) (w:World) (hs:s.size≤9223372036854775807) (hT:Lib.Utf8Tabs 0 1 w) :
    Calls Tryz.prog 188 #[.string s] w fun e w'=>e = .returned (.bool (Lib.validD s.data.toList))∧Below w.heap.size w w':=Any.utf8_ValidString zk8 s w hs hT
end Go.Proofs
