/-
  DERIVED: THE SHELF's CONTRACTS AT THIS DUMP,IN PLAIN WORDS (tools/lay-plain.mjs out of 'TryzShelf.lean',which tools/lay-shelf.mjs wrote): THE SAME DECLARATIONS UNDER THE SAME NAMES: 'import','namespace','open','def','theorem' AND NOTHING ELSE: no command of the shelf's: FOR A HAND-IN. Each laying: the table of numbers ('.._ren') and one theorem,a field a fact of the dump's own or the kernel's comparison;each zqw: ONE APPLICATION.
-/
import Derived.Shelf.Strings.SlTrimAscii
import Derived.Shelf.Unicode.ValidAny
import Derived.Shelf.Spec.SlicesGrow
import Derived.Ground.Names8Prog
import Derived.Shelf.Strings.Builder1
import Derived.Shelf.Strings.Builder2
import Derived.Shelf.Strings.OnBuilder
import Derived.Shelf.Strings.Trim
import Derived.Shelf.Small.Utf8
import Derived.Shelf.Small.Bits
import Derived.Shelf.Small.Strs
import Derived.Shelf.Small.Wraps
import Derived.Shelf.Strings.BuilderF
import Derived.Shelf.Strings.BuilderK
import Derived.Shelf.Strings.BuilderRune
import Derived.Shelf.Utf8.AppendRune
import Derived.Shelf.Utf8.AppendRunePlain
import Derived.Shelf.Strings.Builder2Cap
import Derived.Shelf.Strconv.Itoa0
import Derived.Shelf.Strconv.Itoa1
import Derived.Shelf.LaysM
import Derived.Shelf.Strconv.Itoa2
import Derived.Shelf.Strconv.Itoa3
import Derived.Shelf.Strings.Search1
import Derived.Shelf.GgClosure.StringsIndexFunc
import Derived.Ground.GgwProg
import Derived.Shelf.GgClosure.StringsIndexFuncTop
import Derived.Shelf.GgClosure.StringsRunes
import Derived.Shelf.Strings.Prefix
import Derived.Shelf.Strings.Runes
import Derived.Shelf.Strings.AsciiSet
import Derived.Shelf.Bits.Mul64
import Derived.Shelf.Strings.Repeat
import Derived.Shelf.Unicode.DecodeSlow
import Derived.Shelf.Unicode.DecodeAny
import Derived.Shelf.Unicode.DecodeLast
import Derived.Shelf.Strings.BuilderCap
import Derived.Shelf.Slices.Turned
import Derived.Test.YtmgfncjfgkllcaaGreatDoorProg
namespace Go.Proofs
open Go.Shelf
def zh7:Go.Shelf.Ren:=⟨fun | 170=>128 | n=>n,fun | 70=>196 | 3=>3 | 0=>0 | 72=>198 | 37=>24 | 5=>5 | n=>n,fun | n=>n⟩
theorem znt:Go.Proofs.Lays.n170 Tryz.prog zh7:={
  mixed:=by kernel_rfl
  f170:=Tryz.func128.trans (congrArg some (by kernel_rfl))
  t0:=Tryz.underlying0
  a0:=Tryz.isAgg0
  z0:=Tryz.sizeOf0
  v0:=Tryz.zeroValue0
  t3:=Tryz.underlying3
  a3:=Tryz.isAgg3
  z3:=Tryz.sizeOf3
  v3:=Tryz.zeroValue3
  t37:=Tryz.underlying24
  a37:=Tryz.isAgg24
  z37:=Tryz.sizeOf24
  v37:=Tryz.zeroValue24
  t70:=Tryz.underlying196
  a70:=Tryz.isAgg196
  z70:=Tryz.sizeOf196
  v70:=Tryz.zeroValue196
  t72:=Tryz.underlying198
  a72:=Tryz.isAgg198
  z72:=Tryz.sizeOf198
  v72:=Tryz.zeroValue198 }
open Go.RowKit in
theorem Tryz.Builder_Len (B b:Nat) (bs:List Value) (w:World) (h:Lib.IsBuilder 198 5 B b bs w) :
    Calls Tryz.prog 128 #[.pointer (some ⟨b,0,none⟩)] w fun e w'=>e = .returned (.int .i64 bs.length)∧w'=w:=Any.Builder_Len znt B b bs w h
def zex:Go.Shelf.Ren:=⟨fun | 169=>129 | n=>n,fun | 70=>196 | 9=>9 | 0=>0 | 72=>198 | 37=>24 | 127=>273 | 3=>3 | 5=>5 | n=>n,fun | n=>n⟩
theorem znu:Go.Proofs.Lays.n169 Tryz.prog zex:={
  mixed:=by kernel_rfl
  f169:=Tryz.func129.trans (congrArg some (by kernel_rfl))
  t0:=Tryz.underlying0
  a0:=Tryz.isAgg0
  z0:=Tryz.sizeOf0
  v0:=Tryz.zeroValue0
  t3:=Tryz.underlying3
  a3:=Tryz.isAgg3
  z3:=Tryz.sizeOf3
  v3:=Tryz.zeroValue3
  t9:=Tryz.underlying9
  a9:=Tryz.isAgg9
  z9:=Tryz.sizeOf9
  v9:=Tryz.zeroValue9
  t37:=Tryz.underlying24
  a37:=Tryz.isAgg24
  z37:=Tryz.sizeOf24
  v37:=Tryz.zeroValue24
  t70:=Tryz.underlying196
  a70:=Tryz.isAgg196
  z70:=Tryz.sizeOf196
  v70:=Tryz.zeroValue196
  t72:=Tryz.underlying198
  a72:=Tryz.isAgg198
  z72:=Tryz.sizeOf198
  v72:=Tryz.zeroValue198
  t127:=Tryz.underlying273
  a127:=Tryz.isAgg273
  z127:=Tryz.sizeOf273
  v127:=Tryz.zeroValue273 }
theorem ze1:Builder.Extra Tryz.prog zex:={
  sizeBuilder:=by kernel_rfl
  liesBuilder:=by kernel_rfl
  t5:=Tryz.underlying5
  a5:=Tryz.isAgg5
  z5:=Tryz.sizeOf5
  v5:=Tryz.zeroValue5
  infoByte:=by kernel_rfl
  cellsByte:=by kernel_rfl
  sizeByte:=by kernel_rfl
  neB5:=by decide }
def zey:Go.Shelf.Ren:=⟨fun | 156=>91 | 165=>157 | 166=>158 | 169=>129 | 240=>227 | 241=>228 | 276=>274 | 277=>275 | n=>n,fun | 31=>81 | 9=>9 | 3=>3 | 4=>4 | 0=>0 | 20=>20 | 72=>198 | 76=>85 | 70=>196 | 37=>24 | 75=>32 | 127=>273 | 164=>337 | 5=>5 | 80=>200 | n=>n,fun | n=>n⟩
theorem znx:Go.Proofs.Lays.n156 Tryz.prog zey:={
  mixed:=by kernel_rfl
  f156:=Tryz.func91.trans (congrArg some (by kernel_rfl))
  f165:=Tryz.func157.trans (congrArg some (by kernel_rfl))
  f166:=Tryz.func158.trans (congrArg some (by kernel_rfl))
  f169:=Tryz.func129.trans (congrArg some (by kernel_rfl))
  f240:=Tryz.func227.trans (congrArg some (by kernel_rfl))
  f241:=Tryz.func228.trans (congrArg some (by kernel_rfl))
  f276:=Tryz.func274.trans (congrArg some (by kernel_rfl))
  f277:=Tryz.func275.trans (congrArg some (by kernel_rfl))
  t0:=Tryz.underlying0
  a0:=Tryz.isAgg0
  z0:=Tryz.sizeOf0
  v0:=Tryz.zeroValue0
  t3:=Tryz.underlying3
  a3:=Tryz.isAgg3
  z3:=Tryz.sizeOf3
  v3:=Tryz.zeroValue3
  t4:=Tryz.underlying4
  a4:=Tryz.isAgg4
  z4:=Tryz.sizeOf4
  v4:=Tryz.zeroValue4
  t9:=Tryz.underlying9
  a9:=Tryz.isAgg9
  z9:=Tryz.sizeOf9
  v9:=Tryz.zeroValue9
  t20:=Tryz.underlying20
  a20:=Tryz.isAgg20
  z20:=Tryz.sizeOf20
  v20:=Tryz.zeroValue20
  t31:=Tryz.underlying81
  a31:=Tryz.isAgg81
  z31:=Tryz.sizeOf81
  v31:=Tryz.zeroValue81
  t37:=Tryz.underlying24
  a37:=Tryz.isAgg24
  z37:=Tryz.sizeOf24
  v37:=Tryz.zeroValue24
  t70:=Tryz.underlying196
  a70:=Tryz.isAgg196
  z70:=Tryz.sizeOf196
  v70:=Tryz.zeroValue196
  t72:=Tryz.underlying198
  a72:=Tryz.isAgg198
  z72:=Tryz.sizeOf198
  v72:=Tryz.zeroValue198
  t75:=Tryz.underlying32
  a75:=Tryz.isAgg32
  z75:=Tryz.sizeOf32
  v75:=Tryz.zeroValue32
  t76:=Tryz.underlying85
  a76:=Tryz.isAgg85
  z76:=Tryz.sizeOf85
  v76:=Tryz.zeroValue85
  t127:=Tryz.underlying273
  a127:=Tryz.isAgg273
  z127:=Tryz.sizeOf273
  v127:=Tryz.zeroValue273
  t164:=Tryz.underlying337
  a164:=Tryz.isAgg337
  z164:=Tryz.sizeOf337
  v164:=Tryz.zeroValue337 }
theorem ze2:Builder.Extra Tryz.prog zey:={
  sizeBuilder:=by kernel_rfl
  liesBuilder:=by kernel_rfl
  t5:=Tryz.underlying5
  a5:=Tryz.isAgg5
  z5:=Tryz.sizeOf5
  v5:=Tryz.zeroValue5
  infoByte:=by kernel_rfl
  cellsByte:=by kernel_rfl
  sizeByte:=by kernel_rfl
  neB5:=by decide }
open Go.RowKit in
theorem Tryz.strings_Join (bk o c:Nat) (xs:List ByteArray) (sep:ByteArray) (w:World) (hcells:∀ (j:Nat) x,xs[j]? = some x→w.cell? ⟨bk,o+j,none⟩=some (.string x)) (hbk:bk<w.heap.size) (hN:xs.length≤140737488355328) (hcap:xs.length≤c) (hlen:(Lib.join (xs.map (·.data.toList)) sep.data.toList).length≤140737488355328) :
    Calls Tryz.prog 91 #[.slice (some ⟨bk,o,none⟩) xs.length c,.string sep] w fun e w'=>e = .returned (.string ⟨(Lib.join (xs.map (·.data.toList)) sep.data.toList).toArray⟩)∧Below w.heap.size w w':=Any.strings_Join znx ze2 bk o c xs sep w hcells hbk hN hcap hlen
def zh9:Go.Shelf.Ren:=⟨fun | 161=>203 | 231=>260 | 227=>217 | 233=>261 | 235=>262 | 228=>269 | 197=>298 | 151=>224 | 260=>327 | 152=>273 | 137=>221 | 119=>310 | 224=>311 | 225=>312 | 217=>272 | 266=>309 | n=>n,fun | 9=>9 | 4=>4 | 3=>3 | 5=>5 | 117=>284 | 116=>283 | 0=>0 | 124=>287 | 105=>332 | 21=>21 | 119=>327 | 46=>78 | 139=>330 | 138=>329 | n=>n,fun | 3=>0 | 4=>1 | n=>n⟩
theorem znw:Go.Proofs.Lays.n161 Tryz.prog zh9:={
  mixed:=by kernel_rfl
  f119:=Tryz.func310.trans (congrArg some (by kernel_rfl))
  f137:=Tryz.func221.trans (congrArg some (by kernel_rfl))
  f151:=Tryz.func224.trans (congrArg some (by kernel_rfl))
  f152:=Tryz.func273.trans (congrArg some (by kernel_rfl))
  f161:=Tryz.func203.trans (congrArg some (by kernel_rfl))
  f197:=Tryz.func298.trans (congrArg some (by kernel_rfl))
  f217:=Tryz.func272.trans (congrArg some (by kernel_rfl))
  f224:=Tryz.func311.trans (congrArg some (by kernel_rfl))
  f225:=Tryz.func312.trans (congrArg some (by kernel_rfl))
  f227:=Tryz.func217.trans (congrArg some (by kernel_rfl))
  f228:=Tryz.func269.trans (congrArg some (by kernel_rfl))
  f231:=Tryz.func260.trans (congrArg some (by kernel_rfl))
  f233:=Tryz.func261.trans (congrArg some (by kernel_rfl))
  f235:=Tryz.func262.trans (congrArg some (by kernel_rfl))
  f260:=Tryz.func327.trans (congrArg some (by kernel_rfl))
  f266:=Tryz.func309.trans (congrArg some (by kernel_rfl))
  t0:=Tryz.underlying0
  a0:=Tryz.isAgg0
  z0:=Tryz.sizeOf0
  v0:=Tryz.zeroValue0
  t3:=Tryz.underlying3
  a3:=Tryz.isAgg3
  z3:=Tryz.sizeOf3
  v3:=Tryz.zeroValue3
  t4:=Tryz.underlying4
  a4:=Tryz.isAgg4
  z4:=Tryz.sizeOf4
  v4:=Tryz.zeroValue4
  t5:=Tryz.underlying5
  a5:=Tryz.isAgg5
  z5:=Tryz.sizeOf5
  v5:=Tryz.zeroValue5
  t9:=Tryz.underlying9
  a9:=Tryz.isAgg9
  z9:=Tryz.sizeOf9
  v9:=Tryz.zeroValue9
  t21:=Tryz.underlying21
  a21:=Tryz.isAgg21
  z21:=Tryz.sizeOf21
  v21:=Tryz.zeroValue21
  t46:=Tryz.underlying78
  a46:=Tryz.isAgg78
  z46:=Tryz.sizeOf78
  v46:=Tryz.zeroValue78
  t105:=Tryz.underlying332
  a105:=Tryz.isAgg332
  z105:=Tryz.sizeOf332
  v105:=Tryz.zeroValue332
  t116:=Tryz.underlying283
  a116:=Tryz.isAgg283
  z116:=Tryz.sizeOf283
  t117:=Tryz.underlying284
  a117:=Tryz.isAgg284
  z117:=Tryz.sizeOf284
  v117:=Tryz.zeroValue284
  t119:=Tryz.underlying327
  a119:=Tryz.isAgg327
  z119:=Tryz.sizeOf327
  t124:=Tryz.underlying287
  a124:=Tryz.isAgg287
  z124:=Tryz.sizeOf287
  v124:=Tryz.zeroValue287
  t138:=Tryz.underlying329
  a138:=Tryz.isAgg329
  z138:=Tryz.sizeOf329
  v138:=Tryz.zeroValue329
  t139:=Tryz.underlying330
  a139:=Tryz.isAgg330
  z139:=Tryz.sizeOf330
  v139:=Tryz.zeroValue330
  g3:=by kernel_rfl
  g4:=by kernel_rfl }
def zh8:Go.Shelf.Ren:=⟨fun | 162=>142 | 232=>216 | 227=>217 | 234=>218 | 236=>219 | 228=>269 | 271=>270 | 151=>224 | 120=>306 | 197=>298 | 152=>273 | 260=>327 | 137=>221 | 119=>310 | 224=>311 | 225=>312 | 217=>272 | 266=>309 | n=>n,fun | 9=>9 | 4=>4 | 3=>3 | 5=>5 | 117=>284 | 116=>283 | 0=>0 | 124=>287 | 21=>21 | 105=>332 | 46=>78 | 119=>327 | 139=>330 | 138=>329 | n=>n,fun | 3=>0 | 4=>1 | n=>n⟩
theorem znv:Go.Proofs.Lays.n162 Tryz.prog zh8:={
  mixed:=by kernel_rfl
  f119:=Tryz.func310.trans (congrArg some (by kernel_rfl))
  f120:=Tryz.func306.trans (congrArg some (by kernel_rfl))
  f137:=Tryz.func221.trans (congrArg some (by kernel_rfl))
  f151:=Tryz.func224.trans (congrArg some (by kernel_rfl))
  f152:=Tryz.func273.trans (congrArg some (by kernel_rfl))
  f162:=Tryz.func142.trans (congrArg some (by kernel_rfl))
  f197:=Tryz.func298.trans (congrArg some (by kernel_rfl))
  f217:=Tryz.func272.trans (congrArg some (by kernel_rfl))
  f224:=Tryz.func311.trans (congrArg some (by kernel_rfl))
  f225:=Tryz.func312.trans (congrArg some (by kernel_rfl))
  f227:=Tryz.func217.trans (congrArg some (by kernel_rfl))
  f228:=Tryz.func269.trans (congrArg some (by kernel_rfl))
  f232:=Tryz.func216.trans (congrArg some (by kernel_rfl))
  f234:=Tryz.func218.trans (congrArg some (by kernel_rfl))
  f236:=Tryz.func219.trans (congrArg some (by kernel_rfl))
  f260:=Tryz.func327.trans (congrArg some (by kernel_rfl))
  f266:=Tryz.func309.trans (congrArg some (by kernel_rfl))
  f271:=Tryz.func270.trans (congrArg some (by kernel_rfl))
  t0:=Tryz.underlying0
  a0:=Tryz.isAgg0
  z0:=Tryz.sizeOf0
  v0:=Tryz.zeroValue0
  t3:=Tryz.underlying3
  a3:=Tryz.isAgg3
  z3:=Tryz.sizeOf3
  v3:=Tryz.zeroValue3
  t4:=Tryz.underlying4
  a4:=Tryz.isAgg4
  z4:=Tryz.sizeOf4
  v4:=Tryz.zeroValue4
  t5:=Tryz.underlying5
  a5:=Tryz.isAgg5
  z5:=Tryz.sizeOf5
  v5:=Tryz.zeroValue5
  t9:=Tryz.underlying9
  a9:=Tryz.isAgg9
  z9:=Tryz.sizeOf9
  v9:=Tryz.zeroValue9
  t21:=Tryz.underlying21
  a21:=Tryz.isAgg21
  z21:=Tryz.sizeOf21
  v21:=Tryz.zeroValue21
  t46:=Tryz.underlying78
  a46:=Tryz.isAgg78
  z46:=Tryz.sizeOf78
  v46:=Tryz.zeroValue78
  t105:=Tryz.underlying332
  a105:=Tryz.isAgg332
  z105:=Tryz.sizeOf332
  v105:=Tryz.zeroValue332
  t116:=Tryz.underlying283
  a116:=Tryz.isAgg283
  z116:=Tryz.sizeOf283
  t117:=Tryz.underlying284
  a117:=Tryz.isAgg284
  z117:=Tryz.sizeOf284
  v117:=Tryz.zeroValue284
  t119:=Tryz.underlying327
  a119:=Tryz.isAgg327
  z119:=Tryz.sizeOf327
  t124:=Tryz.underlying287
  a124:=Tryz.isAgg287
  z124:=Tryz.sizeOf287
  v124:=Tryz.zeroValue287
  t138:=Tryz.underlying329
  a138:=Tryz.isAgg329
  z138:=Tryz.sizeOf329
  v138:=Tryz.zeroValue329
  t139:=Tryz.underlying330
  a139:=Tryz.isAgg330
  z139:=Tryz.sizeOf330
  v139:=Tryz.zeroValue330
  g3:=by kernel_rfl
  g4:=by kernel_rfl }
open Go.RowKit in
theorem Tryz.strings_TrimRight_one (s:ByteArray) (c:UInt8) (hc:c.toNat<128) (w:World) (hs:s.size≤9223372036854775807) :
    Calls Tryz.prog 142 #[.string s,.string ⟨#[c]⟩] w fun e w'=>e = .returned (.string ⟨(Lib.trimRightB s.data.toList c).toArray⟩)∧w'=w:=Any.strings_TrimRight_one znv s c hc w hs
def zid:Go.Shelf.Ren:=⟨fun | 119=>310 | n=>n,fun | 21=>21 | 4=>4 | n=>n,fun | n=>n⟩
theorem zn1:Go.Proofs.Lays.n119 Tryz.prog zid:={
  mixed:=by kernel_rfl
  f119:=Tryz.func310.trans (congrArg some (by kernel_rfl))
  t4:=Tryz.underlying4
  a4:=Tryz.isAgg4
  z4:=Tryz.sizeOf4
  v4:=Tryz.zeroValue4
  t21:=Tryz.underlying21
  a21:=Tryz.isAgg21
  z21:=Tryz.sizeOf21
  v21:=Tryz.zeroValue21 }
theorem Tryz.utf8_ValidRune (r:Int) (w:World) :
    Calls Tryz.prog 310 #[.int .i32 r] w fun e w'=>e = .returned (.bool (Lib.validRune r))∧w'=w:=Any.utf8_ValidRune zn1 r w
def zib:Go.Shelf.Ren:=⟨fun | 137=>221 | 217=>272 | 266=>309 | n=>n,fun | 9=>9 | 5=>5 | 3=>3 | n=>n,fun | n=>n⟩
theorem znz:Go.Proofs.Lays.n137 Tryz.prog zib:={
  mixed:=by kernel_rfl
  f137:=Tryz.func221.trans (congrArg some (by kernel_rfl))
  f217:=Tryz.func272.trans (congrArg some (by kernel_rfl))
  f266:=Tryz.func309.trans (congrArg some (by kernel_rfl))
  t3:=Tryz.underlying3
  a3:=Tryz.isAgg3
  z3:=Tryz.sizeOf3
  v3:=Tryz.zeroValue3
  t5:=Tryz.underlying5
  a5:=Tryz.isAgg5
  z5:=Tryz.sizeOf5
  v5:=Tryz.zeroValue5
  t9:=Tryz.underlying9
  a9:=Tryz.isAgg9
  z9:=Tryz.sizeOf9
  v9:=Tryz.zeroValue9 }
open Go.RowKit in
theorem Tryz.strings_IndexByte (s:ByteArray) (c:Int) (w:World) :
    Calls Tryz.prog 221 #[.string s,.int .u8 c] w fun e w'=>e = .returned (.int .i64 (Lib.indexByte s.data.toList c.toNat.toUInt8))∧w'=w:=Any.strings_IndexByte znz s c w
def zif:Go.Shelf.Ren:=⟨fun | 103=>146 | 210=>222 | 206=>205 | n=>n,fun | 9=>9 | 4=>4 | 24=>126 | 3=>3 | n=>n,fun | n=>n⟩
theorem zn3:Go.Proofs.Lays.n103 Tryz.prog zif:={
  mixed:=by kernel_rfl
  f103:=Tryz.func146.trans (congrArg some (by kernel_rfl))
  f206:=Tryz.func205.trans (congrArg some (by kernel_rfl))
  f210:=Tryz.func222.trans (congrArg some (by kernel_rfl))
  t3:=Tryz.underlying3
  a3:=Tryz.isAgg3
  z3:=Tryz.sizeOf3
  v3:=Tryz.zeroValue3
  t4:=Tryz.underlying4
  a4:=Tryz.isAgg4
  z4:=Tryz.sizeOf4
  v4:=Tryz.zeroValue4
  t9:=Tryz.underlying9
  a9:=Tryz.isAgg9
  z9:=Tryz.sizeOf9
  v9:=Tryz.zeroValue9
  t24:=Tryz.underlying126
  a24:=Tryz.isAgg126
  z24:=Tryz.sizeOf126
  v24:=Tryz.zeroValue126 }
open Go.RowKit in
theorem Tryz.strings_CutPrefix (s p:ByteArray) (w:World) :
    Calls Tryz.prog 146 #[.string s,.string p] w fun e w'=>e = .returned (.tuple #[.string ⟨(Lib.trimPrefix s.data.toList p.data.toList).toArray⟩,.bool (Lib.hasPrefix s.data.toList p.data.toList)])∧w'=w:=Any.strings_CutPrefix zn3 s p w
def zic:Go.Shelf.Ren:=⟨fun | 121=>197 | 214=>248 | n=>n,fun | 4=>4 | 9=>9 | n=>n,fun | n=>n⟩
theorem zn0:Go.Proofs.Lays.n121 Tryz.prog zic:={
  mixed:=by kernel_rfl
  f121:=Tryz.func197.trans (congrArg some (by kernel_rfl))
  f214:=Tryz.func248.trans (congrArg some (by kernel_rfl))
  t4:=Tryz.underlying4
  a4:=Tryz.isAgg4
  z4:=Tryz.sizeOf4
  v4:=Tryz.zeroValue4
  t9:=Tryz.underlying9
  a9:=Tryz.isAgg9
  z9:=Tryz.sizeOf9
  v9:=Tryz.zeroValue9 }
open Go.RowKit in
theorem Tryz.strconv_FormatBool (b:Bool) (w:World) :
    Calls Tryz.prog 197 #[.bool b] w fun e w'=>e = .returned (.string ⟨(Lib.formatBool b).toArray⟩)∧w'=w:=Any.strconv_FormatBool zn0 b w
open Go.RowKit in
theorem Tryz.Builder_String_any_k (B b:Nat) (l:List UInt8) (w:World) (h:Lib.IsBuilderF 198 5 B b (Lib.byteCells l) w) (hBw:B≤w.heap.size) :
    Calls Tryz.prog 129 #[.pointer (some ⟨b,0,none⟩)] w fun e w'=>e = .returned (.string ⟨l.toArray⟩)∧(Lib.IsBuilderF 198 5 B b (Lib.byteCells l) w'∧Below B w w'∧Lib.OthersKept 5 (some b) w w'):=Any.Builder_String_any_k znu ze1 B b l w h hBw
def zh4:Go.Shelf.Ren:=⟨fun | 242=>250 | 278=>297 | n=>n,fun | 37=>24 | 21=>21 | 51=>250 | 4=>4 | 5=>5 | 46=>78 | n=>n,fun | n=>n⟩
theorem znq:Go.Proofs.Lays.n242 Tryz.prog zh4:={
  mixed:=by kernel_rfl
  f242:=Tryz.func250.trans (congrArg some (by kernel_rfl))
  f278:=Tryz.func297.trans (congrArg some (by kernel_rfl))
  t4:=Tryz.underlying4
  a4:=Tryz.isAgg4
  z4:=Tryz.sizeOf4
  v4:=Tryz.zeroValue4
  t5:=Tryz.underlying5
  a5:=Tryz.isAgg5
  z5:=Tryz.sizeOf5
  v5:=Tryz.zeroValue5
  t21:=Tryz.underlying21
  a21:=Tryz.isAgg21
  z21:=Tryz.sizeOf21
  v21:=Tryz.zeroValue21
  t37:=Tryz.underlying24
  a37:=Tryz.isAgg24
  z37:=Tryz.sizeOf24
  v37:=Tryz.zeroValue24
  t46:=Tryz.underlying78
  a46:=Tryz.isAgg78
  z46:=Tryz.sizeOf78
  v46:=Tryz.zeroValue78
  t51:=Tryz.underlying250
  a51:=Tryz.isAgg250
  z51:=Tryz.sizeOf250
  v51:=Tryz.zeroValue250 }
open Go.RowKit in
theorem Tryz.utf8_AppendRune_plain (B:Nat) (v:Value) (n:Nat) (xs:List Value) (r:Int) (hr0 : -2147483648≤r) (hr1:r≤2147483647) (w:World) (hown:w.ownsRow B 5 1 v n xs) (hlen:n+4≤140737488355328) (hBw:B≤w.heap.size) :
    Calls Tryz.prog 250 #[v,.int .i32 r] w fun e w'=>∃ v',e = .returned v'∧w'.ownsRow B 5 1 v' (n+(Lib.runeCells r).length) (xs++Lib.runeCells r)∧∃ o,(w.alloc o).grownBy w' v.ownBlock:=Any.utf8_AppendRune_plain znq (by kernel_rfl) B v n xs r hr0 hr1 w hown hlen hBw
def zhq:Go.Shelf.Ren:=⟨fun | 171=>92 | 243=>159 | 246=>229 | 283=>276 | 284=>277 | 285=>278 | 286=>279 | 129=>291 | 317=>313 | 318=>314 | 319=>315 | 320=>316 | 337=>330 | 338=>331 | n=>n,fun | 3=>3 | 9=>9 | 2=>2 | 4=>4 | 171=>339 | 0=>0 | 53=>340 | 37=>24 | 5=>5 | 173=>343 | 212=>365 | 51=>250 | 20=>20 | 213=>366 | 46=>78 | 232=>22 | 233=>112 | n=>n,fun | 17=>3 | 18=>4 | 19=>5 | n=>n⟩
theorem zl5:Go.Proofs.LaysM.n171 Tryz.prog zhq:={
  mixed:=by kernel_rfl
  f129:=Tryz.func291.trans (congrArg some (by kernel_rfl))
  f171:=Tryz.func92.trans (congrArg some (by kernel_rfl))
  f243:=Tryz.func159.trans (congrArg some (by kernel_rfl))
  f246:=Tryz.func229.trans (congrArg some (by kernel_rfl))
  f283:=Tryz.func276.trans (congrArg some (by kernel_rfl))
  f284:=Tryz.func277.trans (congrArg some (by kernel_rfl))
  f285:=Tryz.func278.trans (congrArg some (by kernel_rfl))
  f286:=Tryz.func279.trans (congrArg some (by kernel_rfl))
  f317:=Tryz.func313.trans (congrArg some (by kernel_rfl))
  f318:=Tryz.func314.trans (congrArg some (by kernel_rfl))
  f319:=Tryz.func315.trans (congrArg some (by kernel_rfl))
  f320:=Tryz.func316.trans (congrArg some (by kernel_rfl))
  f337:=Tryz.func330.trans (congrArg some (by kernel_rfl))
  f338:=Tryz.func331.trans (congrArg some (by kernel_rfl))
  t0:=Tryz.underlying0
  a0:=Tryz.isAgg0
  z0:=Tryz.sizeOf0
  v0:=Tryz.zeroValue0
  t2:=Tryz.underlying2
  a2:=Tryz.isAgg2
  z2:=Tryz.sizeOf2
  v2:=Tryz.zeroValue2
  t3:=Tryz.underlying3
  a3:=Tryz.isAgg3
  z3:=Tryz.sizeOf3
  v3:=Tryz.zeroValue3
  t4:=Tryz.underlying4
  a4:=Tryz.isAgg4
  z4:=Tryz.sizeOf4
  v4:=Tryz.zeroValue4
  t5:=Tryz.underlying5
  a5:=Tryz.isAgg5
  z5:=Tryz.sizeOf5
  v5:=Tryz.zeroValue5
  t9:=Tryz.underlying9
  a9:=Tryz.isAgg9
  z9:=Tryz.sizeOf9
  v9:=Tryz.zeroValue9
  t20:=Tryz.underlying20
  a20:=Tryz.isAgg20
  z20:=Tryz.sizeOf20
  v20:=Tryz.zeroValue20
  t37:=Tryz.underlying24
  a37:=Tryz.isAgg24
  z37:=Tryz.sizeOf24
  v37:=Tryz.zeroValue24
  t46:=Tryz.underlying78
  a46:=Tryz.isAgg78
  z46:=Tryz.sizeOf78
  v46:=Tryz.zeroValue78
  t51:=Tryz.underlying250
  a51:=Tryz.isAgg250
  z51:=Tryz.sizeOf250
  v51:=Tryz.zeroValue250
  t53:=Tryz.underlying340
  a53:=Tryz.isAgg340
  z53:=Tryz.sizeOf340
  v53:=Tryz.zeroValue340
  t171:=Tryz.underlying339
  a171:=Tryz.isAgg339
  z171:=Tryz.sizeOf339
  v171:=Tryz.zeroValue339
  t173:=Tryz.underlying343
  a173:=Tryz.isAgg343
  z173:=Tryz.sizeOf343
  v173:=Tryz.zeroValue343
  t212:=Tryz.underlying365
  a212:=Tryz.isAgg365
  z212:=Tryz.sizeOf365
  v212:=Tryz.zeroValue365
  t213:=Tryz.underlying366
  a213:=Tryz.isAgg366
  z213:=Tryz.sizeOf366
  t232:=Tryz.underlying22
  a232:=Tryz.isAgg22
  z232:=Tryz.sizeOf22
  v232:=Tryz.zeroValue22
  t233:=Tryz.underlying112
  a233:=Tryz.isAgg112
  z233:=Tryz.sizeOf112
  v233:=Tryz.zeroValue112
  g17:=by kernel_rfl
  g18:=by kernel_rfl
  g19:=by kernel_rfl
  i0:=by kernel_rfl
  i2:=by kernel_rfl
  i3:=by kernel_rfl
  i4:=by kernel_rfl
  i5:=by kernel_rfl
  i9:=by kernel_rfl
  i20:=by kernel_rfl
  i37:=by kernel_rfl
  i46:=by kernel_rfl
  i51:=by kernel_rfl
  i53:=by kernel_rfl
  i171:=by kernel_rfl
  i173:=by kernel_rfl
  i212:=by kernel_rfl
  i232:=by kernel_rfl
  i233:=by kernel_rfl
  m17:=by kernel_rfl
  m18:=by kernel_rfl
  m19:=by kernel_rfl }
open Go.RowKit Go.Sort Go.Lib in
theorem Tryz.strconv_Itoa (n:Int) (h0 : -9223372036854775808≤n) (h1:n≤9223372036854775807) (w:World) (htab:Lib.TabIs Tryz.prog w "internal/strconv.uint64pow10" .u64 Lib.pow10Tab) :
    Calls Tryz.prog 92 #[.int .i64 n] w fun e w'=>e = .returned (.string ⟨(Lib.itoa n).toArray⟩)∧∃ k os,w'=grow (w.drewN k) os:=Any.strconv_Itoa zl5 n h0 h1 w htab
def zhr:Go.Shelf.Ren:=⟨fun | 17=>133 | 15=>204 | 20=>263 | n=>n,fun | 9=>9 | 23=>205 | 4=>4 | 3=>3 | 0=>0 | 21=>21 | n=>n,fun | n=>n⟩
theorem zl6:Go.Proofs.LaysGw.n17 Tryz.prog zhr:={
  mixed:=by kernel_rfl
  f15:=Tryz.func204.trans (congrArg some (by kernel_rfl))
  f17:=Tryz.func133.trans (congrArg some (by kernel_rfl))
  f20:=Tryz.func263.trans (congrArg some (by kernel_rfl))
  t0:=Tryz.underlying0
  a0:=Tryz.isAgg0
  z0:=Tryz.sizeOf0
  v0:=Tryz.zeroValue0
  i0:=by kernel_rfl
  t3:=Tryz.underlying3
  a3:=Tryz.isAgg3
  z3:=Tryz.sizeOf3
  v3:=Tryz.zeroValue3
  i3:=by kernel_rfl
  t4:=Tryz.underlying4
  a4:=Tryz.isAgg4
  z4:=Tryz.sizeOf4
  v4:=Tryz.zeroValue4
  i4:=by kernel_rfl
  t9:=Tryz.underlying9
  a9:=Tryz.isAgg9
  z9:=Tryz.sizeOf9
  v9:=Tryz.zeroValue9
  i9:=by kernel_rfl
  t21:=Tryz.underlying21
  a21:=Tryz.isAgg21
  z21:=Tryz.sizeOf21
  v21:=Tryz.zeroValue21
  i21:=by kernel_rfl
  t23:=Tryz.underlying205
  a23:=Tryz.isAgg205
  z23:=Tryz.sizeOf205
  v23:=Tryz.zeroValue205
  i23:=by kernel_rfl }
open Go.RowKit Go.Lib in
theorem Tryz.strings_ContainsFunc_runes (g:Nat) (lb:Array Value) (eg:∀ args w,(callFunc g args).run Tryz.prog w = .ok (.enter g args) w) (p:Nat→Bool) (s:ByteArray) (w:World) (hp:PredAtRunes Tryz.prog g lb p w) :
    Calls Tryz.prog 133 #[.string s,.func (.func g) #[] lb] w fun e w'=>e = .returned (.bool (decide (0≤Lib.idxFunc p true s)))∧Below w.heap.size w w':=Any.strings_ContainsFunc_runes zl6 g lb eg p s w hp
def zjy:Go.Shelf.Ren:=⟨fun | 99=>134 | 206=>205 | n=>n,fun | 9=>9 | 4=>4 | 3=>3 | n=>n,fun | n=>n⟩
theorem zpo:Go.Proofs.Lays.n99 Tryz.prog zjy:={
  mixed:=by kernel_rfl
  f99:=Tryz.func134.trans (congrArg some (by kernel_rfl))
  f206:=Tryz.func205.trans (congrArg some (by kernel_rfl))
  t3:=Tryz.underlying3
  a3:=Tryz.isAgg3
  z3:=Tryz.sizeOf3
  v3:=Tryz.zeroValue3
  t4:=Tryz.underlying4
  a4:=Tryz.isAgg4
  z4:=Tryz.sizeOf4
  v4:=Tryz.zeroValue4
  t9:=Tryz.underlying9
  a9:=Tryz.isAgg9
  z9:=Tryz.sizeOf9
  v9:=Tryz.zeroValue9 }
open Go.RowKit Go.Lib in
theorem Tryz.strings_HasPrefix (s p:ByteArray) (w:World) :
    Calls Tryz.prog 134 #[.string s,.string p] w fun e w'=>e = .returned (.bool (Lib.hasPrefix s.data.toList p.data.toList))∧w'=w:=Any.strings_HasPrefix zpo s p w
def zia:Go.Shelf.Ren:=⟨fun | 151=>224 | 152=>273 | 137=>221 | 119=>310 | 224=>311 | 225=>312 | 217=>272 | 266=>309 | n=>n,fun | 9=>9 | 21=>21 | 4=>4 | 3=>3 | 5=>5 | 0=>0 | 46=>78 | n=>n,fun | n=>n⟩
theorem zny:Go.Proofs.Lays.n151 Tryz.prog zia:={
  mixed:=by kernel_rfl
  f119:=Tryz.func310.trans (congrArg some (by kernel_rfl))
  f137:=Tryz.func221.trans (congrArg some (by kernel_rfl))
  f151:=Tryz.func224.trans (congrArg some (by kernel_rfl))
  f152:=Tryz.func273.trans (congrArg some (by kernel_rfl))
  f217:=Tryz.func272.trans (congrArg some (by kernel_rfl))
  f224:=Tryz.func311.trans (congrArg some (by kernel_rfl))
  f225:=Tryz.func312.trans (congrArg some (by kernel_rfl))
  f266:=Tryz.func309.trans (congrArg some (by kernel_rfl))
  t0:=Tryz.underlying0
  a0:=Tryz.isAgg0
  z0:=Tryz.sizeOf0
  v0:=Tryz.zeroValue0
  t3:=Tryz.underlying3
  a3:=Tryz.isAgg3
  z3:=Tryz.sizeOf3
  v3:=Tryz.zeroValue3
  t4:=Tryz.underlying4
  a4:=Tryz.isAgg4
  z4:=Tryz.sizeOf4
  v4:=Tryz.zeroValue4
  t5:=Tryz.underlying5
  a5:=Tryz.isAgg5
  z5:=Tryz.sizeOf5
  v5:=Tryz.zeroValue5
  t9:=Tryz.underlying9
  a9:=Tryz.isAgg9
  z9:=Tryz.sizeOf9
  v9:=Tryz.zeroValue9
  t21:=Tryz.underlying21
  a21:=Tryz.isAgg21
  z21:=Tryz.sizeOf21
  v21:=Tryz.zeroValue21
  t46:=Tryz.underlying78
  a46:=Tryz.isAgg78
  z46:=Tryz.sizeOf78
  v46:=Tryz.zeroValue78 }
open Go.RowKit Go.Lib in
theorem Tryz.strings_ContainsRune_ascii (s:ByteArray) (r:Int) (w:World) (h0:0≤r) (h1:r<128) :
    Calls Tryz.prog 224 #[.string s,.int .i32 r] w fun e w'=>e = .returned (.bool (decide (0≤Lib.indexByte s.data.toList r.toNat.toUInt8)))∧w'=w:=Any.strings_ContainsRune_ascii zny s r w h0 h1
def zez:Go.Shelf.Ren:=⟨fun | 105=>220 | 212=>271 | 99=>134 | 165=>157 | 166=>158 | 170=>128 | 169=>129 | 263=>307 | 264=>308 | 206=>205 | 240=>227 | 241=>228 | 276=>274 | 277=>275 | n=>n,fun | 9=>9 | 3=>3 | 4=>4 | 20=>20 | 0=>0 | 46=>78 | 109=>334 | 5=>5 | 72=>198 | 76=>85 | 51=>250 | 146=>360 | 53=>340 | 148=>362 | 70=>196 | 37=>24 | 75=>32 | 127=>273 | 164=>337 | 80=>200 | n=>n,fun | n=>n⟩
theorem zfk:Go.Proofs.Lays.n105 Tryz.prog zez:={
  mixed:=by kernel_rfl
  f99:=Tryz.func134.trans (congrArg some (by kernel_rfl))
  f105:=Tryz.func220.trans (congrArg some (by kernel_rfl))
  f165:=Tryz.func157.trans (congrArg some (by kernel_rfl))
  f166:=Tryz.func158.trans (congrArg some (by kernel_rfl))
  f169:=Tryz.func129.trans (congrArg some (by kernel_rfl))
  f170:=Tryz.func128.trans (congrArg some (by kernel_rfl))
  f206:=Tryz.func205.trans (congrArg some (by kernel_rfl))
  f212:=Tryz.func271.trans (congrArg some (by kernel_rfl))
  f240:=Tryz.func227.trans (congrArg some (by kernel_rfl))
  f241:=Tryz.func228.trans (congrArg some (by kernel_rfl))
  f263:=Tryz.func307.trans (congrArg some (by kernel_rfl))
  f264:=Tryz.func308.trans (congrArg some (by kernel_rfl))
  f276:=Tryz.func274.trans (congrArg some (by kernel_rfl))
  f277:=Tryz.func275.trans (congrArg some (by kernel_rfl))
  t0:=Tryz.underlying0
  a0:=Tryz.isAgg0
  z0:=Tryz.sizeOf0
  v0:=Tryz.zeroValue0
  t3:=Tryz.underlying3
  a3:=Tryz.isAgg3
  z3:=Tryz.sizeOf3
  v3:=Tryz.zeroValue3
  t4:=Tryz.underlying4
  a4:=Tryz.isAgg4
  z4:=Tryz.sizeOf4
  v4:=Tryz.zeroValue4
  t5:=Tryz.underlying5
  a5:=Tryz.isAgg5
  z5:=Tryz.sizeOf5
  v5:=Tryz.zeroValue5
  t9:=Tryz.underlying9
  a9:=Tryz.isAgg9
  z9:=Tryz.sizeOf9
  v9:=Tryz.zeroValue9
  t20:=Tryz.underlying20
  a20:=Tryz.isAgg20
  z20:=Tryz.sizeOf20
  v20:=Tryz.zeroValue20
  t37:=Tryz.underlying24
  a37:=Tryz.isAgg24
  z37:=Tryz.sizeOf24
  v37:=Tryz.zeroValue24
  t46:=Tryz.underlying78
  a46:=Tryz.isAgg78
  z46:=Tryz.sizeOf78
  v46:=Tryz.zeroValue78
  t51:=Tryz.underlying250
  a51:=Tryz.isAgg250
  z51:=Tryz.sizeOf250
  v51:=Tryz.zeroValue250
  t53:=Tryz.underlying340
  a53:=Tryz.isAgg340
  z53:=Tryz.sizeOf340
  v53:=Tryz.zeroValue340
  t70:=Tryz.underlying196
  a70:=Tryz.isAgg196
  z70:=Tryz.sizeOf196
  v70:=Tryz.zeroValue196
  t72:=Tryz.underlying198
  a72:=Tryz.isAgg198
  z72:=Tryz.sizeOf198
  v72:=Tryz.zeroValue198
  t75:=Tryz.underlying32
  a75:=Tryz.isAgg32
  z75:=Tryz.sizeOf32
  v75:=Tryz.zeroValue32
  t76:=Tryz.underlying85
  a76:=Tryz.isAgg85
  z76:=Tryz.sizeOf85
  v76:=Tryz.zeroValue85
  t109:=Tryz.underlying334
  a109:=Tryz.isAgg334
  z109:=Tryz.sizeOf334
  v109:=Tryz.zeroValue334
  t127:=Tryz.underlying273
  a127:=Tryz.isAgg273
  z127:=Tryz.sizeOf273
  v127:=Tryz.zeroValue273
  t146:=Tryz.underlying360
  a146:=Tryz.isAgg360
  z146:=Tryz.sizeOf360
  v146:=Tryz.zeroValue360
  t148:=Tryz.underlying362
  a148:=Tryz.isAgg362
  z148:=Tryz.sizeOf362
  v148:=Tryz.zeroValue362
  t164:=Tryz.underlying337
  a164:=Tryz.isAgg337
  z164:=Tryz.sizeOf337
  v164:=Tryz.zeroValue337 }
theorem ze3:Builder.Extra Tryz.prog zez:={
  sizeBuilder:=by kernel_rfl
  liesBuilder:=by kernel_rfl
  t5:=Tryz.underlying5
  a5:=Tryz.isAgg5
  z5:=Tryz.sizeOf5
  v5:=Tryz.zeroValue5
  infoByte:=by kernel_rfl
  cellsByte:=by kernel_rfl
  sizeByte:=by kernel_rfl
  neB5:=by decide }
open Go.RowKit Go.Lib in
theorem Tryz.strings_Repeat_main (s:ByteArray) (c:Nat) (w:World) (hc2:2≤c) (hc:c≤9223372036854775807) (hlen:s.size * c≤140737488355328) (h0:0<s.size) :
    Calls Tryz.prog 220 #[.string s,.int .i64 c] w fun e w'=>e = .returned (.string ⟨(Lib.repeatL s.data.toList c).toArray⟩)∧Below w.heap.size w w':=Any.strings_Repeat_main zfk ze3 s c w hc2 hc hlen h0
open Go.RowKit Go.Lib in
theorem Tryz.strings_Repeat_zero (s:ByteArray) (w:World) :
    Calls Tryz.prog 220 #[.string s,.int .i64 0] w fun e w'=>e = .returned (.string ⟨#[]⟩)∧w'=w:=Any.strings_Repeat_zero zfk s w
open Go.RowKit Go.Lib in
theorem Tryz.strings_Repeat_one (s:ByteArray) (w:World) :
    Calls Tryz.prog 220 #[.string s,.int .i64 1] w fun e w'=>e = .returned (.string s)∧w'=w:=Any.strings_Repeat_one zfk s w
def zh5:Go.Shelf.Ren:=⟨fun | 197=>298 | 260=>327 | n=>n,fun | 9=>9 | 21=>21 | 3=>3 | 4=>4 | 5=>5 | 105=>332 | 119=>327 | 0=>0 | 46=>78 | 139=>330 | 138=>329 | n=>n,fun | 3=>0 | 4=>1 | n=>n⟩
theorem znr:Go.Proofs.Lays.n197 Tryz.prog zh5:={
  mixed:=by kernel_rfl
  f197:=Tryz.func298.trans (congrArg some (by kernel_rfl))
  f260:=Tryz.func327.trans (congrArg some (by kernel_rfl))
  t0:=Tryz.underlying0
  a0:=Tryz.isAgg0
  z0:=Tryz.sizeOf0
  v0:=Tryz.zeroValue0
  t3:=Tryz.underlying3
  a3:=Tryz.isAgg3
  z3:=Tryz.sizeOf3
  v3:=Tryz.zeroValue3
  t4:=Tryz.underlying4
  a4:=Tryz.isAgg4
  z4:=Tryz.sizeOf4
  v4:=Tryz.zeroValue4
  t5:=Tryz.underlying5
  a5:=Tryz.isAgg5
  z5:=Tryz.sizeOf5
  v5:=Tryz.zeroValue5
  t9:=Tryz.underlying9
  a9:=Tryz.isAgg9
  z9:=Tryz.sizeOf9
  v9:=Tryz.zeroValue9
  t21:=Tryz.underlying21
  a21:=Tryz.isAgg21
  z21:=Tryz.sizeOf21
  v21:=Tryz.zeroValue21
  t46:=Tryz.underlying78
  a46:=Tryz.isAgg78
  z46:=Tryz.sizeOf78
  v46:=Tryz.zeroValue78
  t105:=Tryz.underlying332
  a105:=Tryz.isAgg332
  z105:=Tryz.sizeOf332
  v105:=Tryz.zeroValue332
  t119:=Tryz.underlying327
  a119:=Tryz.isAgg327
  z119:=Tryz.sizeOf327
  t138:=Tryz.underlying329
  a138:=Tryz.isAgg329
  z138:=Tryz.sizeOf329
  v138:=Tryz.zeroValue329
  t139:=Tryz.underlying330
  a139:=Tryz.isAgg330
  z139:=Tryz.sizeOf330
  v139:=Tryz.zeroValue330
  g3:=by kernel_rfl
  g4:=by kernel_rfl }
open Go.RowKit Go.Lib in
theorem Tryz.utf8_DecodeRuneInString (s:ByteArray) (w:World) (hT:Lib.Utf8Tabs 0 1 w) :
    Calls Tryz.prog 298 #[.string s] w fun e w'=>e = .returned (.tuple #[.int .i32 (Lib.decodeGo s).1,.int .i64 (Lib.decodeGo s).2])∧Below w.heap.size w w':=Any.utf8_DecodeRuneInString znr s w hT
def zie:Go.Shelf.Ren:=⟨fun | 109=>77 | n=>n,fun | 31=>81 | 9=>9 | 3=>3 | 0=>0 | 4=>4 | n=>n,fun | n=>n⟩
theorem zn2:Go.Proofs.Lays.n109 Tryz.prog zie:={
  mixed:=by kernel_rfl
  f109:=Tryz.func77.trans (congrArg some (by kernel_rfl))
  t0:=Tryz.underlying0
  a0:=Tryz.isAgg0
  z0:=Tryz.sizeOf0
  v0:=Tryz.zeroValue0
  t3:=Tryz.underlying3
  a3:=Tryz.isAgg3
  z3:=Tryz.sizeOf3
  v3:=Tryz.zeroValue3
  t4:=Tryz.underlying4
  a4:=Tryz.isAgg4
  z4:=Tryz.sizeOf4
  v4:=Tryz.zeroValue4
  t9:=Tryz.underlying9
  a9:=Tryz.isAgg9
  z9:=Tryz.sizeOf9
  v9:=Tryz.zeroValue9
  t31:=Tryz.underlying81
  a31:=Tryz.isAgg81
  z31:=Tryz.sizeOf81
  v31:=Tryz.zeroValue81 }
open Go.Lib in
theorem Tryz.slices_Index_string (b off n c:Nat) (zs:List ByteArray) (x:ByteArray) (w:World) (hz:n≤zs.length) (hbig:n≤9223372036854775807) (hc:∀ j,j<zs.length→w.cell? ⟨b,off+j,none⟩=some (.string (zs.getD j ByteArray.empty))) :
    Calls Tryz.prog 77 #[.slice (some ⟨b,off,none⟩) n c,.string x] w fun e w'=>e = .returned (.int .i64 (Lib.idxOfS (zs.take n) x))∧w'=w:=Any.slices_Index_string zn2 b off n c zs x w hz hbig hc
open Go.RowKit Go.Lib in
theorem Tryz.strings_TrimLeft_set (s cutset:ByteArray) (w:World) (hcs:cutset.size<4294967281) (hascii:∀ (j:Nat) b,cutset.data.toList[j]? = some b→b.toNat<128) :
    Calls Tryz.prog 203 #[.string s,.string cutset] w fun e w'=>e = .returned (.string ⟨(Lib.trimLeftS s.data.toList cutset.data.toList).toArray⟩)∧Below w.heap.size w w':=Any.strings_TrimLeft_laid znw (by kernel_rfl) s cutset w hcs hascii
def zh6:Go.Shelf.Ren:=⟨fun | 196=>213 | 259=>268 | n=>n,fun | 9=>9 | 4=>4 | 3=>3 | 5=>5 | 12=>12 | 119=>327 | 0=>0 | 46=>78 | 139=>330 | 138=>329 | 53=>340 | n=>n,fun | 3=>0 | 4=>1 | n=>n⟩
theorem zns:Go.Proofs.Lays.n196 Tryz.prog zh6:={
  mixed:=by kernel_rfl
  f196:=Tryz.func213.trans (congrArg some (by kernel_rfl))
  f259:=Tryz.func268.trans (congrArg some (by kernel_rfl))
  t0:=Tryz.underlying0
  a0:=Tryz.isAgg0
  z0:=Tryz.sizeOf0
  v0:=Tryz.zeroValue0
  t3:=Tryz.underlying3
  a3:=Tryz.isAgg3
  z3:=Tryz.sizeOf3
  v3:=Tryz.zeroValue3
  t4:=Tryz.underlying4
  a4:=Tryz.isAgg4
  z4:=Tryz.sizeOf4
  v4:=Tryz.zeroValue4
  t5:=Tryz.underlying5
  a5:=Tryz.isAgg5
  z5:=Tryz.sizeOf5
  v5:=Tryz.zeroValue5
  t9:=Tryz.underlying9
  a9:=Tryz.isAgg9
  z9:=Tryz.sizeOf9
  v9:=Tryz.zeroValue9
  t12:=Tryz.underlying12
  a12:=Tryz.isAgg12
  z12:=Tryz.sizeOf12
  v12:=Tryz.zeroValue12
  t46:=Tryz.underlying78
  a46:=Tryz.isAgg78
  z46:=Tryz.sizeOf78
  v46:=Tryz.zeroValue78
  t53:=Tryz.underlying340
  a53:=Tryz.isAgg340
  z53:=Tryz.sizeOf340
  v53:=Tryz.zeroValue340
  t119:=Tryz.underlying327
  a119:=Tryz.isAgg327
  z119:=Tryz.sizeOf327
  t138:=Tryz.underlying329
  a138:=Tryz.isAgg329
  z138:=Tryz.sizeOf329
  v138:=Tryz.zeroValue329
  t139:=Tryz.underlying330
  a139:=Tryz.isAgg330
  z139:=Tryz.sizeOf330
  v139:=Tryz.zeroValue330
  g3:=by kernel_rfl
  g4:=by kernel_rfl }
open Go.RowKit Go.Lib in
theorem Tryz.utf8_ValidString (s:ByteArray) (w:World) (hs:s.size≤9223372036854775807) (hT:Lib.Utf8Tabs 0 1 w) :
    Calls Tryz.prog 213 #[.string s] w fun e w'=>e = .returned (.bool (Lib.validD s.data.toList))∧Below w.heap.size w w':=Any.utf8_ValidString zns s w hs hT
end Go.Proofs
