/-
  DERIVED: THE SHELF's CONTRACTS AT THIS DUMP, IN PLAIN WORDS (tools/lay-plain.mjs out of 'TryzShelf.lean', which tools/lay-shelf.mjs wrote): THE SAME DECLARATIONS UNDER THE SAME NAMES: 'import', 'namespace', 'open', 'def', 'theorem' AND NOTHING ELSE: no command of the shelf's: FOR A HAND-IN. Each laying: the table of numbers ('.._ren') and one theorem, a field a fact of the dump's own or the kernel's comparison; each contract: ONE APPLICATION.
-/
import Derived.Shelf.Strings.Builder1
import Derived.Shelf.Strings.Builder2
import Derived.Shelf.Strings.OnBuilder
import Derived.Shelf.Small.Bits
import Derived.Shelf.Small.Strs
import Derived.Shelf.Small.Wraps
import Derived.Shelf.Strings.BuilderF
import Derived.Shelf.Strings.BuilderK
import Derived.Shelf.Strings.Search1
import Derived.Shelf.Strings.Search2
import Derived.Shelf.Strings.Search3
import Derived.Shelf.Strings.Cut
import Derived.Shelf.Strings.Count
import Derived.Shelf.LaysM
import Derived.Shelf.Strings.Shaped
import Derived.Shelf.Strings.Prefix
import Derived.Shelf.Strings.Split
import Derived.Shelf.Strings.SplitShaped
import Derived.Shelf.Unicode.DecodeSlow
import Derived.Ground.SlgnProg
import Derived.Shelf.SlicesE.Clone
import Derived.Test.YtoeiphicmcndlaaGreatDoorProg
namespace Go.Proofs
open Go.Shelf
def Tryz.lays169_ren:Go.Shelf.Ren:=⟨fun|169=>40|n=>n,fun|70=>93|9=>9|0=>0|72=>95|37=>86|127=>140|3=>3|5=>5|n=>n,fun|n=>n⟩
theorem Tryz.lays169:Go.Proofs.Lays.n169 Tryz.prog Tryz.lays169_ren:={
  mixed:=by kernel_rfl
  f169:=Tryz.func40.trans (congrArg some (by kernel_rfl))
  t0:=Tryz.underlying0
  a0:=Tryz.isAgg0
  z0:=Tryz.sizeOf0
  v0:=Tryz.zeroValue0
  t3:=Tryz.underlying3
  a3:=Tryz.isAgg3
  z3:=Tryz.sizeOf3
  v3:=Tryz.zeroValue3
  t9:=Tryz.underlying9
  a9:=Tryz.isAgg9
  z9:=Tryz.sizeOf9
  v9:=Tryz.zeroValue9
  t37:=Tryz.underlying86
  a37:=Tryz.isAgg86
  z37:=Tryz.sizeOf86
  v37:=Tryz.zeroValue86
  t70:=Tryz.underlying93
  a70:=Tryz.isAgg93
  z70:=Tryz.sizeOf93
  v70:=Tryz.zeroValue93
  t72:=Tryz.underlying95
  a72:=Tryz.isAgg95
  z72:=Tryz.sizeOf95
  v72:=Tryz.zeroValue95
  t127:=Tryz.underlying140
  a127:=Tryz.isAgg140
  z127:=Tryz.sizeOf140
  v127:=Tryz.zeroValue140}
theorem Tryz.Builder_Extra_169:Builder.Extra Tryz.prog Tryz.lays169_ren:={
  sizeBuilder:=by kernel_rfl
  liesBuilder:=by kernel_rfl
  t5:=Tryz.underlying5
  a5:=Tryz.isAgg5
  z5:=Tryz.sizeOf5
  v5:=Tryz.zeroValue5
  infoByte:=by kernel_rfl
  cellsByte:=by kernel_rfl
  sizeByte:=by kernel_rfl
  neB5:=by decide}
def Tryz.lays156_ren:Go.Shelf.Ren:=⟨fun|156=>29|165=>59|166=>39|169=>40|240=>70|241=>107|276=>120|277=>171|n=>n,fun|31=>66|9=>9|3=>3|4=>4|0=>0|20=>20|72=>95|76=>98|70=>93|37=>86|75=>97|127=>140|164=>187|5=>5|80=>100|n=>n,fun|n=>n⟩
theorem Tryz.lays156:Go.Proofs.Lays.n156 Tryz.prog Tryz.lays156_ren:={
  mixed:=by kernel_rfl
  f156:=Tryz.func29.trans (congrArg some (by kernel_rfl))
  f165:=Tryz.func59.trans (congrArg some (by kernel_rfl))
  f166:=Tryz.func39.trans (congrArg some (by kernel_rfl))
  f169:=Tryz.func40.trans (congrArg some (by kernel_rfl))
  f240:=Tryz.func70.trans (congrArg some (by kernel_rfl))
  f241:=Tryz.func107.trans (congrArg some (by kernel_rfl))
  f276:=Tryz.func120.trans (congrArg some (by kernel_rfl))
  f277:=Tryz.func171.trans (congrArg some (by kernel_rfl))
  t0:=Tryz.underlying0
  a0:=Tryz.isAgg0
  z0:=Tryz.sizeOf0
  v0:=Tryz.zeroValue0
  t3:=Tryz.underlying3
  a3:=Tryz.isAgg3
  z3:=Tryz.sizeOf3
  v3:=Tryz.zeroValue3
  t4:=Tryz.underlying4
  a4:=Tryz.isAgg4
  z4:=Tryz.sizeOf4
  v4:=Tryz.zeroValue4
  t9:=Tryz.underlying9
  a9:=Tryz.isAgg9
  z9:=Tryz.sizeOf9
  v9:=Tryz.zeroValue9
  t20:=Tryz.underlying20
  a20:=Tryz.isAgg20
  z20:=Tryz.sizeOf20
  v20:=Tryz.zeroValue20
  t31:=Tryz.underlying66
  a31:=Tryz.isAgg66
  z31:=Tryz.sizeOf66
  v31:=Tryz.zeroValue66
  t37:=Tryz.underlying86
  a37:=Tryz.isAgg86
  z37:=Tryz.sizeOf86
  v37:=Tryz.zeroValue86
  t70:=Tryz.underlying93
  a70:=Tryz.isAgg93
  z70:=Tryz.sizeOf93
  v70:=Tryz.zeroValue93
  t72:=Tryz.underlying95
  a72:=Tryz.isAgg95
  z72:=Tryz.sizeOf95
  v72:=Tryz.zeroValue95
  t75:=Tryz.underlying97
  a75:=Tryz.isAgg97
  z75:=Tryz.sizeOf97
  v75:=Tryz.zeroValue97
  t76:=Tryz.underlying98
  a76:=Tryz.isAgg98
  z76:=Tryz.sizeOf98
  v76:=Tryz.zeroValue98
  t127:=Tryz.underlying140
  a127:=Tryz.isAgg140
  z127:=Tryz.sizeOf140
  v127:=Tryz.zeroValue140
  t164:=Tryz.underlying187
  a164:=Tryz.isAgg187
  z164:=Tryz.sizeOf187
  v164:=Tryz.zeroValue187}
theorem Tryz.Builder_Extra_156:Builder.Extra Tryz.prog Tryz.lays156_ren:={
  sizeBuilder:=by kernel_rfl
  liesBuilder:=by kernel_rfl
  t5:=Tryz.underlying5
  a5:=Tryz.isAgg5
  z5:=Tryz.sizeOf5
  v5:=Tryz.zeroValue5
  infoByte:=by kernel_rfl
  cellsByte:=by kernel_rfl
  sizeByte:=by kernel_rfl
  neB5:=by decide}
open Go.RowKit in
theorem Tryz.strings_Join_none(a:Option Addr)(c:Nat)(sep:ByteArray)(w:World):
    Calls Tryz.prog 29 #[.slice a 0 c,.string sep] w fun e w'=>e= .returned (.string ⟨#[]⟩)∧w'=w:=Any.strings_Join_none Tryz.lays156 Tryz.Builder_Extra_156 a c sep w
open Go.RowKit in
theorem Tryz.strings_Join(bk o c:Nat)(xs:List ByteArray)(sep:ByteArray)(w:World)(hcells:∀(j:Nat) x,xs[j]? =some x→w.cell? ⟨bk,o+j,none⟩=some (.string x))(hbk:bk<w.heap.size)(hN:xs.length≤140737488355328)(hcap:xs.length≤c)(hlen:(Lib.join (xs.map (·.data.toList)) sep.data.toList).length≤140737488355328):
    Calls Tryz.prog 29 #[.slice (some ⟨bk,o,none⟩) xs.length c,.string sep] w fun e w'=>e= .returned (.string ⟨(Lib.join (xs.map (·.data.toList)) sep.data.toList).toArray⟩)∧Below w.heap.size w w':=Any.strings_Join Tryz.lays156 Tryz.Builder_Extra_156 bk o c xs sep w hcells hbk hN hcap hlen
def Tryz.lays128_ren:Go.Shelf.Ren:=⟨fun|128=>172|n=>n,fun|51=>175|3=>3|4=>4|46=>124|5=>5|9=>9|n=>n,fun|n=>n⟩
theorem Tryz.lays128:Go.Proofs.Lays.n128 Tryz.prog Tryz.lays128_ren:={
  mixed:=by kernel_rfl
  f128:=Tryz.func172.trans (congrArg some (by kernel_rfl))
  t3:=Tryz.underlying3
  a3:=Tryz.isAgg3
  z3:=Tryz.sizeOf3
  v3:=Tryz.zeroValue3
  t4:=Tryz.underlying4
  a4:=Tryz.isAgg4
  z4:=Tryz.sizeOf4
  v4:=Tryz.zeroValue4
  t5:=Tryz.underlying5
  a5:=Tryz.isAgg5
  z5:=Tryz.sizeOf5
  v5:=Tryz.zeroValue5
  t9:=Tryz.underlying9
  a9:=Tryz.isAgg9
  z9:=Tryz.sizeOf9
  v9:=Tryz.zeroValue9
  t46:=Tryz.underlying124
  a46:=Tryz.isAgg124
  z46:=Tryz.sizeOf124
  v46:=Tryz.zeroValue124
  t51:=Tryz.underlying175
  a51:=Tryz.isAgg175
  z51:=Tryz.sizeOf175
  v51:=Tryz.zeroValue175}
theorem Tryz.bits_Len32(x:Int)(w:World)(h0:0≤x)(h1:x≤4294967295):
    Calls Tryz.prog 172 #[.int .u32 x] w fun e w'=>e= .returned (.int .i64 (Lib.bitLen x.toNat))∧w'=w:=Any.bits_Len32 Tryz.lays128 x w h0 h1
def Tryz.lays133_ren:Go.Shelf.Ren:=⟨fun|133=>276|128=>172|n=>n,fun|51=>175|3=>3|4=>4|46=>124|5=>5|9=>9|n=>n,fun|n=>n⟩
theorem Tryz.lays133:Go.Proofs.Lays.n133 Tryz.prog Tryz.lays133_ren:={
  mixed:=by kernel_rfl
  f128:=Tryz.func172.trans (congrArg some (by kernel_rfl))
  f133:=Tryz.func276.trans (congrArg some (by kernel_rfl))
  t3:=Tryz.underlying3
  a3:=Tryz.isAgg3
  z3:=Tryz.sizeOf3
  v3:=Tryz.zeroValue3
  t4:=Tryz.underlying4
  a4:=Tryz.isAgg4
  z4:=Tryz.sizeOf4
  v4:=Tryz.zeroValue4
  t5:=Tryz.underlying5
  a5:=Tryz.isAgg5
  z5:=Tryz.sizeOf5
  v5:=Tryz.zeroValue5
  t9:=Tryz.underlying9
  a9:=Tryz.isAgg9
  z9:=Tryz.sizeOf9
  v9:=Tryz.zeroValue9
  t46:=Tryz.underlying124
  a46:=Tryz.isAgg124
  z46:=Tryz.sizeOf124
  v46:=Tryz.zeroValue124
  t51:=Tryz.underlying175
  a51:=Tryz.isAgg175
  z51:=Tryz.sizeOf175
  v51:=Tryz.zeroValue175}
theorem Tryz.bits_LeadingZeros32(x:Int)(w:World)(h0:0≤x)(h1:x≤4294967295):
    Calls Tryz.prog 276 #[.int .u32 x] w fun e w'=>e= .returned (.int .i64 (32- (Lib.bitLen x.toNat:Int)))∧w'=w:=Any.bits_LeadingZeros32 Tryz.lays133 x w h0 h1
def Tryz.lays137_ren:Go.Shelf.Ren:=⟨fun|137=>106|217=>170|266=>220|n=>n,fun|9=>9|5=>5|3=>3|n=>n,fun|n=>n⟩
theorem Tryz.lays137:Go.Proofs.Lays.n137 Tryz.prog Tryz.lays137_ren:={
  mixed:=by kernel_rfl
  f137:=Tryz.func106.trans (congrArg some (by kernel_rfl))
  f217:=Tryz.func170.trans (congrArg some (by kernel_rfl))
  f266:=Tryz.func220.trans (congrArg some (by kernel_rfl))
  t3:=Tryz.underlying3
  a3:=Tryz.isAgg3
  z3:=Tryz.sizeOf3
  v3:=Tryz.zeroValue3
  t5:=Tryz.underlying5
  a5:=Tryz.isAgg5
  z5:=Tryz.sizeOf5
  v5:=Tryz.zeroValue5
  t9:=Tryz.underlying9
  a9:=Tryz.isAgg9
  z9:=Tryz.sizeOf9
  v9:=Tryz.zeroValue9}
open Go.RowKit in
theorem Tryz.strings_IndexByte(s:ByteArray)(c:Int)(w:World):
    Calls Tryz.prog 106 #[.string s,.int .u8 c] w fun e w'=>e= .returned (.int .i64 (Lib.indexByte s.data.toList c.toNat.toUInt8))∧w'=w:=Any.strings_IndexByte Tryz.lays137 s c w
def Tryz.lays210_ren:Go.Shelf.Ren:=⟨fun|210=>274|206=>291|n=>n,fun|9=>9|4=>4|3=>3|n=>n,fun|n=>n⟩
def Tryz.lays103_ren:Go.Shelf.Ren:=⟨fun|103=>247|210=>274|206=>291|n=>n,fun|9=>9|4=>4|24=>102|3=>3|n=>n,fun|n=>n⟩
theorem Tryz.lays103:Go.Proofs.Lays.n103 Tryz.prog Tryz.lays103_ren:={
  mixed:=by kernel_rfl
  f103:=Tryz.func247.trans (congrArg some (by kernel_rfl))
  f206:=Tryz.func291.trans (congrArg some (by kernel_rfl))
  f210:=Tryz.func274.trans (congrArg some (by kernel_rfl))
  t3:=Tryz.underlying3
  a3:=Tryz.isAgg3
  z3:=Tryz.sizeOf3
  v3:=Tryz.zeroValue3
  t4:=Tryz.underlying4
  a4:=Tryz.isAgg4
  z4:=Tryz.sizeOf4
  v4:=Tryz.zeroValue4
  t9:=Tryz.underlying9
  a9:=Tryz.isAgg9
  z9:=Tryz.sizeOf9
  v9:=Tryz.zeroValue9
  t24:=Tryz.underlying102
  a24:=Tryz.isAgg102
  z24:=Tryz.sizeOf102
  v24:=Tryz.zeroValue102}
open Go.RowKit in
theorem Tryz.strings_CutPrefix(s p:ByteArray)(w:World):
    Calls Tryz.prog 247 #[.string s,.string p] w fun e w'=>e= .returned (.tuple #[.string ⟨(Lib.trimPrefix s.data.toList p.data.toList).toArray⟩,.bool (Lib.hasPrefix s.data.toList p.data.toList)])∧w'=w:=Any.strings_CutPrefix Tryz.lays103 s p w
def Tryz.lays104_ren:Go.Shelf.Ren:=⟨fun|104=>43|211=>74|207=>42|n=>n,fun|9=>9|4=>4|24=>102|3=>3|n=>n,fun|n=>n⟩
theorem Tryz.lays104:Go.Proofs.Lays.n104 Tryz.prog Tryz.lays104_ren:={
  mixed:=by kernel_rfl
  f104:=Tryz.func43.trans (congrArg some (by kernel_rfl))
  f207:=Tryz.func42.trans (congrArg some (by kernel_rfl))
  f211:=Tryz.func74.trans (congrArg some (by kernel_rfl))
  t3:=Tryz.underlying3
  a3:=Tryz.isAgg3
  z3:=Tryz.sizeOf3
  v3:=Tryz.zeroValue3
  t4:=Tryz.underlying4
  a4:=Tryz.isAgg4
  z4:=Tryz.sizeOf4
  v4:=Tryz.zeroValue4
  t9:=Tryz.underlying9
  a9:=Tryz.isAgg9
  z9:=Tryz.sizeOf9
  v9:=Tryz.zeroValue9
  t24:=Tryz.underlying102
  a24:=Tryz.isAgg102
  z24:=Tryz.sizeOf102
  v24:=Tryz.zeroValue102}
open Go.RowKit in
theorem Tryz.strings_CutSuffix(s p:ByteArray)(w:World)(hs:s.size≤9223372036854775807):
    Calls Tryz.prog 43 #[.string s,.string p] w fun e w'=>e= .returned (.tuple #[.string ⟨(Lib.trimSuffix s.data.toList p.data.toList).toArray⟩,.bool (Lib.hasSuffix s.data.toList p.data.toList)])∧w'=w:=Any.strings_CutSuffix Tryz.lays104 s p w hs
open Go.RowKit in
theorem Tryz.Builder_String_any_f(B b:Nat)(l:List UInt8)(w:World)(h:Lib.IsBuilderF 95 5 B b (Lib.byteCells l) w)(hBw:B≤w.heap.size):
    Calls Tryz.prog 40 #[.pointer (some ⟨b,0,none⟩)] w fun e w'=>e= .returned (.string ⟨l.toArray⟩)∧(Lib.IsBuilderF 95 5 B b (Lib.byteCells l) w'∧Below B w w'):=Any.Builder_String_any_f Tryz.lays169 Tryz.Builder_Extra_169 B b l w h hBw
def Tryz.lays219_ren:Go.Shelf.Ren:=⟨fun|219=>197|217=>170|225=>237|224=>238|267=>239|266=>220|314=>272|n=>n,fun|9=>9|3=>3|4=>4|5=>5|46=>124|146=>307|51=>175|n=>n,fun|1=>1|n=>n⟩
def Tryz.lays143_ren:Go.Shelf.Ren:=⟨fun|143=>132|219=>197|217=>170|225=>237|224=>238|267=>239|266=>220|314=>272|n=>n,fun|9=>9|3=>3|4=>4|5=>5|46=>124|146=>307|51=>175|n=>n,fun|1=>1|n=>n⟩
theorem Tryz.lays143:Go.Proofs.Lays.n143 Tryz.prog Tryz.lays143_ren:={
  mixed:=by kernel_rfl
  f143:=Tryz.func132.trans (congrArg some (by kernel_rfl))
  f217:=Tryz.func170.trans (congrArg some (by kernel_rfl))
  f219:=Tryz.func197.trans (congrArg some (by kernel_rfl))
  f224:=Tryz.func238.trans (congrArg some (by kernel_rfl))
  f225:=Tryz.func237.trans (congrArg some (by kernel_rfl))
  f266:=Tryz.func220.trans (congrArg some (by kernel_rfl))
  f267:=Tryz.func239.trans (congrArg some (by kernel_rfl))
  f314:=Tryz.func272.trans (congrArg some (by kernel_rfl))
  t3:=Tryz.underlying3
  a3:=Tryz.isAgg3
  z3:=Tryz.sizeOf3
  v3:=Tryz.zeroValue3
  t4:=Tryz.underlying4
  a4:=Tryz.isAgg4
  z4:=Tryz.sizeOf4
  v4:=Tryz.zeroValue4
  t5:=Tryz.underlying5
  a5:=Tryz.isAgg5
  z5:=Tryz.sizeOf5
  v5:=Tryz.zeroValue5
  t9:=Tryz.underlying9
  a9:=Tryz.isAgg9
  z9:=Tryz.sizeOf9
  v9:=Tryz.zeroValue9
  t46:=Tryz.underlying124
  a46:=Tryz.isAgg124
  z46:=Tryz.sizeOf124
  v46:=Tryz.zeroValue124
  t51:=Tryz.underlying175
  a51:=Tryz.isAgg175
  z51:=Tryz.sizeOf175
  v51:=Tryz.zeroValue175
  t146:=Tryz.underlying307
  a146:=Tryz.isAgg307
  z146:=Tryz.sizeOf307
  v146:=Tryz.zeroValue307
  g1:=by kernel_rfl}
open Go.RowKit Go.Lib in
theorem Tryz.strings_Index_one(s:ByteArray)(c:UInt8)(w:World):
    Calls Tryz.prog 132 #[.string s,.string ⟨#[c]⟩] w fun e w'=>e= .returned (.int .i64 (Lib.indexByte s.data.toList c))∧w'=w:=Any.strings_Index_one Tryz.lays143 s c w
def Tryz.lays145_ren:Go.Shelf.Ren:=⟨fun|145=>86|220=>144|219=>197|217=>170|225=>237|224=>238|267=>239|266=>220|314=>272|n=>n,fun|9=>9|4=>4|59=>153|3=>3|5=>5|46=>124|146=>307|51=>175|n=>n,fun|1=>1|n=>n⟩
theorem Tryz.lays145:Go.Proofs.Lays.n145 Tryz.prog Tryz.lays145_ren:={
  mixed:=by kernel_rfl
  f145:=Tryz.func86.trans (congrArg some (by kernel_rfl))
  f217:=Tryz.func170.trans (congrArg some (by kernel_rfl))
  f219:=Tryz.func197.trans (congrArg some (by kernel_rfl))
  f220:=Tryz.func144.trans (congrArg some (by kernel_rfl))
  f224:=Tryz.func238.trans (congrArg some (by kernel_rfl))
  f225:=Tryz.func237.trans (congrArg some (by kernel_rfl))
  f266:=Tryz.func220.trans (congrArg some (by kernel_rfl))
  f267:=Tryz.func239.trans (congrArg some (by kernel_rfl))
  f314:=Tryz.func272.trans (congrArg some (by kernel_rfl))
  t3:=Tryz.underlying3
  a3:=Tryz.isAgg3
  z3:=Tryz.sizeOf3
  v3:=Tryz.zeroValue3
  t4:=Tryz.underlying4
  a4:=Tryz.isAgg4
  z4:=Tryz.sizeOf4
  v4:=Tryz.zeroValue4
  t5:=Tryz.underlying5
  a5:=Tryz.isAgg5
  z5:=Tryz.sizeOf5
  v5:=Tryz.zeroValue5
  t9:=Tryz.underlying9
  a9:=Tryz.isAgg9
  z9:=Tryz.sizeOf9
  v9:=Tryz.zeroValue9
  t46:=Tryz.underlying124
  a46:=Tryz.isAgg124
  z46:=Tryz.sizeOf124
  v46:=Tryz.zeroValue124
  t51:=Tryz.underlying175
  a51:=Tryz.isAgg175
  z51:=Tryz.sizeOf175
  v51:=Tryz.zeroValue175
  t59:=Tryz.underlying153
  a59:=Tryz.isAgg153
  z59:=Tryz.sizeOf153
  v59:=Tryz.zeroValue153
  t146:=Tryz.underlying307
  a146:=Tryz.isAgg307
  z146:=Tryz.sizeOf307
  v146:=Tryz.zeroValue307
  g1:=by kernel_rfl}
open Go.RowKit Go.Lib in
theorem Tryz.strings_Cut(s sep:ByteArray)(m:Int)(w:World)(hs:s.size<4294967281)(hm:w.cell? ⟨1,0,none⟩=some (.int .i64 m)):
    Calls Tryz.prog 86 #[.string s,.string sep] w fun e w'=>e= .returned (.tuple #[.string ⟨(Lib.cut s.data.toList sep.data.toList).1.toArray⟩,.string ⟨(Lib.cut s.data.toList sep.data.toList).2.1.toArray⟩,.bool (Lib.cut s.data.toList sep.data.toList).2.2])∧∃n,w'=w.drewN n:=Any.strings_Cut Tryz.lays145 s sep m w hs hm
def Tryz.lays100_ren:Go.Shelf.Ren:=⟨fun|100=>21|207=>42|n=>n,fun|9=>9|4=>4|3=>3|n=>n,fun|n=>n⟩
theorem Tryz.lays100:Go.Proofs.Lays.n100 Tryz.prog Tryz.lays100_ren:={
  mixed:=by kernel_rfl
  f100:=Tryz.func21.trans (congrArg some (by kernel_rfl))
  f207:=Tryz.func42.trans (congrArg some (by kernel_rfl))
  t3:=Tryz.underlying3
  a3:=Tryz.isAgg3
  z3:=Tryz.sizeOf3
  v3:=Tryz.zeroValue3
  t4:=Tryz.underlying4
  a4:=Tryz.isAgg4
  z4:=Tryz.sizeOf4
  v4:=Tryz.zeroValue4
  t9:=Tryz.underlying9
  a9:=Tryz.isAgg9
  z9:=Tryz.sizeOf9
  v9:=Tryz.zeroValue9}
open Go.RowKit Go.Lib in
theorem Tryz.strings_HasSuffix(s p:ByteArray)(w:World)(hs:s.size≤9223372036854775807):
    Calls Tryz.prog 21 #[.string s,.string p] w fun e w'=>e= .returned (.bool (Lib.hasSuffix s.data.toList p.data.toList))∧w'=w:=Any.strings_HasSuffix Tryz.lays100 s p w hs
def Tryz.lays221_ren:Go.Shelf.Ren:=⟨fun|221=>75|268=>130|138=>131|143=>132|195=>194|197=>195|218=>196|219=>197|260=>236|217=>170|225=>237|224=>238|267=>239|266=>220|314=>272|n=>n,fun|9=>9|3=>3|31=>66|4=>4|0=>0|105=>241|21=>21|5=>5|46=>124|119=>303|139=>306|138=>305|146=>307|51=>175|n=>n,fun|1=>1|3=>2|4=>3|n=>n⟩
def Tryz.lays146_ren:Go.Shelf.Ren:=⟨fun|146=>44|221=>75|268=>130|138=>131|143=>132|195=>194|197=>195|218=>196|219=>197|260=>236|217=>170|225=>237|224=>238|267=>239|266=>220|314=>272|n=>n,fun|9=>9|31=>66|3=>3|4=>4|0=>0|105=>241|21=>21|5=>5|46=>124|119=>303|139=>306|138=>305|146=>307|51=>175|n=>n,fun|1=>1|3=>2|4=>3|n=>n⟩
theorem Tryz.lays146:Go.Proofs.Lays.n146 Tryz.prog Tryz.lays146_ren:={
  mixed:=by kernel_rfl
  f138:=Tryz.func131.trans (congrArg some (by kernel_rfl))
  f143:=Tryz.func132.trans (congrArg some (by kernel_rfl))
  f146:=Tryz.func44.trans (congrArg some (by kernel_rfl))
  f195:=Tryz.func194.trans (congrArg some (by kernel_rfl))
  f197:=Tryz.func195.trans (congrArg some (by kernel_rfl))
  f217:=Tryz.func170.trans (congrArg some (by kernel_rfl))
  f218:=Tryz.func196.trans (congrArg some (by kernel_rfl))
  f219:=Tryz.func197.trans (congrArg some (by kernel_rfl))
  f221:=Tryz.func75.trans (congrArg some (by kernel_rfl))
  f224:=Tryz.func238.trans (congrArg some (by kernel_rfl))
  f225:=Tryz.func237.trans (congrArg some (by kernel_rfl))
  f260:=Tryz.func236.trans (congrArg some (by kernel_rfl))
  f266:=Tryz.func220.trans (congrArg some (by kernel_rfl))
  f267:=Tryz.func239.trans (congrArg some (by kernel_rfl))
  f268:=Tryz.func130.trans (congrArg some (by kernel_rfl))
  f314:=Tryz.func272.trans (congrArg some (by kernel_rfl))
  t0:=Tryz.underlying0
  a0:=Tryz.isAgg0
  z0:=Tryz.sizeOf0
  v0:=Tryz.zeroValue0
  t3:=Tryz.underlying3
  a3:=Tryz.isAgg3
  z3:=Tryz.sizeOf3
  v3:=Tryz.zeroValue3
  t4:=Tryz.underlying4
  a4:=Tryz.isAgg4
  z4:=Tryz.sizeOf4
  v4:=Tryz.zeroValue4
  t5:=Tryz.underlying5
  a5:=Tryz.isAgg5
  z5:=Tryz.sizeOf5
  v5:=Tryz.zeroValue5
  t9:=Tryz.underlying9
  a9:=Tryz.isAgg9
  z9:=Tryz.sizeOf9
  v9:=Tryz.zeroValue9
  t21:=Tryz.underlying21
  a21:=Tryz.isAgg21
  z21:=Tryz.sizeOf21
  v21:=Tryz.zeroValue21
  t31:=Tryz.underlying66
  a31:=Tryz.isAgg66
  z31:=Tryz.sizeOf66
  v31:=Tryz.zeroValue66
  t46:=Tryz.underlying124
  a46:=Tryz.isAgg124
  z46:=Tryz.sizeOf124
  v46:=Tryz.zeroValue124
  t51:=Tryz.underlying175
  a51:=Tryz.isAgg175
  z51:=Tryz.sizeOf175
  v51:=Tryz.zeroValue175
  t105:=Tryz.underlying241
  a105:=Tryz.isAgg241
  z105:=Tryz.sizeOf241
  v105:=Tryz.zeroValue241
  t119:=Tryz.underlying303
  a119:=Tryz.isAgg303
  z119:=Tryz.sizeOf303
  t138:=Tryz.underlying305
  a138:=Tryz.isAgg305
  z138:=Tryz.sizeOf305
  v138:=Tryz.zeroValue305
  t139:=Tryz.underlying306
  a139:=Tryz.isAgg306
  z139:=Tryz.sizeOf306
  v139:=Tryz.zeroValue306
  t146:=Tryz.underlying307
  a146:=Tryz.isAgg307
  z146:=Tryz.sizeOf307
  v146:=Tryz.zeroValue307
  g1:=by kernel_rfl
  g3:=by kernel_rfl
  g4:=by kernel_rfl}
open Go.RowKit Go.Lib in
theorem Tryz.strings_Split(s sep:ByteArray)(m:Int)(w:World)(hs:s.size<4294967281)(hm:w.cell? ⟨1,0,none⟩=some (.int .i64 m))(h1:1≤sep.size):
    Calls Tryz.prog 44 #[.string s,.string sep] w fun e w'=>
      e= .returned (.slice (some ⟨w.heap.size,0,none⟩) (Lib.countB s sep+1) (Lib.countB s sep+1))∧w'=w.alloc (.cells ((Lib.splitB sep 0 (Lib.countB s sep) s).map Value.string).toArray 9):=Any.strings_Split Tryz.lays146 (by kernel_rfl) s sep m w hs hm h1
end Go.Proofs
