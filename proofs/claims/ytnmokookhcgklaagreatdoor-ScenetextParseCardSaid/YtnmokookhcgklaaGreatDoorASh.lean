/-
  DERIVED: THE SHELF's CONTRACTS AT THIS DUMP, IN PLAIN WORDS (tools/lay-plain.mjs out of 'TryzShelf.lean', which tools/lay-shelf.mjs wrote): THE SAME DECLARATIONS UNDER THE SAME NAMES: 'import', 'namespace', 'open', 'def', 'theorem' AND NOTHING ELSE: no command of the shelf's: FOR A HAND-IN. Each laying: the table of numbers ('.._ren') and one theorem, a field a fact of the dump's own or the kernel's comparison; each contract: ONE APPLICATION.
-/
import Derived.Shelf.Strings.Builder1
import Derived.Shelf.Strings.Builder2
import Derived.Shelf.Strings.OnBuilder
import Derived.Shelf.Small.Bits
import Derived.Shelf.Small.Strs
import Derived.Shelf.Small.Wraps
import Derived.Shelf.Strings.BuilderF
import Derived.Shelf.Strings.BuilderK
import Derived.Shelf.Strings.Search1
import Derived.Shelf.Strings.Search2
import Derived.Shelf.Strings.Search3
import Derived.Shelf.Strings.Cut
import Derived.Shelf.Strings.Count
import Derived.Shelf.LaysM
import Derived.Shelf.Strings.Shaped
import Derived.Shelf.Strings.Prefix
import Derived.Shelf.Strings.Split
import Derived.Shelf.Strings.SplitShaped
import Derived.Shelf.Unicode.DecodeSlow
import Derived.Ground.SlgnProg
import Derived.Shelf.SlicesE.Clone
import Derived.Test.YtnmokookhcgklaaGreatDoorProg
namespace Go.Proofs
theorem ZL{p:Prop}(h:p:=by constructor<;>first|(intros;kernel_rfl)|decide|(constructor<;>(intros;kernel_rfl))):p:=h
open Go.Shelf
def Tryz.lays169_ren:Go.Shelf.Ren:=⟨fun|169=>58|n=>n,fun|70=>114|9=>9|0=>0|72=>116|37=>108|127=>166|3=>3|5=>5|n=>n,fun|n=>n⟩
theorem Tryz.lays169:Go.Proofs.Lays.n169 Tryz.prog Tryz.lays169_ren:=ZL
theorem Tryz.Builder_Extra_169:Builder.Extra Tryz.prog Tryz.lays169_ren:=ZL
def Tryz.lays156_ren:Go.Shelf.Ren:=⟨fun|156=>47|165=>97|166=>57|169=>58|240=>108|241=>169|276=>182|277=>238|n=>n,fun|31=>53|9=>9|3=>3|4=>4|0=>0|20=>20|72=>116|76=>119|70=>114|37=>108|75=>118|127=>166|164=>235|5=>5|80=>121|n=>n,fun|n=>n⟩
theorem Tryz.lays156:Go.Proofs.Lays.n156 Tryz.prog Tryz.lays156_ren:=ZL
theorem Tryz.Builder_Extra_156:Builder.Extra Tryz.prog Tryz.lays156_ren:=ZL
open Go.RowKit in
theorem Tryz.strings_Join_none(a:Option Addr)(c:Nat)(b:ByteArray)(w:World):
    Calls Tryz.prog 47 #[.slice a 0 c,.string b] w fun e f=>e= .returned (.string ⟨#[]⟩)∧f=w:=Any.strings_Join_none Tryz.lays156 Tryz.Builder_Extra_156 a c b w
open Go.RowKit in
theorem Tryz.strings_Join(bk o c:Nat)(xs:List ByteArray)(b:ByteArray)(w:World)(a:∀(j:Nat) x,xs[j]? =some x→w.cell? ⟨bk,o+j,none⟩=some (.string x))(h:bk<w.heap.size)(k:xs.length≤140737488355328)(g:xs.length≤c)(f:(Lib.join (xs.map (·.data.toList)) b.data.toList).length≤140737488355328):
    Calls Tryz.prog 47 #[.slice (some ⟨bk,o,none⟩) xs.length c,.string b] w fun e l=>e= .returned (.string ⟨(Lib.join (xs.map (·.data.toList)) b.data.toList).toArray⟩)∧Below w.heap.size w l:=Any.strings_Join Tryz.lays156 Tryz.Builder_Extra_156 bk o c xs b w a h k g f
def Tryz.lays128_ren:Go.Shelf.Ren:=⟨fun|128=>239|n=>n,fun|51=>208|3=>3|4=>4|46=>150|5=>5|9=>9|n=>n,fun|n=>n⟩
theorem Tryz.lays128:Go.Proofs.Lays.n128 Tryz.prog Tryz.lays128_ren:=ZL
theorem Tryz.bits_Len32(x:Int)(w:World)(a:0≤x)(b:x≤4294967295):
    Calls Tryz.prog 239 #[.int .u32 x] w fun e c=>e= .returned (.int .i64 (Lib.bitLen x.toNat))∧c=w:=Any.bits_Len32 Tryz.lays128 x w a b
def Tryz.lays133_ren:Go.Shelf.Ren:=⟨fun|133=>333|128=>239|n=>n,fun|51=>208|3=>3|4=>4|46=>150|5=>5|9=>9|n=>n,fun|n=>n⟩
theorem Tryz.lays133:Go.Proofs.Lays.n133 Tryz.prog Tryz.lays133_ren:=ZL
theorem Tryz.bits_LeadingZeros32(x:Int)(w:World)(a:0≤x)(b:x≤4294967295):
    Calls Tryz.prog 333 #[.int .u32 x] w fun e c=>e= .returned (.int .i64 (32- (Lib.bitLen x.toNat:Int)))∧c=w:=Any.bits_LeadingZeros32 Tryz.lays133 x w a b
def Tryz.lays137_ren:Go.Shelf.Ren:=⟨fun|137=>168|217=>237|266=>287|n=>n,fun|9=>9|5=>5|3=>3|n=>n,fun|n=>n⟩
theorem Tryz.lays137:Go.Proofs.Lays.n137 Tryz.prog Tryz.lays137_ren:=ZL
open Go.RowKit in
theorem Tryz.strings_IndexByte(s:ByteArray)(c:Int)(w:World):
    Calls Tryz.prog 168 #[.string s,.int .u8 c] w fun e a=>e= .returned (.int .i64 (Lib.indexByte s.data.toList c.toNat.toUInt8))∧a=w:=Any.strings_IndexByte Tryz.lays137 s c w
def Tryz.lays210_ren:Go.Shelf.Ren:=⟨fun|210=>331|206=>355|n=>n,fun|9=>9|4=>4|3=>3|n=>n,fun|n=>n⟩
def Tryz.lays103_ren:Go.Shelf.Ren:=⟨fun|103=>292|210=>331|206=>355|n=>n,fun|9=>9|4=>4|24=>78|3=>3|n=>n,fun|n=>n⟩
theorem Tryz.lays103:Go.Proofs.Lays.n103 Tryz.prog Tryz.lays103_ren:=ZL
open Go.RowKit in
theorem Tryz.strings_CutPrefix(s p:ByteArray)(w:World):
    Calls Tryz.prog 292 #[.string s,.string p] w fun e a=>e= .returned (.tuple #[.string ⟨(Lib.trimPrefix s.data.toList p.data.toList).toArray⟩,.bool (Lib.hasPrefix s.data.toList p.data.toList)])∧a=w:=Any.strings_CutPrefix Tryz.lays103 s p w
def Tryz.lays104_ren:Go.Shelf.Ren:=⟨fun|104=>27|211=>63|207=>26|n=>n,fun|9=>9|4=>4|24=>78|3=>3|n=>n,fun|n=>n⟩
theorem Tryz.lays104:Go.Proofs.Lays.n104 Tryz.prog Tryz.lays104_ren:=ZL
open Go.RowKit in
theorem Tryz.strings_CutSuffix(s p:ByteArray)(w:World)(a:s.size≤9223372036854775807):
    Calls Tryz.prog 27 #[.string s,.string p] w fun e b=>e= .returned (.tuple #[.string ⟨(Lib.trimSuffix s.data.toList p.data.toList).toArray⟩,.bool (Lib.hasSuffix s.data.toList p.data.toList)])∧b=w:=Any.strings_CutSuffix Tryz.lays104 s p w a
open Go.RowKit in
theorem Tryz.Builder_String_any_f(B b:Nat)(l:List UInt8)(w:World)(h:Lib.IsBuilderF 116 5 B b (Lib.byteCells l) w)(a:B≤w.heap.size):
    Calls Tryz.prog 58 #[.pointer (some ⟨b,0,none⟩)] w fun e c=>e= .returned (.string ⟨l.toArray⟩)∧(Lib.IsBuilderF 116 5 B b (Lib.byteCells l) c∧Below B w c):=Any.Builder_String_any_f Tryz.lays169 Tryz.Builder_Extra_169 B b l w h a
def Tryz.lays219_ren:Go.Shelf.Ren:=⟨fun|219=>202|217=>237|225=>256|224=>257|267=>258|266=>287|314=>302|n=>n,fun|9=>9|3=>3|4=>4|5=>5|46=>150|146=>339|51=>208|n=>n,fun|1=>1|n=>n⟩
def Tryz.lays143_ren:Go.Shelf.Ren:=⟨fun|143=>128|219=>202|217=>237|225=>256|224=>257|267=>258|266=>287|314=>302|n=>n,fun|9=>9|3=>3|4=>4|5=>5|46=>150|146=>339|51=>208|n=>n,fun|1=>1|n=>n⟩
theorem Tryz.lays143:Go.Proofs.Lays.n143 Tryz.prog Tryz.lays143_ren:=ZL
open Go.RowKit Go.Lib in
theorem Tryz.strings_Index_one(s:ByteArray)(c:UInt8)(w:World):
    Calls Tryz.prog 128 #[.string s,.string ⟨#[c]⟩] w fun e a=>e= .returned (.int .i64 (Lib.indexByte s.data.toList c))∧a=w:=Any.strings_Index_one Tryz.lays143 s c w
def Tryz.lays145_ren:Go.Shelf.Ren:=⟨fun|145=>109|220=>183|219=>202|217=>237|225=>256|224=>257|267=>258|266=>287|314=>302|n=>n,fun|9=>9|4=>4|59=>167|3=>3|5=>5|46=>150|146=>339|51=>208|n=>n,fun|1=>1|n=>n⟩
theorem Tryz.lays145:Go.Proofs.Lays.n145 Tryz.prog Tryz.lays145_ren:=ZL
open Go.RowKit Go.Lib in
theorem Tryz.strings_Cut(s a:ByteArray)(m:Int)(w:World)(b:s.size<4294967281)(f:w.cell? ⟨1,0,none⟩=some (.int .i64 m)):
    Calls Tryz.prog 109 #[.string s,.string a] w fun e c=>e= .returned (.tuple #[.string ⟨(Lib.cut s.data.toList a.data.toList).1.toArray⟩,.string ⟨(Lib.cut s.data.toList a.data.toList).2.1.toArray⟩,.bool (Lib.cut s.data.toList a.data.toList).2.2])∧∃n,c=w.drewN n:=Any.strings_Cut Tryz.lays145 s a m w b f
def Tryz.lays100_ren:Go.Shelf.Ren:=⟨fun|100=>10|207=>26|n=>n,fun|9=>9|4=>4|3=>3|n=>n,fun|n=>n⟩
theorem Tryz.lays100:Go.Proofs.Lays.n100 Tryz.prog Tryz.lays100_ren:=ZL
open Go.RowKit Go.Lib in
theorem Tryz.strings_HasSuffix(s p:ByteArray)(w:World)(a:s.size≤9223372036854775807):
    Calls Tryz.prog 10 #[.string s,.string p] w fun e b=>e= .returned (.bool (Lib.hasSuffix s.data.toList p.data.toList))∧b=w:=Any.strings_HasSuffix Tryz.lays100 s p w a
def Tryz.lays221_ren:Go.Shelf.Ren:=⟨fun|221=>64|268=>126|138=>127|143=>128|195=>199|197=>200|218=>201|219=>202|260=>255|217=>237|225=>256|224=>257|267=>258|266=>287|314=>302|n=>n,fun|9=>9|3=>3|31=>53|4=>4|0=>0|105=>252|21=>21|5=>5|46=>150|119=>335|139=>338|138=>337|146=>339|51=>208|n=>n,fun|1=>1|3=>2|4=>3|n=>n⟩
def Tryz.lays146_ren:Go.Shelf.Ren:=⟨fun|146=>28|221=>64|268=>126|138=>127|143=>128|195=>199|197=>200|218=>201|219=>202|260=>255|217=>237|225=>256|224=>257|267=>258|266=>287|314=>302|n=>n,fun|9=>9|31=>53|3=>3|4=>4|0=>0|105=>252|21=>21|5=>5|46=>150|119=>335|139=>338|138=>337|146=>339|51=>208|n=>n,fun|1=>1|3=>2|4=>3|n=>n⟩
theorem Tryz.lays146:Go.Proofs.Lays.n146 Tryz.prog Tryz.lays146_ren:=ZL
open Go.RowKit Go.Lib in
theorem Tryz.strings_Split(s a:ByteArray)(m:Int)(w:World)(b:s.size<4294967281)(g:w.cell? ⟨1,0,none⟩=some (.int .i64 m))(c:1≤a.size):
    Calls Tryz.prog 28 #[.string s,.string a] w fun e f=>
      e= .returned (.slice (some ⟨w.heap.size,0,none⟩) (Lib.countB s a+1) (Lib.countB s a+1))∧f=w.alloc (.cells ((Lib.splitB a 0 (Lib.countB s a) s).map Value.string).toArray 9):=Any.strings_Split Tryz.lays146 (by kernel_rfl) s a m w b g c
end Go.Proofs
