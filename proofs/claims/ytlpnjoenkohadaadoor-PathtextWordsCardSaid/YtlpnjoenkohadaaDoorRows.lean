/-
  NARROWER THAN 'FOR EVERY INPUT', by the rows' own cells (each row's printed sentence says how): PathtextFormat: laid · PathtextParse: laid · PathtextRoundTrip: laid · PathtextPrefix: laid · PathtextWords: laid.
  DERIVED. THE GIVEN ROWS OF THIS SEAT. 5 by the template 'for every input the law returns true; each argument reads behind the call as it read before'; 0 by the template 'total and deterministic' (their statements: YtlpnjoenkohadaaDoorTotals.lean).
  GIVEN WITH THE SEED: the statements are not yours to turn. If you find one false, say at which input.
  Laid BY PROGRAM, IN A SANDBOX (cutbox-rows.mjs): the forced cells as the released guide's own fill.sh prints them over the translation ba9da2d9f4217892… (all of the seat's roots in one cut). By AI agents, Wed Nov 11 2026. No macro, syntax, notation, axiom, sorry.
-/
import Derived.Test.YtlpnjoenkohadaaDoorChecked
import GoSem.PinnedTables
import GoSem.Claim
import GoSem.ClaimJoined
import GoSem.ClaimMapViews
import Derived.JoinedTies
import Derived.KernelRfl
namespace Go.Proofs.YtlpnjoenkohadaaDoor
/- THE CELL 'sum', in the pinned program and in every row, IS THE sha256 OF THE DUMP (.gsa) THAT YtlpnjoenkohadaaDoorProg.lean LOADS. Nothing in Lean hashes anything: it is a label: what it is worth is what the hold of that sum in a sandbox is worth. -/
noncomputable def Tryd.pinned : Pinned := { name := "ytlpnjoenkohadaadoor", sum := "ba9da2d9f421789257cfccced112d80845cf50373b868a4f4053369fcb5c20df", checked := Tryd.checked }
namespace Rows
def none {H : Type} : Left H := { results := [], args := [] }

/- WHAT THE LISTED PACKAGE-LEVEL VARIABLES READ AS WHEN THE CALL BEGINS. Each datum BY PROGRAM (the guide's laid-datum.mjs) off the statement by which the dump's own 'gosem.cut.vars' lays the variable. In a bare row this is a premise. The card (YtlpnjoenkohadaaDoorCards.lean) ties it to the program's text. -/
def laid_unicode_utf8_acceptRanges {H : Type} : DataW H := .agg [.agg [.lit (.int .u8 128), .lit (.int .u8 191)], .agg [.lit (.int .u8 160), .lit (.int .u8 191)], .agg [.lit (.int .u8 128), .lit (.int .u8 159)], .agg [.lit (.int .u8 144), .lit (.int .u8 191)], .agg [.lit (.int .u8 128), .lit (.int .u8 143)], .agg [.lit (.int .u8 0), .lit (.int .u8 0)], .agg [.lit (.int .u8 0), .lit (.int .u8 0)], .agg [.lit (.int .u8 0), .lit (.int .u8 0)], .agg [.lit (.int .u8 0), .lit (.int .u8 0)], .agg [.lit (.int .u8 0), .lit (.int .u8 0)], .agg [.lit (.int .u8 0), .lit (.int .u8 0)], .agg [.lit (.int .u8 0), .lit (.int .u8 0)], .agg [.lit (.int .u8 0), .lit (.int .u8 0)], .agg [.lit (.int .u8 0), .lit (.int .u8 0)], .agg [.lit (.int .u8 0), .lit (.int .u8 0)], .agg [.lit (.int .u8 0), .lit (.int .u8 0)]]
/-- One of Go's own tables, pinned by name: the form's constant. -/
def laid_unicode_utf8_first : DataW Unit := Go.Pinned.utf8First

/-- 'grisaillelaw14.PathtextFormat': WHATEVER THE INPUT: true; the input reads as it did. -/
def pathtextFormatSpec : ChangeSpec := { name := "pathtextFormat", fn := fun _ => fun
  | [d] => { results := [.lit (.bool true)], args := [d] }
  | _ => none }
def pathtextFormatRow : OpenClaim := { program := "ytlpnjoenkohadaadoor", sum := "ba9da2d9f421789257cfccced112d80845cf50373b868a4f4053369fcb5c20df", func := "grisaille/grisaillelaw14.PathtextFormat", spec := "pathtextFormat", inPlace := ["internal/abi.NoEscape", "internal/bytealg.MakeNoZero", "internal/bytealg.CountString", "internal/bytealg.IndexByteString", "internal/bytealg.IndexString"], unfollowed := true, recurses := true, named := ["unicode/utf8.first", "unicode/utf8.acceptRanges", "internal/bytealg.MaxLen"], apart := false, laid := [("unicode/utf8.acceptRanges", laid_unicode_utf8_acceptRanges), ("unicode/utf8.first", laid_unicode_utf8_first)] }
def PathtextFormatSaid : Prop := pathtextFormatRow.holds Tryd.pinned (OpenSpec.ofChange pathtextFormatSpec)

/-- ITS FALSE NEIGHBOUR: 'it returns false'. Refute it at one input. -/
def pathtextFormatWrong : ChangeSpec := { name := "pathtextFormat", fn := fun _ => fun
  | [d] => { results := [.lit (.bool false)], args := [d] }
  | _ => none }
def PathtextFormatWrongFalsely : Prop := pathtextFormatRow.holds Tryd.pinned (OpenSpec.ofChange pathtextFormatWrong)

/-- 'grisaillelaw14.PathtextParse': WHATEVER THE INPUT: true; the input reads as it did. -/
def pathtextParseSpec : ChangeSpec := { name := "pathtextParse", fn := fun _ => fun
  | [d] => { results := [.lit (.bool true)], args := [d] }
  | _ => none }
def pathtextParseRow : OpenClaim := { program := "ytlpnjoenkohadaadoor", sum := "ba9da2d9f421789257cfccced112d80845cf50373b868a4f4053369fcb5c20df", func := "grisaille/grisaillelaw14.PathtextParse", spec := "pathtextParse", inPlace := ["internal/abi.NoEscape", "internal/bytealg.MakeNoZero", "internal/bytealg.CountString", "internal/bytealg.IndexByteString", "internal/bytealg.IndexString"], unfollowed := true, recurses := true, named := ["unicode/utf8.first", "unicode/utf8.acceptRanges", "internal/bytealg.MaxLen"], apart := false, laid := [("unicode/utf8.acceptRanges", laid_unicode_utf8_acceptRanges), ("unicode/utf8.first", laid_unicode_utf8_first)] }
def PathtextParseSaid : Prop := pathtextParseRow.holds Tryd.pinned (OpenSpec.ofChange pathtextParseSpec)

/-- ITS FALSE NEIGHBOUR: 'it returns false'. Refute it at one input. -/
def pathtextParseWrong : ChangeSpec := { name := "pathtextParse", fn := fun _ => fun
  | [d] => { results := [.lit (.bool false)], args := [d] }
  | _ => none }
def PathtextParseWrongFalsely : Prop := pathtextParseRow.holds Tryd.pinned (OpenSpec.ofChange pathtextParseWrong)

/-- 'grisaillelaw14.PathtextRoundTrip': WHATEVER THE INPUT: true; the input reads as it did. -/
def pathtextRoundTripSpec : ChangeSpec := { name := "pathtextRoundTrip", fn := fun _ => fun
  | [d1, d2] => { results := [.lit (.bool true)], args := [d1, d2] }
  | _ => none }
def pathtextRoundTripRow : OpenClaim := { program := "ytlpnjoenkohadaadoor", sum := "ba9da2d9f421789257cfccced112d80845cf50373b868a4f4053369fcb5c20df", func := "grisaille/grisaillelaw14.PathtextRoundTrip", spec := "pathtextRoundTrip", inPlace := ["internal/abi.NoEscape", "internal/bytealg.MakeNoZero", "internal/bytealg.CountString", "internal/bytealg.IndexByteString", "internal/bytealg.IndexString"], unfollowed := true, recurses := true, named := ["unicode/utf8.first", "unicode/utf8.acceptRanges", "internal/bytealg.MaxLen"], apart := false, laid := [("unicode/utf8.acceptRanges", laid_unicode_utf8_acceptRanges), ("unicode/utf8.first", laid_unicode_utf8_first)] }
def PathtextRoundTripSaid : Prop := pathtextRoundTripRow.holds Tryd.pinned (OpenSpec.ofChange pathtextRoundTripSpec)

/-- ITS FALSE NEIGHBOUR: 'it returns false'. Refute it at one input. -/
def pathtextRoundTripWrong : ChangeSpec := { name := "pathtextRoundTrip", fn := fun _ => fun
  | [d1, d2] => { results := [.lit (.bool false)], args := [d1, d2] }
  | _ => none }
def PathtextRoundTripWrongFalsely : Prop := pathtextRoundTripRow.holds Tryd.pinned (OpenSpec.ofChange pathtextRoundTripWrong)

/-- 'grisaillelaw14.PathtextPrefix': WHATEVER THE INPUT: true; the input reads as it did. -/
def pathtextPrefixSpec : ChangeSpec := { name := "pathtextPrefix", fn := fun _ => fun
  | [d1, d2] => { results := [.lit (.bool true)], args := [d1, d2] }
  | _ => none }
def pathtextPrefixRow : OpenClaim := { program := "ytlpnjoenkohadaadoor", sum := "ba9da2d9f421789257cfccced112d80845cf50373b868a4f4053369fcb5c20df", func := "grisaille/grisaillelaw14.PathtextPrefix", spec := "pathtextPrefix", inPlace := ["internal/abi.NoEscape", "internal/bytealg.MakeNoZero", "internal/bytealg.CountString", "internal/bytealg.IndexByteString", "internal/bytealg.IndexString"], unfollowed := true, recurses := true, named := ["unicode/utf8.first", "unicode/utf8.acceptRanges", "internal/bytealg.MaxLen"], apart := false, laid := [("unicode/utf8.acceptRanges", laid_unicode_utf8_acceptRanges), ("unicode/utf8.first", laid_unicode_utf8_first)] }
def PathtextPrefixSaid : Prop := pathtextPrefixRow.holds Tryd.pinned (OpenSpec.ofChange pathtextPrefixSpec)

/-- ITS FALSE NEIGHBOUR: 'it returns false'. Refute it at one input. -/
def pathtextPrefixWrong : ChangeSpec := { name := "pathtextPrefix", fn := fun _ => fun
  | [d1, d2] => { results := [.lit (.bool false)], args := [d1, d2] }
  | _ => none }
def PathtextPrefixWrongFalsely : Prop := pathtextPrefixRow.holds Tryd.pinned (OpenSpec.ofChange pathtextPrefixWrong)

/-- 'grisaillelaw14.PathtextWords': WHATEVER THE INPUT: true; the input reads as it did. -/
def pathtextWordsSpec : ChangeSpec := { name := "pathtextWords", fn := fun _ => fun
  | [d1, d2] => { results := [.lit (.bool true)], args := [d1, d2] }
  | _ => none }
def pathtextWordsRow : OpenClaim := { program := "ytlpnjoenkohadaadoor", sum := "ba9da2d9f421789257cfccced112d80845cf50373b868a4f4053369fcb5c20df", func := "grisaille/grisaillelaw14.PathtextWords", spec := "pathtextWords", inPlace := ["internal/abi.NoEscape", "internal/bytealg.MakeNoZero", "internal/bytealg.CountString", "internal/bytealg.IndexByteString", "internal/bytealg.IndexString"], unfollowed := true, recurses := true, named := ["unicode/utf8.first", "unicode/utf8.acceptRanges", "internal/bytealg.MaxLen"], apart := false, laid := [("unicode/utf8.acceptRanges", laid_unicode_utf8_acceptRanges), ("unicode/utf8.first", laid_unicode_utf8_first)] }
def PathtextWordsSaid : Prop := pathtextWordsRow.holds Tryd.pinned (OpenSpec.ofChange pathtextWordsSpec)

/-- ITS FALSE NEIGHBOUR: 'it returns false'. Refute it at one input. -/
def pathtextWordsWrong : ChangeSpec := { name := "pathtextWords", fn := fun _ => fun
  | [d1, d2] => { results := [.lit (.bool false)], args := [d1, d2] }
  | _ => none }
def PathtextWordsWrongFalsely : Prop := pathtextWordsRow.holds Tryd.pinned (OpenSpec.ofChange pathtextWordsWrong)

/- THE SECOND FORM. 'bulk': how many values and letters a reading holds, each counted each time it is reached (what is shared counts as often as it is met; a slice's spare places count too). A statement '..UptoSaid' is the law's where the arguments, and the package variables that the reading takes, are together of bulk at most 1048576: NARROWER than '..Said'. Prove '..Said' where nothing that the law and all that it calls make is longer than what came in: it says more and counts as full. Else prove '..UptoSaid'. A law counts once. -/
mutual
def uptoBulk {H : Type} : DataW H → Nat
  | .lit (.string bytes) => bytes.length + 1
  | .lit _ => 1
  | .nil => 1
  | .ptr d => uptoBulk d + 1
  | .slice elems spare => uptoBulkAll elems + uptoBulkAll spare + 1
  | .agg parts => uptoBulkAll parts + 1
  | .iface _ d => uptoBulk d + 1
  | .map entries => uptoBulkEntries entries + 1
  | .held _ => 1
def uptoBulkAll {H : Type} : List (DataW H) → Nat
  | [] => 0
  | d :: r => uptoBulk d + uptoBulkAll r
def uptoBulkEntries {H : Type} : List (Lit × DataW H) → Nat
  | [] => 0
  | x :: r => uptoBulkEntry x + uptoBulkEntries r
def uptoBulkEntry {H : Type} : Lit × DataW H → Nat
  | (.string bytes, d) => bytes.length + uptoBulk d + 1
  | (_, d) => uptoBulk d + 1
 end
def uptoSmall : (H : Type) → List (DataW H) → Bool := fun _ ds => decide (uptoBulkAll ds ≤ 1048576)
def OpenSpec.upto (s : _root_.Go.ChangeSpec) : _root_.Go.OpenSpec := { _root_.Go.OpenSpec.ofChange s with cond := some uptoSmall }

/-- 'grisaillelaw14.PathtextFormat', WHERE WHAT IT READS IS OF BULK AT MOST 1048576: true; the input reads as it did. -/
def pathtextFormatUptoRow : OpenClaim := { program := "ytlpnjoenkohadaadoor", sum := "ba9da2d9f421789257cfccced112d80845cf50373b868a4f4053369fcb5c20df", func := "grisaille/grisaillelaw14.PathtextFormat", spec := "pathtextFormat", inPlace := ["internal/abi.NoEscape", "internal/bytealg.MakeNoZero", "internal/bytealg.CountString", "internal/bytealg.IndexByteString", "internal/bytealg.IndexString"], unfollowed := true, recurses := true, named := ["unicode/utf8.first", "unicode/utf8.acceptRanges", "internal/bytealg.MaxLen"], apart := false, laid := [("unicode/utf8.acceptRanges", laid_unicode_utf8_acceptRanges), ("unicode/utf8.first", laid_unicode_utf8_first)], narrowed := true }
def PathtextFormatUptoSaid : Prop := pathtextFormatUptoRow.holds Tryd.pinned (OpenSpec.upto pathtextFormatSpec)

/-- 'grisaillelaw14.PathtextParse', WHERE WHAT IT READS IS OF BULK AT MOST 1048576: true; the input reads as it did. -/
def pathtextParseUptoRow : OpenClaim := { program := "ytlpnjoenkohadaadoor", sum := "ba9da2d9f421789257cfccced112d80845cf50373b868a4f4053369fcb5c20df", func := "grisaille/grisaillelaw14.PathtextParse", spec := "pathtextParse", inPlace := ["internal/abi.NoEscape", "internal/bytealg.MakeNoZero", "internal/bytealg.CountString", "internal/bytealg.IndexByteString", "internal/bytealg.IndexString"], unfollowed := true, recurses := true, named := ["unicode/utf8.first", "unicode/utf8.acceptRanges", "internal/bytealg.MaxLen"], apart := false, laid := [("unicode/utf8.acceptRanges", laid_unicode_utf8_acceptRanges), ("unicode/utf8.first", laid_unicode_utf8_first)], narrowed := true }
def PathtextParseUptoSaid : Prop := pathtextParseUptoRow.holds Tryd.pinned (OpenSpec.upto pathtextParseSpec)

/-- 'grisaillelaw14.PathtextRoundTrip', WHERE WHAT IT READS IS OF BULK AT MOST 1048576: true; the input reads as it did. -/
def pathtextRoundTripUptoRow : OpenClaim := { program := "ytlpnjoenkohadaadoor", sum := "ba9da2d9f421789257cfccced112d80845cf50373b868a4f4053369fcb5c20df", func := "grisaille/grisaillelaw14.PathtextRoundTrip", spec := "pathtextRoundTrip", inPlace := ["internal/abi.NoEscape", "internal/bytealg.MakeNoZero", "internal/bytealg.CountString", "internal/bytealg.IndexByteString", "internal/bytealg.IndexString"], unfollowed := true, recurses := true, named := ["unicode/utf8.first", "unicode/utf8.acceptRanges", "internal/bytealg.MaxLen"], apart := false, laid := [("unicode/utf8.acceptRanges", laid_unicode_utf8_acceptRanges), ("unicode/utf8.first", laid_unicode_utf8_first)], narrowed := true }
def PathtextRoundTripUptoSaid : Prop := pathtextRoundTripUptoRow.holds Tryd.pinned (OpenSpec.upto pathtextRoundTripSpec)

/-- 'grisaillelaw14.PathtextPrefix', WHERE WHAT IT READS IS OF BULK AT MOST 1048576: true; the input reads as it did. -/
def pathtextPrefixUptoRow : OpenClaim := { program := "ytlpnjoenkohadaadoor", sum := "ba9da2d9f421789257cfccced112d80845cf50373b868a4f4053369fcb5c20df", func := "grisaille/grisaillelaw14.PathtextPrefix", spec := "pathtextPrefix", inPlace := ["internal/abi.NoEscape", "internal/bytealg.MakeNoZero", "internal/bytealg.CountString", "internal/bytealg.IndexByteString", "internal/bytealg.IndexString"], unfollowed := true, recurses := true, named := ["unicode/utf8.first", "unicode/utf8.acceptRanges", "internal/bytealg.MaxLen"], apart := false, laid := [("unicode/utf8.acceptRanges", laid_unicode_utf8_acceptRanges), ("unicode/utf8.first", laid_unicode_utf8_first)], narrowed := true }
def PathtextPrefixUptoSaid : Prop := pathtextPrefixUptoRow.holds Tryd.pinned (OpenSpec.upto pathtextPrefixSpec)

/-- 'grisaillelaw14.PathtextWords', WHERE WHAT IT READS IS OF BULK AT MOST 1048576: true; the input reads as it did. -/
def pathtextWordsUptoRow : OpenClaim := { program := "ytlpnjoenkohadaadoor", sum := "ba9da2d9f421789257cfccced112d80845cf50373b868a4f4053369fcb5c20df", func := "grisaille/grisaillelaw14.PathtextWords", spec := "pathtextWords", inPlace := ["internal/abi.NoEscape", "internal/bytealg.MakeNoZero", "internal/bytealg.CountString", "internal/bytealg.IndexByteString", "internal/bytealg.IndexString"], unfollowed := true, recurses := true, named := ["unicode/utf8.first", "unicode/utf8.acceptRanges", "internal/bytealg.MaxLen"], apart := false, laid := [("unicode/utf8.acceptRanges", laid_unicode_utf8_acceptRanges), ("unicode/utf8.first", laid_unicode_utf8_first)], narrowed := true }
def PathtextWordsUptoSaid : Prop := pathtextWordsUptoRow.holds Tryd.pinned (OpenSpec.upto pathtextWordsSpec)

end Rows
end Go.Proofs.YtlpnjoenkohadaaDoor
