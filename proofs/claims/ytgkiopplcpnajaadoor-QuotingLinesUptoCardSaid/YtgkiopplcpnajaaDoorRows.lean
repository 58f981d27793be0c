/-
  NARROWER THAN 'FOR EVERY INPUT', by the rows' own cells (each row's printed sentence says how): QuotingWords: laid · QuotingFields: laid · QuotingRoundTrip: laid · QuotingAlphabet: laid · QuotingLines: laid · QuotingLinesRoundTrip: laid.
  DERIVED. THE GIVEN ROWS OF THIS SEAT. 6 by the template 'for every input the law returns true; each argument reads behind the call as it read before'; 0 by the template 'total and deterministic' (their statements: YtgkiopplcpnajaaDoorTotals.lean).
  GIVEN WITH THE SEED: the statements are not yours to turn. If you find one false, say at which input.
  Laid BY PROGRAM, IN A SANDBOX (cutbox-rows.mjs): the forced cells as the released guide's own fill.sh prints them over the translation 051beae5b9d87d6a… (all of the seat's roots in one cut). By AI agents, Wed Nov 11 2026. No macro, syntax, notation, axiom, sorry.
-/
import Derived.Test.YtgkiopplcpnajaaDoorChecked
import GoSem.PinnedTables
import GoSem.Claim
import GoSem.ClaimJoined
import GoSem.ClaimMapViews
import Derived.JoinedTies
import Derived.KernelRfl
namespace Go.Proofs.YtgkiopplcpnajaaDoor
/- THE CELL 'sum', in the pinned program and in every row, IS THE sha256 OF THE DUMP (.gsa) THAT YtgkiopplcpnajaaDoorProg.lean LOADS. Nothing in Lean hashes anything: it is a label: what it is worth is what the hold of that sum in a sandbox is worth. -/
noncomputable def Tryd.pinned : Pinned := { name := "ytgkiopplcpnajaadoor", sum := "051beae5b9d87d6a83951dcecc9b37e6c614a8e098e3372dab1864086671a926", checked := Tryd.checked }
namespace Rows
def none {H : Type} : Left H := { results := [], args := [] }

/- WHAT THE LISTED PACKAGE-LEVEL VARIABLES READ AS WHEN THE CALL BEGINS. Each datum BY PROGRAM (the guide's laid-datum.mjs) off the statement by which the dump's own 'gosem.cut.vars' lays the variable. In a bare row this is a premise. The card (YtgkiopplcpnajaaDoorCards.lean) ties it to the program's text. -/
def laid_unicode_utf8_acceptRanges {H : Type} : DataW H := .agg [.agg [.lit (.int .u8 128), .lit (.int .u8 191)], .agg [.lit (.int .u8 160), .lit (.int .u8 191)], .agg [.lit (.int .u8 128), .lit (.int .u8 159)], .agg [.lit (.int .u8 144), .lit (.int .u8 191)], .agg [.lit (.int .u8 128), .lit (.int .u8 143)], .agg [.lit (.int .u8 0), .lit (.int .u8 0)], .agg [.lit (.int .u8 0), .lit (.int .u8 0)], .agg [.lit (.int .u8 0), .lit (.int .u8 0)], .agg [.lit (.int .u8 0), .lit (.int .u8 0)], .agg [.lit (.int .u8 0), .lit (.int .u8 0)], .agg [.lit (.int .u8 0), .lit (.int .u8 0)], .agg [.lit (.int .u8 0), .lit (.int .u8 0)], .agg [.lit (.int .u8 0), .lit (.int .u8 0)], .agg [.lit (.int .u8 0), .lit (.int .u8 0)], .agg [.lit (.int .u8 0), .lit (.int .u8 0)], .agg [.lit (.int .u8 0), .lit (.int .u8 0)]]
/-- One of Go's own tables, pinned by name: the form's constant. -/
def laid_unicode_utf8_first : DataW Unit := Go.Pinned.utf8First

/-- 'grisaillelaw05.QuotingWords': WHATEVER THE INPUT: true; the input reads as it did. -/
def quotingWordsSpec : ChangeSpec := { name := "quotingWords", fn := fun _ => fun
  | [d1, d2] => { results := [.lit (.bool true)], args := [d1, d2] }
  | _ => none }
def quotingWordsRow : OpenClaim := { program := "ytgkiopplcpnajaadoor", sum := "051beae5b9d87d6a83951dcecc9b37e6c614a8e098e3372dab1864086671a926", func := "grisaille/grisaillelaw05.QuotingWords", spec := "quotingWords", inPlace := ["internal/bytealg.IndexByteString", "internal/bytealg.IndexString", "internal/bytealg.CountString", "internal/abi.NoEscape", "internal/bytealg.MakeNoZero"], named := ["internal/bytealg.MaxLen", "unicode/utf8.first", "unicode/utf8.acceptRanges"], apart := false, laid := [("unicode/utf8.acceptRanges", laid_unicode_utf8_acceptRanges), ("unicode/utf8.first", laid_unicode_utf8_first)] }
def QuotingWordsSaid : Prop := quotingWordsRow.holds Tryd.pinned (OpenSpec.ofChange quotingWordsSpec)

/-- ITS FALSE NEIGHBOUR: 'it returns false'. Refute it at one input. -/
def quotingWordsWrong : ChangeSpec := { name := "quotingWords", fn := fun _ => fun
  | [d1, d2] => { results := [.lit (.bool false)], args := [d1, d2] }
  | _ => none }
def QuotingWordsWrongFalsely : Prop := quotingWordsRow.holds Tryd.pinned (OpenSpec.ofChange quotingWordsWrong)

/-- 'grisaillelaw05.QuotingFields': WHATEVER THE INPUT: true; the input reads as it did. -/
def quotingFieldsSpec : ChangeSpec := { name := "quotingFields", fn := fun _ => fun
  | [d1, d2] => { results := [.lit (.bool true)], args := [d1, d2] }
  | _ => none }
def quotingFieldsRow : OpenClaim := { program := "ytgkiopplcpnajaadoor", sum := "051beae5b9d87d6a83951dcecc9b37e6c614a8e098e3372dab1864086671a926", func := "grisaille/grisaillelaw05.QuotingFields", spec := "quotingFields", inPlace := ["internal/bytealg.IndexByteString", "internal/bytealg.IndexString", "internal/bytealg.CountString", "internal/abi.NoEscape", "internal/bytealg.MakeNoZero"], named := ["internal/bytealg.MaxLen", "unicode/utf8.first", "unicode/utf8.acceptRanges"], apart := false, laid := [("unicode/utf8.acceptRanges", laid_unicode_utf8_acceptRanges), ("unicode/utf8.first", laid_unicode_utf8_first)] }
def QuotingFieldsSaid : Prop := quotingFieldsRow.holds Tryd.pinned (OpenSpec.ofChange quotingFieldsSpec)

/-- ITS FALSE NEIGHBOUR: 'it returns false'. Refute it at one input. -/
def quotingFieldsWrong : ChangeSpec := { name := "quotingFields", fn := fun _ => fun
  | [d1, d2] => { results := [.lit (.bool false)], args := [d1, d2] }
  | _ => none }
def QuotingFieldsWrongFalsely : Prop := quotingFieldsRow.holds Tryd.pinned (OpenSpec.ofChange quotingFieldsWrong)

/-- 'grisaillelaw05.QuotingRoundTrip': WHATEVER THE INPUT: true; the input reads as it did. -/
def quotingRoundTripSpec : ChangeSpec := { name := "quotingRoundTrip", fn := fun _ => fun
  | [d1, d2] => { results := [.lit (.bool true)], args := [d1, d2] }
  | _ => none }
def quotingRoundTripRow : OpenClaim := { program := "ytgkiopplcpnajaadoor", sum := "051beae5b9d87d6a83951dcecc9b37e6c614a8e098e3372dab1864086671a926", func := "grisaille/grisaillelaw05.QuotingRoundTrip", spec := "quotingRoundTrip", inPlace := ["internal/bytealg.IndexByteString", "internal/bytealg.IndexString", "internal/bytealg.CountString", "internal/abi.NoEscape", "internal/bytealg.MakeNoZero"], named := ["internal/bytealg.MaxLen", "unicode/utf8.first", "unicode/utf8.acceptRanges"], apart := false, laid := [("unicode/utf8.acceptRanges", laid_unicode_utf8_acceptRanges), ("unicode/utf8.first", laid_unicode_utf8_first)] }
def QuotingRoundTripSaid : Prop := quotingRoundTripRow.holds Tryd.pinned (OpenSpec.ofChange quotingRoundTripSpec)

/-- ITS FALSE NEIGHBOUR: 'it returns false'. Refute it at one input. -/
def quotingRoundTripWrong : ChangeSpec := { name := "quotingRoundTrip", fn := fun _ => fun
  | [d1, d2] => { results := [.lit (.bool false)], args := [d1, d2] }
  | _ => none }
def QuotingRoundTripWrongFalsely : Prop := quotingRoundTripRow.holds Tryd.pinned (OpenSpec.ofChange quotingRoundTripWrong)

/-- 'grisaillelaw05.QuotingAlphabet': WHATEVER THE INPUT: true; the input reads as it did. -/
def quotingAlphabetSpec : ChangeSpec := { name := "quotingAlphabet", fn := fun _ => fun
  | [d1, d2] => { results := [.lit (.bool true)], args := [d1, d2] }
  | _ => none }
def quotingAlphabetRow : OpenClaim := { program := "ytgkiopplcpnajaadoor", sum := "051beae5b9d87d6a83951dcecc9b37e6c614a8e098e3372dab1864086671a926", func := "grisaille/grisaillelaw05.QuotingAlphabet", spec := "quotingAlphabet", inPlace := ["internal/bytealg.IndexByteString", "internal/bytealg.IndexString", "internal/bytealg.CountString", "internal/abi.NoEscape", "internal/bytealg.MakeNoZero"], named := ["internal/bytealg.MaxLen", "unicode/utf8.first", "unicode/utf8.acceptRanges"], apart := false, laid := [("unicode/utf8.acceptRanges", laid_unicode_utf8_acceptRanges), ("unicode/utf8.first", laid_unicode_utf8_first)] }
def QuotingAlphabetSaid : Prop := quotingAlphabetRow.holds Tryd.pinned (OpenSpec.ofChange quotingAlphabetSpec)

/-- ITS FALSE NEIGHBOUR: 'it returns false'. Refute it at one input. -/
def quotingAlphabetWrong : ChangeSpec := { name := "quotingAlphabet", fn := fun _ => fun
  | [d1, d2] => { results := [.lit (.bool false)], args := [d1, d2] }
  | _ => none }
def QuotingAlphabetWrongFalsely : Prop := quotingAlphabetRow.holds Tryd.pinned (OpenSpec.ofChange quotingAlphabetWrong)

/-- 'grisaillelaw05.QuotingLines': WHATEVER THE INPUT: true; the input reads as it did. -/
def quotingLinesSpec : ChangeSpec := { name := "quotingLines", fn := fun _ => fun
  | [d1, d2] => { results := [.lit (.bool true)], args := [d1, d2] }
  | _ => none }
def quotingLinesRow : OpenClaim := { program := "ytgkiopplcpnajaadoor", sum := "051beae5b9d87d6a83951dcecc9b37e6c614a8e098e3372dab1864086671a926", func := "grisaille/grisaillelaw05.QuotingLines", spec := "quotingLines", inPlace := ["internal/bytealg.IndexByteString", "internal/bytealg.IndexString", "internal/bytealg.CountString", "internal/abi.NoEscape", "internal/bytealg.MakeNoZero"], named := ["internal/bytealg.MaxLen", "unicode/utf8.first", "unicode/utf8.acceptRanges"], apart := false, laid := [("unicode/utf8.acceptRanges", laid_unicode_utf8_acceptRanges), ("unicode/utf8.first", laid_unicode_utf8_first)] }
def QuotingLinesSaid : Prop := quotingLinesRow.holds Tryd.pinned (OpenSpec.ofChange quotingLinesSpec)

/-- ITS FALSE NEIGHBOUR: 'it returns false'. Refute it at one input. -/
def quotingLinesWrong : ChangeSpec := { name := "quotingLines", fn := fun _ => fun
  | [d1, d2] => { results := [.lit (.bool false)], args := [d1, d2] }
  | _ => none }
def QuotingLinesWrongFalsely : Prop := quotingLinesRow.holds Tryd.pinned (OpenSpec.ofChange quotingLinesWrong)

/-- 'grisaillelaw05.QuotingLinesRoundTrip': WHATEVER THE INPUT: true; the input reads as it did. -/
def quotingLinesRoundTripSpec : ChangeSpec := { name := "quotingLinesRoundTrip", fn := fun _ => fun
  | [d1, d2] => { results := [.lit (.bool true)], args := [d1, d2] }
  | _ => none }
def quotingLinesRoundTripRow : OpenClaim := { program := "ytgkiopplcpnajaadoor", sum := "051beae5b9d87d6a83951dcecc9b37e6c614a8e098e3372dab1864086671a926", func := "grisaille/grisaillelaw05.QuotingLinesRoundTrip", spec := "quotingLinesRoundTrip", inPlace := ["internal/bytealg.IndexByteString", "internal/bytealg.IndexString", "internal/bytealg.CountString", "internal/abi.NoEscape", "internal/bytealg.MakeNoZero"], named := ["internal/bytealg.MaxLen", "unicode/utf8.first", "unicode/utf8.acceptRanges"], apart := false, laid := [("unicode/utf8.acceptRanges", laid_unicode_utf8_acceptRanges), ("unicode/utf8.first", laid_unicode_utf8_first)] }
def QuotingLinesRoundTripSaid : Prop := quotingLinesRoundTripRow.holds Tryd.pinned (OpenSpec.ofChange quotingLinesRoundTripSpec)

/-- ITS FALSE NEIGHBOUR: 'it returns false'. Refute it at one input. -/
def quotingLinesRoundTripWrong : ChangeSpec := { name := "quotingLinesRoundTrip", fn := fun _ => fun
  | [d1, d2] => { results := [.lit (.bool false)], args := [d1, d2] }
  | _ => none }
def QuotingLinesRoundTripWrongFalsely : Prop := quotingLinesRoundTripRow.holds Tryd.pinned (OpenSpec.ofChange quotingLinesRoundTripWrong)

/- THE SECOND FORM. 'bulk': how many values and letters a reading holds, each counted each time it is reached (what is shared counts as often as it is met; a slice's spare places count too). A statement '..UptoSaid' is the law's where the arguments, and the package variables that the reading takes, are together of bulk at most 1048576: NARROWER than '..Said'. Prove '..Said' where nothing that the law and all that it calls make is longer than what came in: it says more and counts as full. Else prove '..UptoSaid'. A law counts once. -/
mutual
def uptoBulk {H : Type} : DataW H → Nat
  | .lit (.string bytes) => bytes.length + 1
  | .lit _ => 1
  | .nil => 1
  | .ptr d => uptoBulk d + 1
  | .slice elems spare => uptoBulkAll elems + uptoBulkAll spare + 1
  | .agg parts => uptoBulkAll parts + 1
  | .iface _ d => uptoBulk d + 1
  | .map entries => uptoBulkEntries entries + 1
  | .held _ => 1
def uptoBulkAll {H : Type} : List (DataW H) → Nat
  | [] => 0
  | d :: r => uptoBulk d + uptoBulkAll r
def uptoBulkEntries {H : Type} : List (Lit × DataW H) → Nat
  | [] => 0
  | x :: r => uptoBulkEntry x + uptoBulkEntries r
def uptoBulkEntry {H : Type} : Lit × DataW H → Nat
  | (.string bytes, d) => bytes.length + uptoBulk d + 1
  | (_, d) => uptoBulk d + 1
 end
def uptoSmall : (H : Type) → List (DataW H) → Bool := fun _ ds => decide (uptoBulkAll ds ≤ 1048576)
def OpenSpec.upto (s : _root_.Go.ChangeSpec) : _root_.Go.OpenSpec := { _root_.Go.OpenSpec.ofChange s with cond := some uptoSmall }

/-- 'grisaillelaw05.QuotingWords', WHERE WHAT IT READS IS OF BULK AT MOST 1048576: true; the input reads as it did. -/
def quotingWordsUptoRow : OpenClaim := { program := "ytgkiopplcpnajaadoor", sum := "051beae5b9d87d6a83951dcecc9b37e6c614a8e098e3372dab1864086671a926", func := "grisaille/grisaillelaw05.QuotingWords", spec := "quotingWords", inPlace := ["internal/bytealg.IndexByteString", "internal/bytealg.IndexString", "internal/bytealg.CountString", "internal/abi.NoEscape", "internal/bytealg.MakeNoZero"], named := ["internal/bytealg.MaxLen", "unicode/utf8.first", "unicode/utf8.acceptRanges"], apart := false, laid := [("unicode/utf8.acceptRanges", laid_unicode_utf8_acceptRanges), ("unicode/utf8.first", laid_unicode_utf8_first)], narrowed := true }
def QuotingWordsUptoSaid : Prop := quotingWordsUptoRow.holds Tryd.pinned (OpenSpec.upto quotingWordsSpec)

/-- 'grisaillelaw05.QuotingFields', WHERE WHAT IT READS IS OF BULK AT MOST 1048576: true; the input reads as it did. -/
def quotingFieldsUptoRow : OpenClaim := { program := "ytgkiopplcpnajaadoor", sum := "051beae5b9d87d6a83951dcecc9b37e6c614a8e098e3372dab1864086671a926", func := "grisaille/grisaillelaw05.QuotingFields", spec := "quotingFields", inPlace := ["internal/bytealg.IndexByteString", "internal/bytealg.IndexString", "internal/bytealg.CountString", "internal/abi.NoEscape", "internal/bytealg.MakeNoZero"], named := ["internal/bytealg.MaxLen", "unicode/utf8.first", "unicode/utf8.acceptRanges"], apart := false, laid := [("unicode/utf8.acceptRanges", laid_unicode_utf8_acceptRanges), ("unicode/utf8.first", laid_unicode_utf8_first)], narrowed := true }
def QuotingFieldsUptoSaid : Prop := quotingFieldsUptoRow.holds Tryd.pinned (OpenSpec.upto quotingFieldsSpec)

/-- 'grisaillelaw05.QuotingRoundTrip', WHERE WHAT IT READS IS OF BULK AT MOST 1048576: true; the input reads as it did. -/
def quotingRoundTripUptoRow : OpenClaim := { program := "ytgkiopplcpnajaadoor", sum := "051beae5b9d87d6a83951dcecc9b37e6c614a8e098e3372dab1864086671a926", func := "grisaille/grisaillelaw05.QuotingRoundTrip", spec := "quotingRoundTrip", inPlace := ["internal/bytealg.IndexByteString", "internal/bytealg.IndexString", "internal/bytealg.CountString", "internal/abi.NoEscape", "internal/bytealg.MakeNoZero"], named := ["internal/bytealg.MaxLen", "unicode/utf8.first", "unicode/utf8.acceptRanges"], apart := false, laid := [("unicode/utf8.acceptRanges", laid_unicode_utf8_acceptRanges), ("unicode/utf8.first", laid_unicode_utf8_first)], narrowed := true }
def QuotingRoundTripUptoSaid : Prop := quotingRoundTripUptoRow.holds Tryd.pinned (OpenSpec.upto quotingRoundTripSpec)

/-- 'grisaillelaw05.QuotingAlphabet', WHERE WHAT IT READS IS OF BULK AT MOST 1048576: true; the input reads as it did. -/
def quotingAlphabetUptoRow : OpenClaim := { program := "ytgkiopplcpnajaadoor", sum := "051beae5b9d87d6a83951dcecc9b37e6c614a8e098e3372dab1864086671a926", func := "grisaille/grisaillelaw05.QuotingAlphabet", spec := "quotingAlphabet", inPlace := ["internal/bytealg.IndexByteString", "internal/bytealg.IndexString", "internal/bytealg.CountString", "internal/abi.NoEscape", "internal/bytealg.MakeNoZero"], named := ["internal/bytealg.MaxLen", "unicode/utf8.first", "unicode/utf8.acceptRanges"], apart := false, laid := [("unicode/utf8.acceptRanges", laid_unicode_utf8_acceptRanges), ("unicode/utf8.first", laid_unicode_utf8_first)], narrowed := true }
def QuotingAlphabetUptoSaid : Prop := quotingAlphabetUptoRow.holds Tryd.pinned (OpenSpec.upto quotingAlphabetSpec)

/-- 'grisaillelaw05.QuotingLines', WHERE WHAT IT READS IS OF BULK AT MOST 1048576: true; the input reads as it did. -/
def quotingLinesUptoRow : OpenClaim := { program := "ytgkiopplcpnajaadoor", sum := "051beae5b9d87d6a83951dcecc9b37e6c614a8e098e3372dab1864086671a926", func := "grisaille/grisaillelaw05.QuotingLines", spec := "quotingLines", inPlace := ["internal/bytealg.IndexByteString", "internal/bytealg.IndexString", "internal/bytealg.CountString", "internal/abi.NoEscape", "internal/bytealg.MakeNoZero"], named := ["internal/bytealg.MaxLen", "unicode/utf8.first", "unicode/utf8.acceptRanges"], apart := false, laid := [("unicode/utf8.acceptRanges", laid_unicode_utf8_acceptRanges), ("unicode/utf8.first", laid_unicode_utf8_first)], narrowed := true }
def QuotingLinesUptoSaid : Prop := quotingLinesUptoRow.holds Tryd.pinned (OpenSpec.upto quotingLinesSpec)

/-- 'grisaillelaw05.QuotingLinesRoundTrip', WHERE WHAT IT READS IS OF BULK AT MOST 1048576: true; the input reads as it did. -/
def quotingLinesRoundTripUptoRow : OpenClaim := { program := "ytgkiopplcpnajaadoor", sum := "051beae5b9d87d6a83951dcecc9b37e6c614a8e098e3372dab1864086671a926", func := "grisaille/grisaillelaw05.QuotingLinesRoundTrip", spec := "quotingLinesRoundTrip", inPlace := ["internal/bytealg.IndexByteString", "internal/bytealg.IndexString", "internal/bytealg.CountString", "internal/abi.NoEscape", "internal/bytealg.MakeNoZero"], named := ["internal/bytealg.MaxLen", "unicode/utf8.first", "unicode/utf8.acceptRanges"], apart := false, laid := [("unicode/utf8.acceptRanges", laid_unicode_utf8_acceptRanges), ("unicode/utf8.first", laid_unicode_utf8_first)], narrowed := true }
def QuotingLinesRoundTripUptoSaid : Prop := quotingLinesRoundTripUptoRow.holds Tryd.pinned (OpenSpec.upto quotingLinesRoundTripSpec)

end Rows
end Go.Proofs.YtgkiopplcpnajaaDoor
