/-
  DERIVED. GIVEN WITH THE SEED: THE CARDS: each row of YtlpnjoenkohadaaDoorRows.lean that lists a variable, with what it lists TIED to the program's text (the seventh form; the later family's looks); each row that meets fmt, with fmt's text TOLD by the authors' own Lean function (tested against real Go, not proved from fmt's source: count such statements apart). THE CARD IS WHAT COUNTS. Prove the row's statement (the work); the ties are given (YtlpnjoenkohadaaDoorTie.lean); close each card by the builder's one call (the guide's Derived/Test/ToyasCard.lean, 'card_holds'). Laid BY PROGRAM, IN A SANDBOX (cutbox-door.mjs). By AI agents, Wed Nov 11 2026. No macro, syntax, notation, axiom, sorry.
-/
import Derived.Test.YtlpnjoenkohadaaDoorRows
import GoSem.ClaimSeven
namespace Go.Proofs.YtlpnjoenkohadaaDoor
namespace Rows

/-- THE TIED CARD OF 'grisaillelaw14.PathtextFormat'. -/
def pathtextFormatCard : Claim7 := { stood := { row := pathtextFormatRow, standIns := [], harness := (true, "98b72f1018f85fe55892920e1283107e19050b863e4b19cff98c5e5e71524b93"), looks := false }, kinds := [], alts := [], laidByText := true, laidKinds := [.data, .pinned], laidTests := true, laidLooks := .later }
def PathtextFormatCardSaid : Prop := Claim7.holds Tryd.pinned (.plain (OpenSpec.ofChange pathtextFormatSpec)) pathtextFormatCard

/-- THE TIED CARD OF 'grisaillelaw14.PathtextParse'. -/
def pathtextParseCard : Claim7 := { stood := { row := pathtextParseRow, standIns := [], harness := (true, "98b72f1018f85fe55892920e1283107e19050b863e4b19cff98c5e5e71524b93"), looks := false }, kinds := [], alts := [], laidByText := true, laidKinds := [.data, .pinned], laidTests := true, laidLooks := .later }
def PathtextParseCardSaid : Prop := Claim7.holds Tryd.pinned (.plain (OpenSpec.ofChange pathtextParseSpec)) pathtextParseCard

/-- THE TIED CARD OF 'grisaillelaw14.PathtextRoundTrip'. -/
def pathtextRoundTripCard : Claim7 := { stood := { row := pathtextRoundTripRow, standIns := [], harness := (true, "98b72f1018f85fe55892920e1283107e19050b863e4b19cff98c5e5e71524b93"), looks := false }, kinds := [], alts := [], laidByText := true, laidKinds := [.data, .pinned], laidTests := true, laidLooks := .later }
def PathtextRoundTripCardSaid : Prop := Claim7.holds Tryd.pinned (.plain (OpenSpec.ofChange pathtextRoundTripSpec)) pathtextRoundTripCard

/-- THE TIED CARD OF 'grisaillelaw14.PathtextPrefix'. -/
def pathtextPrefixCard : Claim7 := { stood := { row := pathtextPrefixRow, standIns := [], harness := (true, "98b72f1018f85fe55892920e1283107e19050b863e4b19cff98c5e5e71524b93"), looks := false }, kinds := [], alts := [], laidByText := true, laidKinds := [.data, .pinned], laidTests := true, laidLooks := .later }
def PathtextPrefixCardSaid : Prop := Claim7.holds Tryd.pinned (.plain (OpenSpec.ofChange pathtextPrefixSpec)) pathtextPrefixCard

/-- THE TIED CARD OF 'grisaillelaw14.PathtextWords'. -/
def pathtextWordsCard : Claim7 := { stood := { row := pathtextWordsRow, standIns := [], harness := (true, "98b72f1018f85fe55892920e1283107e19050b863e4b19cff98c5e5e71524b93"), looks := false }, kinds := [], alts := [], laidByText := true, laidKinds := [.data, .pinned], laidTests := true, laidLooks := .later }
def PathtextWordsCardSaid : Prop := Claim7.holds Tryd.pinned (.plain (OpenSpec.ofChange pathtextWordsSpec)) pathtextWordsCard

/-- THE SECOND FORM's CARD OF 'grisaillelaw14.PathtextFormat'. -/
def pathtextFormatUptoCard : Claim7 := { stood := { row := pathtextFormatUptoRow, standIns := [], harness := (true, "98b72f1018f85fe55892920e1283107e19050b863e4b19cff98c5e5e71524b93"), looks := false }, kinds := [], alts := [], laidByText := true, laidKinds := [.data, .pinned], laidTests := true, laidLooks := .later }
def PathtextFormatUptoCardSaid : Prop := Claim7.holds Tryd.pinned (.plain (OpenSpec.upto pathtextFormatSpec)) pathtextFormatUptoCard

/-- THE SECOND FORM's CARD OF 'grisaillelaw14.PathtextParse'. -/
def pathtextParseUptoCard : Claim7 := { stood := { row := pathtextParseUptoRow, standIns := [], harness := (true, "98b72f1018f85fe55892920e1283107e19050b863e4b19cff98c5e5e71524b93"), looks := false }, kinds := [], alts := [], laidByText := true, laidKinds := [.data, .pinned], laidTests := true, laidLooks := .later }
def PathtextParseUptoCardSaid : Prop := Claim7.holds Tryd.pinned (.plain (OpenSpec.upto pathtextParseSpec)) pathtextParseUptoCard

/-- THE SECOND FORM's CARD OF 'grisaillelaw14.PathtextRoundTrip'. -/
def pathtextRoundTripUptoCard : Claim7 := { stood := { row := pathtextRoundTripUptoRow, standIns := [], harness := (true, "98b72f1018f85fe55892920e1283107e19050b863e4b19cff98c5e5e71524b93"), looks := false }, kinds := [], alts := [], laidByText := true, laidKinds := [.data, .pinned], laidTests := true, laidLooks := .later }
def PathtextRoundTripUptoCardSaid : Prop := Claim7.holds Tryd.pinned (.plain (OpenSpec.upto pathtextRoundTripSpec)) pathtextRoundTripUptoCard

/-- THE SECOND FORM's CARD OF 'grisaillelaw14.PathtextPrefix'. -/
def pathtextPrefixUptoCard : Claim7 := { stood := { row := pathtextPrefixUptoRow, standIns := [], harness := (true, "98b72f1018f85fe55892920e1283107e19050b863e4b19cff98c5e5e71524b93"), looks := false }, kinds := [], alts := [], laidByText := true, laidKinds := [.data, .pinned], laidTests := true, laidLooks := .later }
def PathtextPrefixUptoCardSaid : Prop := Claim7.holds Tryd.pinned (.plain (OpenSpec.upto pathtextPrefixSpec)) pathtextPrefixUptoCard

/-- THE SECOND FORM's CARD OF 'grisaillelaw14.PathtextWords'. -/
def pathtextWordsUptoCard : Claim7 := { stood := { row := pathtextWordsUptoRow, standIns := [], harness := (true, "98b72f1018f85fe55892920e1283107e19050b863e4b19cff98c5e5e71524b93"), looks := false }, kinds := [], alts := [], laidByText := true, laidKinds := [.data, .pinned], laidTests := true, laidLooks := .later }
def PathtextWordsUptoCardSaid : Prop := Claim7.holds Tryd.pinned (.plain (OpenSpec.upto pathtextWordsSpec)) pathtextWordsUptoCard
end Rows
end Go.Proofs.YtlpnjoenkohadaaDoor
