/-
  DERIVED. GIVEN WITH THE SEED: THE CARDS: each row of YtgkiopplcpnajaaDoorRows.lean that lists a variable, with what it lists TIED to the program's text (the seventh form; the later family's looks); each row that meets fmt, with fmt's text TOLD by the authors' own Lean function (tested against real Go, not proved from fmt's source: count such statements apart). THE CARD IS WHAT COUNTS. Prove the row's statement (the work); the ties are given (YtgkiopplcpnajaaDoorTie.lean); close each card by the builder's one call (the guide's Derived/Test/ToyasCard.lean, 'card_holds'). Laid BY PROGRAM, IN A SANDBOX (cutbox-door.mjs). By AI agents, Wed Nov 11 2026. No macro, syntax, notation, axiom, sorry.
-/
import Derived.Test.YtgkiopplcpnajaaDoorRows
import GoSem.ClaimSeven
namespace Go.Proofs.YtgkiopplcpnajaaDoor
namespace Rows

/-- THE TIED CARD OF 'grisaillelaw05.QuotingWords'. -/
def quotingWordsCard : Claim7 := { stood := { row := quotingWordsRow, standIns := [], harness := (true, "66c3a96b8359662a7a43075b333d8e8e058f4d5b02d62e43d60aa68e05d915f1"), looks := false }, kinds := [], alts := [], laidByText := true, laidKinds := [.data, .pinned], laidTests := true, laidLooks := .later }
def QuotingWordsCardSaid : Prop := Claim7.holds Tryd.pinned (.plain (OpenSpec.ofChange quotingWordsSpec)) quotingWordsCard

/-- THE TIED CARD OF 'grisaillelaw05.QuotingFields'. -/
def quotingFieldsCard : Claim7 := { stood := { row := quotingFieldsRow, standIns := [], harness := (true, "66c3a96b8359662a7a43075b333d8e8e058f4d5b02d62e43d60aa68e05d915f1"), looks := false }, kinds := [], alts := [], laidByText := true, laidKinds := [.data, .pinned], laidTests := true, laidLooks := .later }
def QuotingFieldsCardSaid : Prop := Claim7.holds Tryd.pinned (.plain (OpenSpec.ofChange quotingFieldsSpec)) quotingFieldsCard

/-- THE TIED CARD OF 'grisaillelaw05.QuotingRoundTrip'. -/
def quotingRoundTripCard : Claim7 := { stood := { row := quotingRoundTripRow, standIns := [], harness := (true, "66c3a96b8359662a7a43075b333d8e8e058f4d5b02d62e43d60aa68e05d915f1"), looks := false }, kinds := [], alts := [], laidByText := true, laidKinds := [.data, .pinned], laidTests := true, laidLooks := .later }
def QuotingRoundTripCardSaid : Prop := Claim7.holds Tryd.pinned (.plain (OpenSpec.ofChange quotingRoundTripSpec)) quotingRoundTripCard

/-- THE TIED CARD OF 'grisaillelaw05.QuotingAlphabet'. -/
def quotingAlphabetCard : Claim7 := { stood := { row := quotingAlphabetRow, standIns := [], harness := (true, "66c3a96b8359662a7a43075b333d8e8e058f4d5b02d62e43d60aa68e05d915f1"), looks := false }, kinds := [], alts := [], laidByText := true, laidKinds := [.data, .pinned], laidTests := true, laidLooks := .later }
def QuotingAlphabetCardSaid : Prop := Claim7.holds Tryd.pinned (.plain (OpenSpec.ofChange quotingAlphabetSpec)) quotingAlphabetCard

/-- THE TIED CARD OF 'grisaillelaw05.QuotingLines'. -/
def quotingLinesCard : Claim7 := { stood := { row := quotingLinesRow, standIns := [], harness := (true, "66c3a96b8359662a7a43075b333d8e8e058f4d5b02d62e43d60aa68e05d915f1"), looks := false }, kinds := [], alts := [], laidByText := true, laidKinds := [.data, .pinned], laidTests := true, laidLooks := .later }
def QuotingLinesCardSaid : Prop := Claim7.holds Tryd.pinned (.plain (OpenSpec.ofChange quotingLinesSpec)) quotingLinesCard

/-- THE TIED CARD OF 'grisaillelaw05.QuotingLinesRoundTrip'. -/
def quotingLinesRoundTripCard : Claim7 := { stood := { row := quotingLinesRoundTripRow, standIns := [], harness := (true, "66c3a96b8359662a7a43075b333d8e8e058f4d5b02d62e43d60aa68e05d915f1"), looks := false }, kinds := [], alts := [], laidByText := true, laidKinds := [.data, .pinned], laidTests := true, laidLooks := .later }
def QuotingLinesRoundTripCardSaid : Prop := Claim7.holds Tryd.pinned (.plain (OpenSpec.ofChange quotingLinesRoundTripSpec)) quotingLinesRoundTripCard

/-- THE SECOND FORM's CARD OF 'grisaillelaw05.QuotingWords'. -/
def quotingWordsUptoCard : Claim7 := { stood := { row := quotingWordsUptoRow, standIns := [], harness := (true, "66c3a96b8359662a7a43075b333d8e8e058f4d5b02d62e43d60aa68e05d915f1"), looks := false }, kinds := [], alts := [], laidByText := true, laidKinds := [.data, .pinned], laidTests := true, laidLooks := .later }
def QuotingWordsUptoCardSaid : Prop := Claim7.holds Tryd.pinned (.plain (OpenSpec.upto quotingWordsSpec)) quotingWordsUptoCard

/-- THE SECOND FORM's CARD OF 'grisaillelaw05.QuotingFields'. -/
def quotingFieldsUptoCard : Claim7 := { stood := { row := quotingFieldsUptoRow, standIns := [], harness := (true, "66c3a96b8359662a7a43075b333d8e8e058f4d5b02d62e43d60aa68e05d915f1"), looks := false }, kinds := [], alts := [], laidByText := true, laidKinds := [.data, .pinned], laidTests := true, laidLooks := .later }
def QuotingFieldsUptoCardSaid : Prop := Claim7.holds Tryd.pinned (.plain (OpenSpec.upto quotingFieldsSpec)) quotingFieldsUptoCard

/-- THE SECOND FORM's CARD OF 'grisaillelaw05.QuotingRoundTrip'. -/
def quotingRoundTripUptoCard : Claim7 := { stood := { row := quotingRoundTripUptoRow, standIns := [], harness := (true, "66c3a96b8359662a7a43075b333d8e8e058f4d5b02d62e43d60aa68e05d915f1"), looks := false }, kinds := [], alts := [], laidByText := true, laidKinds := [.data, .pinned], laidTests := true, laidLooks := .later }
def QuotingRoundTripUptoCardSaid : Prop := Claim7.holds Tryd.pinned (.plain (OpenSpec.upto quotingRoundTripSpec)) quotingRoundTripUptoCard

/-- THE SECOND FORM's CARD OF 'grisaillelaw05.QuotingAlphabet'. -/
def quotingAlphabetUptoCard : Claim7 := { stood := { row := quotingAlphabetUptoRow, standIns := [], harness := (true, "66c3a96b8359662a7a43075b333d8e8e058f4d5b02d62e43d60aa68e05d915f1"), looks := false }, kinds := [], alts := [], laidByText := true, laidKinds := [.data, .pinned], laidTests := true, laidLooks := .later }
def QuotingAlphabetUptoCardSaid : Prop := Claim7.holds Tryd.pinned (.plain (OpenSpec.upto quotingAlphabetSpec)) quotingAlphabetUptoCard

/-- THE SECOND FORM's CARD OF 'grisaillelaw05.QuotingLines'. -/
def quotingLinesUptoCard : Claim7 := { stood := { row := quotingLinesUptoRow, standIns := [], harness := (true, "66c3a96b8359662a7a43075b333d8e8e058f4d5b02d62e43d60aa68e05d915f1"), looks := false }, kinds := [], alts := [], laidByText := true, laidKinds := [.data, .pinned], laidTests := true, laidLooks := .later }
def QuotingLinesUptoCardSaid : Prop := Claim7.holds Tryd.pinned (.plain (OpenSpec.upto quotingLinesSpec)) quotingLinesUptoCard

/-- THE SECOND FORM's CARD OF 'grisaillelaw05.QuotingLinesRoundTrip'. -/
def quotingLinesRoundTripUptoCard : Claim7 := { stood := { row := quotingLinesRoundTripUptoRow, standIns := [], harness := (true, "66c3a96b8359662a7a43075b333d8e8e058f4d5b02d62e43d60aa68e05d915f1"), looks := false }, kinds := [], alts := [], laidByText := true, laidKinds := [.data, .pinned], laidTests := true, laidLooks := .later }
def QuotingLinesRoundTripUptoCardSaid : Prop := Claim7.holds Tryd.pinned (.plain (OpenSpec.upto quotingLinesRoundTripSpec)) quotingLinesRoundTripUptoCard
end Rows
end Go.Proofs.YtgkiopplcpnajaaDoor
