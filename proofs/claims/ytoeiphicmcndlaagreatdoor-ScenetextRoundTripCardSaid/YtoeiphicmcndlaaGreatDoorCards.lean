/-
  DERIVED. GIVEN WITH THE SEED: THE CARDS: each row of YtoeiphicmcndlaaGreatDoorRows.lean that lists a variable, with what it lists TIED to the program's text (the seventh form; the later family's looks); each row that meets fmt, with fmt's text TOLD by the authors' own Lean function (tested against real Go, not proved from fmt's source: count such statements apart). THE CARD IS WHAT COUNTS. Prove the row's statement (the work); the ties are given (YtoeiphicmcndlaaGreatDoorTie.lean); close each card by the builder's one call (the guide's Derived/Test/ToyasCard.lean, 'card_holds'). Laid BY PROGRAM, IN A SANDBOX (cutbox-door.mjs). By AI agents, Wed Nov 11 2026. No macro, syntax, notation, axiom, sorry.
-/
import Derived.Test.YtoeiphicmcndlaaGreatDoorRows
import GoSem.ClaimSeven
namespace Go.Proofs.YtoeiphicmcndlaaGreatDoor
namespace Rows

/-- THE TIED CARD OF 'grisaillelaw45.ScenetextRoundTrip'. -/
def scenetextRoundTripCard : Claim7 := { stood := { row := scenetextRoundTripRow, standIns := [], harness := (true, "e4b40c8998272fcbc87cb08d1cf499796495bcc2644c43bf6ab6cf40a7ce669d"), looks := true }, kinds := [], alts := [], laidByText := true, laidKinds := [.data, .handle, .pinned], laidTests := true, laidLooks := .later }
def ScenetextRoundTripCardSaid : Prop := Claim7.holds Tryz.pinned (.plain (OpenSpec.ofChange scenetextRoundTripSpec)) scenetextRoundTripCard

/-- THE TIED CARD OF 'grisaillelaw45.ScenetextCanonical'. -/
def scenetextCanonicalCard : Claim7 := { stood := { row := scenetextCanonicalRow, standIns := [], harness := (true, "e4b40c8998272fcbc87cb08d1cf499796495bcc2644c43bf6ab6cf40a7ce669d"), looks := true }, kinds := [], alts := [], laidByText := true, laidKinds := [.data, .handle, .pinned], laidTests := true, laidLooks := .later }
def ScenetextCanonicalCardSaid : Prop := Claim7.holds Tryz.pinned (.plain (OpenSpec.ofChange scenetextCanonicalSpec)) scenetextCanonicalCard

/-- THE SECOND FORM's CARD OF 'grisaillelaw45.ScenetextRoundTrip'. -/
def scenetextRoundTripUptoCard : Claim7 := { stood := { row := scenetextRoundTripUptoRow, standIns := [], harness := (true, "e4b40c8998272fcbc87cb08d1cf499796495bcc2644c43bf6ab6cf40a7ce669d"), looks := true }, kinds := [], alts := [], laidByText := true, laidKinds := [.data, .handle, .pinned], laidTests := true, laidLooks := .later }
def ScenetextRoundTripUptoCardSaid : Prop := Claim7.holds Tryz.pinned (.plain (OpenSpec.upto scenetextRoundTripSpec)) scenetextRoundTripUptoCard

/-- THE SECOND FORM's CARD OF 'grisaillelaw45.ScenetextCanonical'. -/
def scenetextCanonicalUptoCard : Claim7 := { stood := { row := scenetextCanonicalUptoRow, standIns := [], harness := (true, "e4b40c8998272fcbc87cb08d1cf499796495bcc2644c43bf6ab6cf40a7ce669d"), looks := true }, kinds := [], alts := [], laidByText := true, laidKinds := [.data, .handle, .pinned], laidTests := true, laidLooks := .later }
def ScenetextCanonicalUptoCardSaid : Prop := Claim7.holds Tryz.pinned (.plain (OpenSpec.upto scenetextCanonicalSpec)) scenetextCanonicalUptoCard
end Rows
end Go.Proofs.YtoeiphicmcndlaaGreatDoor
