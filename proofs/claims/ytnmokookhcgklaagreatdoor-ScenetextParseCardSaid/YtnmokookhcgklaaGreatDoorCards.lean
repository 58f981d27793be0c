/-
  DERIVED. GIVEN WITH THE SEED: THE CARDS: each row of YtnmokookhcgklaaGreatDoorRows.lean that lists a variable, with what it lists TIED to the program's text (the seventh form; the later family's looks); each row that meets fmt, with fmt's text TOLD by the authors' own Lean function (tested against real Go, not proved from fmt's source: count such statements apart). THE CARD IS WHAT COUNTS. Prove the row's statement (the work); the ties are given (YtnmokookhcgklaaGreatDoorTie.lean); close each card by the builder's one call (the guide's Derived/Test/ToyasCard.lean, 'card_holds'). Laid BY PROGRAM, IN A SANDBOX (cutbox-door.mjs). By AI agents, Wed Nov 11 2026. No macro, syntax, notation, axiom, sorry.
-/
import Derived.Test.YtnmokookhcgklaaGreatDoorRows
import GoSem.ClaimSeven
namespace Go.Proofs.YtnmokookhcgklaaGreatDoor
namespace Rows

/-- THE TIED CARD OF 'grisaillelaw45.ScenetextParse'. -/
def scenetextParseCard : Claim7 := { stood := { row := scenetextParseRow, standIns := [], harness := (true, "b3821859359da562364a76cf330d20fd0347680d98ef542c683bb4d18355439d"), looks := true }, kinds := [], alts := [], laidByText := true, laidKinds := [.data, .handle, .pinned], laidTests := true, laidLooks := .later }
def ScenetextParseCardSaid : Prop := Claim7.holds Tryz.pinned (.plain (OpenSpec.ofChange scenetextParseSpec)) scenetextParseCard

/-- THE SECOND FORM's CARD OF 'grisaillelaw45.ScenetextParse'. -/
def scenetextParseUptoCard : Claim7 := { stood := { row := scenetextParseUptoRow, standIns := [], harness := (true, "b3821859359da562364a76cf330d20fd0347680d98ef542c683bb4d18355439d"), looks := true }, kinds := [], alts := [], laidByText := true, laidKinds := [.data, .handle, .pinned], laidTests := true, laidLooks := .later }
def ScenetextParseUptoCardSaid : Prop := Claim7.holds Tryz.pinned (.plain (OpenSpec.upto scenetextParseSpec)) scenetextParseUptoCard
end Rows
end Go.Proofs.YtnmokookhcgklaaGreatDoor
