/-
  DERIVED. GIVEN WITH THE SEED: THE CARDS: each row of YtdeepdckmhpldaaGreatDoorRows.lean that lists a variable, with what it lists TIED to the program's text (the seventh form; the later family's looks); each row that meets fmt, with fmt's text TOLD by the authors' own Lean function (tested against real Go, not proved from fmt's source: count such statements apart). THE CARD IS WHAT COUNTS. Prove the row's statement (the work); the ties are given (YtdeepdckmhpldaaGreatDoorTie.lean); close each card by the builder's one call (the guide's Derived/Test/ToyasCard.lean, 'card_holds'). Laid BY PROGRAM, IN A SANDBOX (cutbox-door.mjs). By AI agents, Wed Nov 11 2026. No macro, syntax, notation, axiom, sorry.
-/
import Derived.Test.YtdeepdckmhpldaaGreatDoorRows
import GoSem.ClaimSeven
namespace Go.Proofs.YtdeepdckmhpldaaGreatDoor
namespace Rows

/-- THE TIED CARD OF 'grisaillelaw45.ScenetextFormat'. -/
def scenetextFormatCard : Claim7 := { stood := { row := scenetextFormatRow, standIns := [], harness := (true, "a0002d6c953e1d9d79111320c48b890b19beedbe111c2e2dc1aee1b71e102358"), looks := true }, kinds := [], alts := [], laidByText := true, laidKinds := [.data, .handle, .pinned], laidTests := true, laidLooks := .later }
def ScenetextFormatCardSaid : Prop := Claim7.holds Tryz.pinned (.plain (OpenSpec.ofChange scenetextFormatSpec)) scenetextFormatCard

/-- THE SECOND FORM's CARD OF 'grisaillelaw45.ScenetextFormat'. -/
def scenetextFormatUptoCard : Claim7 := { stood := { row := scenetextFormatUptoRow, standIns := [], harness := (true, "a0002d6c953e1d9d79111320c48b890b19beedbe111c2e2dc1aee1b71e102358"), looks := true }, kinds := [], alts := [], laidByText := true, laidKinds := [.data, .handle, .pinned], laidTests := true, laidLooks := .later }
def ScenetextFormatUptoCardSaid : Prop := Claim7.holds Tryz.pinned (.plain (OpenSpec.upto scenetextFormatSpec)) scenetextFormatUptoCard
end Rows
end Go.Proofs.YtdeepdckmhpldaaGreatDoor
