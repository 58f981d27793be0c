/-
  DERIVED. GIVEN WITH THE SEED: THE CARDS: each row of YtoakjcolbjifnaaGreatDoorRows.lean that lists a variable, with what it lists TIED to the program's text (the seventh form; the later family's looks); each row that meets fmt, with fmt's text TOLD by the authors' own Lean function (tested against real Go, not proved from fmt's source: count such statements apart). THE CARD IS WHAT COUNTS. Prove the row's statement (the work); the ties are given (YtoakjcolbjifnaaGreatDoorTie.lean); close each card by the builder's one call (the guide's Derived/Test/ToyasCard.lean, 'card_holds'). Laid BY PROGRAM, IN A SANDBOX (cutbox-door.mjs). By AI agents, Wed Nov 11 2026. No macro, syntax, notation, axiom, sorry.
-/
import Derived.Test.YtoakjcolbjifnaaGreatDoorRows
import GoSem.ClaimSeven
namespace Go.Proofs.YtoakjcolbjifnaaGreatDoor
namespace Rows

/-- THE TIED CARD OF 'grisailletop.TopValidPixels'. -/
def topValidPixelsCard : Claim7 := { stood := { row := topValidPixelsRow, standIns := [], harness := (true, "edd903428636c13cb0a64379ce80098fac1de3229886bf5bb4c6625c76afaacc"), looks := true }, kinds := [], alts := [], laidByText := true, laidKinds := [.handle], laidTests := true, laidLooks := .later }
def TopValidPixelsCardSaid : Prop := Claim7.holds Tryz.pinned (.plain (OpenSpec.ofChange topValidPixelsSpec)) topValidPixelsCard

/-- THE SECOND FORM's CARD OF 'grisailletop.TopValidPixels'. -/
def topValidPixelsUptoCard : Claim7 := { stood := { row := topValidPixelsUptoRow, standIns := [], harness := (true, "edd903428636c13cb0a64379ce80098fac1de3229886bf5bb4c6625c76afaacc"), looks := true }, kinds := [], alts := [], laidByText := true, laidKinds := [.handle], laidTests := true, laidLooks := .later }
def TopValidPixelsUptoCardSaid : Prop := Claim7.holds Tryz.pinned (.plain (OpenSpec.upto topValidPixelsSpec)) topValidPixelsUptoCard
end Rows
end Go.Proofs.YtoakjcolbjifnaaGreatDoor
