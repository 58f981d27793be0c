/-
  DERIVED. GIVEN WITH THE SEED: THE CARDS: each row of YtpgkbllcnphmbaaGreatDoorRows.lean that lists a variable, with what it lists TIED to the program's text (the seventh form; the later family's looks); each row that meets fmt, with fmt's text TOLD by the authors' own Lean function (tested against real Go, not proved from fmt's source: count such statements apart). THE CARD IS WHAT COUNTS. Prove the row's statement (the work); the ties are given (YtpgkbllcnphmbaaGreatDoorTie.lean); close each card by the builder's one call (the guide's Derived/Test/ToyasCard.lean, 'card_holds'). Laid BY PROGRAM, IN A SANDBOX (cutbox-door.mjs). By AI agents, Wed Nov 11 2026. No macro, syntax, notation, axiom, sorry.
-/
import Derived.Test.YtpgkbllcnphmbaaGreatDoorRows
import GoSem.ClaimSeven
namespace Go.Proofs.YtpgkbllcnphmbaaGreatDoor
namespace Rows

/-- THE TIED CARD OF 'grisailletop.TopShapePixel'. -/
def topShapePixelCard : Claim7 := { stood := { row := topShapePixelRow, standIns := [], harness := (true, "98158dd652e527c70f680063a649000a7742cec7b1bb496d62890228ae604deb"), looks := true }, kinds := [], alts := [], laidByText := true, laidKinds := [.handle], laidTests := true, laidLooks := .later }
def TopShapePixelCardSaid : Prop := Claim7.holds Tryz.pinned (.plain (OpenSpec.ofChange topShapePixelSpec)) topShapePixelCard

/-- THE SECOND FORM's CARD OF 'grisailletop.TopShapePixel'. -/
def topShapePixelUptoCard : Claim7 := { stood := { row := topShapePixelUptoRow, standIns := [], harness := (true, "98158dd652e527c70f680063a649000a7742cec7b1bb496d62890228ae604deb"), looks := true }, kinds := [], alts := [], laidByText := true, laidKinds := [.handle], laidTests := true, laidLooks := .later }
def TopShapePixelUptoCardSaid : Prop := Claim7.holds Tryz.pinned (.plain (OpenSpec.upto topShapePixelSpec)) topShapePixelUptoCard
end Rows
end Go.Proofs.YtpgkbllcnphmbaaGreatDoor
