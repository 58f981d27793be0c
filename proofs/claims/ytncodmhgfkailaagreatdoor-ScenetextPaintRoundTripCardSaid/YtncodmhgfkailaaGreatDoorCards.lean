/-
  DERIVED. GIVEN WITH THE SEED: THE CARDS: each row of YtncodmhgfkailaaGreatDoorRows.lean that lists a variable, with what it lists TIED to the program's text (the seventh form; the later family's looks); each row that meets fmt, with fmt's text TOLD by the authors' own Lean function (tested against real Go, not proved from fmt's source: count such statements apart). THE CARD IS WHAT COUNTS. Prove the row's statement (the work); the ties are given (YtncodmhgfkailaaGreatDoorTie.lean); close each card by the builder's one call (the guide's Derived/Test/ToyasCard.lean, 'card_holds'). Laid BY PROGRAM, IN A SANDBOX (cutbox-door.mjs). By AI agents, Wed Nov 11 2026. No macro, syntax, notation, axiom, sorry.
-/
import Derived.Test.YtncodmhgfkailaaGreatDoorRows
import GoSem.ClaimSeven
namespace Go.Proofs.YtncodmhgfkailaaGreatDoor
namespace Rows

/-- THE TIED CARD OF 'grisaillelaw45.ScenetextPaint'. -/
def scenetextPaintCard : Claim7 := { stood := { row := scenetextPaintRow, standIns := [], harness := (true, "2ee89a5a1fdd86fcb3cc3f59f67313011d541d865597dc1244034780290fa240"), looks := true }, kinds := [], alts := [], laidByText := true, laidKinds := [.data, .handle, .pinned], laidTests := true, laidLooks := .later }
def ScenetextPaintCardSaid : Prop := Claim7.holds Tryz.pinned (.plain (OpenSpec.ofChange scenetextPaintSpec)) scenetextPaintCard

/-- THE TIED CARD OF 'grisaillelaw45.ScenetextPaintRoundTrip'. -/
def scenetextPaintRoundTripCard : Claim7 := { stood := { row := scenetextPaintRoundTripRow, standIns := [], harness := (true, "2ee89a5a1fdd86fcb3cc3f59f67313011d541d865597dc1244034780290fa240"), looks := true }, kinds := [], alts := [], laidByText := true, laidKinds := [.data, .handle, .pinned], laidTests := true, laidLooks := .later }
def ScenetextPaintRoundTripCardSaid : Prop := Claim7.holds Tryz.pinned (.plain (OpenSpec.ofChange scenetextPaintRoundTripSpec)) scenetextPaintRoundTripCard

/-- THE SECOND FORM's CARD OF 'grisaillelaw45.ScenetextPaint'. -/
def scenetextPaintUptoCard : Claim7 := { stood := { row := scenetextPaintUptoRow, standIns := [], harness := (true, "2ee89a5a1fdd86fcb3cc3f59f67313011d541d865597dc1244034780290fa240"), looks := true }, kinds := [], alts := [], laidByText := true, laidKinds := [.data, .handle, .pinned], laidTests := true, laidLooks := .later }
def ScenetextPaintUptoCardSaid : Prop := Claim7.holds Tryz.pinned (.plain (OpenSpec.upto scenetextPaintSpec)) scenetextPaintUptoCard

/-- THE SECOND FORM's CARD OF 'grisaillelaw45.ScenetextPaintRoundTrip'. -/
def scenetextPaintRoundTripUptoCard : Claim7 := { stood := { row := scenetextPaintRoundTripUptoRow, standIns := [], harness := (true, "2ee89a5a1fdd86fcb3cc3f59f67313011d541d865597dc1244034780290fa240"), looks := true }, kinds := [], alts := [], laidByText := true, laidKinds := [.data, .handle, .pinned], laidTests := true, laidLooks := .later }
def ScenetextPaintRoundTripUptoCardSaid : Prop := Claim7.holds Tryz.pinned (.plain (OpenSpec.upto scenetextPaintRoundTripSpec)) scenetextPaintRoundTripUptoCard
end Rows
end Go.Proofs.YtncodmhgfkailaaGreatDoor
