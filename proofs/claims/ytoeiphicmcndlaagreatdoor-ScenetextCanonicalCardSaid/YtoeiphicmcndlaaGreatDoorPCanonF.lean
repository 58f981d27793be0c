/-
  ScenetextCanonical: a text that Parse takes is the text that Format writes of its scene, apart from its last newline. The row's closed facts.
  No condition beyond the given statement's own.
-/
import Derived.Test.YtoeiphicmcndlaaGreatDoorRows
import Derived.WalkKit
import Derived.ProofKit
import Derived.JoinedCond
import Derived.RowKit
namespace Go.Proofs.YtoeiphicmcndlaaGreatDoor
open Go.RowKit
theorem fa1_4 : laidOutB Tryz.prog = true := by kernel_rfl
theorem fa2_4 : mapsRowed Tryz.prog = true := by kernel_rfl
theorem fa3_4 : (Rows.scenetextCanonicalRow.inPlace == Tryz.pinned.checked.prog.inPlace 4) = true := by kernel_rfl
theorem fa4_4 : (Rows.scenetextCanonicalRow.unfollowed == Tryz.pinned.checked.prog.unfollowed 4) = true := by kernel_rfl
theorem fa5_4 : (Rows.scenetextCanonicalRow.recurses == Tryz.pinned.checked.prog.recurses 4) = true := by kernel_rfl
theorem fa6_4 : (Rows.scenetextCanonicalRow.named == Tryz.pinned.checked.prog.varsNamed 4) = true := by kernel_rfl
theorem and_s4 {a b : Bool} (h1 : a = true) (h2 : b = true) : (a && b) = true := by rw [h1, h2]; rfl
theorem facts4 : joinedFacts Tryz.pinned.checked.prog 4 Tryz.f4 (OpenSpec.ofChange Rows.scenetextCanonicalSpec).bare Rows.scenetextCanonicalRow = true := by
  unfold joinedFacts
  refine and_s4 ?_ (by kernel_rfl)
  refine and_s4 ?_ (by kernel_rfl)
  refine and_s4 ?_ (by kernel_rfl)
  refine and_s4 ?_ (by kernel_rfl)
  refine and_s4 ?_ (by kernel_rfl)
  refine and_s4 ?_ (by kernel_rfl)
  refine and_s4 ?_ (by kernel_rfl)
  refine and_s4 ?_ (by kernel_rfl)
  refine and_s4 ?_ (by kernel_rfl)
  refine and_s4 ?_ (by kernel_rfl)
  refine and_s4 ?_ (by kernel_rfl)
  refine and_s4 ?_ (by kernel_rfl)
  refine and_s4 ?_ (by kernel_rfl)
  refine and_s4 ?_ (by kernel_rfl)
  refine and_s4 ?_ (by kernel_rfl)
  refine and_s4 ?_ (by kernel_rfl)
  refine and_s4 ?_ (by kernel_rfl)
  refine and_s4 ?_ (by kernel_rfl)
  refine and_s4 ?_ (by kernel_rfl)
  refine and_s4 ?_ fa6_4
  refine and_s4 ?_ fa5_4
  refine and_s4 ?_ fa4_4
  refine and_s4 ?_ fa3_4
  refine and_s4 ?_ (by kernel_rfl)
  refine and_s4 ?_ (by kernel_rfl)
  refine and_s4 ?_ (by kernel_rfl)
  refine and_s4 ?_ (by kernel_rfl)
  refine and_s4 ?_ (by kernel_rfl)
  refine and_s4 ?_ (by kernel_rfl)
  refine and_s4 ?_ fa2_4
  refine and_s4 ?_ fa1_4
  kernel_rfl
end Go.Proofs.YtoeiphicmcndlaaGreatDoor
