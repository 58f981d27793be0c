/-
  All pixels of the page of a small scene are valid, and opaque if the background is opaque. The row's closed facts.
  No condition beyond the given statement's own.
-/
import Derived.Test.YtoakjcolbjifnaaGreatDoorRows
import Derived.Test.YtoakjcolbjifnaaGreatDoorPValE
import Derived.WalkKit
import Derived.ProofKit
import Derived.JoinedCond
import Derived.RowKit
namespace Go.Proofs.YtoakjcolbjifnaaGreatDoor
open Go.RowKit
theorem fa1_3 : laidOutB Tryz.prog = true := by kernel_rfl
theorem fa2_3 : mapsRowed Tryz.prog = true := by kernel_rfl
theorem fa3_3 : (Rows.topValidPixelsRow.inPlace == Tryz.pinned.checked.prog.inPlace 3) = true := by kernel_rfl
theorem fa4_3 : (Rows.topValidPixelsRow.unfollowed == Tryz.pinned.checked.prog.unfollowed 3) = true := by kernel_rfl
theorem fa5_3 : (Rows.topValidPixelsRow.recurses == Tryz.pinned.checked.prog.recurses 3) = true := by kernel_rfl
theorem fa6_3 : (Rows.topValidPixelsRow.named == Tryz.pinned.checked.prog.varsNamed 3) = true := by kernel_rfl
theorem and_s3 {a b : Bool} (h1 : a = true) (h2 : b = true) : (a && b) = true := by rw [h1, h2]; rfl
theorem facts3 : joinedFacts Tryz.pinned.checked.prog 3 Tryz.f3 (OpenSpec.ofChange Rows.topValidPixelsSpec).bare Rows.topValidPixelsRow = true := by
  unfold joinedFacts
  refine and_s3 ?_ fb32
  refine and_s3 ?_ fb31
  refine and_s3 ?_ fb30
  refine and_s3 ?_ (by kernel_rfl)
  refine and_s3 ?_ fb28
  refine and_s3 ?_ fb27
  refine and_s3 ?_ fb26
  refine and_s3 ?_ fb25
  refine and_s3 ?_ (by kernel_rfl)
  refine and_s3 ?_ fb23
  refine and_s3 ?_ fb22
  refine and_s3 ?_ (by kernel_rfl)
  refine and_s3 ?_ (by kernel_rfl)
  refine and_s3 ?_ (by kernel_rfl)
  refine and_s3 ?_ fb18
  refine and_s3 ?_ fb17
  refine and_s3 ?_ fb16
  refine and_s3 ?_ fb15
  refine and_s3 ?_ fb14
  refine and_s3 ?_ fa6_3
  refine and_s3 ?_ fa5_3
  refine and_s3 ?_ fa4_3
  refine and_s3 ?_ fa3_3
  refine and_s3 ?_ (by kernel_rfl)
  refine and_s3 ?_ (by kernel_rfl)
  refine and_s3 ?_ (by kernel_rfl)
  refine and_s3 ?_ (by kernel_rfl)
  refine and_s3 ?_ fb05
  refine and_s3 ?_ fb04
  refine and_s3 ?_ fa2_3
  refine and_s3 ?_ fa1_3
  kernel_rfl
end Go.Proofs.YtoakjcolbjifnaaGreatDoor
