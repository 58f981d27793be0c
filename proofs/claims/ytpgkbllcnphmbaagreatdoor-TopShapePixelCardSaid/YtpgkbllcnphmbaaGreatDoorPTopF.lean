/-
  On a page with one shape of one color each pixel is that color over the background. The row's closed facts.
  No condition beyond the given statement's own.
-/
import Derived.Test.YtpgkbllcnphmbaaGreatDoorRows
import Derived.WalkKit
import Derived.ProofKit
import Derived.JoinedCond
import Derived.RowKit
namespace Go.Proofs.YtpgkbllcnphmbaaGreatDoor
open Go.RowKit
theorem fa1_3 : laidOutB Tryz.prog = true := by kernel_rfl
theorem fa2_3 : mapsRowed Tryz.prog = true := by kernel_rfl
theorem fa3_3 : (Rows.topShapePixelRow.inPlace == Tryz.pinned.checked.prog.inPlace 3) = true := by kernel_rfl
theorem fa4_3 : (Rows.topShapePixelRow.unfollowed == Tryz.pinned.checked.prog.unfollowed 3) = true := by kernel_rfl
theorem fa5_3 : (Rows.topShapePixelRow.recurses == Tryz.pinned.checked.prog.recurses 3) = true := by kernel_rfl
theorem fa6_3 : (Rows.topShapePixelRow.named == Tryz.pinned.checked.prog.varsNamed 3) = true := by kernel_rfl
theorem and_s3 {a b : Bool} (h1 : a = true) (h2 : b = true) : (a && b) = true := by rw [h1, h2]; rfl
theorem facts3 : joinedFacts Tryz.pinned.checked.prog 3 Tryz.f3 (OpenSpec.ofChange Rows.topShapePixelSpec).bare Rows.topShapePixelRow = true := by
  unfold joinedFacts
  refine and_s3 ?_ (by kernel_rfl)
  refine and_s3 ?_ (by kernel_rfl)
  refine and_s3 ?_ (by kernel_rfl)
  refine and_s3 ?_ (by kernel_rfl)
  refine and_s3 ?_ (by kernel_rfl)
  refine and_s3 ?_ (by kernel_rfl)
  refine and_s3 ?_ (by kernel_rfl)
  refine and_s3 ?_ (by kernel_rfl)
  refine and_s3 ?_ (by kernel_rfl)
  refine and_s3 ?_ (by kernel_rfl)
  refine and_s3 ?_ (by kernel_rfl)
  refine and_s3 ?_ (by kernel_rfl)
  refine and_s3 ?_ (by kernel_rfl)
  refine and_s3 ?_ (by kernel_rfl)
  refine and_s3 ?_ (by kernel_rfl)
  refine and_s3 ?_ (by kernel_rfl)
  refine and_s3 ?_ (by kernel_rfl)
  refine and_s3 ?_ (by kernel_rfl)
  refine and_s3 ?_ (by kernel_rfl)
  refine and_s3 ?_ fa6_3
  refine and_s3 ?_ fa5_3
  refine and_s3 ?_ fa4_3
  refine and_s3 ?_ fa3_3
  refine and_s3 ?_ (by kernel_rfl)
  refine and_s3 ?_ (by kernel_rfl)
  refine and_s3 ?_ (by kernel_rfl)
  refine and_s3 ?_ (by kernel_rfl)
  refine and_s3 ?_ (by kernel_rfl)
  refine and_s3 ?_ (by kernel_rfl)
  refine and_s3 ?_ fa2_3
  refine and_s3 ?_ fa1_3
  kernel_rfl
end Go.Proofs.YtpgkbllcnphmbaaGreatDoor
