/-
  All pixels of the page of a small scene are valid, and opaque if the background is opaque. The row's closed facts, one by one.
  No condition beyond the given statement's own.
-/
import Derived.Test.YtoakjcolbjifnaaGreatDoorRows
import Derived.WalkKit
import Derived.ProofKit
import Derived.JoinedCond
import Derived.RowKit
namespace Go.Proofs.YtoakjcolbjifnaaGreatDoor
open Go.RowKit
theorem fb05 : namedTie Tryz.pinned.checked.prog Rows.topValidPixelsRow.named (OpenSpec.ofChange Rows.topValidPixelsSpec).bare.vars = true := by kernel_rfl
theorem fb04 : Tryz.f3.params.all (Tryz.pinned.checked.prog.readableRec ·) = true := by kernel_rfl
theorem fb14 : (Rows.topValidPixelsRow.maps == (Tryz.f3.params.toList ++ (OpenSpec.ofChange Rows.topValidPixelsSpec).bare.plain.varTypes Tryz.pinned.checked.prog).any (Tryz.pinned.checked.prog.mapsRec ·)) = true := by kernel_rfl
theorem fb15 : (Rows.topValidPixelsRow.ifaces == (Tryz.f3.params.toList ++ (OpenSpec.ofChange Rows.topValidPixelsSpec).bare.plain.varTypes Tryz.pinned.checked.prog).any (Tryz.pinned.checked.prog.ifacesRec ·)) = true := by kernel_rfl
theorem fb16 : (Rows.topValidPixelsRow.mapsOut == Tryz.pinned.checked.prog.mapsAmong Tryz.f3.resultTypes.toList) = true := by kernel_rfl
theorem fb17 : (Rows.topValidPixelsRow.loops == (Tryz.f3.params.toList ++ (OpenSpec.ofChange Rows.topValidPixelsSpec).bare.plain.varTypes Tryz.pinned.checked.prog).any (Tryz.pinned.checked.prog.loopsFrom ·)) = true := by kernel_rfl
theorem fb18 : (Rows.topValidPixelsRow.wideKeys == (Tryz.f3.params.toList ++ (OpenSpec.ofChange Rows.topValidPixelsSpec).bare.plain.varTypes Tryz.pinned.checked.prog ++ Tryz.f3.resultTypes.toList).any (Tryz.pinned.checked.prog.wideKeysFrom ·)) = true := by kernel_rfl
theorem fb22 : (Rows.topValidPixelsRow.loopsOut == Tryz.f3.resultTypes.toList.any (Tryz.pinned.checked.prog.loopsFrom ·)) = true := by kernel_rfl
theorem fb23 : (Rows.topValidPixelsRow.plainKeys == Tryz.pinned.checked.prog.plainKeys) = true := by kernel_rfl
theorem fb25 : Tryz.pinned.checked.prog.stopsHeard = true := by kernel_rfl
theorem fb26 : Tryz.pinned.checked.prog.mayEnter = true := by kernel_rfl
theorem fb27 : (Rows.topValidPixelsRow.lifted == Tryz.pinned.checked.prog.liftsFinal) = true := by kernel_rfl
theorem fb28 : (Tryz.pinned.checked.prog.make == some Rows.topValidPixelsRow.make) = true := by kernel_rfl
theorem fb30 : (Rows.topValidPixelsRow.pinned == Rows.topValidPixelsRow.pinnedBy) = true := by kernel_rfl
theorem fb31 : (Rows.topValidPixelsRow.veiled == (Tryz.f3.params.toList ++ (OpenSpec.ofChange Rows.topValidPixelsSpec).bare.plain.varTypes Tryz.pinned.checked.prog ++ Tryz.f3.resultTypes.toList).any (Tryz.pinned.checked.prog.veiledRec ·)) = true := by kernel_rfl
theorem fb32 : Rows.topValidPixelsRow.veiledFits Tryz.pinned.checked.prog Tryz.f3.params.toList (Tryz.f3.params.toList ++ (OpenSpec.ofChange Rows.topValidPixelsSpec).bare.plain.varTypes Tryz.pinned.checked.prog ++ Tryz.f3.resultTypes.toList) = true := by kernel_rfl
end Go.Proofs.YtoakjcolbjifnaaGreatDoor
