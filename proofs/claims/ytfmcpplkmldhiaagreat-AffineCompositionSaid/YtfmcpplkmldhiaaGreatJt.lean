/-
  The reference of chapter 2: ToInt.
-/
import Derived.Test.YtfmcpplkmldhiaaGreatIt
namespace Go.Proofs.YtfmcpplkmldhiaaGreat
set_option linter.unusedVariables false
set_option linter.unusedSimpArgs false
open Go.RowKit
attribute [local go_sem ↓] Go.wp_at_zero Go.wp_at_succ

theorem or_join2 {x y : Nat} (hx : x < 4294967296) (hy : y < 4294967296) : bits .or .u64 (y : Int) ((x : Int) * 4294967296) = ((x * 4294967296 + y : Nat) : Int) := by
  rw [show (x : Int) * 4294967296 = ((x * 4294967296 : Nat) : Int) by omega, u64_or_nat _ _ (by omega) (by omega), Nat.or_comm, nat_join 32 _ _ (by omega) (by omega)]
theorem or_zero1 {y : Nat} (hy : y < 4294967296) : bits .or .u64 0 (y : Int) = (y : Int) := by
  rw [show (0 : Int) = ((0 : Nat) : Int) from rfl, u64_or_nat _ _ (by omega) (by omega), Nat.zero_or]

end Go.Proofs.YtfmcpplkmldhiaaGreat
