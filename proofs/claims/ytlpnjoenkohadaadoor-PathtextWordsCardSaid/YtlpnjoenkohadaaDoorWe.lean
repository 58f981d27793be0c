/-
  Walks over natural: Shift.
-/
import Derived.Test.YtlpnjoenkohadaaDoorWd
import Derived.Test.YtlpnjoenkohadaaDoorNumB
import Derived.Deep.DeepCutAuto
namespace Go.Proofs.YtlpnjoenkohadaaDoor
set_option linter.unusedVariables false
set_option linter.unusedSimpArgs false
open Go.RowKit

def shiftN (v : Nat) (n : Int) : Nat := if 0 ≤ n then v * 2 ^ (min n.toNat 4096) else v / 2 ^ (-n).toNat

theorem up_wide {x k : Nat} (hx : x < 4294967296) (hk : k < 32) : IntKind.u64.wrap ((x : Int) * 2 ^ k) = ((x * 2 ^ k : Nat) : Int) := by
  have h1 := two_le31 hk
  have h2 : x * 2 ^ k ≤ 4294967295 * 2147483648 := Nat.mul_le_mul (by omega) h1
  have e : (x : Int) * 2 ^ k = ((x * 2 ^ k : Nat) : Int) := by rw [Int.natCast_mul, Int.natCast_pow]; rfl
  rw [e, u64_wrap]
  generalize x * 2 ^ k = y at h2 ⊢
  omega
theorem up_low {x k d : Nat} (hx : x < 4294967296) (hk : k < 32) (hd : d < 2 ^ k) :
    bits .or .u32 (d : Int) (IntKind.u64.wrap ((x : Int) * 2 ^ k) % 4294967296) = ((d + x * 2 ^ k % 4294967296 : Nat) : Int) := by
  obtain ⟨_, h1, h2⟩ := up_parts (two_split (k := k) (by omega)) hx
  have h3 := two_pos k
  rw [up_wide hx hk, show ((x * 2 ^ k : Nat) : Int) % 4294967296 = ((x * 2 ^ k % 4294967296 : Nat) : Int) by omega, u32_or_nat _ _ (by omega) (by omega), Nat.or_comm, nat_join k _ _ h1 hd, Nat.add_comm]
theorem up_high {x k : Nat} (hx : x < 4294967296) (hk : k < 32) :
    IntKind.u64.wrap ((x : Int) * 2 ^ k) / 4294967296 % 4294967296 = ((x * 2 ^ k / 4294967296 : Nat) : Int) := by
  obtain ⟨h0, _⟩ := up_parts (two_split (k := k) (by omega)) hx
  have h3 := two_le31 hk
  rw [up_wide hx hk]
  omega

theorem down_val {x y t : Nat} (hx : x < 4294967296) (hy : y < 4294967296) (ht : t < 32) :
    bits .or .u64 (x : Int) ((y : Int) * 4294967296) / 2 ^ t % 4294967296 = (((x + y * 4294967296) / 2 ^ t % 4294967296 : Nat) : Int) := by
  rw [show (y : Int) * 4294967296 = ((y * 4294967296 : Nat) : Int) by omega, u64_or_nat _ _ (by omega) (by omega), Nat.or_comm, nat_join 32 _ _ (by omega) (by omega), Nat.add_comm,
    Int.natCast_emod, Int.natCast_ediv, Int.natCast_pow]
  rfl

end Go.Proofs.YtlpnjoenkohadaaDoor
