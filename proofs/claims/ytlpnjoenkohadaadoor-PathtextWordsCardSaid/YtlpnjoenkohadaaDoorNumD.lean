/-
  Plain facts: the square root.
-/
import Derived.Test.YtlpnjoenkohadaaDoorNumC
namespace Go.Proofs.YtlpnjoenkohadaaDoor
set_option linter.unusedVariables false
set_option linter.unusedSimpArgs false

theorem sqrt_step {a x y : Nat} (hx : 1 ≤ x) (hy : y = (x + a / x) / 2) : a < (y + 1) * (y + 1) ∧ (x ≤ y → x * x ≤ a) := by
  have h1 := Nat.div_add_mod a x
  have h2 := Nat.mod_lt a (show x > 0 by omega)
  generalize a / x = q at h1 hy
  have h6 : x + (q + 1) ≤ 2 * (y + 1) := by omega
  refine ⟨?_, fun h => ?_⟩
  · have h4 : a < x * (q + 1) := by rw [Nat.mul_add]; omega
    generalize q + 1 = z at h4 h6
    have h7 : 4 * (x * z) ≤ (x + z) * (x + z) := by
      rcases Nat.le_total x z with h8 | h8
      · obtain ⟨d, rfl⟩ : ∃ d, z = x + d := ⟨z - x, by omega⟩
        have : (x + (x + d)) * (x + (x + d)) = 4 * (x * (x + d)) + d * d := by grind
        omega
      · obtain ⟨d, rfl⟩ : ∃ d, x = z + d := ⟨x - z, by omega⟩
        have : ((z + d) + z) * ((z + d) + z) = 4 * ((z + d) * z) + d * d := by grind
        omega
    have h9 : (x + z) * (x + z) ≤ (2 * (y + 1)) * (2 * (y + 1)) := Nat.mul_le_mul h6 h6
    have h10 : (2 * (y + 1)) * (2 * (y + 1)) = 4 * ((y + 1) * (y + 1)) := by grind
    omega
  · have h4 : x ≤ q := by omega
    have h5 : x * x ≤ x * q := Nat.mul_le_mul_left _ h4
    omega
/-- r is the square root of a, rounded down. -/
def IsSqrt (a r : Nat) : Prop := r * r ≤ a ∧ a < (r + 1) * (r + 1)
theorem IsSqrt.unique {a r s : Nat} (h : IsSqrt a r) (k : IsSqrt a s) : r = s := by
  rcases Nat.lt_trichotomy r s with h1 | h1 | h1
  · have := Nat.mul_le_mul (show r + 1 ≤ s by omega) (show r + 1 ≤ s by omega)
    have := h.2; have := k.1; omega
  · exact h1
  · have := Nat.mul_le_mul (show s + 1 ≤ r by omega) (show s + 1 ≤ r by omega)
    have := k.2; have := h.1; omega
theorem sqrt_start {a : Nat} : a < (2 ^ ((bitsN a + 1) / 2) + 1) * (2 ^ ((bitsN a + 1) / 2) + 1) := by
  have h1 : a < 2 ^ bitsN a := by
    unfold bitsN
    split
    · subst_vars; decide
    · exact Nat.lt_log2_self
  have h2 : 2 ^ bitsN a ≤ 2 ^ ((bitsN a + 1) / 2 + (bitsN a + 1) / 2) := Nat.pow_le_pow_right (by omega) (by omega)
  rw [Nat.pow_add] at h2
  generalize 2 ^ ((bitsN a + 1) / 2) = z at h2 ⊢
  have : (z + 1) * (z + 1) = z * z + 2 * z + 1 := by grind
  omega
theorem bitsN_lt {v k : Nat} (h : v < 2 ^ k) : bitsN v ≤ k := by
  unfold bitsN
  split
  · omega
  · rename_i h0
    have := Nat.log2_self_le h0
    rcases Nat.lt_or_ge (Nat.log2 v) k with h1 | h1
    · exact h1
    · have := Nat.pow_le_pow_right (show 2 > 0 by omega) h1
      omega
theorem bitsN_zero {v : Nat} : bitsN v = 0 ↔ v = 0 := by
  unfold bitsN; split <;> omega

end Go.Proofs.YtlpnjoenkohadaaDoor
