/-
  Plain facts on the reference's division: the estimate and its correction.
-/
import Derived.Test.YtlpnjoenkohadaaDoorNum
namespace Go.Proofs.YtlpnjoenkohadaaDoor
set_option linter.unusedVariables false
set_option linter.unusedSimpArgs false

/-- The estimate of the top digits is not too small. -/
theorem often_init {U V top v P ru rv : Nat} (hU : U = top * P + ru) (hV : V = v * P + rv) (hru : ru < P) (hv : 0 < v) : U < (top / v + 1) * V := by
  have h1 : top + 1 ≤ (top / v + 1) * v := by
    have e := Nat.div_add_mod' top v
    have := Nat.mod_lt top hv
    rw [Nat.add_mul]; omega
  have h2 : (top + 1) * P ≤ (top / v + 1) * v * P := Nat.mul_le_mul_right _ h1
  have h3 : (top / v + 1) * V = (top / v + 1) * v * P + (top / v + 1) * rv := by rw [hV]; grind
  rw [Nat.add_mul] at h2
  omega
theorem often_min {U V q : Nat} (h : U < (q + 1) * V) (hUV : U < 4294967296 * V) : U < (min q 4294967295 + 1) * V := by
  by_cases hq : q ≤ 4294967295
  · rw [Nat.min_eq_left hq]; exact h
  · rw [Nat.min_eq_right (by omega)]; exact hUV
theorem often_end {U V d : Nat} (h1 : d * V ≤ U) (h2 : U < (d + 1) * V) : d = U / V ∧ U - d * V = U % V := by
  have h3 : U / V = d := Nat.div_eq_of_lt_le h1 h2
  refine ⟨h3.symm, ?_⟩
  have h4 := Nat.div_add_mod' U V
  rw [h3] at h4; omega

end Go.Proofs.YtlpnjoenkohadaaDoor
