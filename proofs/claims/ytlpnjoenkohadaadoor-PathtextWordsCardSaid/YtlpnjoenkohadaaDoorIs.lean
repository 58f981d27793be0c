/-
  Integers: the closure that applies a sign.
-/
import Derived.Test.YtlpnjoenkohadaaDoorIc
namespace Go.Proofs.YtlpnjoenkohadaaDoor
set_option linter.unusedVariables false
set_option linter.unusedSimpArgs false
open Go.RowKit
attribute [local go_sem ↓] Go.wp_at_zero Go.wp_at_succ

/-- Floor division by absolute values and signs. -/
theorem fdiv_signs (x y : Int) (hy : y ≠ 0) : zi (!(decide (x < 0) == decide (y < 0))) (x.natAbs / y.natAbs + if (!(decide (x < 0) == decide (y < 0))) && decide (0 < x.natAbs % y.natAbs) then 1 else 0) = x.fdiv y := by
  have hpos : ∀ (a b q r : Nat), 0 < b → b * q + r = a → r < b → (a : Int).fdiv b = q ∧ (-(a : Int)).fdiv b = -((q + if 0 < r then 1 else 0 : Nat) : Int) := by
    intro a b q r hb h hr
    have hb' : (0 : Int) ≤ (b : Int) := by omega
    rw [Int.fdiv_eq_ediv_of_nonneg _ hb', Int.fdiv_eq_ediv_of_nonneg _ hb']
    constructor
    · exact ((Int.ediv_emod_unique (by omega)).2 ⟨(by rw [← h]; push_cast; rw [Int.add_comm]), by omega, by omega⟩).1
    · by_cases h0 : 0 < r
      · rw [if_pos h0]
        refine ((Int.ediv_emod_unique (r := (b : Int) - r) (by omega)).2 ⟨?_, by omega, by omega⟩).1
        rw [← h]; push_cast; grind
      · obtain rfl : r = 0 := by omega
        rw [if_neg h0]
        refine ((Int.ediv_emod_unique (r := 0) (by omega)).2 ⟨?_, by omega, by omega⟩).1
        rw [← h]; push_cast; grind
  obtain ⟨h1, h2⟩ := hpos x.natAbs y.natAbs (x.natAbs / y.natAbs) (x.natAbs % y.natAbs) (by omega) (Nat.div_add_mod _ _) (Nat.mod_lt _ (by omega))
  by_cases hx : x < 0 <;> by_cases hy' : y < 0
  · rw [decide_eq_true hx, decide_eq_true hy']
    have e : x.fdiv y = (x.natAbs : Int).fdiv y.natAbs := by rw [← Int.neg_fdiv_neg, show -x = x.natAbs by omega, show -y = y.natAbs by omega]
    rw [e, h1]; simp [zi]
  · rw [decide_eq_true hx, decide_eq_false hy']
    have e : x.fdiv y = (-(x.natAbs : Int)).fdiv y.natAbs := by rw [show -(x.natAbs : Int) = x by omega, show (y.natAbs : Int) = y by omega]
    rw [e, h2]; simp [zi]
  · rw [decide_eq_false hx, decide_eq_true hy']
    have e : x.fdiv y = (-(x.natAbs : Int)).fdiv y.natAbs := by rw [← Int.neg_fdiv_neg, show -x = -(x.natAbs : Int) by omega, show -y = y.natAbs by omega]
    rw [e, h2]; simp [zi]
  · rw [decide_eq_false hx, decide_eq_false hy']
    have e : x.fdiv y = (x.natAbs : Int).fdiv y.natAbs := by rw [show (x.natAbs : Int) = x by omega, show (y.natAbs : Int) = y by omega]
    rw [e, h1]; simp [zi]

end Go.Proofs.YtlpnjoenkohadaaDoor
