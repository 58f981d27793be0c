/-
  Integers: DivRound, and the reference's.
-/
import Derived.Test.YtlpnjoenkohadaaDoorJd
namespace Go.Proofs.YtlpnjoenkohadaaDoor
set_option linter.unusedVariables false
set_option linter.unusedSimpArgs false
open Go.RowKit
attribute [local go_sem ↓] Go.wp_at_zero Go.wp_at_succ

/-- x / y, rounded to nearest, ties away from zero. -/
def rndI (x y : Int) : Int := if y = 0 then 0 else zi (!(decide (x < 0) == decide (y < 0))) ((2 * x.natAbs + y.natAbs) / (2 * y.natAbs))
theorem rnd_signs (s t : Bool) (a b : Nat) (hb : b ≠ 0) : rndI (zi s a) (zi t b) = zi (!(s == t)) ((2 * a + b) / (2 * b)) := by
  have h0 : zi t b ≠ 0 := by cases t <;> simp [zi] <;> omega
  rw [rndI, if_neg h0, zi_abs, zi_abs, zi_neg, zi_neg, decide_eq_true (Nat.pos_of_ne_zero hb), Bool.and_true]
  rcases Nat.eq_zero_or_pos a with h | h
  · subst h
    have e : (2 * 0 + b) / (2 * b) = 0 := Nat.div_eq_of_lt (by omega)
    rw [e]
    cases s <;> cases t <;> rfl
  · rw [decide_eq_true h, Bool.and_true]
theorem rndI_lt {x y : Int} {K : Nat} (h : x.natAbs < pw K) : (rndI x y).natAbs < pw (K + 1) := by
  unfold rndI
  split
  · exact pw_pos _
  · rename_i hy
    rw [zi_abs]
    have h1 : (2 * x.natAbs + y.natAbs) / (2 * y.natAbs) ≤ x.natAbs + 1 := by
      rw [Nat.div_le_iff_le_mul_add_pred (by omega)]
      have : 1 * x.natAbs ≤ y.natAbs * x.natAbs := Nat.mul_le_mul_right _ (by omega)
      have h3 : 2 * y.natAbs * (x.natAbs + 1) = 2 * (y.natAbs * x.natAbs) + 2 * y.natAbs := by grind
      omega
    have h2 := pw_pos K
    rw [pw_succ]; omega
def RetRII (w : World) (x y : Int) (K : Nat) (e : Ending) (w' : World) : Prop :=
  ∃ A n c l, e = .returned (.tuple #[.agg #[.bool (decide (rndI x y < 0)), .slice A n c], .int .i64 (divEI y)]) ∧ Norm l ∧ Own w' w.heap.size A n c l ∧ II w' (decide (rndI x y < 0)) A n c l (rndI x y) (K + 1) ∧ Below w.heap.size w w'
theorem shift_one (v : Nat) : shiftN v 1 = v * 2 := rfl

end Go.Proofs.YtlpnjoenkohadaaDoor
