/-
  Walks over natural: DivMod.
-/
import Derived.Test.YtlpnjoenkohadaaDoorWg
import Derived.Test.YtlpnjoenkohadaaDoorShelf
namespace Go.Proofs.YtlpnjoenkohadaaDoor
set_option linter.unusedVariables false
set_option linter.unusedSimpArgs false
open Go.RowKit

theorem dg_zero_of_lt {l : List Nat} {k : Nat} (h : val l < pw k) : ∀ i, k ≤ i → dg l i = 0 := by
  intro i hi
  rcases Nat.eq_zero_or_pos (dg l i) with e | e
  · exact e
  · have h1 := lo_le l (i + 1)
    rw [lo_succ] at h1
    have h2 : 1 * pw i ≤ dg l i * pw i := Nat.mul_le_mul_right _ e
    have h3 := pw_le hi
    omega

/-- The error code of a division: 9 by zero, else 0. -/
def divE (b : Nat) : Int := if b = 0 then 9 else 0
def modN (a b : Nat) : Nat := if b = 0 then 0 else a % b
theorem divE_pos {b : Nat} (h : b ≠ 0) : divE b = 0 := if_neg h
theorem modN_pos {a b : Nat} (h : b ≠ 0) : modN a b = a % b := if_neg h
/-- Quotient, remainder and error, in new memory. -/
def DivPost (w : World) (a b : Nat) (e : Ending) (w' : World) : Prop :=
  ∃ A1 n1 c1 l1 A2 n2 c2 l2, e = .returned (.tuple #[.slice A1 n1 c1, .slice A2 n2 c2, .int .i64 (divE b)]) ∧ Norm l1 ∧ val l1 = a / b ∧ Norm l2 ∧ val l2 = modN a b ∧
    Own w' w.heap.size A1 n1 c1 l1 ∧ Own w' w.heap.size A2 n2 c2 l2 ∧ Below w.heap.size w w'

end Go.Proofs.YtlpnjoenkohadaaDoor
