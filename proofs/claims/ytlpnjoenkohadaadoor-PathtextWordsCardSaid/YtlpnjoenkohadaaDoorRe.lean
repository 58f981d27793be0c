/-
  Walks over the reference of chapter 1: Sqrt.
-/
import Derived.Test.YtlpnjoenkohadaaDoorRdd
import Derived.Test.YtlpnjoenkohadaaDoorLit
import Derived.Test.YtlpnjoenkohadaaDoorNumD
namespace Go.Proofs.YtlpnjoenkohadaaDoor
set_option linter.unusedVariables false
set_option linter.unusedSimpArgs false
open Go.RowKit

theorem cmpN_le0 {x y : Nat} (h : x ≤ y) : cmpN x y ≤ 0 := by
  rcases Nat.lt_or_ge x y with h1 | h1
  · rw [cmpN_lt h1]; omega
  · rw [cmpN_eq (by omega)]; omega
theorem cmpN_gt0 {x y : Nat} (h : y < x) : ¬ cmpN x y ≤ 0 := by rw [cmpN_gt h]; omega
theorem sqr_up {r q a : Nat} (h : a < (r + q * 2) * (r + q * 2)) : a < (r + q + q) * (r + q + q) := by
  rw [show r + q + q = r + q * 2 by omega]; exact h
theorem sqr_start (v : Nat) : v < (0 + 2 ^ (bitsN v / 2 + 1)) * (0 + 2 ^ (bitsN v / 2 + 1)) := by
  rw [Nat.zero_add, ← Nat.pow_add]
  have h1 : v < 2 ^ bitsN v := by
    unfold bitsN
    split
    · subst_vars; decide
    · exact Nat.lt_log2_self
  exact Nat.lt_of_lt_of_le h1 (Nat.pow_le_pow_right (by omega) (by omega))
theorem le_sqr (x : Nat) : x ≤ x * x := by
  rcases Nat.eq_zero_or_pos x with h | h
  · subst h; exact Nat.le_refl _
  · calc x = x * 1 := (Nat.mul_one x).symm
      _ ≤ x * x := Nat.mul_le_mul_left _ h
theorem own_empty (w : World) : Own (w.alloc (.cells #[] 90)) w.heap.size (some ⟨w.heap.size, 0, none⟩) 0 0 [] := by
  obtain ⟨A1, c1, h1, ho⟩ := Own.of_row (own_lit w) Dig.nil rfl
  injection h1 with h1 h2 h3
  subst h3
  subst h1
  exact ho


end Go.Proofs.YtlpnjoenkohadaaDoor
