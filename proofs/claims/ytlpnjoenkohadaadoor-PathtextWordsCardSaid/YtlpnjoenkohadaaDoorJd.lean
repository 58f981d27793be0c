/-
  The reference of chapter 2: DivMod.
-/
import Derived.Test.YtlpnjoenkohadaaDoorIv
import Derived.Test.YtlpnjoenkohadaaDoorHeldW
namespace Go.Proofs.YtlpnjoenkohadaaDoor
set_option linter.unusedVariables false
set_option linter.unusedSimpArgs false
open Go.RowKit
attribute [local go_sem ↓] Go.wp_at_zero Go.wp_at_succ

theorem fdiv_unique {x y q r : Int} (h : x = y * q + r) (hr : (0 ≤ r ∧ r < y) ∨ (y < r ∧ r ≤ 0)) : x.fdiv y = q ∧ x.fmod y = r := by
  have h1 : x.fdiv y = q := by
    rcases hr with ⟨h1, h2⟩ | ⟨h1, h2⟩
    · rw [Int.fdiv_eq_ediv_of_nonneg _ (by omega)]
      exact ((Int.ediv_emod_unique (by omega)).2 ⟨(by rw [h, Int.add_comm]), h1, h2⟩).1
    · rw [← Int.neg_fdiv_neg, Int.fdiv_eq_ediv_of_nonneg _ (by omega)]
      exact ((Int.ediv_emod_unique (r := -r) (by omega)).2 ⟨(by rw [h]; grind), by omega, by omega⟩).1
  refine ⟨h1, ?_⟩
  rw [Int.fmod_def, h1, h]; omega
theorem ref_dm (s t : Bool) (a b : Nat) (hb : b ≠ 0) :
    ((!(s == t)) = true ∧ a % b ≠ 0 → quoI (zi s a) (zi t b) = zi true (a / b) - 1 ∧ remI (zi s a) (zi t b) = zi s (a % b) + zi t b) ∧
    ((!(s == t)) = false ∨ a % b = 0 → quoI (zi s a) (zi t b) = zi (!(s == t)) (a / b) ∧ remI (zi s a) (zi t b) = zi s (a % b)) := by
  have h0 : zi t b ≠ 0 := by cases t <;> simp [zi] <;> omega
  have hd : (a : Int) = b * ((a / b : Nat) : Int) + ((a % b : Nat) : Int) := by
    have := Nat.div_add_mod a b
    rw [← Int.natCast_mul, ← Int.natCast_add, this]
  have hl : a % b < b := Nat.mod_lt _ (by omega)
  obtain ⟨q, hq⟩ : ∃ q, q = a / b := ⟨_, rfl⟩
  obtain ⟨r, hr⟩ : ∃ r, r = a % b := ⟨_, rfl⟩
  rw [← hq, ← hr] at hd
  rw [← hr] at hl
  rw [← hq, ← hr, quoI, remI, if_neg h0, if_neg h0]
  constructor
  · rintro ⟨h1, h2⟩
    refine fdiv_unique ?_ ?_
    · cases s <;> cases t <;> simp [zi] at * <;> rw [hd] <;> grind
    · cases s <;> cases t <;> simp [zi] at * <;> omega
  · intro h1
    refine fdiv_unique ?_ ?_
    · cases s <;> cases t <;> simp [zi] at * <;> rw [hd] <;> grind
    · cases s <;> cases t <;> simp [zi] at * <;> omega

end Go.Proofs.YtlpnjoenkohadaaDoor
