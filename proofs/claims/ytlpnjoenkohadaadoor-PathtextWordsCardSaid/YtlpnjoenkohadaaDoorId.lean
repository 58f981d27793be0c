/-
  Integers: DivMod.
-/
import Derived.Test.YtlpnjoenkohadaaDoorIs
import Derived.Test.YtlpnjoenkohadaaDoorHeldW
namespace Go.Proofs.YtlpnjoenkohadaaDoor
set_option linter.unusedVariables false
set_option linter.unusedSimpArgs false
open Go.RowKit
attribute [local go_sem ↓] Go.wp_at_zero Go.wp_at_succ

/-- Behind 'a, b = New(a.Neg, a.Mag), New(b.Neg, b.Mag)'. -/
def Two (w : World) (B g0 g1 : Nat) (x y : Int) (rs : List (Nat × Nat)) (wx : World) : Prop :=
  ∃ A1 n1 c1 l1 A2 n2 c2 l2, (wx.cell? ⟨g0, 0, none⟩ = some (.bool (decide (x < 0))) ∧ wx.cell? ⟨g0, 1, none⟩ = some (.slice A1 n1 c1) ∧
    wx.cell? ⟨g1, 0, none⟩ = some (.bool (decide (y < 0))) ∧ wx.cell? ⟨g1, 1, none⟩ = some (.slice A2 n2 c2) ∧ Hid (Fr w rs wx)) ∧
    Norm l1 ∧ val l1 = x.natAbs ∧ Own wx B A1 n1 c1 l1 ∧ Norm l2 ∧ val l2 = y.natAbs ∧ Own wx B A2 n2 c2 l2 ∧ n1 ≤ 17179869184 ∧ n2 ≤ 17179869184 ∧ B ≤ wx.heap.size

def divEI (y : Int) : Int := if y = 0 then 9 else 0
def quoI (x y : Int) : Int := if y = 0 then 0 else x.fdiv y
def remI (x y : Int) : Int := if y = 0 then 0 else x.fmod y
theorem divE_abs (y : Int) : divE y.natAbs = divEI y := by
  unfold divE divEI
  by_cases h : y = 0
  · subst h; rfl
  · rw [if_neg h, if_neg (by omega)]
def DivPostI (w : World) (x y : Int) (e : Ending) (w' : World) : Prop :=
  ∃ A1 n1 c1 l1 A2 n2 c2 l2, e = .returned (.tuple #[.agg #[.bool (decide (quoI x y < 0)), .slice A1 n1 c1], .agg #[.bool (decide (remI x y < 0)), .slice A2 n2 c2], .int .i64 (divEI y)]) ∧
    Norm l1 ∧ val l1 = (quoI x y).natAbs ∧ Norm l2 ∧ val l2 = (remI x y).natAbs ∧ Own w' w.heap.size A1 n1 c1 l1 ∧ Own w' w.heap.size A2 n2 c2 l2 ∧ Below w.heap.size w w'
theorem fmod_lt_abs (x y : Int) (hy : y ≠ 0) : (x.fmod y).natAbs < y.natAbs := by
  have hp : ∀ a b : Int, 0 < b → (a.fmod b).natAbs < b.natAbs := by
    intro a b h
    rw [Int.fmod_eq_emod_of_nonneg _ (Int.le_of_lt h)]
    have h1 := Int.emod_nonneg a (b := b) (by omega)
    have h2 := Int.emod_lt_of_pos a h
    omega
  rcases Int.lt_trichotomy y 0 with h | h | h
  · have h1 := hp (-x) (-y) (by omega)
    rw [Int.neg_fmod_neg] at h1
    omega
  · exact absurd h hy
  · exact hp x y h

end Go.Proofs.YtlpnjoenkohadaaDoor
