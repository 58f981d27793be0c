/-
  Walks over natural: DivMod, the long division.
-/
import Derived.Test.YtlpnjoenkohadaaDoorWh
namespace Go.Proofs.YtlpnjoenkohadaaDoor
set_option linter.unusedVariables false
set_option linter.unusedSimpArgs false
open Go.RowKit

theorem len_ge {l : List Nat} {k : Nat} (hd : Dig l) (h : pw k ≤ val l) : k + 1 ≤ l.length := by
  rcases Nat.lt_or_ge k l.length with h1 | h1
  · exact h1
  · have := val_lt_of hd h1; omega

theorem round_end {U U' Q : List Nat} {k L q V A : Nat} (hkQ : k < Q.length) (hz : ∀ j, k + (L + 1) ≤ j → dg U j = 0) (hz' : ∀ j, k + (L + 1) ≤ j → dg U' j = 0) (hlow : ∀ j, j < k → dg U' j = dg U j)
    (hP : pl U' k (L + 1) + q * V = pl U k (L + 1)) (hI : val (Q.drop (k + 1)) * pw (k + 1) * V + val U = A) (hlt : pl U' k (L + 1) < V) :
    val ((Q.set k q).drop k) * pw k * V + val U' = A ∧ val (U'.drop k) < V :=
  ⟨div_round hkQ hz hz' hlow hP hI, by rw [pl_val hz']; exact hlt⟩
theorem shiftN_neg (v t : Nat) : shiftN v (-(t : Int)) = v / 2 ^ t := by
  unfold shiftN
  by_cases h : t = 0
  · subst h; simp
  · rw [if_neg (by omega)]
    congr 2
    omega

end Go.Proofs.YtlpnjoenkohadaaDoor
