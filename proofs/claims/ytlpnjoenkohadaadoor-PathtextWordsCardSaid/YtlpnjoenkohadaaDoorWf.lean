/-
  Walks over natural: guess, take.
-/
import Derived.Test.YtlpnjoenkohadaaDoorWe
import Derived.Test.YtlpnjoenkohadaaDoorNumC
namespace Go.Proofs.YtlpnjoenkohadaaDoor
set_option linter.unusedVariables false
set_option linter.unusedSimpArgs false
open Go.RowKit

theorem guess_new {q r x top U V : Nat} (hq : 1 ≤ q) (h : q * x + r = top) (hd : U < q * V) : (q - 1) * x + (r + x) = top ∧ U < (q - 1 + 1) * V := by
  obtain ⟨m, rfl⟩ : ∃ m, q = m + 1 := ⟨q - 1, by omega⟩
  rw [Nat.add_sub_cancel]
  rw [Nat.add_mul] at h
  exact ⟨by omega, hd⟩

end Go.Proofs.YtlpnjoenkohadaaDoor
