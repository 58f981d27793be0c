/-
 The reference's functions of numbers.
-/
import Derived.Test.YtncodmhgfkailaaGreatDoorARdd
import Derived.Test.YtncodmhgfkailaaGreatDoorALit
import Derived.Test.YtncodmhgfkailaaGreatDoorANumC
namespace Go.Proofs.YtncodmhgfkailaaGreatDoor
set_option linter.unusedVariables false
set_option linter.unusedSimpArgs false
open Go.RowKit
theorem own_empty (w : World) : O7 (w.alloc (.cells #[] 218)) w.heap.size (some ⟨w.heap.size, 0, none⟩) 0 0 [] := by
 obtain ⟨A1, c1, h1, ho⟩ := O7.of_row (own_lit w) M7.nil rfl
 injection h1 with h1 h2 h3
 subst h3
 subst h1
 exact ho
end Go.Proofs.YtncodmhgfkailaaGreatDoor
