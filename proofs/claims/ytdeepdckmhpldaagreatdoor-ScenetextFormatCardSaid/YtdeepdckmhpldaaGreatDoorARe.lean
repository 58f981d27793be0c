/-
 The reference's functions of numbers.
-/
import Derived.Test.YtdeepdckmhpldaaGreatDoorARdd
import Derived.Test.YtdeepdckmhpldaaGreatDoorALit
import Derived.Test.YtdeepdckmhpldaaGreatDoorANumC
namespace Go.Proofs.YtdeepdckmhpldaaGreatDoor
set_option linter.unusedVariables false
set_option linter.unusedSimpArgs false
open Go.RowKit
theorem own_empty (w : World) : Pk (w.alloc (.cells #[] 136)) w.heap.size (some ⟨w.heap.size, 0, none⟩) 0 0 [] := by
 obtain ⟨A1, c1, h1, ho⟩ := Pk.of_row (Tu w) M9.nil rfl
 injection h1 with h1 h2 h3
 subst h3
 subst h1
 exact ho
end Go.Proofs.YtdeepdckmhpldaaGreatDoor
