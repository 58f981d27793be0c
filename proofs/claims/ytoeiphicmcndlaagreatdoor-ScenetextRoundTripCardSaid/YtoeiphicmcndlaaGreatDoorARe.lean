/-
 The reference's functions of numbers.
-/
import Derived.Test.YtoeiphicmcndlaaGreatDoorARdd
import Derived.Test.YtoeiphicmcndlaaGreatDoorALit
import Derived.Test.YtoeiphicmcndlaaGreatDoorANumC
namespace Go.Proofs.YtoeiphicmcndlaaGreatDoor
set_option linter.unusedVariables false
set_option linter.unusedSimpArgs false
open Go.RowKit
theorem own_empty(w:World):Py (w.alloc (.cells #[] 175)) w.heap.size (some ⟨w.heap.size,0,none⟩) 0 0 []:=by
 obtain⟨A1,c1,h1,ho⟩:=Py.of_row (X7 w) N8.nil rfl
 injection h1 with h1 h2 h3
 subst h3
 subst h1
 exact ho
end Go.Proofs.YtoeiphicmcndlaaGreatDoor
