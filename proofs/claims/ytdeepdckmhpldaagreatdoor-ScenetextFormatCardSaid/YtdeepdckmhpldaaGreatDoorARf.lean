/-
 The reference's functions of numbers.
-/
import Derived.Test.YtdeepdckmhpldaaGreatDoorAWl
import Derived.Test.YtdeepdckmhpldaaGreatDoorARdd
import Derived.Test.YtdeepdckmhpldaaGreatDoorARe
namespace Go.Proofs.YtdeepdckmhpldaaGreatDoor
set_option linter.unusedVariables false
set_option linter.unusedSimpArgs false
open Go.RowKit

end Go.Proofs.YtdeepdckmhpldaaGreatDoor
