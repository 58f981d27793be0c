/-
 The reference's functions of numbers.
-/
import Derived.Test.YtoeiphicmcndlaaGreatDoorAWl
import Derived.Test.YtoeiphicmcndlaaGreatDoorARdd
import Derived.Test.YtoeiphicmcndlaaGreatDoorARe
import Derived.Test.YtoeiphicmcndlaaGreatDoorAWk
import Derived.Test.YtoeiphicmcndlaaGreatDoorALit
namespace Go.Proofs.YtoeiphicmcndlaaGreatDoor
set_option linter.unusedVariables false
set_option linter.unusedSimpArgs false
open Go.RowKit

end Go.Proofs.YtoeiphicmcndlaaGreatDoor
