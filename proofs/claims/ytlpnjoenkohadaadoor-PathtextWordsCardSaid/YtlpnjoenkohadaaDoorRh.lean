/-
  Walks over the reference of chapter 1: often.
-/
import Derived.Test.YtlpnjoenkohadaaDoorRe
import Derived.Test.YtlpnjoenkohadaaDoorNumF
import Derived.BigQuiet
namespace Go.Proofs.YtlpnjoenkohadaaDoor
set_option linter.unusedVariables false
set_option linter.unusedSimpArgs false
open Go.RowKit

end Go.Proofs.YtlpnjoenkohadaaDoor
