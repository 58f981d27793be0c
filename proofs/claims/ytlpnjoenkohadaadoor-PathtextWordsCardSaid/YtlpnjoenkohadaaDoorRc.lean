/-
  Walks over the reference of chapter 1: Mul.
-/
import Derived.Test.YtlpnjoenkohadaaDoorRb
namespace Go.Proofs.YtlpnjoenkohadaaDoor
set_option linter.unusedVariables false
set_option linter.unusedSimpArgs false
open Go.RowKit

end Go.Proofs.YtlpnjoenkohadaaDoor
