/-
  Walks over the reference of chapter 1: Mul.
-/
import Derived.Test.YtlpnjoenkohadaaRb
namespace Go.Proofs.Ytlpnjoenkohadaa
set_option linter.unusedVariables false
set_option linter.unusedSimpArgs false
open Go.RowKit

end Go.Proofs.Ytlpnjoenkohadaa
