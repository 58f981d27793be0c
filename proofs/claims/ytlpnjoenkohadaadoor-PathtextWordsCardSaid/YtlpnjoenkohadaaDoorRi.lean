/-
  Walks over the reference of chapter 1: DivMod, GCD.
-/
import Derived.Test.YtlpnjoenkohadaaDoorRh
import Derived.Test.YtlpnjoenkohadaaDoorWj
import Derived.Test.YtlpnjoenkohadaaDoorRdd
namespace Go.Proofs.YtlpnjoenkohadaaDoor
set_option linter.unusedVariables false
set_option linter.unusedSimpArgs false
open Go.RowKit

theorem cons_own {w : World} {B k x : Nat} {v : Value} {d : Nat} {l : List Nat} {X : Int} (h : w.ownsRow B 90 1 v (k + 1 + 1) (u32s (d :: l) ++ [.int .u32 X])) (hX : X = (x : Int)) : w.ownsRow B 90 1 v (k + 1 + 1) (u32s (d :: (l ++ [x]))) := by
  rw [← List.cons_append]; exact snoc_own h hX

end Go.Proofs.YtlpnjoenkohadaaDoor
