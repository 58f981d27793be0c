/-
  All pixels of the page of a small scene are valid: the program starts no goroutine.
  No condition beyond the given statement's own.
-/
import Derived.Test.YtoakjcolbjifnaaGreatDoorRows
import Derived.Test.YtoakjcolbjifnaaGreatDoorCards
namespace Go.Proofs.YtoakjcolbjifnaaGreatDoor
theorem goes_of {P : Program} {f : FuncId} {name : String} (hn : P.funcNamed name = some f) (ha : (P.funcs.toList.all fun fn => !fn.goes) = true) : P.goesAt .entering name = false := by
  have h : ∀ fn ∈ P.funcs.toList, fn.goes = false := fun fn hf => by
    have := List.all_eq_true.1 ha fn hf
    simpa using this
  have h2 : P.funcs.any Func.goes = false := by
    rw [← Array.any_toList]
    exact List.any_eq_false.2 fun x hx => by rw [h x hx]; decide
  unfold Program.goesAt Program.goesFrom
  rw [hn]
  show (P.goes f || false) = false
  unfold Program.goes
  rw [h2, Bool.and_false, Bool.or_false, Bool.or_false]
  refine List.any_eq_false.2 fun g _ => ?_
  cases hg : P.funcs[g]? with
  | none => decide
  | some fn =>
    show ¬ (fn.goes = true)
    rw [h fn (Array.mem_toList_iff.2 (Array.mem_of_getElem? hg))]
    decide
theorem goes_all : (Tryz.prog.funcs.toList.all fun fn => !fn.goes) = true := by kernel_rfl
theorem goes_at : Tryz.prog.funcNamed "grisaille/grisailletop.TopValidPixels" = some 3 := by kernel_rfl
theorem goes_no : false = Rows.topValidPixelsRow.goesBy Tryz.pinned.checked.prog := (goes_of goes_at goes_all).symm
end Go.Proofs.YtoakjcolbjifnaaGreatDoor
