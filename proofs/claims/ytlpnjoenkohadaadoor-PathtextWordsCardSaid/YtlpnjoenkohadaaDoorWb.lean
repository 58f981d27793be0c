/-
  Walks over natural: Cmp, Sub, Mul, one.
-/
import Derived.Test.YtlpnjoenkohadaaDoorWa
import Derived.Deep.QuietTactic
import Derived.BigQuiet
namespace Go.Proofs.YtlpnjoenkohadaaDoor
set_option linter.unusedVariables false
set_option linter.unusedSimpArgs false
open Go.RowKit

theorem In.drewN {w : World} {A : Option Addr} {n c : Nat} {l : List Nat} (h : In w A n c l) (q : Nat) : In (w.drewN q) A n c l := ⟨h.dig, h.len, h.le, h.cap, h.rd⟩
theorem In.drew {w : World} {A : Option Addr} {n c : Nat} {l : List Nat} (h : In w A n c l) : In w.drew A n c l := ⟨h.dig, h.len, h.le, h.cap, h.rd⟩
theorem Own.drewN {w : World} {B : Nat} {A : Option Addr} {n c : Nat} {l : List Nat} (h : Own w B A n c l) (q : Nat) : Own (w.drewN q) B A n c l := ⟨h.toIn.drewN q, h.own⟩
theorem Own.drew {w : World} {B : Nat} {A : Option Addr} {n c : Nat} {l : List Nat} (h : Own w B A n c l) : Own w.drew B A n c l := ⟨h.toIn.drew, h.own⟩
theorem below_drewN {B : Nat} {a w : World} (h : Below B a w) (n : Nat) : Below B a (w.drewN n) := ⟨h.os, h.tape, h.output, h.size, h.block⟩

/-- The call hands back v and at most draws. -/
def Qd (w w' : World) : Prop := ∃ q, w' = w.drewN q
theorem Qd.refl (w : World) : Qd w w := ⟨0, rfl⟩
theorem Qd.drewN {w w' : World} (h : Qd w w') (n : Nat) : Qd w (w'.drewN n) := by
  obtain ⟨q, rfl⟩ := h
  exact ⟨q + n, World.drewN_drewN ..⟩
theorem Qd.of (w : World) (n : Nat) : Qd w (w.drewN n) := ⟨n, rfl⟩
def RetQ (w : World) (v : Value) (e : Ending) (w' : World) : Prop := e = .returned v ∧ Qd w w'

end Go.Proofs.YtlpnjoenkohadaaDoor
