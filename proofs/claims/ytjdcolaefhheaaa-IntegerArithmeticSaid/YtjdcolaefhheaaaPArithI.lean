/-
  Cmp, Neg, Add, Sub and Mul agree with the reference, and the results do not alias the arguments.
  No condition beyond the given statement's own.
-/
import Derived.Test.YtjdcolaefhheaaaRows
import Derived.Test.YtjdcolaefhheaaaKCA
import Derived.Test.YtjdcolaefhheaaaRowA
import Derived.WalkKit
import Derived.ProofKit
import Derived.OpenShut
import Derived.ShutString
import Derived.ChangeOld
import Derived.Below
namespace Go.Proofs.Ytjdcolaefhheaaa.integerArithmetic
open Go.ChangeShapes Go.WideShapes Go.ChangeAt Go.RowKit
open Go.ChangeMaps (open_string shut_string)
set_option linter.unusedVariables false

theorem own : ownKnob Try.prog.godebug = none := by kernel_rfl
theorem laidOut : laidOutB Try.prog = true := by kernel_rfl

theorem walk (b0 : Bool) (a0 : Option Addr) (n0 c0 : Nat) (l0 : List Nat) (b1 : Bool) (a1 : Option Addr) (n1 c1 : Nat) (l1 : List Nat) (w : World) (i0 : In w a0 n0 c0 l0) (i1 : In w a1 n1 c1 l1) :
    Calls Try.prog 7 #[.agg #[.bool b0, .slice a0 n0 c0], .agg #[.bool b1, .slice a1 n1 c1]] w fun e w' => e = .returned (.bool true) ∧ Below w.heap.size w w' :=
  (lawArithI (of_in0 i0) (of_in0 i1)).mono fun _ _ h => law_end h

set_option maxRecDepth 100000 in
theorem lifted (os : Os) (started : os.Started) (H : Type) (enc : TypeId × Value → H) :
    ReturnsInHanded {} Try.checked os 7 .any (Rows.integerArithmeticSpec.pre6 enc Try.prog Try.f7 Rows.integerArithmeticRow.domain false) (Rows.integerArithmeticSpec.post enc Try.prog Try.f7 false true false false) := by
  refine returnsInHanded_of_change (C := Try.checked) own started (by kernel_rfl) Try.func7
    (ChangeSpec.witness6 (enc := enc) (C := Try.checked) false ⟨#[], #[.agg #[.bool false, .slice none 0 0], .agg #[.bool false, .slice none 0 0]], []⟩ 8 (by kernel_rfl) (by kernel_rfl) (by kernel_rfl) (by kernel_rfl)) ?_
  intro W base args ds gs before hval0 hW hcnd _
  have hval : ∀ (j : Nat) t v, Try.f7.params[j]? = some t → args[j]? = some v → Value.okWide Try.prog W .any base t v := hval0
  have hW' := hW
  obtain ⟨p, q, hA0, hV, rfl, hfz, hnd⟩ := hW
  have hA : DataW.TrodAll enc Try.prog W 0 (fun _ => true) true Try.f7.params.toList args.toList ds p := hA0
  rw [Try.params7] at hA hval
  obtain ⟨v0, vs0, d0, ds0, p0, q0, hargs, rfl, rfl, h0, r0⟩ := trodAll_cons hA
  obtain ⟨v1, vs1, d1, ds1, p1, q1, rfl, rfl, rfl, h1, r1⟩ := trodAll_cons r0
  obtain ⟨rfl, rfl, rfl⟩ := trodAll_nil r1
  obtain rfl : args = #[v0, v1] := by cases args; simp_all
  obtain ⟨rfl, rfl⟩ := trodVars_none hV
  have k0 := h0
  have lt0 : ∀ x ∈ p0, x.block < W.heap.size := by obtain ⟨m, hm⟩ := k0; exact DataW.trod_lt m _ _ _ hm
  obtain ⟨b0, a0, n0, c0, l0, rfl, i0⟩ := int_of_read Try.underlying24 (by kernel_rfl) (by kernel_rfl) Try.underlying4 Try.underlying22 Try.underlying53 (by kernel_rfl) (hval 0 24 v0 rfl rfl) h0
  have k1 := h1
  have lt1 : ∀ x ∈ p1, x.block < W.heap.size := by obtain ⟨m, hm⟩ := k1; exact DataW.trod_lt m _ _ _ hm
  obtain ⟨b1, a1, n1, c1, l1, rfl, i1⟩ := int_of_read Try.underlying24 (by kernel_rfl) (by kernel_rfl) Try.underlying4 Try.underlying22 Try.underlying53 (by kernel_rfl) (hval 1 24 v1 rfl rfl) h1
  clear hA0 hval0
  refine (walk b0 a0 n0 c0 l0 b1 a1 n1 c1 l1 W i0 i1).mono fun e W' ⟨he, bel⟩ => ?_
  subst he
  exact ⟨_, rfl, _, _, _, [], _, [], hW', trodAll_mk1 (shut_bool Try.underlying4 _), (trodAll_cons_mk (Below.trod laidOut (by kernel_rfl) (of_decide_eq_true (by kernel_rfl)) k0 bel lt0) (trodAll_cons_mk (Below.trod laidOut (by kernel_rfl) (of_decide_eq_true (by kernel_rfl)) k1 bel lt1) trodAll_mk0)), rfl, bel.frame _, fun h => by cases h⟩

theorem over : Rows.integerArithmeticRow.holds Try.pinned (OpenSpec.ofChange Rows.integerArithmeticSpec) :=
  OpenClaim.holds_of_wide 7 Try.f7 rfl rfl rfl rfl rfl rfl rfl ⟨rfl, rfl, rfl, rfl, rfl⟩ rfl rfl rfl rfl rfl (by kernel_rfl) Try.func7 (by kernel_rfl)
    (of_decide_eq_true (by kernel_rfl)) (by unfold Func.isWrapper; first | (rw [if_pos (by decide +kernel)]; kernel_rfl) | (rw [if_neg (by decide +kernel)]; exact ⟨rfl, rfl⟩))
    (fun os started H enc _ => lifted os started H enc)

theorem proved : Rows.IntegerArithmeticSaid := over
end Go.Proofs.Ytjdcolaefhheaaa.integerArithmetic

namespace Go.Proofs.Ytjdcolaefhheaaa
theorem integerArithmetic_proved : Rows.IntegerArithmeticSaid := integerArithmetic.proved
end Go.Proofs.Ytjdcolaefhheaaa
