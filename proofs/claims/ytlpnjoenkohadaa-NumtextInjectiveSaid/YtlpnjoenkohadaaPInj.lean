/-
  Text of numbers: the law that texts differ.
  No condition beyond the given statement's own.
-/
import Derived.Test.YtlpnjoenkohadaaRows
import Derived.Test.YtlpnjoenkohadaaUQ
import Derived.Test.YtlpnjoenkohadaaRx
import Derived.WalkKit
import Derived.ProofKit
import Derived.OpenShut
import Derived.ShutString
import Derived.ChangeOld
import Derived.Below
import Derived.HandedShaped
namespace Go.Proofs.Ytlpnjoenkohadaa.numtextInjective
open Go.ChangeShapes Go.WideShapes Go.ChangeAt Go.RowKit
open Go.ChangeMaps (open_string shut_string)
set_option linter.unusedVariables false

theorem own : ownKnob Try.prog.godebug = none := by kernel_rfl
theorem laidOut : laidOutB Try.prog = true := by kernel_rfl

theorem walk (z0 : Int) (z1 : Int) (x2 : List Value) (x3 : List Value) (w : World) (hM : ML w) (s0 : (Lit.int .i64 z0).wf = true) (s1 : (Lit.int .i64 z1).wf = true) (i2 : Rd w (.cons 2 (.cons 1 (.bool) (.cons 1 (.dig) (.nil))) (.cons 2 (.cons 1 (.bool) (.cons 1 (.dig) (.nil))) (.nil))) x2) (i3 : Rd w (.cons 2 (.cons 1 (.bool) (.cons 1 (.dig) (.nil))) (.cons 2 (.cons 1 (.bool) (.cons 1 (.dig) (.nil))) (.nil))) x3) :
    Calls Try.prog 7 #[.int .i64 z0, .int .i64 z1, .agg x2.toArray, .agg x3.toArray] w fun e w' => e = .returned (.bool true) ∧ Below w.heap.size w w' :=
  rowInjective hM s0 s1 i2 i3

set_option maxRecDepth 100000 in
theorem lifted (os : Os) (started : os.Started) (H : Type) (enc : TypeId × Value → H) :
    ReturnsInHanded {} Try.checked os 7 .any (Rows.numtextInjectiveSpec.pre6 enc Try.prog Try.f7 Rows.numtextInjectiveRow.domain false) (Rows.numtextInjectiveSpec.post enc Try.prog Try.f7 false true false false) := by
  refine returnsInHanded_of_change_shaped (C := Try.checked) own started (by kernel_rfl) Try.func7
    (ChangeSpec.witness6 (enc := enc) (C := Try.checked) false ⟨#[], #[.int .i64 0, .int .i64 0, .agg #[.bool false, .slice none 0 0, .bool false, .slice none 0 0], .agg #[.bool false, .slice none 0 0, .bool false, .slice none 0 0]], []⟩ 8 (by kernel_rfl) (by kernel_rfl) (by kernel_rfl) (by kernel_rfl)) ?_
  intro W base args ds gs before hval0 hW hcnd _ hsh _
  have hM : ML W := by obtain ⟨m, hm⟩ := Try.laysM145.s1_3 W hsh; exact ⟨m, hm⟩
  have hval : ∀ (j : Nat) t v, Try.f7.params[j]? = some t → args[j]? = some v → Value.okWide Try.prog W .any base t v := hval0
  have hW' := hW
  obtain ⟨p, q, hA0, hV, rfl, hfz, hnd⟩ := hW
  have hA : DataW.TrodAll enc Try.prog W 0 (fun _ => true) true Try.f7.params.toList args.toList ds p := hA0
  rw [Try.params7] at hA hval
  obtain ⟨v0, vs0, d0, ds0, p0, q0, hargs, rfl, rfl, h0, r0⟩ := trodAll_cons hA
  obtain ⟨v1, vs1, d1, ds1, p1, q1, rfl, rfl, rfl, h1, r1⟩ := trodAll_cons r0
  obtain ⟨v2, vs2, d2, ds2, p2, q2, rfl, rfl, rfl, h2, r2⟩ := trodAll_cons r1
  obtain ⟨v3, vs3, d3, ds3, p3, q3, rfl, rfl, rfl, h3, r3⟩ := trodAll_cons r2
  obtain ⟨rfl, rfl, rfl⟩ := trodAll_nil r3
  obtain rfl : args = #[v0, v1, v2, v3] := by cases args; simp_all
  obtain ⟨rfl, rfl⟩ := trodVars_none hV
  obtain ⟨z0, rfl, rfl, rfl, s0⟩ := open_int Try.underlying3 (hval 0 3 v0 rfl rfl) h0
  obtain ⟨z1, rfl, rfl, rfl, s1⟩ := open_int Try.underlying3 (hval 1 3 v1 rfl rfl) h1
  have k2 := h2
  have lt2 : ∀ x ∈ p2, x.block < W.heap.size := by obtain ⟨m, hm⟩ := k2; exact DataW.trod_lt m _ _ _ hm
  obtain ⟨x2, rfl, i2⟩ := rd_of_read (n := 12) (sh := .cons 2 (.cons 1 (.bool) (.cons 1 (.dig) (.nil))) (.cons 2 (.cons 1 (.bool) (.cons 1 (.dig) (.nil))) (.nil))) (by kernel_rfl) (by kernel_rfl) (hval 2 33 v2 rfl rfl) h2
  have k3 := h3
  have lt3 : ∀ x ∈ p3, x.block < W.heap.size := by obtain ⟨m, hm⟩ := k3; exact DataW.trod_lt m _ _ _ hm
  obtain ⟨x3, rfl, i3⟩ := rd_of_read (n := 12) (sh := .cons 2 (.cons 1 (.bool) (.cons 1 (.dig) (.nil))) (.cons 2 (.cons 1 (.bool) (.cons 1 (.dig) (.nil))) (.nil))) (by kernel_rfl) (by kernel_rfl) (hval 3 33 v3 rfl rfl) h3
  clear hA0 hval0
  refine (walk z0 z1 x2 x3 W hM s0 s1 i2 i3).mono fun e W' ⟨he, bel⟩ => ?_
  subst he
  exact ⟨_, rfl, _, _, _, [], _, [], hW', trodAll_mk1 (shut_bool Try.underlying4 _), (trodAll_cons_mk (shut_int Try.underlying3 s0) (trodAll_cons_mk (shut_int Try.underlying3 s1) (trodAll_cons_mk (Below.trod laidOut (by kernel_rfl) (of_decide_eq_true (by kernel_rfl)) k2 bel lt2) (trodAll_cons_mk (Below.trod laidOut (by kernel_rfl) (of_decide_eq_true (by kernel_rfl)) k3 bel lt3) trodAll_mk0)))), rfl, bel.frame _, fun h => by cases h⟩

theorem over : Rows.numtextInjectiveRow.holds Try.pinned (OpenSpec.ofChange Rows.numtextInjectiveSpec) :=
  OpenClaim.holds_of_wide 7 Try.f7 rfl rfl rfl rfl rfl rfl rfl ⟨rfl, rfl, rfl, rfl, rfl⟩ rfl rfl rfl rfl rfl (by kernel_rfl) Try.func7 (by kernel_rfl)
    (of_decide_eq_true (by kernel_rfl)) (by unfold Func.isWrapper; first | (rw [if_pos (by decide +kernel)]; kernel_rfl) | (rw [if_neg (by decide +kernel)]; exact ⟨rfl, rfl⟩))
    (fun os started H enc _ => lifted os started H enc)

theorem proved : Rows.NumtextInjectiveSaid := over
end Go.Proofs.Ytlpnjoenkohadaa.numtextInjective

namespace Go.Proofs.Ytlpnjoenkohadaa
theorem numtextInjective_proved : Rows.NumtextInjectiveSaid := numtextInjective.proved
end Go.Proofs.Ytlpnjoenkohadaa
