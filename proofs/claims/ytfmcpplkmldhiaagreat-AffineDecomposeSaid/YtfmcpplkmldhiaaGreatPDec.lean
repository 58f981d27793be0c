/-
  Transforms: the law on the parts.
  No condition beyond the given statement's own.
-/
import Derived.Test.YtfmcpplkmldhiaaGreatRows
import Derived.Test.YtfmcpplkmldhiaaGreatTM
import Derived.Test.YtfmcpplkmldhiaaGreatRx
import Derived.WalkKit
import Derived.ProofKit
import Derived.OpenShut
import Derived.ShutString
import Derived.ChangeOld
import Derived.Below
namespace Go.Proofs.YtfmcpplkmldhiaaGreat.affineDecompose
open Go.ChangeShapes Go.WideShapes Go.ChangeAt Go.RowKit
open Go.ChangeMaps (open_string shut_string)
set_option linter.unusedVariables false

theorem own : ownKnob Tryz.prog.godebug = none := by kernel_rfl
theorem laidOut : laidOutB Tryz.prog = true := by kernel_rfl

theorem walk (x0 : List Value) (w : World) (i0 : Rd w (.cons 4 (.cons 2 (.cons 1 (.bool) (.cons 1 (.dig) (.nil))) (.cons 2 (.cons 1 (.bool) (.cons 1 (.dig) (.nil))) (.nil))) (.cons 4 (.cons 2 (.cons 1 (.bool) (.cons 1 (.dig) (.nil))) (.cons 2 (.cons 1 (.bool) (.cons 1 (.dig) (.nil))) (.nil))) (.cons 4 (.cons 2 (.cons 1 (.bool) (.cons 1 (.dig) (.nil))) (.cons 2 (.cons 1 (.bool) (.cons 1 (.dig) (.nil))) (.nil))) (.cons 4 (.cons 2 (.cons 1 (.bool) (.cons 1 (.dig) (.nil))) (.cons 2 (.cons 1 (.bool) (.cons 1 (.dig) (.nil))) (.nil))) (.cons 4 (.cons 2 (.cons 1 (.bool) (.cons 1 (.dig) (.nil))) (.cons 2 (.cons 1 (.bool) (.cons 1 (.dig) (.nil))) (.nil))) (.cons 4 (.cons 2 (.cons 1 (.bool) (.cons 1 (.dig) (.nil))) (.cons 2 (.cons 1 (.bool) (.cons 1 (.dig) (.nil))) (.nil))) (.nil))))))) x0) :
    Calls Tryz.prog 5 #[.agg x0.toArray] w fun e w' => e = .returned (.bool true) ∧ Below w.heap.size w w' :=
  rowDecompose i0

set_option maxRecDepth 100000 in
theorem lifted (os : Os) (started : os.Started) (H : Type) (enc : TypeId × Value → H) :
    ReturnsInHanded {} Tryz.checked os 5 .any (Rows.affineDecomposeSpec.pre6 enc Tryz.prog Tryz.f5 Rows.affineDecomposeRow.domain false) (Rows.affineDecomposeSpec.post enc Tryz.prog Tryz.f5 false true false false) := by
  refine returnsInHanded_of_change (C := Tryz.checked) own started (by kernel_rfl) Tryz.func5
    (ChangeSpec.witness6 (enc := enc) (C := Tryz.checked) false ⟨#[], #[.agg #[.bool false, .slice none 0 0, .bool false, .slice none 0 0, .bool false, .slice none 0 0, .bool false, .slice none 0 0, .bool false, .slice none 0 0, .bool false, .slice none 0 0, .bool false, .slice none 0 0, .bool false, .slice none 0 0, .bool false, .slice none 0 0, .bool false, .slice none 0 0, .bool false, .slice none 0 0, .bool false, .slice none 0 0]], []⟩ 8 (by kernel_rfl) (by kernel_rfl) (by kernel_rfl) (by kernel_rfl)) ?_
  intro W base args ds gs before hval0 hW hcnd _
  have hval : ∀ (j : Nat) t v, Tryz.f5.params[j]? = some t → args[j]? = some v → Value.okWide Tryz.prog W .any base t v := hval0
  have hW' := hW
  obtain ⟨p, q, hA0, hV, rfl, hfz, hnd⟩ := hW
  have hA : DataW.TrodAll enc Tryz.prog W 0 (fun _ => true) true Tryz.f5.params.toList args.toList ds p := hA0
  rw [Tryz.params5] at hA hval
  obtain ⟨v0, vs0, d0, ds0, p0, q0, hargs, rfl, rfl, h0, r0⟩ := trodAll_cons hA
  obtain ⟨rfl, rfl, rfl⟩ := trodAll_nil r0
  obtain rfl : args = #[v0] := by cases args; simp_all
  obtain ⟨rfl, rfl⟩ := trodVars_none hV
  have k0 := h0
  have lt0 : ∀ x ∈ p0, x.block < W.heap.size := by obtain ⟨m, hm⟩ := k0; exact DataW.trod_lt m _ _ _ hm
  obtain ⟨x0, rfl, i0⟩ := rd_of_read (n := 12) (sh := .cons 4 (.cons 2 (.cons 1 (.bool) (.cons 1 (.dig) (.nil))) (.cons 2 (.cons 1 (.bool) (.cons 1 (.dig) (.nil))) (.nil))) (.cons 4 (.cons 2 (.cons 1 (.bool) (.cons 1 (.dig) (.nil))) (.cons 2 (.cons 1 (.bool) (.cons 1 (.dig) (.nil))) (.nil))) (.cons 4 (.cons 2 (.cons 1 (.bool) (.cons 1 (.dig) (.nil))) (.cons 2 (.cons 1 (.bool) (.cons 1 (.dig) (.nil))) (.nil))) (.cons 4 (.cons 2 (.cons 1 (.bool) (.cons 1 (.dig) (.nil))) (.cons 2 (.cons 1 (.bool) (.cons 1 (.dig) (.nil))) (.nil))) (.cons 4 (.cons 2 (.cons 1 (.bool) (.cons 1 (.dig) (.nil))) (.cons 2 (.cons 1 (.bool) (.cons 1 (.dig) (.nil))) (.nil))) (.cons 4 (.cons 2 (.cons 1 (.bool) (.cons 1 (.dig) (.nil))) (.cons 2 (.cons 1 (.bool) (.cons 1 (.dig) (.nil))) (.nil))) (.nil))))))) (by kernel_rfl) (by kernel_rfl) (hval 0 28 v0 rfl rfl) h0
  clear hA0 hval0
  refine (walk x0 W i0).mono fun e W' ⟨he, bel⟩ => ?_
  subst he
  exact ⟨_, rfl, _, _, _, [], _, [], hW', trodAll_mk1 (shut_bool Tryz.underlying4 _), (trodAll_cons_mk (Below.trod laidOut (by kernel_rfl) (of_decide_eq_true (by kernel_rfl)) k0 bel lt0) trodAll_mk0), rfl, bel.frame _, fun h => by cases h⟩

theorem over : Rows.affineDecomposeRow.holds Tryz.pinned (OpenSpec.ofChange Rows.affineDecomposeSpec) :=
  OpenClaim.holds_of_wide 5 Tryz.f5 rfl rfl rfl rfl rfl rfl rfl ⟨rfl, rfl, rfl, rfl, rfl⟩ rfl rfl rfl rfl rfl (by kernel_rfl) Tryz.func5 (by kernel_rfl)
    (of_decide_eq_true (by kernel_rfl)) (by unfold Func.isWrapper; first | (rw [if_pos (by decide +kernel)]; kernel_rfl) | (rw [if_neg (by decide +kernel)]; exact ⟨rfl, rfl⟩))
    (fun os started H enc _ => lifted os started H enc)

theorem proved : Rows.AffineDecomposeSaid := over
end Go.Proofs.YtfmcpplkmldhiaaGreat.affineDecompose

namespace Go.Proofs.YtfmcpplkmldhiaaGreat
theorem affineDecompose_proved : Rows.AffineDecomposeSaid := affineDecompose.proved
end Go.Proofs.YtfmcpplkmldhiaaGreat
