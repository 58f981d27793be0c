/-
  Text of numbers: the law there and back.
  No condition beyond the given statement's own.
-/
import Derived.Test.YtlpnjoenkohadaaRows
import Derived.Test.YtlpnjoenkohadaaUQ
import Derived.Test.YtlpnjoenkohadaaRx
import Derived.WalkKit
import Derived.ProofKit
import Derived.OpenShut
import Derived.ShutString
import Derived.ChangeOld
import Derived.Below
import Derived.HandedShaped
namespace Go.Proofs.Ytlpnjoenkohadaa.numtextRoundTrip
open Go.ChangeShapes Go.WideShapes Go.ChangeAt Go.RowKit
open Go.ChangeMaps (open_string shut_string)
set_option linter.unusedVariables false

theorem own : ownKnob Try.prog.godebug = none := by kernel_rfl
theorem laidOut : laidOutB Try.prog = true := by kernel_rfl

theorem walk (z0 : Int) (x1 : List Value) (a2 : ByteArray) (w : World) (hM : ML w) (s0 : (Lit.int .i64 z0).wf = true) (i1 : Rd w (.cons 2 (.cons 1 (.bool) (.cons 1 (.dig) (.nil))) (.cons 2 (.cons 1 (.bool) (.cons 1 (.dig) (.nil))) (.nil))) x1) (s2 : a2.size ≤ maxLen) :
    Calls Try.prog 5 #[.int .i64 z0, .agg x1.toArray, .string a2] w fun e w' => e = .returned (.bool true) ∧ Below w.heap.size w w' :=
  rowRound hM s0 i1

set_option maxRecDepth 100000 in
theorem lifted (os : Os) (started : os.Started) (H : Type) (enc : TypeId × Value → H) :
    ReturnsInHanded {} Try.checked os 5 .any (Rows.numtextRoundTripSpec.pre6 enc Try.prog Try.f5 Rows.numtextRoundTripRow.domain false) (Rows.numtextRoundTripSpec.post enc Try.prog Try.f5 false true false false) := by
  refine returnsInHanded_of_change_shaped (C := Try.checked) own started (by kernel_rfl) Try.func5
    (ChangeSpec.witness6 (enc := enc) (C := Try.checked) false ⟨#[], #[.int .i64 0, .agg #[.bool false, .slice none 0 0, .bool false, .slice none 0 0], .string ByteArray.empty], []⟩ 8 (by kernel_rfl) (by kernel_rfl) (by kernel_rfl) (by kernel_rfl)) ?_
  intro W base args ds gs before hval0 hW hcnd _ hsh _
  have hM : ML W := by obtain ⟨m, hm⟩ := Try.laysM145.s1_3 W hsh; exact ⟨m, hm⟩
  have hval : ∀ (j : Nat) t v, Try.f5.params[j]? = some t → args[j]? = some v → Value.okWide Try.prog W .any base t v := hval0
  have hW' := hW
  obtain ⟨p, q, hA0, hV, rfl, hfz, hnd⟩ := hW
  have hA : DataW.TrodAll enc Try.prog W 0 (fun _ => true) true Try.f5.params.toList args.toList ds p := hA0
  rw [Try.params5] at hA hval
  obtain ⟨v0, vs0, d0, ds0, p0, q0, hargs, rfl, rfl, h0, r0⟩ := trodAll_cons hA
  obtain ⟨v1, vs1, d1, ds1, p1, q1, rfl, rfl, rfl, h1, r1⟩ := trodAll_cons r0
  obtain ⟨v2, vs2, d2, ds2, p2, q2, rfl, rfl, rfl, h2, r2⟩ := trodAll_cons r1
  obtain ⟨rfl, rfl, rfl⟩ := trodAll_nil r2
  obtain rfl : args = #[v0, v1, v2] := by cases args; simp_all
  obtain ⟨rfl, rfl⟩ := trodVars_none hV
  obtain ⟨z0, rfl, rfl, rfl, s0⟩ := open_int Try.underlying3 (hval 0 3 v0 rfl rfl) h0
  have k1 := h1
  have lt1 : ∀ x ∈ p1, x.block < W.heap.size := by obtain ⟨m, hm⟩ := k1; exact DataW.trod_lt m _ _ _ hm
  obtain ⟨x1, rfl, i1⟩ := rd_of_read (n := 12) (sh := .cons 2 (.cons 1 (.bool) (.cons 1 (.dig) (.nil))) (.cons 2 (.cons 1 (.bool) (.cons 1 (.dig) (.nil))) (.nil))) (by kernel_rfl) (by kernel_rfl) (hval 1 33 v1 rfl rfl) h1
  obtain ⟨a2, rfl, rfl, rfl, s2⟩ := open_string Try.underlying9 (hval 2 9 v2 rfl rfl) h2
  clear hA0 hval0
  refine (walk z0 x1 a2 W hM s0 i1 s2).mono fun e W' ⟨he, bel⟩ => ?_
  subst he
  exact ⟨_, rfl, _, _, _, [], _, [], hW', trodAll_mk1 (shut_bool Try.underlying4 _), (trodAll_cons_mk (shut_int Try.underlying3 s0) (trodAll_cons_mk (Below.trod laidOut (by kernel_rfl) (of_decide_eq_true (by kernel_rfl)) k1 bel lt1) (trodAll_cons_mk (shut_string Try.underlying9 s2) trodAll_mk0))), rfl, bel.frame _, fun h => by cases h⟩

theorem over : Rows.numtextRoundTripRow.holds Try.pinned (OpenSpec.ofChange Rows.numtextRoundTripSpec) :=
  OpenClaim.holds_of_wide 5 Try.f5 rfl rfl rfl rfl rfl rfl rfl ⟨rfl, rfl, rfl, rfl, rfl⟩ rfl rfl rfl rfl rfl (by kernel_rfl) Try.func5 (by kernel_rfl)
    (of_decide_eq_true (by kernel_rfl)) (by unfold Func.isWrapper; first | (rw [if_pos (by decide +kernel)]; kernel_rfl) | (rw [if_neg (by decide +kernel)]; exact ⟨rfl, rfl⟩))
    (fun os started H enc _ => lifted os started H enc)

theorem proved : Rows.NumtextRoundTripSaid := over
end Go.Proofs.Ytlpnjoenkohadaa.numtextRoundTrip

namespace Go.Proofs.Ytlpnjoenkohadaa
theorem numtextRoundTrip_proved : Rows.NumtextRoundTripSaid := numtextRoundTrip.proved
end Go.Proofs.Ytlpnjoenkohadaa
