/-
  New, FromInt, IsNormalized, Sign, BitLen and ToInt agree with the reference, and the arguments are not modified.
  No condition beyond the given statement's own.
-/
import Derived.Test.YtjdcolaefhheaaaRows
import Derived.Test.YtjdcolaefhheaaaKC
import Derived.Test.YtjdcolaefhheaaaRowA
import Derived.WalkKit
import Derived.ProofKit
import Derived.OpenShut
import Derived.ShutString
import Derived.ChangeOld
import Derived.Below
namespace Go.Proofs.Ytjdcolaefhheaaa.integerConstructors
open Go.ChangeShapes Go.WideShapes Go.ChangeAt Go.RowKit
open Go.ChangeMaps (open_string shut_string)
set_option linter.unusedVariables false

theorem own : ownKnob Try.prog.godebug = none := by kernel_rfl
theorem laidOut : laidOutB Try.prog = true := by kernel_rfl

theorem walk (b0 : Bool) (a1 : Option Addr) (n1 c1 : Nat) (l1 : List Nat) (z2 : Int) (w : World) (i1 : In w a1 n1 c1 l1) (s2 : (Lit.int .i64 z2).wf = true) :
    Calls Try.prog 14 #[.bool b0, .slice a1 n1 c1, .int .i64 z2] w fun e w' => e = .returned (.bool true) ∧ Below w.heap.size w w' :=
  (lawConstructors (a := ⟨b0, a1, n1, c1, l1⟩) (x := zi b0 (val l1)) (K := n1) ⟨i1, rfl, Nat.le_refl _⟩ (i64_wf s2)).mono fun _ _ h => law_end h

set_option maxRecDepth 100000 in
theorem lifted (os : Os) (started : os.Started) (H : Type) (enc : TypeId × Value → H) :
    ReturnsInHanded {} Try.checked os 14 .any (Rows.integerConstructorsSpec.pre6 enc Try.prog Try.f14 Rows.integerConstructorsRow.domain false) (Rows.integerConstructorsSpec.post enc Try.prog Try.f14 false true false false) := by
  refine returnsInHanded_of_change (C := Try.checked) own started (by kernel_rfl) Try.func14
    (ChangeSpec.witness6 (enc := enc) (C := Try.checked) false ⟨#[], #[.bool false, .slice none 0 0, .int .i64 0], []⟩ 8 (by kernel_rfl) (by kernel_rfl) (by kernel_rfl) (by kernel_rfl)) ?_
  intro W base args ds gs before hval0 hW hcnd _
  have hval : ∀ (j : Nat) t v, Try.f14.params[j]? = some t → args[j]? = some v → Value.okWide Try.prog W .any base t v := hval0
  have hW' := hW
  obtain ⟨p, q, hA0, hV, rfl, hfz, hnd⟩ := hW
  have hA : DataW.TrodAll enc Try.prog W 0 (fun _ => true) true Try.f14.params.toList args.toList ds p := hA0
  rw [Try.params14] at hA hval
  obtain ⟨v0, vs0, d0, ds0, p0, q0, hargs, rfl, rfl, h0, r0⟩ := trodAll_cons hA
  obtain ⟨v1, vs1, d1, ds1, p1, q1, rfl, rfl, rfl, h1, r1⟩ := trodAll_cons r0
  obtain ⟨v2, vs2, d2, ds2, p2, q2, rfl, rfl, rfl, h2, r2⟩ := trodAll_cons r1
  obtain ⟨rfl, rfl, rfl⟩ := trodAll_nil r2
  obtain rfl : args = #[v0, v1, v2] := by cases args; simp_all
  obtain ⟨rfl, rfl⟩ := trodVars_none hV
  obtain ⟨b0, rfl, rfl, rfl⟩ := open_bool Try.underlying4 (hval 0 4 v0 rfl rfl) h0
  have k1 := h1
  have lt1 : ∀ x ∈ p1, x.block < W.heap.size := by obtain ⟨m, hm⟩ := k1; exact DataW.trod_lt m _ _ _ hm
  obtain ⟨a1, n1, c1, rfl⟩ := okWide_slice Try.underlying22 (hval 1 22 v1 rfl rfl)
  obtain ⟨l1, i1⟩ : ∃ l, In W a1 n1 c1 l := by
    obtain ⟨fuel, hf⟩ := h1
    obtain ⟨A, n, c, l, e, hin⟩ := slice_of_read Try.underlying22 Try.underlying53 (by kernel_rfl) hf
    injection e with e1 e2 e3
    subst e1 e2 e3
    exact ⟨l, hin⟩
  obtain ⟨z2, rfl, rfl, rfl, s2⟩ := open_int Try.underlying3 (hval 2 3 v2 rfl rfl) h2
  clear hA0 hval0
  refine (walk b0 a1 n1 c1 l1 z2 W i1 s2).mono fun e W' ⟨he, bel⟩ => ?_
  subst he
  exact ⟨_, rfl, _, _, _, [], _, [], hW', trodAll_mk1 (shut_bool Try.underlying4 _), (trodAll_cons_mk (shut_bool Try.underlying4 _) (trodAll_cons_mk (Below.trod laidOut (by kernel_rfl) (of_decide_eq_true (by kernel_rfl)) k1 bel lt1) (trodAll_cons_mk (shut_int Try.underlying3 s2) trodAll_mk0))), rfl, bel.frame _, fun h => by cases h⟩

theorem over : Rows.integerConstructorsRow.holds Try.pinned (OpenSpec.ofChange Rows.integerConstructorsSpec) :=
  OpenClaim.holds_of_wide 14 Try.f14 rfl rfl rfl rfl rfl rfl rfl ⟨rfl, rfl, rfl, rfl, rfl⟩ rfl rfl rfl rfl rfl (by kernel_rfl) Try.func14 (by kernel_rfl)
    (of_decide_eq_true (by kernel_rfl)) (by unfold Func.isWrapper; first | (rw [if_pos (by decide +kernel)]; kernel_rfl) | (rw [if_neg (by decide +kernel)]; exact ⟨rfl, rfl⟩))
    (fun os started H enc _ => lifted os started H enc)

theorem proved : Rows.IntegerConstructorsSaid := over
end Go.Proofs.Ytjdcolaefhheaaa.integerConstructors

namespace Go.Proofs.Ytjdcolaefhheaaa
theorem integerConstructors_proved : Rows.IntegerConstructorsSaid := integerConstructors.proved
end Go.Proofs.Ytjdcolaefhheaaa
