/-
  All pixels of the page of a small scene are valid, and opaque if the background is opaque.
  No condition beyond the given statement's own.
-/
import Derived.Test.YtoakjcolbjifnaaGreatDoorRows
import Derived.Test.YtoakjcolbjifnaaGreatDoorCards
import Derived.Test.YtoakjcolbjifnaaGreatDoorTie
import Derived.Test.YtoakjcolbjifnaaGreatDoorPValF
import Derived.Test.YtoakjcolbjifnaaGreatDoorPValG
import Derived.Test.YtoakjcolbjifnaaGreatDoorBKu
import Derived.WalkKit
import Derived.ProofKit
import Derived.OpenShut
import Derived.ShutString
import Derived.ChangeOld
import Derived.Below
import Derived.Deep.DeepHandedRow
import Derived.LaidHandle
import Derived.LaidLaws
import Derived.FnData
namespace Go.Proofs.YtoakjcolbjifnaaGreatDoor.topValidPixels
open Go.ChangeShapes Go.WideShapes Go.ChangeAt Go.RowKit
open Go.ChangeMaps (open_string shut_string)
set_option linter.unusedVariables false

theorem own : ownKnob Tryz.prog.godebug = none := by kernel_rfl
theorem laidOut : laidOutB Tryz.prog = true := fa1_3

theorem etName : ((List.range Tryz.prog.types.size).filter fun t => Tryz.prog.rowNamed t [101, 114, 114, 111, 114]) = [116] := by kernel_rfl
theorem etLaid : laidMetH Tryz.prog Rows.topValidPixelsRow.laid = fun W => laidMet Tryz.prog (Rows.topValidPixelsRow.laid.filter fun x => x.2.handleName?.isNone) W ∧ handlesMet Tryz.prog [("errors.errorType", Rows.laid_errors_errorType)] W := by kernel_rfl
theorem et_of {W : World} (h : laidMetH Tryz.prog Rows.topValidPixelsRow.laid W) : ET W := by
  rw [etLaid] at h
  obtain ⟨name, u, ty, e1, e2, e3, e4, e5⟩ := h.2 _ (List.mem_singleton.2 rfl)
  have en : name = [101, 114, 114, 111, 114] := (Option.some.inj e1).symm
  subst en
  obtain rfl := Option.some.inj ((show (Tryz.prog.cutTypes.find? (·.1 == "internal/reflectlite.rtype")).map (·.2) = some 207 by kernel_rfl).symm.trans e2)
  have hm : ty ∈ (List.range Tryz.prog.types.size).filter fun t => Tryz.prog.rowNamed t [101, 114, 114, 111, 114] := List.mem_filter.2 ⟨List.mem_range.2 e3, e4⟩
  rw [etName] at hm
  obtain rfl := List.mem_singleton.1 hm
  exact (World.var?_cell (show Tryz.prog.globalNamed "errors.errorType" = some 0 by kernel_rfl) e5 0).trans (by kernel_rfl)

theorem walk (x0 : List Value) (w : World) (hE : ET w) (i0 : Rdw w shScene x0) :
    Calls Tryz.prog 3 #[.agg x0.toArray] w fun e w' => e = .returned (.bool true) ∧ Below w.heap.size w w' :=
  (rowValid hE i0)

set_option maxRecDepth 100000 in
theorem contract (H : Type) (enc : TypeId × Value → H) (W : World) (base : Nat) (args : Array Value) (ds gs : List (DataW H)) (before : List MemPlace)
    (hval0 : ∀ (j : Nat) t v, Tryz.f3.params[j]? = some t → args[j]? = some v → Value.okWide Tryz.prog W .any base t v)
    (hW : DataW.Whole enc Tryz.prog Tryz.f3.params.toList Rows.topValidPixelsSpec.vars false W args.toList ds gs before) (hL : laidMetH Tryz.prog Rows.topValidPixelsRow.laid W) (hsh : W.ShapedOpen Tryz.prog) :
    Calls Tryz.prog 3 args W fun e W' => ∃ v, e = .returned v ∧ Rows.topValidPixelsSpec.post enc Tryz.prog Tryz.f3 false true false false W args v W' := by
  have hE : ET W := et_of hL
  have hval := hval0
  have hW' := hW
  obtain ⟨p, q, hA0, hV, rfl, hfz, hnd⟩ := hW
  have hA : DataW.TrodAll enc Tryz.prog W 0 (fun _ => true) true Tryz.f3.params.toList args.toList ds p := hA0
  rw [Tryz.params3] at hA hval
  obtain ⟨v0, vs0, d0, ds0, p0, q0, hargs, rfl, rfl, h0, r0⟩ := trodAll_cons hA
  obtain ⟨rfl, rfl, rfl⟩ := trodAll_nil r0
  obtain rfl : args = #[v0] := by cases args; simp_all
  obtain ⟨rfl, rfl⟩ := trodVars_none hV
  have k0 := h0
  have lt0 : ∀ x ∈ p0, x.block < W.heap.size := by obtain ⟨m, hm⟩ := k0; exact DataW.trod_lt m _ _ _ hm
  obtain ⟨x0, rfl, i0⟩ := rd_of_read (n := 12) (c := .cons 1 (.int .i64) (.cons 1 (.int .i64) (.cons 4 (.cons 1 (.int .u8) (.cons 1 (.int .u8) (.cons 1 (.int .u8) (.cons 1 (.int .u8) (.nil))))) (.cons 1 (.sl 47 (.cons 1 (.int .i64) (.cons 1 (.int .i64) (.cons 1 (.int .i64) (.cons 24 (.cons 4 (.cons 2 (.cons 1 (.bool) (.cons 1 (.dig) (.nil))) (.cons 2 (.cons 1 (.bool) (.cons 1 (.dig) (.nil))) (.nil))) (.cons 4 (.cons 2 (.cons 1 (.bool) (.cons 1 (.dig) (.nil))) (.cons 2 (.cons 1 (.bool) (.cons 1 (.dig) (.nil))) (.nil))) (.cons 4 (.cons 2 (.cons 1 (.bool) (.cons 1 (.dig) (.nil))) (.cons 2 (.cons 1 (.bool) (.cons 1 (.dig) (.nil))) (.nil))) (.cons 4 (.cons 2 (.cons 1 (.bool) (.cons 1 (.dig) (.nil))) (.cons 2 (.cons 1 (.bool) (.cons 1 (.dig) (.nil))) (.nil))) (.cons 4 (.cons 2 (.cons 1 (.bool) (.cons 1 (.dig) (.nil))) (.cons 2 (.cons 1 (.bool) (.cons 1 (.dig) (.nil))) (.nil))) (.cons 4 (.cons 2 (.cons 1 (.bool) (.cons 1 (.dig) (.nil))) (.cons 2 (.cons 1 (.bool) (.cons 1 (.dig) (.nil))) (.nil))) (.nil))))))) (.cons 1 (.sl 7 (.cons 1 (.int .i64) (.cons 2 (.cons 1 (.int .i64) (.cons 1 (.int .i64) (.nil))) (.cons 2 (.cons 1 (.int .i64) (.cons 1 (.int .i64) (.nil))) (.cons 2 (.cons 1 (.int .i64) (.cons 1 (.int .i64) (.nil))) (.nil)))))) (.cons 1 (.int .i64) (.cons 1 (.int .u8) (.cons 1 (.int .i64) (.cons 1 (.bool) (.cons 1 (.bool) (.cons 1 (.sl 7 (.cons 1 (.int .i64) (.cons 2 (.cons 1 (.int .i64) (.cons 1 (.int .i64) (.nil))) (.cons 2 (.cons 1 (.int .i64) (.cons 1 (.int .i64) (.nil))) (.cons 2 (.cons 1 (.int .i64) (.cons 1 (.int .i64) (.nil))) (.nil)))))) (.cons 1 (.int .i64) (.cons 1 (.sl 40 (.cons 1 (.int .i64) (.cons 4 (.cons 1 (.int .u8) (.cons 1 (.int .u8) (.cons 1 (.int .u8) (.cons 1 (.int .u8) (.nil))))) (.cons 2 (.cons 1 (.int .i64) (.cons 1 (.int .i64) (.nil))) (.cons 2 (.cons 1 (.int .i64) (.cons 1 (.int .i64) (.nil))) (.cons 1 (.int .i64) (.cons 1 (.sl 5 (.cons 1 (.int .i64) (.cons 4 (.cons 1 (.int .u8) (.cons 1 (.int .u8) (.cons 1 (.int .u8) (.cons 1 (.int .u8) (.nil))))) (.nil)))) (.cons 1 (.int .i64) (.cons 3 (.cons 1 (.int .i64) (.cons 1 (.int .i64) (.cons 1 (.sl 4 (.cons 1 (.int .u8) (.cons 1 (.int .u8) (.cons 1 (.int .u8) (.cons 1 (.int .u8) (.nil)))))) (.nil)))) (.cons 1 (.int .i64) (.cons 24 (.cons 4 (.cons 2 (.cons 1 (.bool) (.cons 1 (.dig) (.nil))) (.cons 2 (.cons 1 (.bool) (.cons 1 (.dig) (.nil))) (.nil))) (.cons 4 (.cons 2 (.cons 1 (.bool) (.cons 1 (.dig) (.nil))) (.cons 2 (.cons 1 (.bool) (.cons 1 (.dig) (.nil))) (.nil))) (.cons 4 (.cons 2 (.cons 1 (.bool) (.cons 1 (.dig) (.nil))) (.cons 2 (.cons 1 (.bool) (.cons 1 (.dig) (.nil))) (.nil))) (.cons 4 (.cons 2 (.cons 1 (.bool) (.cons 1 (.dig) (.nil))) (.cons 2 (.cons 1 (.bool) (.cons 1 (.dig) (.nil))) (.nil))) (.cons 4 (.cons 2 (.cons 1 (.bool) (.cons 1 (.dig) (.nil))) (.cons 2 (.cons 1 (.bool) (.cons 1 (.dig) (.nil))) (.nil))) (.cons 4 (.cons 2 (.cons 1 (.bool) (.cons 1 (.dig) (.nil))) (.cons 2 (.cons 1 (.bool) (.cons 1 (.dig) (.nil))) (.nil))) (.nil))))))) (.nil)))))))))))) (.cons 6 (.cons 1 (.int .i64) (.cons 1 (.int .i64) (.cons 1 (.int .i64) (.cons 1 (.int .i64) (.cons 1 (.sl 1 (.int .i64)) (.cons 1 (.int .i64) (.nil))))))) (.cons 1 (.sl 40 (.cons 1 (.int .i64) (.cons 4 (.cons 1 (.int .u8) (.cons 1 (.int .u8) (.cons 1 (.int .u8) (.cons 1 (.int .u8) (.nil))))) (.cons 2 (.cons 1 (.int .i64) (.cons 1 (.int .i64) (.nil))) (.cons 2 (.cons 1 (.int .i64) (.cons 1 (.int .i64) (.nil))) (.cons 1 (.int .i64) (.cons 1 (.sl 5 (.cons 1 (.int .i64) (.cons 4 (.cons 1 (.int .u8) (.cons 1 (.int .u8) (.cons 1 (.int .u8) (.cons 1 (.int .u8) (.nil))))) (.nil)))) (.cons 1 (.int .i64) (.cons 3 (.cons 1 (.int .i64) (.cons 1 (.int .i64) (.cons 1 (.sl 4 (.cons 1 (.int .u8) (.cons 1 (.int .u8) (.cons 1 (.int .u8) (.cons 1 (.int .u8) (.nil)))))) (.nil)))) (.cons 1 (.int .i64) (.cons 24 (.cons 4 (.cons 2 (.cons 1 (.bool) (.cons 1 (.dig) (.nil))) (.cons 2 (.cons 1 (.bool) (.cons 1 (.dig) (.nil))) (.nil))) (.cons 4 (.cons 2 (.cons 1 (.bool) (.cons 1 (.dig) (.nil))) (.cons 2 (.cons 1 (.bool) (.cons 1 (.dig) (.nil))) (.nil))) (.cons 4 (.cons 2 (.cons 1 (.bool) (.cons 1 (.dig) (.nil))) (.cons 2 (.cons 1 (.bool) (.cons 1 (.dig) (.nil))) (.nil))) (.cons 4 (.cons 2 (.cons 1 (.bool) (.cons 1 (.dig) (.nil))) (.cons 2 (.cons 1 (.bool) (.cons 1 (.dig) (.nil))) (.nil))) (.cons 4 (.cons 2 (.cons 1 (.bool) (.cons 1 (.dig) (.nil))) (.cons 2 (.cons 1 (.bool) (.cons 1 (.dig) (.nil))) (.nil))) (.cons 4 (.cons 2 (.cons 1 (.bool) (.cons 1 (.dig) (.nil))) (.cons 2 (.cons 1 (.bool) (.cons 1 (.dig) (.nil))) (.nil))) (.nil))))))) (.nil)))))))))))) (.cons 3 (.cons 1 (.int .i64) (.cons 1 (.int .i64) (.cons 1 (.sl 4 (.cons 1 (.int .u8) (.cons 1 (.int .u8) (.cons 1 (.int .u8) (.cons 1 (.int .u8) (.nil)))))) (.nil)))) (.cons 1 (.int .i64) (.nil))))))))))))))))))) (.nil))))) (by kernel_rfl) (by kernel_rfl) (hval 0 26 v0 rfl rfl) h0
  clear hA0 hval0
  refine (walk x0 W hE i0).mono fun e W' ⟨he, bel⟩ => ?_
  subst he
  exact ⟨_, rfl, _, _, _, [], _, [], hW', trodAll_mk1 (shut_bool Tryz.underlying4 _), (trodAll_cons_mk (Below.trod laidOut (by kernel_rfl) (of_decide_eq_true (by kernel_rfl)) k0 bel lt0) trodAll_mk0), rfl, bel.frame _, fun h => by cases h⟩

/-- Zeros. -/
def wit0 : Value := .agg #[.int .i64 0, .int .i64 0, .int .u8 0, .int .u8 0, .int .u8 0, .int .u8 0, .slice none 0 0]
/-- A world for the witness: the tables of utf8 as their initialisers lay them. -/
def putCells (l : List Value) : Obj → Obj
  | .cells _ t frozen => .cells l.toArray t frozen
  | o => o
noncomputable def errType : Value := .iface (((Tryz.prog.cutTypes.find? (·.1 == "internal/reflectlite.rtype")).map (·.2)).getD 0) (.agg #[typeHandle Tryz.prog 116])
noncomputable def laidWorld (os : Go.Os) : World :=
  { World.holding Tryz.prog os ⟨#[], #[], []⟩ with heap := Array.modify (World.holding Tryz.prog os ⟨#[], #[], []⟩).heap 0 (putCells [errType]) }
theorem laid_met (os : Go.Os) : laidMetH Tryz.prog Rows.topValidPixelsRow.laid ((laidWorld os).forCall (fun _ _ => 0) ⟨#[], #[wit0], []⟩).memory :=
  laidMetH_of_parts (laidMet_of_run' 8 (by kernel_rfl) (by kernel_rfl)) (by kernel_rfl)
theorem reads (os : Go.Os) {H : Type} (enc : TypeId × Value → H) : ∃ places, DataW.whole enc Tryz.prog ((laidWorld os).forCall (fun _ _ => 0) ⟨#[], #[wit0], []⟩).memory Tryz.f3.params.toList Rows.topValidPixelsSpec.vars false (#[wit0] : Array Value).toList 8 = some ([.agg [.lit (.int .i64 0), .lit (.int .i64 0), .agg [.lit (.int .u8 0), .lit (.int .u8 0), .lit (.int .u8 0), .lit (.int .u8 0)], .nil]], [], places) :=
  ⟨[], by kernel_rfl⟩

set_option maxRecDepth 100000 in
theorem lifted (os : Go.Os) (started : os.Started) (H : Type) (enc : TypeId × Value → H) (F : Stop.Interp) :
    ReturnsInHanded {} Tryz.checked os 3 .any ((OpenSpec.ofChange Rows.topValidPixelsSpec).preRow enc Tryz.prog Tryz.f3 Rows.topValidPixelsRow.domain false Rows.topValidPixelsRow.laid) (((OpenSpec.ofChange Rows.topValidPixelsSpec).at F).post enc Tryz.prog Tryz.f3 false true false false) := by
  obtain ⟨places, hx⟩ := reads os enc
  refine returnsInHanded_of_row (C := Tryz.checked) (s := (OpenSpec.ofChange Rows.topValidPixelsSpec)) own started (by kernel_rfl) Tryz.func3
    (witness_row_at (enc := enc) (C := Tryz.checked) false (laidWorld os) #[wit0] rfl (by kernel_rfl) (by kernel_rfl) (by kernel_rfl)
      (OpenSpec.preRow_of_cond 8 hx (by kernel_rfl) (fun k hk => by cases hk) (by kernel_rfl) (laid_met os))) ?_
  intro W base args ds gs before hval hW _ hcond _ hL hsh _
  exact contract H enc W base args ds gs before hval hW hL hsh

theorem said : Rows.TopValidPixelsSaid :=
  OpenClaim.holds_of_cond 3 Tryz.f3 rfl rfl rfl rfl rfl rfl rfl ⟨rfl, rfl, rfl, rfl, rfl⟩ rfl rfl rfl rfl rfl (by kernel_rfl) Tryz.func3 facts3
    (of_decide_eq_true (by kernel_rfl)) (by unfold Func.isWrapper; first | (rw [if_pos (by decide +kernel)]; kernel_rfl) | (rw [if_neg (by decide +kernel)]; exact ⟨rfl, rfl⟩))
    (fun os started H enc _ F => by rw [OpenClaim.pre_eq_preRow]; exact lifted os started H enc F)
theorem plain (f : FuncId) (fn : Func) (hf : Tryz.pinned.checked.prog.funcNamed "grisaille/grisailletop.TopValidPixels" = some f) (hfn : Tryz.pinned.checked.prog.funcs[f]? = some fn) :
    true = Tryz.pinned.checked.prog.looks [] ∧ ∀ (j : Nat) t, fn.params[j]? = some t → Tryz.pinned.checked.prog.wantsStandIn t = false := by
  obtain rfl : f = 3 := Option.some.inj ((show Tryz.prog.funcNamed "grisaille/grisailletop.TopValidPixels" = some 3 by kernel_rfl).symm.trans hf) |>.symm
  obtain rfl : fn = Tryz.f3 := (Option.some.inj (Tryz.func3.symm.trans hfn)).symm
  refine ⟨by kernel_rfl, fun j t ht => ?_⟩
  rw [Tryz.params3] at ht
  have hm := Array.mem_of_getElem? ht
  simp only [List.mem_toArray, List.mem_cons, List.mem_nil_iff, or_false] at hm
  rcases hm with rfl
  · exact (show Tryz.prog.wantsStandIn 26 = false by kernel_rfl)
theorem card : Rows.TopValidPixelsCardSaid :=
  Claim7.holds_tied_plain_at .later [] _ _ _ _ said (fun _ h => by cases h) (by kernel_rfl) (fun _ h => by cases h) topValidPixels_row_tie rfl ⟨rfl, rfl⟩ (by kernel_rfl) rfl plain goes_no
end Go.Proofs.YtoakjcolbjifnaaGreatDoor.topValidPixels

namespace Go.Proofs.YtoakjcolbjifnaaGreatDoor
theorem topValidPixels_proved : Rows.TopValidPixelsCardSaid := topValidPixels.card
end Go.Proofs.YtoakjcolbjifnaaGreatDoor
