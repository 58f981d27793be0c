/-
  Paints as text: what is formatted is parsed as an equal paint, and what is parsed is formatted as it was.
  No condition beyond the given statement's own.
-/
import Derived.Test.YtncodmhgfkailaaGreatDoorRows
import Derived.Test.YtncodmhgfkailaaGreatDoorCards
import Derived.Test.YtncodmhgfkailaaGreatDoorTie
import Derived.Test.YtncodmhgfkailaaGreatDoorPRoundF
import Derived.Test.YtncodmhgfkailaaGreatDoorPM
import Derived.WalkKit
import Derived.ProofKit
import Derived.OpenShut
import Derived.ShutString
import Derived.ChangeOld
import Derived.Below
import Derived.Deep.DeepHandedRow
import Derived.LaidHandle
namespace Go.Proofs.YtncodmhgfkailaaGreatDoor.scenetextPaintRoundTrip
open Go.ChangeShapes Go.WideShapes Go.ChangeAt Go.RowKit
open Go.ChangeMaps (open_string shut_string)
set_option linter.unusedVariables false

theorem own : ownKnob Tryz.prog.godebug = none := by kernel_rfl
theorem laidOut : laidOutB Tryz.prog = true := fa1_4

theorem walk (x0 : List Value) (a1 : ByteArray) (w : World) (hM : ML w) (i0 : Rd w (.cons 1 (.int .i64) (.cons 4 (.cons 1 (.int .u8) (.cons 1 (.int .u8) (.cons 1 (.int .u8) (.cons 1 (.int .u8) (.nil))))) (.cons 2 (.cons 1 (.int .i64) (.cons 1 (.int .i64) (.nil))) (.cons 2 (.cons 1 (.int .i64) (.cons 1 (.int .i64) (.nil))) (.cons 1 (.int .i64) (.cons 1 (.sl 5 (.cons 1 (.int .i64) (.cons 4 (.cons 1 (.int .u8) (.cons 1 (.int .u8) (.cons 1 (.int .u8) (.cons 1 (.int .u8) (.nil))))) (.nil)))) (.cons 1 (.int .i64) (.cons 3 (.cons 1 (.int .i64) (.cons 1 (.int .i64) (.cons 1 (.sl 4 (.cons 1 (.int .u8) (.cons 1 (.int .u8) (.cons 1 (.int .u8) (.cons 1 (.int .u8) (.nil)))))) (.nil)))) (.cons 1 (.int .i64) (.cons 24 (.cons 4 (.cons 2 (.cons 1 (.bool) (.cons 1 (.dig) (.nil))) (.cons 2 (.cons 1 (.bool) (.cons 1 (.dig) (.nil))) (.nil))) (.cons 4 (.cons 2 (.cons 1 (.bool) (.cons 1 (.dig) (.nil))) (.cons 2 (.cons 1 (.bool) (.cons 1 (.dig) (.nil))) (.nil))) (.cons 4 (.cons 2 (.cons 1 (.bool) (.cons 1 (.dig) (.nil))) (.cons 2 (.cons 1 (.bool) (.cons 1 (.dig) (.nil))) (.nil))) (.cons 4 (.cons 2 (.cons 1 (.bool) (.cons 1 (.dig) (.nil))) (.cons 2 (.cons 1 (.bool) (.cons 1 (.dig) (.nil))) (.nil))) (.cons 4 (.cons 2 (.cons 1 (.bool) (.cons 1 (.dig) (.nil))) (.cons 2 (.cons 1 (.bool) (.cons 1 (.dig) (.nil))) (.nil))) (.cons 4 (.cons 2 (.cons 1 (.bool) (.cons 1 (.dig) (.nil))) (.cons 2 (.cons 1 (.bool) (.cons 1 (.dig) (.nil))) (.nil))) (.nil))))))) (.nil))))))))))) x0) (s1 : a1.size ≤ maxLen) :
    Calls Tryz.prog 4 #[.agg x0.toArray, .string a1] w fun e w' => e = .returned (.bool true) ∧ Below w.heap.size w w' :=
  rowPaintRound hM i0

set_option maxRecDepth 100000 in
theorem contract (H : Type) (enc : TypeId × Value → H) (W : World) (base : Nat) (args : Array Value) (ds gs : List (DataW H)) (before : List MemPlace)
    (hval0 : ∀ (j : Nat) t v, Tryz.f4.params[j]? = some t → args[j]? = some v → Value.okWide Tryz.prog W .any base t v)
    (hW : DataW.Whole enc Tryz.prog Tryz.f4.params.toList Rows.scenetextPaintRoundTripSpec.vars false W args.toList ds gs before) (hsh : W.ShapedOpen Tryz.prog) :
    Calls Tryz.prog 4 args W fun e W' => ∃ v, e = .returned v ∧ Rows.scenetextPaintRoundTripSpec.post enc Tryz.prog Tryz.f4 false true false false W args v W' := by
  have hM : ML W := by obtain ⟨m, hm⟩ := Tryz.laysM143.s1_3 W hsh; exact ⟨m, hm⟩
  have hval := hval0
  have hW' := hW
  obtain ⟨p, q, hA0, hV, rfl, hfz, hnd⟩ := hW
  have hA : DataW.TrodAll enc Tryz.prog W 0 (fun _ => true) true Tryz.f4.params.toList args.toList ds p := hA0
  rw [Tryz.params4] at hA hval
  obtain ⟨v0, vs0, d0, ds0, p0, q0, hargs, rfl, rfl, h0, r0⟩ := trodAll_cons hA
  obtain ⟨v1, vs1, d1, ds1, p1, q1, rfl, rfl, rfl, h1, r1⟩ := trodAll_cons r0
  obtain ⟨rfl, rfl, rfl⟩ := trodAll_nil r1
  obtain rfl : args = #[v0, v1] := by cases args; simp_all
  obtain ⟨rfl, rfl⟩ := trodVars_none hV
  have k0 := h0
  have lt0 : ∀ x ∈ p0, x.block < W.heap.size := by obtain ⟨m, hm⟩ := k0; exact DataW.trod_lt m _ _ _ hm
  obtain ⟨x0, rfl, i0⟩ := rd_of_read (n := 12) (sh := .cons 1 (.int .i64) (.cons 4 (.cons 1 (.int .u8) (.cons 1 (.int .u8) (.cons 1 (.int .u8) (.cons 1 (.int .u8) (.nil))))) (.cons 2 (.cons 1 (.int .i64) (.cons 1 (.int .i64) (.nil))) (.cons 2 (.cons 1 (.int .i64) (.cons 1 (.int .i64) (.nil))) (.cons 1 (.int .i64) (.cons 1 (.sl 5 (.cons 1 (.int .i64) (.cons 4 (.cons 1 (.int .u8) (.cons 1 (.int .u8) (.cons 1 (.int .u8) (.cons 1 (.int .u8) (.nil))))) (.nil)))) (.cons 1 (.int .i64) (.cons 3 (.cons 1 (.int .i64) (.cons 1 (.int .i64) (.cons 1 (.sl 4 (.cons 1 (.int .u8) (.cons 1 (.int .u8) (.cons 1 (.int .u8) (.cons 1 (.int .u8) (.nil)))))) (.nil)))) (.cons 1 (.int .i64) (.cons 24 (.cons 4 (.cons 2 (.cons 1 (.bool) (.cons 1 (.dig) (.nil))) (.cons 2 (.cons 1 (.bool) (.cons 1 (.dig) (.nil))) (.nil))) (.cons 4 (.cons 2 (.cons 1 (.bool) (.cons 1 (.dig) (.nil))) (.cons 2 (.cons 1 (.bool) (.cons 1 (.dig) (.nil))) (.nil))) (.cons 4 (.cons 2 (.cons 1 (.bool) (.cons 1 (.dig) (.nil))) (.cons 2 (.cons 1 (.bool) (.cons 1 (.dig) (.nil))) (.nil))) (.cons 4 (.cons 2 (.cons 1 (.bool) (.cons 1 (.dig) (.nil))) (.cons 2 (.cons 1 (.bool) (.cons 1 (.dig) (.nil))) (.nil))) (.cons 4 (.cons 2 (.cons 1 (.bool) (.cons 1 (.dig) (.nil))) (.cons 2 (.cons 1 (.bool) (.cons 1 (.dig) (.nil))) (.nil))) (.cons 4 (.cons 2 (.cons 1 (.bool) (.cons 1 (.dig) (.nil))) (.cons 2 (.cons 1 (.bool) (.cons 1 (.dig) (.nil))) (.nil))) (.nil))))))) (.nil))))))))))) (by kernel_rfl) (by kernel_rfl) (hval 0 38 v0 rfl rfl) h0
  obtain ⟨a1, rfl, rfl, rfl, s1⟩ := open_string Tryz.underlying9 (hval 1 9 v1 rfl rfl) h1
  clear hA0 hval0
  refine (walk x0 a1 W hM i0 s1).mono fun e W' ⟨he, bel⟩ => ?_
  subst he
  exact ⟨_, rfl, _, _, _, [], _, [], hW', trodAll_mk1 (shut_bool Tryz.underlying4 _), (trodAll_cons_mk (Below.trod laidOut (by kernel_rfl) (of_decide_eq_true (by kernel_rfl)) k0 bel lt0) (trodAll_cons_mk (shut_string Tryz.underlying9 s1) trodAll_mk0)), rfl, bel.frame _, fun h => by cases h⟩

/-- Zeros. -/
def wit0 : Value := .agg #[.int .i64 0, .int .u8 0, .int .u8 0, .int .u8 0, .int .u8 0, .int .i64 0, .int .i64 0, .int .i64 0, .int .i64 0, .int .i64 0, .slice none 0 0, .int .i64 0, .int .i64 0, .int .i64 0, .slice none 0 0, .int .i64 0, .bool false, .slice none 0 0, .bool false, .slice none 0 0, .bool false, .slice none 0 0, .bool false, .slice none 0 0, .bool false, .slice none 0 0, .bool false, .slice none 0 0, .bool false, .slice none 0 0, .bool false, .slice none 0 0, .bool false, .slice none 0 0, .bool false, .slice none 0 0, .bool false, .slice none 0 0, .bool false, .slice none 0 0]
/-- A world for the witness: the tables of utf8 as their initialisers lay them. -/
def putCells (l : List Value) : Obj → Obj
  | .cells _ t frozen => .cells l.toArray t frozen
  | o => o
noncomputable def errType : Value := .iface (((Tryz.prog.cutTypes.find? (·.1 == "internal/reflectlite.rtype")).map (·.2)).getD 0) (.agg #[typeHandle Tryz.prog 145])
noncomputable def laidWorld (os : Go.Os) : World :=
  { World.holding Tryz.prog os ⟨#[], #[], []⟩ with heap := Array.modify (Array.modify (Array.modify (World.holding Tryz.prog os ⟨#[], #[], []⟩).heap 0 (putCells [errType])) 2 (putCells (Go.Pinned.utf8FirstZ.map fun (n : Nat) => Value.int .u8 (n : Int)))) 3 (putCells (([128,191,160,191,128,159,144,191,128,143,0,0,0,0,0,0,0,0,0,0,0,0,0,0,0,0,0,0,0,0,0,0] : List Int).map fun (n : Int) => Value.int .u8 n)) }
theorem laid_met (os : Go.Os) : laidMetH Tryz.prog Rows.scenetextPaintRoundTripRow.laid ((laidWorld os).forCall (fun _ _ => 0) ⟨#[], #[wit0, .string ByteArray.empty], []⟩).memory :=
  laidMetH_of_parts (laidMet_of_run' 8 (by kernel_rfl) (by kernel_rfl)) (by kernel_rfl)
theorem reads (os : Go.Os) {H : Type} (enc : TypeId × Value → H) : ∃ places, DataW.whole enc Tryz.prog ((laidWorld os).forCall (fun _ _ => 0) ⟨#[], #[wit0, .string ByteArray.empty], []⟩).memory Tryz.f4.params.toList Rows.scenetextPaintRoundTripSpec.vars false (#[wit0, .string ByteArray.empty] : Array Value).toList 8 = some ([.agg [.lit (.int .i64 0), .agg [.lit (.int .u8 0), .lit (.int .u8 0), .lit (.int .u8 0), .lit (.int .u8 0)], .agg [.lit (.int .i64 0), .lit (.int .i64 0)], .agg [.lit (.int .i64 0), .lit (.int .i64 0)], .lit (.int .i64 0), .nil, .lit (.int .i64 0), .agg [.lit (.int .i64 0), .lit (.int .i64 0), .nil], .lit (.int .i64 0), .agg [.agg [.agg [.lit (.bool false), .nil], .agg [.lit (.bool false), .nil]], .agg [.agg [.lit (.bool false), .nil], .agg [.lit (.bool false), .nil]], .agg [.agg [.lit (.bool false), .nil], .agg [.lit (.bool false), .nil]], .agg [.agg [.lit (.bool false), .nil], .agg [.lit (.bool false), .nil]], .agg [.agg [.lit (.bool false), .nil], .agg [.lit (.bool false), .nil]], .agg [.agg [.lit (.bool false), .nil], .agg [.lit (.bool false), .nil]]]], .lit (.string [])], [], places) :=
  ⟨[], by kernel_rfl⟩

set_option maxRecDepth 100000 in
theorem lifted (os : Go.Os) (started : os.Started) (H : Type) (enc : TypeId × Value → H) (F : Stop.Interp) :
    ReturnsInHanded {} Tryz.checked os 4 .any ((OpenSpec.ofChange Rows.scenetextPaintRoundTripSpec).preRow enc Tryz.prog Tryz.f4 Rows.scenetextPaintRoundTripRow.domain false Rows.scenetextPaintRoundTripRow.laid) (((OpenSpec.ofChange Rows.scenetextPaintRoundTripSpec).at F).post enc Tryz.prog Tryz.f4 false true false false) := by
  obtain ⟨places, hx⟩ := reads os enc
  refine returnsInHanded_of_row (C := Tryz.checked) (s := (OpenSpec.ofChange Rows.scenetextPaintRoundTripSpec)) own started (by kernel_rfl) Tryz.func4
    (witness_row_at (enc := enc) (C := Tryz.checked) false (laidWorld os) #[wit0, .string ByteArray.empty] rfl (by kernel_rfl) (by kernel_rfl) (by kernel_rfl)
      (OpenSpec.preRow_of_cond 8 hx (by kernel_rfl) (fun k hk => by cases hk) (by kernel_rfl) (laid_met os))) ?_
  intro W base args ds gs before hval hW _ hcond _ hL hsh _
  exact contract H enc W base args ds gs before hval hW hsh

theorem said : Rows.ScenetextPaintRoundTripSaid :=
  OpenClaim.holds_of_cond 4 Tryz.f4 rfl rfl rfl rfl rfl rfl rfl ⟨rfl, rfl, rfl, rfl, rfl⟩ rfl rfl rfl rfl rfl (by kernel_rfl) Tryz.func4 facts4
    (of_decide_eq_true (by kernel_rfl)) (by unfold Func.isWrapper; first | (rw [if_pos (by decide +kernel)]; kernel_rfl) | (rw [if_neg (by decide +kernel)]; exact ⟨rfl, rfl⟩))
    (fun os started H enc _ F => by rw [OpenClaim.pre_eq_preRow]; exact lifted os started H enc F)
theorem plain (f : FuncId) (fn : Func) (hf : Tryz.pinned.checked.prog.funcNamed "grisaille/grisaillelaw45.ScenetextPaintRoundTrip" = some f) (hfn : Tryz.pinned.checked.prog.funcs[f]? = some fn) :
    true = Tryz.pinned.checked.prog.looks [] ∧ ∀ (j : Nat) t, fn.params[j]? = some t → Tryz.pinned.checked.prog.wantsStandIn t = false := by
  obtain rfl : f = 4 := Option.some.inj ((show Tryz.prog.funcNamed "grisaille/grisaillelaw45.ScenetextPaintRoundTrip" = some 4 by kernel_rfl).symm.trans hf) |>.symm
  obtain rfl : fn = Tryz.f4 := (Option.some.inj (Tryz.func4.symm.trans hfn)).symm
  refine ⟨by kernel_rfl, fun j t ht => ?_⟩
  rw [Tryz.params4] at ht
  have hm := Array.mem_of_getElem? ht
  simp only [List.mem_toArray, List.mem_cons, List.mem_nil_iff, or_false] at hm
  rcases hm with rfl | rfl
  · exact (show Tryz.prog.wantsStandIn 38 = false by kernel_rfl)
  · exact (show Tryz.prog.wantsStandIn 9 = false by kernel_rfl)
theorem card : Rows.ScenetextPaintRoundTripCardSaid :=
  Claim7.holds_tied_plain_at .later [] _ _ _ _ said (fun _ h => by cases h) (by kernel_rfl) (fun _ h => by cases h) scenetextPaintRoundTrip_row_tie rfl ⟨rfl, rfl⟩ (by kernel_rfl) rfl plain (by kernel_rfl)
end Go.Proofs.YtncodmhgfkailaaGreatDoor.scenetextPaintRoundTrip

namespace Go.Proofs.YtncodmhgfkailaaGreatDoor
theorem scenetextPaintRoundTrip_proved : Rows.ScenetextPaintRoundTripCardSaid := scenetextPaintRoundTrip.card
end Go.Proofs.YtncodmhgfkailaaGreatDoor
