/-
  Positions along gradients: the program's functions and the reference's.
-/
import Derived.Test.YtegnbgckejebgaaQP
import Derived.Test.YtegnbgckejebgaaJt
import Derived.Test.YtegnbgckejebgaaIt
import Derived.Test.YtegnbgckejebgaaAo
namespace Go.Proofs.Ytegnbgckejebgaa
set_option linter.unusedVariables false
set_option linter.unusedSimpArgs false
open Go.RowKit

/-- The range of positions. -/
def clampI (x : Int) : Int := if 1099511627776 < x then 1099511627776 else if x < -1099511627776 then -1099511627776 else x
section
variable {a b : SV} {x y : Int} {K K1 K2 : Nat} {w : World}
theorem rcmp_w {v : Int} (hv : sgn (x - y) = v) (ha : IsI a x K1 w) (hb : IsI b y K2 w) (hK : K1 ≤ 68719476736 ∧ K2 ≤ 68719476736) : Calls Try.prog 17 #[a.val, b.val] w (CallPost w (fun _ : Unit => .int .i64 v) fun _ _ => True) := by
  subst hv; exact rcmp_m ha hb hK
theorem sgn_1 {x : Int} (h : 0 < x) : sgn x = 1 := by unfold sgn; rw [if_neg (by omega), if_neg (by omega)]
theorem sgn_m1 {x : Int} (h : x < 0) : sgn x = -1 := if_pos h
set_option maxRecDepth 100000 in
set_option maxHeartbeats 1000000 in
theorem rclamp_m (hfit : ∀ (u : World), IsI a x K u → -1099511627776 ≤ x ∧ x ≤ 1099511627776 → Calls Try.prog 43 #[a.val] u (CallPost u (fun _ : Unit => .tuple #[.int .i64 x, .bool true]) fun _ _ => True)) (ha : IsI a x K w) (hK : K ≤ 1000000) :
    Calls Try.prog 16 #[a.val] w (CallPost w (fun _ : Unit => .int .i64 (clampI x)) fun _ _ => True) := by
  by_cases h1 : 1099511627776 < x
  ·
    refine Good.enter Try.func16 rfl ?_
    refine Good.run (by kernel_rfl) (stop := 1000) 1000 _ ?_
    refine Good.callv (fun w1 hw h => rfromInt_m 1099511627776 w1 (by decide) (by decide)) (by kernel_rfl) (fun f => ?_)
    refine Good.run (by kernel_rfl) (stop := 1000) 1000 _ ?_
    refine Good.callv (fun w1 hw h => rcmp_w (v := 1) (sgn_1 (by omega)) (ha.below hw) h.2.i (by omega)) (by kernel_rfl) (fun u => ?_)
    refine Good.run (by kernel_rfl) (stop := 1000) 1000 _ ?_
    refine Good.cond true (by kernel_rfl) ?_
    refine Good.run (by kernel_rfl) (stop := 1000) 1000 _ ?_
    refine Good.ret (v := .int .i64 1099511627776) (by kernel_rfl) (fun w1 hw h => ⟨(), by unfold clampI; rw [if_pos h1], hw, fun _ _ _ => trivial⟩)
  · obtain ⟨v, hv, hv2⟩ : ∃ v : Int, sgn (x - 1099511627776) = v ∧ (v = 0 ∨ v = -1) := ⟨_, rfl, by unfold sgn; split <;> (try split) <;> omega⟩
    by_cases h2 : x < -1099511627776
    ·
      refine Good.enter Try.func16 rfl ?_
      refine Good.run (by kernel_rfl) (stop := 1000) 1000 _ ?_
      refine Good.callv (fun w1 hw h => rfromInt_m 1099511627776 w1 (by decide) (by decide)) (by kernel_rfl) (fun f => ?_)
      refine Good.run (by kernel_rfl) (stop := 1000) 1000 _ ?_
      refine Good.callv (fun w1 hw h => rcmp_w hv (ha.below hw) h.2.i (by omega)) (by kernel_rfl) (fun u => ?_)
      refine Good.run (by kernel_rfl) (stop := 1000) 1000 _ ?_
      refine Good.condr (decide (v > 0)) false (by kernel_rfl) (by simp; omega) ?_
      refine Good.run (by kernel_rfl) (stop := 1000) 1000 _ ?_
      refine Good.callv (fun w1 hw h => rfromInt_m (-1099511627776) w1 (by decide) (by decide)) (by kernel_rfl) (fun g => ?_)
      refine Good.run (by kernel_rfl) (stop := 1000) 1000 _ ?_
      refine Good.callv (fun w1 hw h => rcmp_w (v := -1) (sgn_m1 (by omega)) (ha.below hw) h.2.i (by omega)) (by kernel_rfl) (fun u => ?_)
      refine Good.run (by kernel_rfl) (stop := 1000) 1000 _ ?_
      refine Good.cond true (by kernel_rfl) ?_
      refine Good.run (by kernel_rfl) (stop := 1000) 1000 _ ?_
      refine Good.ret (v := .int .i64 (-1099511627776)) (by kernel_rfl) (fun w1 hw h => ⟨(), by unfold clampI; rw [if_neg h1, if_pos h2], hw, fun _ _ _ => trivial⟩)
    · obtain ⟨v2, hv3, hv4⟩ : ∃ v : Int, sgn (x - -1099511627776) = v ∧ (v = 0 ∨ v = 1) := ⟨_, rfl, by unfold sgn; split <;> (try split) <;> omega⟩
      refine Good.enter Try.func16 rfl ?_
      refine Good.run (by kernel_rfl) (stop := 1000) 1000 _ ?_
      refine Good.callv (fun w1 hw h => rfromInt_m 1099511627776 w1 (by decide) (by decide)) (by kernel_rfl) (fun f => ?_)
      refine Good.run (by kernel_rfl) (stop := 1000) 1000 _ ?_
      refine Good.callv (fun w1 hw h => rcmp_w hv (ha.below hw) h.2.i (by omega)) (by kernel_rfl) (fun u => ?_)
      refine Good.run (by kernel_rfl) (stop := 1000) 1000 _ ?_
      refine Good.condr (decide (v > 0)) false (by kernel_rfl) (by simp; omega) ?_
      refine Good.run (by kernel_rfl) (stop := 1000) 1000 _ ?_
      refine Good.callv (fun w1 hw h => rfromInt_m (-1099511627776) w1 (by decide) (by decide)) (by kernel_rfl) (fun g => ?_)
      refine Good.run (by kernel_rfl) (stop := 1000) 1000 _ ?_
      refine Good.callv (fun w1 hw h => rcmp_w hv3 (ha.below hw) h.2.i (by omega)) (by kernel_rfl) (fun u => ?_)
      refine Good.run (by kernel_rfl) (stop := 1000) 1000 _ ?_
      refine Good.condr (decide (v2 < 0)) false (by kernel_rfl) (by simp; omega) ?_
      refine Good.run (by kernel_rfl) (stop := 1000) 1000 _ ?_
      refine Good.callv (fun w1 hw h => hfit w1 (ha.below hw) (by omega)) (by kernel_rfl) (fun u => ?_)
      refine Good.run (by kernel_rfl) (stop := 1000) 1000 _ ?_
      refine Good.ret (v := .int .i64 x) (by kernel_rfl) (fun w1 hw h => ⟨(), by unfold clampI; rw [if_neg h1, if_neg h2], hw, fun _ _ _ => trivial⟩)
set_option maxRecDepth 100000 in
set_option maxHeartbeats 1000000 in
theorem rdot_m {r s t u : RV} {p q p2 q2 : Rat} {K3 K4 : Nat} (h1 : IsQ r p K1 w) (h2 : IsQ s q K2 w) (h3 : IsQ t p2 K3 w) (h4 : IsQ u q2 K4 w) (hK : 2 ≤ K1 ∧ 2 ≤ K2 ∧ 2 ≤ K3 ∧ 2 ≤ K4 ∧ K1 + K2 + K3 + K4 ≤ 1000000) :
    Calls Try.prog 34 #[r.val, s.val, t.val, u.val] w (CallPost w RV.val fun v w => IsQN v (p * p2 + q * q2) (K1 + K3 + (K2 + K4) + 1) w) := by
  refine Good.enter Try.func34 rfl ?_
  refine Good.run (by kernel_rfl) (stop := 1000) 1000 _ ?_
  refine Good.callv (fun w1 hw h => rqmul_m (h1.below hw) (h3.below hw) (by omega)) (by kernel_rfl) (fun m => ?_)
  refine Good.run (by kernel_rfl) (stop := 1000) 1000 _ ?_
  refine Good.callv (fun w1 hw h => rqmul_m (h2.below hw) (h4.below hw) (by omega)) (by kernel_rfl) (fun n => ?_)
  refine Good.run (by kernel_rfl) (stop := 1000) 1000 _ ?_
  refine Good.callv (fun w1 hw h => rqadd_m h.1.2.q h.2.q (by omega)) (by kernel_rfl) (fun v => ?_)
  refine Good.run (by kernel_rfl) (stop := 1000) 1000 _ ?_
  refine Good.ret (v := RV.val v) (by kernel_rfl) (fun w1 hw h => ⟨v, rfl, hw, fun w'' k1 k2 => (h w'' k1 k2).2⟩)
end

def pt (a b : Int) : Value := .agg #[.int .i64 a, .int .i64 b]
def eqP (t : TypeId) (x y : Operand) (u v : Value) : Sem Next := (do eqGuard .eql t x y u v; binOp .eql t u v) >>= fun v => pure (.value v)
theorem run_eqP {x y : Operand} {a b c d : Int} {w : World} : (eqP 23 x y (pt a b) (pt c d)).run Try.prog w = .ok (.value (.bool (a == c && b == d))) w := by
  have h1 : Try.prog.underlying 23 = some (.struct (Try.prog.fieldsOf 23)) := by kernel_rfl
  have h2 : Try.prog.stoodInHeld 23 = false := by kernel_rfl
  have h3 : Try.prog.eqGuardType Try.prog.depth 23 = false := by kernel_rfl
  have hm : (Try.prog.fieldsOf 23).toList.map (fun f => (f.name, f.offset, f.type)) = [("X", 0, 3), ("Y", 1, 3)] := by kernel_rfl
  have hu : Try.prog.underlying 3 = some (.int .i64) := by kernel_rfl
  have hz : sizeT Try.prog 3 = some 1 := by kernel_rfl
  have hr : isRowT Try.prog 3 = some false := by kernel_rfl
  obtain ⟨f0, r0, hf, k0, hm⟩ := List.map_eq_cons_iff.1 hm
  obtain ⟨f1, r1, hf1, k1, hm⟩ := List.map_eq_cons_iff.1 hm
  obtain rfl : r1 = [] := List.map_eq_nil_iff.1 hm
  subst hf1
  simp only [Prod.mk.injEq] at k0 k1
  obtain ⟨n0, o0, t0⟩ := k0
  obtain ⟨n1, o1, t1⟩ := k1
  have hp : ∀ (xs : Array Value) (off : Nat) (v : Value), xs[off]? = some v → (part 3 xs off).run Try.prog w = .ok v w := by
    intro xs off v hv
    have hag : (isAgg 3).run Try.prog w = .ok false w := by unfold isAgg; rw [Sem.run_bind, run_underlying hu w]; rfl
    simp only [part, Sem.run_bind, hag, Result.andThen_ok, Bool.false_eq_true, if_false, hv, Sem.run_pure]
  have e0 : ∀ a b : Int, (Op.equalIn 9999 3 (.int .i64 a) (.int .i64 b)).run Try.prog w = .ok (a == b) w := fun a b => run_equalIn_int w 9998 _ .i64 .i64 a b hu
  have p0 : (part 3 #[.int .i64 a, .int .i64 b] 0).run Try.prog w = .ok (.int .i64 a) w := hp _ 0 _ rfl
  have p1 : (part 3 #[.int .i64 a, .int .i64 b] 1).run Try.prog w = .ok (.int .i64 b) w := hp _ 1 _ rfl
  have q0 : (part 3 #[.int .i64 c, .int .i64 d] 0).run Try.prog w = .ok (.int .i64 c) w := hp _ 0 _ rfl
  have q1 : (part 3 #[.int .i64 c, .int .i64 d] 1).run Try.prog w = .ok (.int .i64 d) w := hp _ 1 _ rfl
  have hfld : (Op.eqFields 9999 #[.int .i64 a, .int .i64 b] #[.int .i64 c, .int .i64 d] [f0, f1]).run Try.prog w = .ok (a == c && b == d) w := by
    have x0 : ("X" : String) ≠ "_" := by decide
    have x1 : ("Y" : String) ≠ "_" := by decide
    simp only [Op.eqFields, n0, n1, o0, o1, t0, t1, Sem.run_bind, p0, q0, p1, q1, Result.andThen_ok, e0, x0, x1, ne_eq, not_false_eq_true, if_true]
    cases h : a == c
    · simp [e0, h]
    · cases h' : b == d <;> simp [e0, h, p1, q1, h']
  have hq : (Op.equalIn 10000 23 (pt a b) (pt c d)).run Try.prog w = .ok (a == c && b == d) w := by
    rw [pt, pt, run_equalIn_struct w 9999 _ _ _ h1 h2, hf]; exact hfld
  simp only [eqP, pt, Sem.run_bind, run_eqGuard_agg w .eql _ x y _ _ h3, Result.andThen_ok, run_eql_struct, Sem.run_pure]
  rw [pt, pt] at hq
  rw [hq]
  rfl

def validP (X Y : Int) : Bool := decide ((-1048576 ≤ X ∧ X ≤ 1048576) ∧ (-1048576 ≤ Y ∧ Y ≤ 1048576))
section
variable {p q : Rat} {K1 K2 : Nat} {w : World} {X Y : Int}
set_option maxRecDepth 100000 in
set_option maxHeartbeats 1000000 in
theorem rvalid_m : Calls Try.prog 18 #[pt X Y] w (CallPost w (fun _ : Unit => .bool (validP X Y)) fun _ _ => True) := by
  by_cases h0 : X ≥ -1048576
  case neg =>
    refine Good.enter Try.func18 rfl ?_
    refine Good.run (by kernel_rfl) (stop := 3) 1000 _ ?_
    refine Good.slot 5 (.bool (decide (X ≥ -1048576))) (.bool false) (by kernel_rfl) (by rw [decide_eq_false (by omega)]) ?_
    refine Good.run (by kernel_rfl) (stop := 1000) 1000 _ ?_
    refine Good.ret (v := .bool false) (by kernel_rfl) (fun w1 hw h => ⟨(), by unfold validP; rw [decide_eq_false (by omega)], hw, fun _ _ _ => trivial⟩)
  by_cases h1 : X ≤ 1048576
  case neg =>
    refine Good.enter Try.func18 rfl ?_
    refine Good.run (by kernel_rfl) (stop := 3) 1000 _ ?_
    refine Good.slot 5 (.bool (decide (X ≥ -1048576))) (.bool true) (by kernel_rfl) (by rw [decide_eq_true (by omega)]) ?_
    refine Good.run (by kernel_rfl) (stop := 7) 1000 _ ?_
    refine Good.slot 9 (.bool (decide (X ≤ 1048576))) (.bool false) (by kernel_rfl) (by rw [decide_eq_false (by omega)]) ?_
    refine Good.run (by kernel_rfl) (stop := 1000) 1000 _ ?_
    refine Good.ret (v := .bool false) (by kernel_rfl) (fun w1 hw h => ⟨(), by unfold validP; rw [decide_eq_false (by omega)], hw, fun _ _ _ => trivial⟩)
  by_cases h2 : Y ≥ -1048576
  case neg =>
    refine Good.enter Try.func18 rfl ?_
    refine Good.run (by kernel_rfl) (stop := 3) 1000 _ ?_
    refine Good.slot 5 (.bool (decide (X ≥ -1048576))) (.bool true) (by kernel_rfl) (by rw [decide_eq_true (by omega)]) ?_
    refine Good.run (by kernel_rfl) (stop := 7) 1000 _ ?_
    refine Good.slot 9 (.bool (decide (X ≤ 1048576))) (.bool true) (by kernel_rfl) (by rw [decide_eq_true (by omega)]) ?_
    refine Good.run (by kernel_rfl) (stop := 12) 1000 _ ?_
    refine Good.slot 14 (.bool (decide (Y ≥ -1048576))) (.bool false) (by kernel_rfl) (by rw [decide_eq_false (by omega)]) ?_
    refine Good.run (by kernel_rfl) (stop := 1000) 1000 _ ?_
    refine Good.ret (v := .bool false) (by kernel_rfl) (fun w1 hw h => ⟨(), by unfold validP; rw [decide_eq_false (by omega)], hw, fun _ _ _ => trivial⟩)
  by_cases h3 : Y ≤ 1048576
  case neg =>
    refine Good.enter Try.func18 rfl ?_
    refine Good.run (by kernel_rfl) (stop := 3) 1000 _ ?_
    refine Good.slot 5 (.bool (decide (X ≥ -1048576))) (.bool true) (by kernel_rfl) (by rw [decide_eq_true (by omega)]) ?_
    refine Good.run (by kernel_rfl) (stop := 7) 1000 _ ?_
    refine Good.slot 9 (.bool (decide (X ≤ 1048576))) (.bool true) (by kernel_rfl) (by rw [decide_eq_true (by omega)]) ?_
    refine Good.run (by kernel_rfl) (stop := 12) 1000 _ ?_
    refine Good.slot 14 (.bool (decide (Y ≥ -1048576))) (.bool true) (by kernel_rfl) (by rw [decide_eq_true (by omega)]) ?_
    refine Good.run (by kernel_rfl) (stop := 17) 1000 _ ?_
    refine Good.slot 19 (.bool (decide (Y ≤ 1048576))) (.bool false) (by kernel_rfl) (by rw [decide_eq_false (by omega)]) ?_
    refine Good.run (by kernel_rfl) (stop := 1000) 1000 _ ?_
    refine Good.ret (v := .bool false) (by kernel_rfl) (fun w1 hw h => ⟨(), by unfold validP; rw [decide_eq_false (by omega)], hw, fun _ _ _ => trivial⟩)
  refine Good.enter Try.func18 rfl ?_
  refine Good.run (by kernel_rfl) (stop := 3) 1000 _ ?_
  refine Good.slot 5 (.bool (decide (X ≥ -1048576))) (.bool true) (by kernel_rfl) (by rw [decide_eq_true (by omega)]) ?_
  refine Good.run (by kernel_rfl) (stop := 7) 1000 _ ?_
  refine Good.slot 9 (.bool (decide (X ≤ 1048576))) (.bool true) (by kernel_rfl) (by rw [decide_eq_true (by omega)]) ?_
  refine Good.run (by kernel_rfl) (stop := 12) 1000 _ ?_
  refine Good.slot 14 (.bool (decide (Y ≥ -1048576))) (.bool true) (by kernel_rfl) (by rw [decide_eq_true (by omega)]) ?_
  refine Good.run (by kernel_rfl) (stop := 17) 1000 _ ?_
  refine Good.slot 19 (.bool (decide (Y ≤ 1048576))) (.bool true) (by kernel_rfl) (by rw [decide_eq_true (by omega)]) ?_
  refine Good.run (by kernel_rfl) (stop := 1000) 1000 _ ?_
  refine Good.ret (v := .bool true) (by kernel_rfl) (fun w1 hw h => ⟨(), by unfold validP; rw [decide_eq_true (by omega)], hw, fun _ _ _ => trivial⟩)
set_option maxRecDepth 100000 in
set_option maxHeartbeats 1000000 in
theorem offset_m {r s : RV} (hX : -9223372036854775808 ≤ X ∧ X ≤ 9223372036854775807) (hY : -9223372036854775808 ≤ Y ∧ Y ≤ 9223372036854775807) (h1 : IsQ r p K1 w) (h2 : IsQ s q K2 w) (hK : 2 ≤ K1 ∧ 2 ≤ K2 ∧ K1 + K2 ≤ 1000000) :
    Calls Try.prog 28 #[pt X Y, r.val, s.val] w (CallPost w (fun v : RV × RV => .tuple #[v.1.val, v.2.val]) fun v u => IsQN v.1 (p - (X : Rat)) (K1 + 2 + 1) u ∧ IsQN v.2 (q - (Y : Rat)) (K2 + 2 + 1) u) := by
  refine Good.enter Try.func28 rfl ?_
  refine Good.run (by kernel_rfl) (stop := 1000) 1000 _ ?_
  refine Good.callv (fun w1 hw h => qfromInt_m X w1 hX.1 hX.2) (by kernel_rfl) (fun f => ?_)
  refine Good.run (by kernel_rfl) (stop := 1000) 1000 _ ?_
  refine Good.callv (fun w1 hw h => qsub_m (h1.below hw) h.2.q (by omega)) (by kernel_rfl) (fun m => ?_)
  refine Good.run (by kernel_rfl) (stop := 1000) 1000 _ ?_
  refine Good.callv (fun w1 hw h => qfromInt_m Y w1 hY.1 hY.2) (by kernel_rfl) (fun g => ?_)
  refine Good.run (by kernel_rfl) (stop := 1000) 1000 _ ?_
  refine Good.callv (fun w1 hw h => qsub_m (h2.below hw) h.2.q (by omega)) (by kernel_rfl) (fun n => ?_)
  refine Good.run (by kernel_rfl) (stop := 1000) 1000 _ ?_
  refine Good.ret (v := .tuple #[m.val, n.val]) (by kernel_rfl) (fun w1 hw h => ⟨(m, n), rfl, hw, fun w'' k1 k2 => ⟨(h w'' k1 k2).1.1.2, (h w'' k1 k2).2⟩⟩)
end

def clampP (x : Int) : Int := if x < -1048576 then -1048576 else if 1048576 < x then 1048576 else x
section
variable {w : World} {X Y U V x : Int}
set_option maxRecDepth 100000 in
set_option maxHeartbeats 1000000 in
theorem rclampP_m : Calls Try.prog 82 #[.int .i64 x, .int .i64 (-1048576), .int .i64 1048576] w (CallPost w (fun _ : Unit => .int .i64 (clampP x)) fun _ _ => True) := by
  by_cases h1 : x < -1048576
  ·
    refine Good.enter Try.func82 rfl ?_
    refine Good.run (by kernel_rfl) (stop := 1000) 1000 _ ?_
    refine Good.condr (decide (x < -1048576)) true (by kernel_rfl) (by simpa using h1) ?_
    refine Good.run (by kernel_rfl) (stop := 1000) 1000 _ ?_
    refine Good.ret (v := .int .i64 (-1048576)) (by kernel_rfl) (fun w1 hw h => ⟨(), by unfold clampP; rw [if_pos h1], hw, fun _ _ _ => trivial⟩)
  · by_cases h2 : 1048576 < x
    ·
      refine Good.enter Try.func82 rfl ?_
      refine Good.run (by kernel_rfl) (stop := 1000) 1000 _ ?_
      refine Good.condr (decide (x < -1048576)) false (by kernel_rfl) (by simpa using h1) ?_
      refine Good.run (by kernel_rfl) (stop := 1000) 1000 _ ?_
      refine Good.condr (decide (x > 1048576)) true (by kernel_rfl) (by simpa using h2) ?_
      refine Good.run (by kernel_rfl) (stop := 1000) 1000 _ ?_
      refine Good.ret (v := .int .i64 1048576) (by kernel_rfl) (fun w1 hw h => ⟨(), by unfold clampP; rw [if_neg h1, if_pos h2], hw, fun _ _ _ => trivial⟩)
    ·
      refine Good.enter Try.func82 rfl ?_
      refine Good.run (by kernel_rfl) (stop := 1000) 1000 _ ?_
      refine Good.condr (decide (x < -1048576)) false (by kernel_rfl) (by simpa using h1) ?_
      refine Good.run (by kernel_rfl) (stop := 1000) 1000 _ ?_
      refine Good.condr (decide (x > 1048576)) false (by kernel_rfl) (by simpa using h2) ?_
      refine Good.run (by kernel_rfl) (stop := 1000) 1000 _ ?_
      refine Good.ret (v := .int .i64 x) (by kernel_rfl) (fun w1 hw h => ⟨(), by unfold clampP; rw [if_neg h1, if_neg h2], hw, fun _ _ _ => trivial⟩)
set_option maxRecDepth 100000 in
set_option maxHeartbeats 1000000 in
theorem iclampP_m : Calls Try.prog 102 #[.int .i64 x, .int .i64 (-1048576), .int .i64 1048576] w (CallPost w (fun _ : Unit => .int .i64 (clampP x)) fun _ _ => True) := by
  by_cases h1 : x < -1048576
  ·
    refine Good.enter Try.func102 rfl ?_
    refine Good.run (by kernel_rfl) (stop := 1000) 1000 _ ?_
    refine Good.condr (decide (x < -1048576)) true (by kernel_rfl) (by simpa using h1) ?_
    refine Good.run (by kernel_rfl) (stop := 1000) 1000 _ ?_
    refine Good.ret (v := .int .i64 (-1048576)) (by kernel_rfl) (fun w1 hw h => ⟨(), by unfold clampP; rw [if_pos h1], hw, fun _ _ _ => trivial⟩)
  · by_cases h2 : 1048576 < x
    ·
      refine Good.enter Try.func102 rfl ?_
      refine Good.run (by kernel_rfl) (stop := 1000) 1000 _ ?_
      refine Good.condr (decide (x < -1048576)) false (by kernel_rfl) (by simpa using h1) ?_
      refine Good.run (by kernel_rfl) (stop := 1000) 1000 _ ?_
      refine Good.condr (decide (x > 1048576)) true (by kernel_rfl) (by simpa using h2) ?_
      refine Good.run (by kernel_rfl) (stop := 1000) 1000 _ ?_
      refine Good.ret (v := .int .i64 1048576) (by kernel_rfl) (fun w1 hw h => ⟨(), by unfold clampP; rw [if_neg h1, if_pos h2], hw, fun _ _ _ => trivial⟩)
    ·
      refine Good.enter Try.func102 rfl ?_
      refine Good.run (by kernel_rfl) (stop := 1000) 1000 _ ?_
      refine Good.condr (decide (x < -1048576)) false (by kernel_rfl) (by simpa using h1) ?_
      refine Good.run (by kernel_rfl) (stop := 1000) 1000 _ ?_
      refine Good.condr (decide (x > 1048576)) false (by kernel_rfl) (by simpa using h2) ?_
      refine Good.run (by kernel_rfl) (stop := 1000) 1000 _ ?_
      refine Good.ret (v := .int .i64 x) (by kernel_rfl) (fun w1 hw h => ⟨(), by unfold clampP; rw [if_neg h1, if_neg h2], hw, fun _ _ _ => trivial⟩)
set_option maxRecDepth 100000 in
set_option maxHeartbeats 1000000 in
theorem rhold_m : Calls Try.prog 46 #[pt X Y] w (CallPost w (fun _ : Unit => pt (clampP X) (clampP Y)) fun _ _ => True) := by
  refine Good.enter Try.func46 rfl ?_
  refine Good.run (by kernel_rfl) (stop := 1000) 1000 _ ?_
  refine Good.callv (fun w1 hw h => rclampP_m (x := X)) (by kernel_rfl) (fun u => ?_)
  refine Good.run (by kernel_rfl) (stop := 1000) 1000 _ ?_
  refine Good.callv (fun w1 hw h => rclampP_m (x := Y)) (by kernel_rfl) (fun v => ?_)
  refine Good.run (by kernel_rfl) (stop := 1000) 1000 _ ?_
  refine Good.ret (v := pt (clampP X) (clampP Y)) (by kernel_rfl) (fun w1 hw h => ⟨(), rfl, hw, fun _ _ _ => trivial⟩)
set_option maxRecDepth 100000 in
set_option maxHeartbeats 1000000 in
theorem held_m : Calls Try.prog 85 #[.int .i64 x] w (CallPost w (fun _ : Unit => .int .i64 (clampP x)) fun _ _ => True) := by
  refine Good.enter Try.func85 rfl ?_
  refine Good.run (by kernel_rfl) (stop := 1000) 1000 _ ?_
  refine Good.callv (fun w1 hw h => iclampP_m (x := x)) (by kernel_rfl) (fun u => ?_)
  refine Good.run (by kernel_rfl) (stop := 1000) 1000 _ ?_
  refine Good.ret (v := .int .i64 (clampP x)) (by kernel_rfl) (fun w1 hw h => ⟨(), rfl, hw, fun _ _ _ => trivial⟩)
set_option maxRecDepth 100000 in
set_option maxHeartbeats 1000000 in
theorem hold_m : Calls Try.prog 53 #[pt X Y] w (CallPost w (fun _ : Unit => pt (clampP X) (clampP Y)) fun _ _ => True) := by
  refine Good.enter Try.func53 rfl ?_
  refine Good.run (by kernel_rfl) (stop := 1000) 1000 _ ?_
  refine Good.callv (fun w1 hw h => held_m (x := X)) (by kernel_rfl) (fun u => ?_)
  refine Good.run (by kernel_rfl) (stop := 1000) 1000 _ ?_
  refine Good.callv (fun w1 hw h => held_m (x := Y)) (by kernel_rfl) (fun v => ?_)
  refine Good.run (by kernel_rfl) (stop := 1000) 1000 _ ?_
  refine Good.ret (v := pt (clampP X) (clampP Y)) (by kernel_rfl) (fun w1 hw h => ⟨(), rfl, hw, fun _ _ _ => trivial⟩)
theorem clampP_eq (x : Int) : (clampP x == x) = decide (-1048576 ≤ x ∧ x ≤ 1048576) := by
  unfold clampP
  split
  · rw [decide_eq_false (by omega)]; simp; omega
  · split
    · rw [decide_eq_false (by omega)]; simp; omega
    · rw [decide_eq_true (by omega)]; simp
theorem validP_eq (X Y : Int) : (clampP X == X && clampP Y == Y) = validP X Y := by
  rw [clampP_eq, clampP_eq]; unfold validP; simp
set_option maxRecDepth 100000 in
set_option maxHeartbeats 1000000 in
theorem valid_m : Calls Try.prog 27 #[pt X Y] w (CallPost w (fun _ : Unit => .bool (validP X Y)) fun _ _ => True) := by
  refine Good.enter Try.func27 rfl ?_
  refine Good.run (by kernel_rfl) (stop := 1000) 1000 _ ?_
  refine Good.callv (fun w1 hw h => hold_m (X := X) (Y := Y)) (by kernel_rfl) (fun u => ?_)
  refine Good.run (by kernel_rfl) (stop := 3) 1000 _ ?_
  refine Good.askAt 3 (eqP 23 (.tmp 4) (.tmp 5) (pt (clampP X) (clampP Y)) (pt X Y)) (.bool (clampP X == X && clampP Y == Y)) (by kernel_rfl) (fun w1 hw h => run_eqP) ?_
  refine Good.run (by kernel_rfl) (stop := 1000) 1000 _ ?_
  refine Good.ret (v := .bool (clampP X == X && clampP Y == Y)) (by kernel_rfl) (fun w1 hw h => ⟨(), by rw [validP_eq], hw, fun _ _ _ => trivial⟩)
set_option maxRecDepth 100000 in
set_option maxHeartbeats 1000000 in
theorem rsubP_m : Calls Try.prog 20 #[pt X Y, pt U V] w (CallPost w (fun _ : Unit => pt (IntKind.i64.wrap (clampP X - clampP U)) (IntKind.i64.wrap (clampP Y - clampP V))) fun _ _ => True) := by
  refine Good.enter Try.func20 rfl ?_
  refine Good.run (by kernel_rfl) (stop := 1000) 1000 _ ?_
  refine Good.callv (fun w1 hw h => rhold_m (X := X) (Y := Y)) (by kernel_rfl) (fun u => ?_)
  refine Good.run (by kernel_rfl) (stop := 1000) 1000 _ ?_
  refine Good.callv (fun w1 hw h => rhold_m (X := U) (Y := V)) (by kernel_rfl) (fun v => ?_)
  refine Good.run (by kernel_rfl) (stop := 1000) 1000 _ ?_
  refine Good.ret (v := pt (IntKind.i64.wrap (clampP X - clampP U)) (IntKind.i64.wrap (clampP Y - clampP V))) (by kernel_rfl) (fun w1 hw h => ⟨(), rfl, hw, fun _ _ _ => trivial⟩)
set_option maxRecDepth 100000 in
set_option maxHeartbeats 1000000 in
theorem raddP_m : Calls Try.prog 25 #[pt X Y, pt U V] w (CallPost w (fun _ : Unit => pt (IntKind.i64.wrap (clampP X + clampP U)) (IntKind.i64.wrap (clampP Y + clampP V))) fun _ _ => True) := by
  refine Good.enter Try.func25 rfl ?_
  refine Good.run (by kernel_rfl) (stop := 1000) 1000 _ ?_
  refine Good.callv (fun w1 hw h => rhold_m (X := X) (Y := Y)) (by kernel_rfl) (fun u => ?_)
  refine Good.run (by kernel_rfl) (stop := 1000) 1000 _ ?_
  refine Good.callv (fun w1 hw h => rhold_m (X := U) (Y := V)) (by kernel_rfl) (fun v => ?_)
  refine Good.run (by kernel_rfl) (stop := 1000) 1000 _ ?_
  refine Good.ret (v := pt (IntKind.i64.wrap (clampP X + clampP U)) (IntKind.i64.wrap (clampP Y + clampP V))) (by kernel_rfl) (fun w1 hw h => ⟨(), rfl, hw, fun _ _ _ => trivial⟩)
end

/-- The position along a line. -/
def linF (X Y U V : Int) (p q : Rat) : Rat := (((65536 : Int) : Rat) * ((p - (X : Rat)) * ((U - X : Int) : Rat) + (q - (Y : Rat)) * ((V - Y : Int) : Rat))) / (((U - X : Int) : Rat) * ((U - X : Int) : Rat) + ((V - Y : Int) : Rat) * ((V - Y : Int) : Rat))
def linV (X Y U V : Int) (p q : Rat) : Int := if validP X Y = true ∧ validP U V = true ∧ ¬ (X = U ∧ Y = V) then clampI (linF X Y U V p q).floor else 65536
section
variable {w : World} {X Y U V x : Int} {p q : Rat} {K : Nat}
theorem rvalid_v {B : Bool} (h : validP X Y = B) : Calls Try.prog 18 #[pt X Y] w (CallPost w (fun _ : Unit => .bool B) fun _ _ => True) := by subst h; exact rvalid_m
theorem valid_v {B : Bool} (h : validP X Y = B) : Calls Try.prog 27 #[pt X Y] w (CallPost w (fun _ : Unit => .bool B) fun _ _ => True) := by subst h; exact valid_m
theorem clampP_id (h : -1048576 ≤ x ∧ x ≤ 1048576) : clampP x = x := by unfold clampP; rw [if_neg (by omega), if_neg (by omega)]
theorem rsubP_v (h1 : validP X Y = true) (h2 : validP U V = true) : Calls Try.prog 20 #[pt U V, pt X Y] w (CallPost w (fun _ : Unit => pt (U - X) (V - Y)) fun _ _ => True) := by
  unfold validP at h1 h2
  simp only [decide_eq_true_eq] at h1 h2
  have := rsubP_m (w := w) (X := U) (Y := V) (U := X) (V := Y)
  rwa [clampP_id h1.1, clampP_id h1.2, clampP_id h2.1, clampP_id h2.2, IntWalk.i64_in _ (by omega), IntWalk.i64_in _ (by omega)] at this
theorem rfit {a : SV} (ha : IsI a x K w) (hK : K ≤ 1000000) (hx : -1099511627776 ≤ x ∧ x ≤ 1099511627776) : Calls Try.prog 43 #[a.val] w (CallPost w (fun _ : Unit => .tuple #[.int .i64 x, .bool true]) fun _ _ => True) := by
  have hf : fitB x = true := by unfold fitB; rw [decide_eq_true (by omega)]
  have := (rtoInt_c w ha.inn (by have := ha.le; omega) ha.zi).mono fun _ _ h => h.post
  rwa [show toV x = x from if_pos hf, hf] at this
theorem sq_ne {a b : Int} (h : ¬ (a = 0 ∧ b = 0)) : ((a : Rat) * (a : Rat) + (b : Rat) * (b : Rat)) ≠ 0 := by
  intro e
  have h1 : ((a * a + b * b : Int) : Rat) = 0 := by rw [← e]; push_cast; rfl
  have h2 : a * a + b * b = 0 := by exact_mod_cast h1
  have sq : ∀ z : Int, z * z = ((z.natAbs * z.natAbs : Nat) : Int) := fun z => by rw [Int.natCast_mul]; exact (Int.natAbs_mul_self' z).symm
  rw [sq a, sq b] at h2
  have ka : a.natAbs * a.natAbs = 0 := by omega
  have kb : b.natAbs * b.natAbs = 0 := by omega
  have ka : a.natAbs = 0 := by rcases Nat.mul_eq_zero.1 ka with e | e <;> exact e
  have kb : b.natAbs = 0 := by rcases Nat.mul_eq_zero.1 kb with e | e <;> exact e
  exact h ⟨by omega, by omega⟩
theorem quo_n {r : RV} (h : IsQuo r p q K w) (hq : q ≠ 0) : IsQN r (p / q) K w := by unfold IsQuo at h; rw [if_neg hq] at h; exact h
set_option maxRecDepth 100000 in
set_option maxHeartbeats 2000000 in
theorem rlinear_m {r s : RV} (h1 : IsQ r p 30 w) (h2 : IsQ s q 30 w) :
    Calls Try.prog 12 #[pt X Y, pt U V, r.val, s.val] w (CallPost w (fun _ : Unit => .int .i64 (linV X Y U V p q)) fun _ _ => True) := by
  cases ha : validP X Y
  case false =>
    refine Good.enter Try.func12 rfl ?_
    refine Good.run (by kernel_rfl) (stop := 1000) 1000 _ ?_
    refine Good.callv (fun w1 hw h => rvalid_v ha) (by kernel_rfl) (fun u => ?_)
    refine Good.run (by kernel_rfl) (stop := 1000) 1000 _ ?_
    refine Good.cond true (by kernel_rfl) ?_
    refine Good.run (by kernel_rfl) (stop := 1000) 1000 _ ?_
    refine Good.ret (v := .int .i64 65536) (by kernel_rfl) (fun w1 hw h => ⟨(), by unfold linV; rw [if_neg (by rw [ha]; simp)], hw, fun _ _ _ => trivial⟩)
  cases hb : validP U V
  case false =>
    refine Good.enter Try.func12 rfl ?_
    refine Good.run (by kernel_rfl) (stop := 1000) 1000 _ ?_
    refine Good.callv (fun w1 hw h => rvalid_v ha) (by kernel_rfl) (fun u => ?_)
    refine Good.run (by kernel_rfl) (stop := 1000) 1000 _ ?_
    refine Good.callv (fun w1 hw h => rvalid_v hb) (by kernel_rfl) (fun u => ?_)
    refine Good.run (by kernel_rfl) (stop := 1000) 1000 _ ?_
    refine Good.cond true (by kernel_rfl) ?_
    refine Good.run (by kernel_rfl) (stop := 1000) 1000 _ ?_
    refine Good.ret (v := .int .i64 65536) (by kernel_rfl) (fun w1 hw h => ⟨(), by unfold linV; rw [if_neg (by rw [hb]; simp)], hw, fun _ _ _ => trivial⟩)
  by_cases he : X = U ∧ Y = V
  ·
    refine Good.enter Try.func12 rfl ?_
    refine Good.run (by kernel_rfl) (stop := 1000) 1000 _ ?_
    refine Good.callv (fun w1 hw h => rvalid_v ha) (by kernel_rfl) (fun u => ?_)
    refine Good.run (by kernel_rfl) (stop := 1000) 1000 _ ?_
    refine Good.callv (fun w1 hw h => rvalid_v hb) (by kernel_rfl) (fun u => ?_)
    refine Good.run (by kernel_rfl) (stop := 11) 1000 _ ?_
    refine Good.ask (eqP 23 (.tmp 24) (.tmp 25) (pt X Y) (pt U V)) (.bool true) (by kernel_rfl) (fun w1 hw h => by rw [run_eqP, he.1, he.2]; simp) ?_
    refine Good.run (by kernel_rfl) (stop := 1000) 1000 _ ?_
    refine Good.cond true (by kernel_rfl) ?_
    refine Good.run (by kernel_rfl) (stop := 1000) 1000 _ ?_
    refine Good.ret (v := .int .i64 65536) (by kernel_rfl) (fun w1 hw h => ⟨(), by unfold linV; rw [if_neg (by simp [he])], hw, fun _ _ _ => trivial⟩)
  · have hv : (-1048576 ≤ X ∧ X ≤ 1048576) ∧ (-1048576 ≤ Y ∧ Y ≤ 1048576) := by unfold validP at ha; simpa using ha
    have hv2 : (-1048576 ≤ U ∧ U ≤ 1048576) ∧ (-1048576 ≤ V ∧ V ≤ 1048576) := by unfold validP at hb; simpa using hb
    have hd := sq_ne (a := U - X) (b := V - Y) (by omega)
    refine Good.enter Try.func12 rfl ?_
    refine Good.run (by kernel_rfl) (stop := 1000) 1000 _ ?_
    refine Good.callv (fun w1 hw h => rvalid_v ha) (by kernel_rfl) (fun u => ?_)
    refine Good.run (by kernel_rfl) (stop := 1000) 1000 _ ?_
    refine Good.callv (fun w1 hw h => rvalid_v hb) (by kernel_rfl) (fun u => ?_)
    refine Good.run (by kernel_rfl) (stop := 11) 1000 _ ?_
    refine Good.ask (eqP 23 (.tmp 24) (.tmp 25) (pt X Y) (pt U V)) (.bool false) (by kernel_rfl) (fun w1 hw h => by rw [run_eqP]; have : (X == U && Y == V) = false := by { simp; omega }; rw [this]) ?_
    refine Good.run (by kernel_rfl) (stop := 1000) 1000 _ ?_
    refine Good.cond false (by kernel_rfl) ?_
    refine Good.run (by kernel_rfl) (stop := 1000) 1000 _ ?_
    refine Good.callv (fun w1 hw h => rsubP_v ha hb) (by kernel_rfl) (fun o => ?_)
    refine Good.run (by kernel_rfl) (stop := 1000) 1000 _ ?_
    refine Good.callv (fun w1 hw h => rqfromInt_m (U - X) w1 (by omega) (by omega)) (by kernel_rfl) (fun u => ?_)
    refine Good.run (by kernel_rfl) (stop := 1000) 1000 _ ?_
    refine Good.callv (fun w1 hw h => rqfromInt_m (V - Y) w1 (by omega) (by omega)) (by kernel_rfl) (fun v => ?_)
    refine Good.run (by kernel_rfl) (stop := 1000) 1000 _ ?_
    refine Good.callv (fun w1 hw h => rqfromInt_m X w1 (by omega) (by omega)) (by kernel_rfl) (fun f => ?_)
    refine Good.run (by kernel_rfl) (stop := 1000) 1000 _ ?_
    refine Good.callv (fun w1 hw h => rqsub_m (h1.below hw) h.2.q (by decide)) (by kernel_rfl) (fun m => ?_)
    refine Good.run (by kernel_rfl) (stop := 1000) 1000 _ ?_
    refine Good.callv (fun w1 hw h => rqfromInt_m Y w1 (by omega) (by omega)) (by kernel_rfl) (fun g => ?_)
    refine Good.run (by kernel_rfl) (stop := 1000) 1000 _ ?_
    refine Good.callv (fun w1 hw h => rqsub_m (h2.below hw) h.2.q (by decide)) (by kernel_rfl) (fun n => ?_)
    refine Good.run (by kernel_rfl) (stop := 1000) 1000 _ ?_
    refine Good.callv (fun w1 hw h => rdot_m h.1.1.2.q h.2.q h.1.1.1.1.1.2.q h.1.1.1.1.2.q (by decide)) (by kernel_rfl) (fun d => ?_)
    refine Good.run (by kernel_rfl) (stop := 1000) 1000 _ ?_
    refine Good.callv (fun w1 hw h => rqfromInt_m 65536 w1 (by decide) (by decide)) (by kernel_rfl) (fun c => ?_)
    refine Good.run (by kernel_rfl) (stop := 1000) 1000 _ ?_
    refine Good.callv (fun w1 hw h => rqmul_m h.2.q h.1.2.q (by decide)) (by kernel_rfl) (fun e => ?_)
    refine Good.run (by kernel_rfl) (stop := 1000) 1000 _ ?_
    refine Good.callv (fun w1 hw h => rdot_m h.1.1.1.1.1.1.1.1.2.q h.1.1.1.1.1.1.1.2.q h.1.1.1.1.1.1.1.1.2.q h.1.1.1.1.1.1.1.2.q (by decide)) (by kernel_rfl) (fun k => ?_)
    refine Good.run (by kernel_rfl) (stop := 1000) 1000 _ ?_
    refine Good.callv (fun w1 hw h => rqquo_m h.1.2.q h.2.q (by decide)) (by kernel_rfl) (fun z => ?_)
    refine Good.run (by kernel_rfl) (stop := 1000) 1000 _ ?_
    refine Good.callv (fun w1 hw h => rqfloor_m (quo_n h.2 hd).q (by decide)) (by kernel_rfl) (fun l => ?_)
    refine Good.run (by kernel_rfl) (stop := 1000) 1000 _ ?_
    refine Good.callv (fun w1 hw h => rclamp_m (fun u hu hx => rfit hu (by decide) hx) h.2.i (by decide)) (by kernel_rfl) (fun y => ?_)
    refine Good.run (by kernel_rfl) (stop := 1000) 1000 _ ?_
    refine Good.ret (v := .int .i64 (clampI (linF X Y U V p q).floor)) (by kernel_rfl) (fun w1 hw h => ⟨(), by unfold linV; rw [if_pos ⟨ha, hb, he⟩], hw, fun _ _ _ => trivial⟩)
end

section
variable {w : World} {X Y U V x : Int} {p q : Rat} {K : Nat}
theorem sq_bd {z : Int} (h : -2097152 ≤ z ∧ z ≤ 2097152) : 0 ≤ z * z ∧ z * z ≤ 4398046511104 := by
  have sq : z * z = ((z.natAbs * z.natAbs : Nat) : Int) := by rw [Int.natCast_mul]; exact (Int.natAbs_mul_self' z).symm
  have h1 : z.natAbs * z.natAbs ≤ 2097152 * 2097152 := Nat.mul_le_mul (by omega) (by omega)
  rw [sq]; omega
/-- What ClampPos must do. -/
def ClampOk : Prop := ∀ (a : SV) (x : Int) (K : Nat) (u : World), IsI a x K u → K ≤ 1000000 → Calls Try.prog 15 #[a.val] u (CallPost u (fun _ : Unit => .int .i64 (clampI x)) fun _ _ => True)
set_option maxRecDepth 100000 in
set_option maxHeartbeats 2000000 in
theorem linear_m {r s : RV} (hc : ClampOk) (h1 : IsQ r p 30 w) (h2 : IsQ s q 30 w) :
    Calls Try.prog 11 #[pt X Y, pt U V, r.val, s.val] w (CallPost w (fun _ : Unit => .int .i64 (linV X Y U V p q)) fun _ _ => True) := by
  by_cases he : X = U ∧ Y = V
  ·
    refine Good.enter Try.func11 rfl ?_
    refine Good.run (by kernel_rfl) (stop := 2) 1000 _ ?_
    refine Good.run (by kernel_rfl) (stop := 1000) 1 _ ?_
    refine Good.run (by kernel_rfl) (stop := 2) 1000 _ ?_
    refine Good.ask (eqP 23 (.tmp 16) (.tmp 17) (pt X Y) (pt U V)) (.bool true) (by kernel_rfl) (fun w1 hw h => by rw [run_eqP, he.1, he.2]; simp) ?_
    refine Good.run (by kernel_rfl) (stop := 1000) 1000 _ ?_
    refine Good.cond true (by kernel_rfl) ?_
    refine Good.run (by kernel_rfl) (stop := 1000) 1000 _ ?_
    refine Good.ret (v := .int .i64 65536) (by kernel_rfl) (fun w1 hw h => ⟨(), by unfold linV; rw [if_neg (by simp [he])], hw, fun _ _ _ => trivial⟩)
  have hE : (X == U && Y == V) = false := by simp; omega
  cases ha : validP X Y
  case false =>
    refine Good.enter Try.func11 rfl ?_
    refine Good.run (by kernel_rfl) (stop := 2) 1000 _ ?_
    refine Good.run (by kernel_rfl) (stop := 1000) 1 _ ?_
    refine Good.run (by kernel_rfl) (stop := 2) 1000 _ ?_
    refine Good.ask (eqP 23 (.tmp 16) (.tmp 17) (pt X Y) (pt U V)) (.bool false) (by kernel_rfl) (fun w1 hw h => by rw [run_eqP, hE]) ?_
    refine Good.run (by kernel_rfl) (stop := 1000) 1000 _ ?_
    refine Good.callv (fun w1 hw h => valid_v ha) (by kernel_rfl) (fun u => ?_)
    refine Good.run (by kernel_rfl) (stop := 1000) 1000 _ ?_
    refine Good.cond true (by kernel_rfl) ?_
    refine Good.run (by kernel_rfl) (stop := 1000) 1000 _ ?_
    refine Good.ret (v := .int .i64 65536) (by kernel_rfl) (fun w1 hw h => ⟨(), by unfold linV; rw [if_neg (by rw [ha]; simp)], hw, fun _ _ _ => trivial⟩)
  cases hb : validP U V
  case false =>
    refine Good.enter Try.func11 rfl ?_
    refine Good.run (by kernel_rfl) (stop := 2) 1000 _ ?_
    refine Good.run (by kernel_rfl) (stop := 1000) 1 _ ?_
    refine Good.run (by kernel_rfl) (stop := 2) 1000 _ ?_
    refine Good.ask (eqP 23 (.tmp 16) (.tmp 17) (pt X Y) (pt U V)) (.bool false) (by kernel_rfl) (fun w1 hw h => by rw [run_eqP, hE]) ?_
    refine Good.run (by kernel_rfl) (stop := 1000) 1000 _ ?_
    refine Good.callv (fun w1 hw h => valid_v ha) (by kernel_rfl) (fun u => ?_)
    refine Good.run (by kernel_rfl) (stop := 1000) 1000 _ ?_
    refine Good.callv (fun w1 hw h => valid_v hb) (by kernel_rfl) (fun u => ?_)
    refine Good.run (by kernel_rfl) (stop := 1000) 1000 _ ?_
    refine Good.cond true (by kernel_rfl) ?_
    refine Good.run (by kernel_rfl) (stop := 1000) 1000 _ ?_
    refine Good.ret (v := .int .i64 65536) (by kernel_rfl) (fun w1 hw h => ⟨(), by unfold linV; rw [if_neg (by rw [hb]; simp)], hw, fun _ _ _ => trivial⟩)
  have hv : (-1048576 ≤ X ∧ X ≤ 1048576) ∧ (-1048576 ≤ Y ∧ Y ≤ 1048576) := by unfold validP at ha; simpa using ha
  have hv2 : (-1048576 ≤ U ∧ U ≤ 1048576) ∧ (-1048576 ≤ V ∧ V ≤ 1048576) := by unfold validP at hb; simpa using hb
  have s1 := sq_bd (z := U - X) (by omega)
  have s2 := sq_bd (z := V - Y) (by omega)
  have hdd := sq_ne (a := U - X) (b := V - Y) (by omega)
  have hcast : (((U - X) * (U - X) + (V - Y) * (V - Y) : Int) : Rat) = ((U - X : Int) : Rat) * ((U - X : Int) : Rat) + ((V - Y : Int) : Rat) * ((V - Y : Int) : Rat) := by push_cast; rfl
  have hd : (((U - X) * (U - X) + (V - Y) * (V - Y) : Int) : Rat) ≠ 0 := by rw [hcast]; exact hdd
  refine Good.enter Try.func11 rfl ?_
  refine Good.run (by kernel_rfl) (stop := 2) 1000 _ ?_
  refine Good.run (by kernel_rfl) (stop := 1000) 1 _ ?_
  refine Good.run (by kernel_rfl) (stop := 2) 1000 _ ?_
  refine Good.ask (eqP 23 (.tmp 16) (.tmp 17) (pt X Y) (pt U V)) (.bool false) (by kernel_rfl) (fun w1 hw h => by rw [run_eqP, hE]) ?_
  refine Good.run (by kernel_rfl) (stop := 1000) 1000 _ ?_
  refine Good.callv (fun w1 hw h => valid_v ha) (by kernel_rfl) (fun u => ?_)
  refine Good.run (by kernel_rfl) (stop := 1000) 1000 _ ?_
  refine Good.callv (fun w1 hw h => valid_v hb) (by kernel_rfl) (fun u => ?_)
  refine Good.run (by kernel_rfl) (stop := 1000) 1000 _ ?_
  refine Good.cond false (by kernel_rfl) ?_
  refine Good.run (by kernel_rfl) (stop := 1000) 1000 _ ?_
  refine Good.slot 9 (.int .i64 (IntKind.i64.wrap (U - X))) (.int .i64 (U - X)) (by kernel_rfl) (by rw [IntWalk.i64_in _ (by omega)]) ?_
  refine Good.slot 10 (.int .i64 (IntKind.i64.wrap (V - Y))) (.int .i64 (V - Y)) (by kernel_rfl) (by rw [IntWalk.i64_in _ (by omega)]) ?_
  refine Good.callv (fun w1 hw h => offset_m (X := X) (Y := Y) (by omega) (by omega) (h1.below hw) (h2.below hw) (by decide)) (by kernel_rfl) (fun o => ?_)
  refine Good.run (by kernel_rfl) (stop := 1000) 1000 _ ?_
  refine Good.callv (fun w1 hw h => qfromInt_m (U - X) w1 (by omega) (by omega)) (by kernel_rfl) (fun u => ?_)
  refine Good.run (by kernel_rfl) (stop := 1000) 1000 _ ?_
  refine Good.callv (fun w1 hw h => qmul_m h.1.2.1.q h.2.q (by decide)) (by kernel_rfl) (fun m => ?_)
  refine Good.run (by kernel_rfl) (stop := 1000) 1000 _ ?_
  refine Good.callv (fun w1 hw h => qfromInt_m (V - Y) w1 (by omega) (by omega)) (by kernel_rfl) (fun v => ?_)
  refine Good.run (by kernel_rfl) (stop := 1000) 1000 _ ?_
  refine Good.callv (fun w1 hw h => qmul_m h.1.1.1.2.2.q h.2.q (by decide)) (by kernel_rfl) (fun n => ?_)
  refine Good.run (by kernel_rfl) (stop := 1000) 1000 _ ?_
  refine Good.callv (fun w1 hw h => qadd_m h.1.1.2.q h.2.q (by decide)) (by kernel_rfl) (fun d => ?_)
  refine Good.run (by kernel_rfl) (stop := 1000) 1000 _ ?_
  refine Good.callv (fun w1 hw h => qfromInt_m 65536 w1 (by decide) (by decide)) (by kernel_rfl) (fun c => ?_)
  refine Good.run (by kernel_rfl) (stop := 1000) 1000 _ ?_
  refine Good.callv (fun w1 hw h => qmul_m h.2.q h.1.2.q (by decide)) (by kernel_rfl) (fun e => ?_)
  refine Good.run (by kernel_rfl) (stop := 1000) 1000 _ ?_
  refine Good.slot 65 (.int .i64 (IntKind.i64.wrap (IntKind.i64.wrap ((U - X) * (U - X)) + IntKind.i64.wrap ((V - Y) * (V - Y))))) (.int .i64 ((U - X) * (U - X) + (V - Y) * (V - Y))) (by kernel_rfl) (by rw [IntWalk.i64_in ((U - X) * (U - X)) (by omega), IntWalk.i64_in ((V - Y) * (V - Y)) (by omega), IntWalk.i64_in _ (by omega)]) ?_
  refine Good.callv (fun w1 hw h => qfromInt_m ((U - X) * (U - X) + (V - Y) * (V - Y)) w1 (by omega) (by omega)) (by kernel_rfl) (fun k => ?_)
  refine Good.run (by kernel_rfl) (stop := 1000) 1000 _ ?_
  refine Good.callv (fun w1 hw h => qquo_m h.1.2.q h.2.q (by decide)) (by kernel_rfl) (fun z => ?_)
  refine Good.run (by kernel_rfl) (stop := 1000) 1000 _ ?_
  refine Good.callv (fun w1 hw h => qfloor_m (quo_n h.2 hd).q (by decide)) (by kernel_rfl) (fun l => ?_)
  refine Good.run (by kernel_rfl) (stop := 1000) 1000 _ ?_
  refine Good.callv (fun w1 hw h => hc _ (linF X Y U V p q).floor _ w1 (IsN.cast h.2 (by rw [hcast]; rfl)).i (by decide)) (by kernel_rfl) (fun y => ?_)
  refine Good.run (by kernel_rfl) (stop := 1000) 1000 _ ?_
  refine Good.ret (v := .int .i64 (clampI (linF X Y U V p q).floor)) (by kernel_rfl) (fun w1 hw h => ⟨(), by unfold linV; rw [if_pos ⟨ha, hb, he⟩], hw, fun _ _ _ => trivial⟩)
end

/-- The root, cut off. -/
def isqG (n : Nat) : Nat → Nat
  | 0 => 0
  | k + 1 => if (k + 1) * (k + 1) ≤ n then k + 1 else isqG n k
def isqrt (n : Nat) : Nat := isqG n n
theorem isqG_spec (n : Nat) : ∀ k, n < (k + 1) * (k + 1) → IsSqrt n (isqG n k)
  | 0, h => ⟨by simp [isqG], by simpa [isqG] using h⟩
  | k + 1, h => by
    unfold isqG
    split
    · rename_i h1; exact ⟨h1, h⟩
    · exact isqG_spec n k (by omega)
theorem isqrt_spec (n : Nat) : IsSqrt n (isqrt n) := isqG_spec n n (by rw [Nat.succ_mul, Nat.mul_succ]; omega)
theorem isqrt_eq {n r : Nat} (h : IsSqrt n r) : isqrt n = r := (isqrt_spec n).unique h
theorem isqrt_le (n : Nat) : isqrt n ≤ n := by
  have h := (isqrt_spec n).1
  rcases Nat.eq_zero_or_pos (isqrt n) with e | e
  · omega
  · exact Nat.le_trans (Nat.le_mul_of_pos_left _ e) h
theorem sqrt_m {a : DV} {x K : Nat} {w : World} (ha : IsU a x K w) (hK : K ≤ 4000) : Calls Try.prog 39 #[a.val] w (CallPost w DV.val fun v w => IsUN v (isqrt x) K w) := by
  refine (sqrt_c w ha.1 (by have := ha.2.2; omega)).mono fun _ _ h => ?_
  obtain ⟨r, hr, h⟩ := h
  rw [ha.2.1] at hr
  rw [← isqrt_eq hr] at h
  exact h.post (Nat.lt_of_le_of_lt (isqrt_le x) ha.lt)
theorem rsqrt_m {a : DV} {x K : Nat} {w : World} (ha : IsU a x K w) (hK : K ≤ 4000) : Calls Try.prog 41 #[a.val] w (CallPost w DV.val fun v w => IsUN v (isqrt x) K w) := by
  refine (refSqrt_c w ha.1 (by have := ha.2.2; omega)).mono fun _ _ h => ?_
  obtain ⟨r, hr, h⟩ := h
  rw [ha.2.1] at hr
  rw [← isqrt_eq hr] at h
  exact h.post (Nat.lt_of_le_of_lt (isqrt_le x) ha.lt)

def radF (X Y r : Int) (p q : Rat) : Rat := (((4294967296 : Int) : Rat) * ((p - (X : Rat)) * (p - (X : Rat)) + (q - (Y : Rat)) * (q - (Y : Rat)))) / ((r * r : Int) : Rat)
def radV (X Y r : Int) (p q : Rat) : Int := if validP X Y = true ∧ 1 ≤ r ∧ r ≤ 1048576 then clampI (isqrt (radF X Y r p q).floor.natAbs : Nat) else 65536
section
variable {w : World} {X Y r : Int} {p q : Rat} {K : Nat}
set_option maxRecDepth 100000 in
set_option maxHeartbeats 2000000 in
theorem rradial_m {s t : RV} (hr : -9223372036854775808 ≤ r ∧ r ≤ 9223372036854775807) (h1 : IsQ s p 30 w) (h2 : IsQ t q 30 w) :
    Calls Try.prog 14 #[pt X Y, .int .i64 r, s.val, t.val] w (CallPost w (fun _ : Unit => .int .i64 (radV X Y r p q)) fun _ _ => True) := by
  cases ha : validP X Y
  case false =>
    refine Good.enter Try.func14 rfl ?_
    refine Good.run (by kernel_rfl) (stop := 1000) 1000 _ ?_
    refine Good.callv (fun w1 hw h => rvalid_v ha) (by kernel_rfl) (fun u => ?_)
    refine Good.run (by kernel_rfl) (stop := 1000) 1000 _ ?_
    refine Good.cond true (by kernel_rfl) ?_
    refine Good.run (by kernel_rfl) (stop := 1000) 1000 _ ?_
    refine Good.ret (v := .int .i64 65536) (by kernel_rfl) (fun w1 hw h => ⟨(), by unfold radV; rw [if_neg (by rw [ha]; simp)], hw, fun _ _ _ => trivial⟩)
  have hv : (-1048576 ≤ X ∧ X ≤ 1048576) ∧ (-1048576 ≤ Y ∧ Y ≤ 1048576) := by unfold validP at ha; simpa using ha
  refine Good.enter Try.func14 rfl ?_
  refine Good.run (by kernel_rfl) (stop := 1000) 1000 _ ?_
  refine Good.callv (fun w1 hw h => rvalid_v ha) (by kernel_rfl) (fun u => ?_)
  refine Good.run (by kernel_rfl) (stop := 7) 1000 _ ?_
  refine Good.fork 19 (decide (r < 1)) (by kernel_rfl) (fun hc => ?_) (fun hc => ?_)
  ·
    refine Good.runC (by kernel_rfl) (stop := 1000) 6000 _ ?_
    have hr1 : r < 1 := of_decide_eq_true hc
    refine Good.ret (v := .int .i64 65536) (by kernel_rfl) (fun w1 hw h => ⟨(), by unfold radV; rw [if_neg (by omega)], hw, fun _ _ _ => trivial⟩)
  refine Good.run (by kernel_rfl) (stop := 1000) 1000 _ ?_
  have hr1 : ¬ r < 1 := of_decide_eq_false hc
  clear hc
  refine Good.both (decide (r > 1048576)) (by kernel_rfl) (fun hc => ?_) (fun hc => ?_)
  ·
    refine Good.runC (by kernel_rfl) (stop := 1000) 6000 _ ?_
    have hr2 : r > 1048576 := of_decide_eq_true hc
    refine Good.ret (v := .int .i64 65536) (by kernel_rfl) (fun w1 hw h => ⟨(), by unfold radV; rw [if_neg (by omega)], hw, fun _ _ _ => trivial⟩)
  have hr2 : ¬ r > 1048576 := of_decide_eq_false hc
  clear hc
  have s1 := sq_bd (z := r) (by omega)
  have hrr : ((r * r : Int) : Rat) ≠ 0 := by
    intro e
    have h0 : r * r = 0 := by exact_mod_cast e
    rcases Int.mul_eq_zero.1 h0 with e | e <;> omega
  refine Good.run (by kernel_rfl) (stop := 1000) 1000 _ ?_
  refine Good.callv (fun w1 hw h => rqfromInt_m X w1 (by omega) (by omega)) (by kernel_rfl) (fun f => ?_)
  refine Good.run (by kernel_rfl) (stop := 1000) 1000 _ ?_
  refine Good.callv (fun w1 hw h => rqsub_m (h1.below hw) h.2.q (by decide)) (by kernel_rfl) (fun m => ?_)
  refine Good.run (by kernel_rfl) (stop := 1000) 1000 _ ?_
  refine Good.callv (fun w1 hw h => rqfromInt_m Y w1 (by omega) (by omega)) (by kernel_rfl) (fun g => ?_)
  refine Good.run (by kernel_rfl) (stop := 1000) 1000 _ ?_
  refine Good.callv (fun w1 hw h => rqsub_m (h2.below hw) h.2.q (by decide)) (by kernel_rfl) (fun n => ?_)
  refine Good.run (by kernel_rfl) (stop := 1000) 1000 _ ?_
  refine Good.callv (fun w1 hw h => rqfromInt_m 4294967296 w1 (by decide) (by decide)) (by kernel_rfl) (fun c => ?_)
  refine Good.run (by kernel_rfl) (stop := 1000) 1000 _ ?_
  refine Good.callv (fun w1 hw h => rdot_m h.1.1.1.2.q h.1.2.q h.1.1.1.2.q h.1.2.q (by decide)) (by kernel_rfl) (fun d => ?_)
  refine Good.run (by kernel_rfl) (stop := 1000) 1000 _ ?_
  refine Good.callv (fun w1 hw h => rqmul_m h.1.2.q h.2.q (by decide)) (by kernel_rfl) (fun e => ?_)
  refine Good.run (by kernel_rfl) (stop := 1000) 1000 _ ?_
  refine Good.callv (fun w1 hw h => rqfromInt_m (IntKind.i64.wrap (r * r)) w1 (by rw [IntWalk.i64_in _ (by omega)]; omega) (by rw [IntWalk.i64_in _ (by omega)]; omega)) (by kernel_rfl) (fun k => ?_)
  refine Good.run (by kernel_rfl) (stop := 1000) 1000 _ ?_
  refine Good.callv (fun w1 hw h => rqquo_m h.1.2.q h.2.q (by decide)) (by kernel_rfl) (fun z => ?_)
  refine Good.run (by kernel_rfl) (stop := 1000) 1000 _ ?_
  refine Good.callv (fun w1 hw h => rqfloor_m (quo_n h.2 (by rw [IntWalk.i64_in _ (by omega)]; exact hrr)).q (by decide)) (by kernel_rfl) (fun l => ?_)
  refine Good.run (by kernel_rfl) (stop := 1000) 1000 _ ?_
  refine Good.callv (fun w1 hw h => rsqrt_m h.2.1.d (by decide)) (by kernel_rfl) (fun b => ?_)
  refine Good.run (by kernel_rfl) (stop := 1000) 1000 _ ?_
  refine Good.callv (fun w1 hw h => rnew_m (h.2.sv false) (by decide)) (by kernel_rfl) (fun o => ?_)
  refine Good.run (by kernel_rfl) (stop := 1000) 1000 _ ?_
  refine Good.callv (fun w1 hw h => rclamp_m (fun u hu hx => rfit hu (by decide) hx) h.2.i (by decide)) (by kernel_rfl) (fun y => ?_)
  refine Good.run (by kernel_rfl) (stop := 1000) 1000 _ ?_
  refine Good.ret (v := .int .i64 (clampI (zi false (isqrt (((((4294967296 : Int) : Rat) * ((p - (X : Rat)) * (p - (X : Rat)) + (q - (Y : Rat)) * (q - (Y : Rat)))) / ((IntKind.i64.wrap (r * r) : Int) : Rat)).floor.natAbs))))) (by kernel_rfl) (fun w1 hw h => ⟨(), by unfold radV; rw [if_pos ⟨ha, by omega, by omega⟩, IntWalk.i64_in _ (by omega)]; rfl, hw, fun _ _ _ => trivial⟩)
set_option maxRecDepth 100000 in
set_option maxHeartbeats 2000000 in
theorem radial_m {s t : RV} (hc : ClampOk) (hr : -9223372036854775808 ≤ r ∧ r ≤ 9223372036854775807) (h1 : IsQ s p 30 w) (h2 : IsQ t q 30 w) :
    Calls Try.prog 13 #[pt X Y, .int .i64 r, s.val, t.val] w (CallPost w (fun _ : Unit => .int .i64 (radV X Y r p q)) fun _ _ => True) := by
  refine Good.enter Try.func13 rfl ?_
  refine Good.run (by kernel_rfl) (stop := 3) 1000 _ ?_
  refine Good.run (by kernel_rfl) (stop := 1000) 1 _ ?_
  refine Good.run (by kernel_rfl) (stop := 3) 1000 _ ?_
  refine Good.fork 16 (decide (r < 1)) (by kernel_rfl) (fun hc => ?_) (fun hc => ?_)
  ·
    refine Good.runC (by kernel_rfl) (stop := 1000) 6000 _ ?_
    have hr1 : r < 1 := of_decide_eq_true hc
    refine Good.ret (v := .int .i64 65536) (by kernel_rfl) (fun w1 hw h => ⟨(), by unfold radV; rw [if_neg (by omega)], hw, fun _ _ _ => trivial⟩)
  have hr1 : ¬ r < 1 := of_decide_eq_false hc
  clear hc
  refine Good.run (by kernel_rfl) (stop := 7) 1000 _ ?_
  refine Good.fork 20 (decide (r > 1048576)) (by kernel_rfl) (fun hc => ?_) (fun hc => ?_)
  ·
    refine Good.runC (by kernel_rfl) (stop := 1000) 6000 _ ?_
    have hr2 : r > 1048576 := of_decide_eq_true hc
    refine Good.ret (v := .int .i64 65536) (by kernel_rfl) (fun w1 hw h => ⟨(), by unfold radV; rw [if_neg (by omega)], hw, fun _ _ _ => trivial⟩)
  have hr2 : ¬ r > 1048576 := of_decide_eq_false hc
  clear hc
  refine Good.run (by kernel_rfl) (stop := 1000) 1000 _ ?_
  cases ha : validP X Y
  case false =>
    refine Good.callv (fun w1 hw h => valid_v ha) (by kernel_rfl) (fun u => ?_)
    refine Good.run (by kernel_rfl) (stop := 1000) 1000 _ ?_
    refine Good.runC (by kernel_rfl) (stop := 1000) 6000 _ ?_
    refine Good.ret (v := .int .i64 65536) (by kernel_rfl) (fun w1 hw h => ⟨(), by unfold radV; rw [if_neg (by rw [ha]; simp)], hw, fun _ _ _ => trivial⟩)
  have hv : (-1048576 ≤ X ∧ X ≤ 1048576) ∧ (-1048576 ≤ Y ∧ Y ≤ 1048576) := by unfold validP at ha; simpa using ha
  have s1 := sq_bd (z := r) (by omega)
  have hrr : ((r * r : Int) : Rat) ≠ 0 := by
    intro e
    have h0 : r * r = 0 := by exact_mod_cast e
    rcases Int.mul_eq_zero.1 h0 with e | e <;> omega
  refine Good.callv (fun w1 hw h => valid_v ha) (by kernel_rfl) (fun u => ?_)
  refine Good.run (by kernel_rfl) (stop := 1000) 1000 _ ?_
  refine Good.cond false (by kernel_rfl) ?_
  refine Good.run (by kernel_rfl) (stop := 1000) 1000 _ ?_
  refine Good.callv (fun w1 hw h => offset_m (X := X) (Y := Y) (by omega) (by omega) (h1.below hw) (h2.below hw) (by decide)) (by kernel_rfl) (fun o => ?_)
  refine Good.run (by kernel_rfl) (stop := 1000) 1000 _ ?_
  refine Good.callv (fun w1 hw h => qmul_m h.2.1.q h.2.1.q (by decide)) (by kernel_rfl) (fun m => ?_)
  refine Good.run (by kernel_rfl) (stop := 1000) 1000 _ ?_
  refine Good.callv (fun w1 hw h => qmul_m h.1.2.2.q h.1.2.2.q (by decide)) (by kernel_rfl) (fun n => ?_)
  refine Good.run (by kernel_rfl) (stop := 1000) 1000 _ ?_
  refine Good.callv (fun w1 hw h => qadd_m h.1.2.q h.2.q (by decide)) (by kernel_rfl) (fun d => ?_)
  refine Good.run (by kernel_rfl) (stop := 1000) 1000 _ ?_
  refine Good.callv (fun w1 hw h => qfromInt_m 4294967296 w1 (by decide) (by decide)) (by kernel_rfl) (fun c => ?_)
  refine Good.run (by kernel_rfl) (stop := 1000) 1000 _ ?_
  refine Good.callv (fun w1 hw h => qmul_m h.2.q h.1.2.q (by decide)) (by kernel_rfl) (fun e => ?_)
  refine Good.run (by kernel_rfl) (stop := 1000) 1000 _ ?_
  refine Good.callv (fun w1 hw h => qfromInt_m (IntKind.i64.wrap (r * r)) w1 (by rw [IntWalk.i64_in _ (by omega)]; omega) (by rw [IntWalk.i64_in _ (by omega)]; omega)) (by kernel_rfl) (fun k => ?_)
  refine Good.run (by kernel_rfl) (stop := 1000) 1000 _ ?_
  refine Good.callv (fun w1 hw h => qquo_m h.1.2.q h.2.q (by decide)) (by kernel_rfl) (fun z => ?_)
  refine Good.run (by kernel_rfl) (stop := 1000) 1000 _ ?_
  refine Good.callv (fun w1 hw h => qfloor_m (quo_n h.2 (by rw [IntWalk.i64_in _ (by omega)]; exact hrr)).q (by decide)) (by kernel_rfl) (fun l => ?_)
  refine Good.run (by kernel_rfl) (stop := 1000) 1000 _ ?_
  refine Good.callv (fun w1 hw h => sqrt_m h.2.1.d (by decide)) (by kernel_rfl) (fun b => ?_)
  refine Good.run (by kernel_rfl) (stop := 1000) 1000 _ ?_
  refine Good.callv (fun w1 hw h => inew_m (h.2.sv false) (by decide)) (by kernel_rfl) (fun v => ?_)
  refine Good.run (by kernel_rfl) (stop := 1000) 1000 _ ?_
  refine Good.callv (fun w1 hw h => hc _ _ _ w1 h.2.i (by decide)) (by kernel_rfl) (fun y => ?_)
  refine Good.run (by kernel_rfl) (stop := 1000) 1000 _ ?_
  refine Good.ret (v := .int .i64 (clampI (zi false (isqrt (((((4294967296 : Int) : Rat) * ((p - (X : Rat)) * (p - (X : Rat)) + (q - (Y : Rat)) * (q - (Y : Rat)))) / ((IntKind.i64.wrap (r * r) : Int) : Rat)).floor.natAbs))))) (by kernel_rfl) (fun w1 hw h => ⟨(), by unfold radV; rw [if_pos ⟨ha, by omega, by omega⟩, IntWalk.i64_in _ (by omega)]; rfl, hw, fun _ _ _ => trivial⟩)
end

theorem BoxAt.stay {w u : World} {B g : Nat} {cs : List Value} (h : BoxAt w g cs) (hg : B ≤ g) (hs : ∀ b, B ≤ b → b < w.heap.size → u.heap[b]? = w.heap[b]?) : BoxAt u g cs := by
  obtain ⟨t, h⟩ := h
  exact ⟨t, (hs g hg (Array.getElem?_eq_some_iff.1 h).1).trans h⟩
theorem BoxAt.one {w : World} {g : Nat} {v : Value} (h : BoxAt w g [v]) : w.cell? ⟨g, 0, none⟩ = some v := by
  obtain ⟨t, h⟩ := h
  exact cell_one h
theorem BoxAt.lt {w : World} {g : Nat} {cs : List Value} (h : BoxAt w g cs) : g < w.heap.size := by
  obtain ⟨t, h⟩ := h
  exact (Array.getElem?_eq_some_iff.1 h).1
theorem BoxAt.own {w : World} {g : Nat} {cs : List Value} (h : BoxAt w g cs) : ∃ xs ty own, w.heap[g]? = some (.cells xs ty own) := by
  obtain ⟨t, h⟩ := h
  exact ⟨_, _, _, h⟩
def minS (t : TypeId) (k : IntKind) (x y : Int) : Sem Next := Builtin.min_ #[t, t] t #[.int k x, .int k y] >>= fun v => pure (.value v)
def maxS (t : TypeId) (k : IntKind) (x y : Int) : Sem Next := Builtin.max_ #[t, t] t #[.int k x, .int k y] >>= fun v => pure (.value v)
theorem run_minS {P : Program} {w : World} {t : TypeId} {k : IntKind} {x y : Int} : (minS t k x y).run P w = .ok (.value (.int k (if y < x then y else x))) w := by
  simp only [minS, Sem.run_bind, Go.run_min_int2, Result.andThen_ok, Sem.run_pure]
theorem run_maxS {P : Program} {w : World} {t : TypeId} {k : IntKind} {x y : Int} : (maxS t k x y).run P w = .ok (.value (.int k (if y > x then y else x))) w := by
  simp only [maxS, Sem.run_bind, Go.run_max_int2, Result.andThen_ok, Sem.run_pure]

section
variable {w W : World} {a : SV} {x o : Int} {b : Bool} {K g1 g2 g3 : Nat} {u : FrameMode}
theorem clamp_b (h : -9223372036854775808 ≤ x ∧ x ≤ 9223372036854775807) : (if (if x < 1099511627776 then x else 1099511627776) > -1099511627776 then (if x < 1099511627776 then x else 1099511627776) else -1099511627776) = clampI x := by
  unfold clampI
  repeat' split
  all_goals omega
theorem clamp_n (h : ¬ (-9223372036854775808 ≤ x ∧ x ≤ 9223372036854775807)) : clampI x = if x < 0 then -1099511627776 else 1099511627776 := by
  unfold clampI
  repeat' split
  all_goals omega
theorem sgn_neg : decide (sgn x < 0) = decide (x < 0) := by
  unfold sgn
  split
  · rename_i h; rw [decide_eq_true h]; rfl
  · rename_i h; rw [decide_eq_false h]; split <;> rfl
set_option maxRecDepth 100000 in
set_option maxHeartbeats 1000000 in
theorem clamped1_m (hW : Below W.heap.size W w) (h1 : BoxAt w g1 [.bool a.s, .slice a.A a.n a.c]) (h2 : BoxAt w g2 [.int .i64 o]) (h3 : BoxAt w g3 [.bool b]) (l1 : W.heap.size ≤ g1) (l2 : W.heap.size ≤ g2) (l3 : W.heap.size ≤ g3)
    (ha : IsI a x K W) (hK : K ≤ 1000000) (hb1 : b = true → o = x ∧ (-9223372036854775808 ≤ x ∧ x ≤ 9223372036854775807)) (hb2 : b = false → ¬ (-9223372036854775808 ≤ x ∧ x ≤ 9223372036854775807)) :
    CallsD Try.prog 78 #[.pointer (some ⟨g3, 0, none⟩), .pointer (some ⟨g2, 0, none⟩), .pointer (some ⟨g1, 0, none⟩)] u w (fun e u' w' => u' = u ∧ e = .returned (.tuple #[]) ∧ Below W.heap.size W w' ∧ BoxAt w' g2 [.int .i64 (clampI x)]) := by
  refine Good.enterT Try.func78 rfl hW ?_
  refine Good.run (by kernel_rfl) (stop := 1000) 1000 _ ?_
  refine Good.ask (ldS 4 ⟨g3, 0, none⟩) (.bool b) (by kernel_rfl) (fun w1 hw h => run_ldS (by kernel_rfl) (h3.stay l3 h.2).one) ?_
  refine Good.run (by kernel_rfl) (stop := 1000) 1000 _ ?_
  have hown : Own1 W [g2] (fun u => w.heap.size ≤ u.heap.size ∧ ∀ b, W.heap.size ≤ b → b < w.heap.size → u.heap[b]? = w.heap[b]?) := fun w1 h b hb => by
    obtain rfl : b = g2 := by simpa using hb
    exact ⟨l2, (h2.stay l2 h.2).own⟩
  refine Good.both (b) (by kernel_rfl) (fun hc => ?_) (fun hc => ?_)
  · obtain ⟨rfl, hx⟩ := hb1 hc
    refine Good.run (by kernel_rfl) (stop := 1000) 1000 _ ?_
    refine Good.ask (ldS 3 ⟨g2, 0, none⟩) (.int .i64 o) (by kernel_rfl) (fun w1 hw h => run_ldS (by kernel_rfl) (h2.stay l2 h.2).one) ?_
    refine Good.run (by kernel_rfl) (stop := 3) 1000 _ ?_
    refine Good.slot 7 (.int .i64 (if (if o < 1099511627776 then o else 1099511627776) > -1099511627776 then (if o < 1099511627776 then o else 1099511627776) else -1099511627776)) (.int .i64 (clampI o)) (by kernel_rfl) (by rw [clamp_b hx]) ?_
    refine Good.mutSt (L := [g2]) (G := fun u => BoxAt u g2 [.int .i64 (clampI o)]) (Φ' := fun u => BoxAt u g2 [.int .i64 (clampI o)]) (stS 3 ⟨g2, 0, none⟩ (.int .i64 (clampI o))) (fun w1 hw h => (h2.stay l2 h.2).store (by kernel_rfl) rfl (by intro u hu; simp [Value.cells] at hu; subst hu; rfl)) hown (fun wa w e1 e2 hP hG => hG) (by kernel_rfl) (by kernel_rfl) ?_
    refine Good.run (by kernel_rfl) (stop := 1000) 1000 _ ?_
    refine Good.ret (v := .tuple #[]) (by kernel_rfl) (fun w1 hw h => ⟨rfl, hw, h w1 (Nat.le_refl _) fun _ _ _ => rfl⟩)
  · have hx := hb2 hc
    refine Good.run (by kernel_rfl) (stop := 1000) 1000 _ ?_
    refine Good.ask (ldS 27 ⟨g1, 0, none⟩) (a.val) (by kernel_rfl) (fun w1 hw h => run_ldN (vs := [.bool a.s, .slice a.A a.n a.c]) (by kernel_rfl) (by kernel_rfl) (h1.stay l1 h.2).range) ?_
    refine Good.run (by kernel_rfl) (stop := 1000) 1000 _ ?_
    refine Good.callv (fun w1 hw h => isign_m (ha.below hw) (by omega)) (by kernel_rfl) (fun v => ?_)
    refine Good.run (by kernel_rfl) (stop := 1000) 1000 _ ?_
    refine Good.both (decide (sgn x < 0)) (by kernel_rfl) (fun hc => ?_) (fun hc => ?_)
    · rw [sgn_neg] at hc
      have hn : x < 0 := of_decide_eq_true hc
      refine Good.run (by kernel_rfl) (stop := 1000) 1000 _ ?_
      refine Good.mutSt (L := [g2]) (G := fun u => BoxAt u g2 [.int .i64 (-1099511627776)]) (Φ' := fun u => BoxAt u g2 [.int .i64 (-1099511627776)]) (stS 3 ⟨g2, 0, none⟩ (.int .i64 (-1099511627776))) (fun w1 hw h => (h2.stay l2 h.1.2).store (by kernel_rfl) rfl (by intro u hu; simp [Value.cells] at hu; subst hu; rfl)) (fun w1 h => hown w1 h.1) (fun wa w e1 e2 hP hG => hG) (by kernel_rfl) (by kernel_rfl) ?_
      refine Good.run (by kernel_rfl) (stop := 1000) 1000 _ ?_
      refine Good.ret (v := .tuple #[]) (by kernel_rfl) (fun w1 hw h => ⟨rfl, hw, by rw [clamp_n hx, if_pos hn]; exact h w1 (Nat.le_refl _) fun _ _ _ => rfl⟩)
    · rw [sgn_neg] at hc
      have hn : ¬ x < 0 := of_decide_eq_false hc
      refine Good.run (by kernel_rfl) (stop := 1000) 1000 _ ?_
      refine Good.mutSt (L := [g2]) (G := fun u => BoxAt u g2 [.int .i64 1099511627776]) (Φ' := fun u => BoxAt u g2 [.int .i64 1099511627776]) (stS 3 ⟨g2, 0, none⟩ (.int .i64 1099511627776)) (fun w1 hw h => (h2.stay l2 h.1.2).store (by kernel_rfl) rfl (by intro u hu; simp [Value.cells] at hu; subst hu; rfl)) (fun w1 h => hown w1 h.1) (fun wa w e1 e2 hP hG => hG) (by kernel_rfl) (by kernel_rfl) ?_
      refine Good.run (by kernel_rfl) (stop := 1000) 1000 _ ?_
      refine Good.ret (v := .tuple #[]) (by kernel_rfl) (fun w1 hw h => ⟨rfl, hw, by rw [clamp_n hx, if_neg hn]; exact h w1 (Nat.le_refl _) fun _ _ _ => rfl⟩)
theorem itoInt_m (ha : IsI a x K w) (hK : K ≤ 1000000) : Calls Try.prog 80 #[a.val] w (CallPost w (fun _ : Unit => .tuple #[.int .i64 (toV x), .bool (fitB x)]) fun _ _ => True) :=
  (itoInt_c w ha.inn (by have := ha.le; omega) ha.zi).mono fun _ _ h => h.post
theorem load_int {P : Program} {t : TypeId} {g : Nat} {v : Value} (ht : isRowT P t = some false) (h : BoxAt w g [v]) : (loadVar t ⟨g, 0, none⟩).run P w = .ok v w := by
  have h1 := run_load1 (P := P) ht h.one
  simp only [Sem.run_bind, Instr.loadAt, Instr.sureAddr, Sem.run_pure, Result.andThen_ok] at h1
  generalize (loadVar t ⟨g, 0, none⟩).run P w = r at h1 ⊢
  cases r with
  | ok x w' => simp only [Result.andThen_ok, Result.ok.injEq, Next.value.injEq] at h1; rw [h1.1, h1.2]
  | _ => cases h1
set_option maxRecDepth 100000 in
set_option maxHeartbeats 1000000 in
theorem clamped_m (ha : IsI a x K w) (hK : K ≤ 1000000) :
    Calls Try.prog 42 #[a.val] w (CallPost w (fun _ : Unit => .int .i64 (clampI x)) fun _ _ => True) := by
  refine Good.enterD Try.func42 rfl (Below.refl _ _) ?_
  refine Good.run (by kernel_rfl) (stop := 0) 1000 _ ?_
  refine Good.make (boxS 27 a.val) (ptr) (fun g u => BoxAt u g [.bool a.s, .slice a.A a.n a.c] ∧ w.heap.size ≤ g ∧ g < u.heap.size) (by kernel_rfl) (fun w1 hw h => make_box hw.size) (fun g1 => ?_)
  refine Good.run (by kernel_rfl) (stop := 1) 1000 _ ?_
  refine Good.make (allS 3) (ptr) (fun g u => BoxAt u g [.int .i64 0] ∧ g1 + 1 ≤ g ∧ g < u.heap.size) (by kernel_rfl) (fun w1 hw h => make_all (z := .int .i64 0) (by kernel_rfl) h.2.2.2) (fun g2 => ?_)
  refine Good.run (by kernel_rfl) (stop := 0) 1000 _ ?_
  refine Good.make (allS 4) (ptr) (fun g u => BoxAt u g [.bool false] ∧ g2 + 1 ≤ g ∧ g < u.heap.size) (by kernel_rfl) (fun w1 hw h => make_all (z := .bool false) (by kernel_rfl) h.2.2.2) (fun g3 => ?_)
  refine Good.run (by kernel_rfl) (stop := 1) 1000 _ ?_
  refine Good.mutSt (L := [g3]) (G := fun u => BoxAt u g3 [.bool false]) (Φ' := fun u => BoxAt u g1 [.bool a.s, .slice a.A a.n a.c] ∧ BoxAt u g2 [.int .i64 0] ∧ BoxAt u g3 [.bool false] ∧ w.heap.size ≤ g1 ∧ g1 < g2 ∧ g2 < g3) (stS 4 ⟨g3, 0, none⟩ (.bool false)) (fun w1 hw h => h.2.1.store (by kernel_rfl) rfl (by intro u hu; simp [Value.cells] at hu; subst hu; rfl)) (fun w1 h b hb => ?_) (fun wa w1 e1 e2 h hG => ?_) (by kernel_rfl) (by kernel_rfl) ?_
  · obtain rfl : b = g3 := by simpa using hb
    obtain ⟨⟨⟨_, k1⟩, k2⟩, k3⟩ := h
    exact ⟨by omega, k3.1.own⟩
  · obtain ⟨⟨⟨_, k1⟩, k2⟩, k3⟩ := h
    exact ⟨k1.1.left e2 (by simp; omega), k2.1.left e2 (by simp; omega), hG, k1.2.1, by omega, by omega⟩
  refine Good.run (by kernel_rfl) (stop := 1000) 1000 _ ?_
  refine Good.defer_ ⟨.fn (.func 78) #[.pointer (some ⟨g3, 0, none⟩), .pointer (some ⟨g2, 0, none⟩), .pointer (some ⟨g1, 0, none⟩)], #[]⟩ (by kernel_rfl) (by kernel_rfl) ?_
  refine Good.run (by kernel_rfl) (stop := 1000) 1000 _ ?_
  refine Good.ask (ldS 27 ⟨g1, 0, none⟩) (a.val) (by kernel_rfl) (fun w1 hw h => run_ldN (vs := [.bool a.s, .slice a.A a.n a.c]) (by kernel_rfl) (by kernel_rfl) h.1.range) ?_
  refine Good.run (by kernel_rfl) (stop := 1000) 1000 _ ?_
  refine Good.callv (fun w1 hw h => itoInt_m (ha.below hw) hK) (by kernel_rfl) (fun v => ?_)
  refine Good.run (by kernel_rfl) (stop := 1000) 1000 _ ?_
  refine Good.mutSt (L := [g2]) (G := fun u => BoxAt u g2 [.int .i64 (toV x)]) (Φ' := fun u => BoxAt u g1 [.bool a.s, .slice a.A a.n a.c] ∧ BoxAt u g2 [.int .i64 (toV x)] ∧ BoxAt u g3 [.bool false] ∧ w.heap.size ≤ g1 ∧ g1 < g2 ∧ g2 < g3) (stS 3 ⟨g2, 0, none⟩ (.int .i64 (toV x))) (fun w1 hw h => h.1.2.1.store (by kernel_rfl) rfl (by intro u hu; simp [Value.cells] at hu; subst hu; rfl)) (fun w1 h b hb => ?_) (fun wa w1 e1 e2 h hG => ?_) (by kernel_rfl) (by kernel_rfl) ?_
  · obtain rfl : b = g2 := by simpa using hb
    obtain ⟨⟨k1, k2, k3, k4, k5, k6⟩, _⟩ := h
    exact ⟨by omega, k2.own⟩
  · obtain ⟨⟨k1, k2, k3, k4, k5, k6⟩, _⟩ := h
    exact ⟨k1.left e2 (by simp; omega), hG, k3.left e2 (by simp; omega), k4, k5, k6⟩
  refine Good.run (by kernel_rfl) (stop := 1000) 1000 _ ?_
  refine Good.mutSt (L := [g3]) (G := fun u => BoxAt u g3 [.bool (fitB x)]) (Φ' := fun u => BoxAt u g1 [.bool a.s, .slice a.A a.n a.c] ∧ BoxAt u g2 [.int .i64 (toV x)] ∧ BoxAt u g3 [.bool (fitB x)] ∧ w.heap.size ≤ g1 ∧ g1 < g2 ∧ g2 < g3) (stS 4 ⟨g3, 0, none⟩ (.bool (fitB x))) (fun w1 hw h => h.2.2.1.store (by kernel_rfl) rfl (by intro u hu; simp [Value.cells] at hu; subst hu; rfl)) (fun w1 h b hb => ?_) (fun wa w1 e1 e2 h hG => ?_) (by kernel_rfl) (by kernel_rfl) ?_
  · obtain rfl : b = g3 := by simpa using hb
    obtain ⟨k1, k2, k3, k4, k5, k6⟩ := h
    exact ⟨by omega, k3.own⟩
  · obtain ⟨k1, k2, k3, k4, k5, k6⟩ := h
    exact ⟨k1.left e2 (by simp; omega), k2.left e2 (by simp; omega), hG, k4, k5, k6⟩
  refine Good.run (by kernel_rfl) (stop := 1000) 1000 _ ?_
  refine Good.ask (ldS 3 ⟨g2, 0, none⟩) (.int .i64 (toV x)) (by kernel_rfl) (fun w1 hw h => run_ldS (by kernel_rfl) h.2.1.one) ?_
  refine Good.run (by kernel_rfl) (stop := 1000) 1000 _ ?_
  refine Good.mutSt (L := [g2]) (G := fun u => BoxAt u g2 [.int .i64 (toV x)]) (Φ' := fun u => BoxAt u g1 [.bool a.s, .slice a.A a.n a.c] ∧ BoxAt u g2 [.int .i64 (toV x)] ∧ BoxAt u g3 [.bool (fitB x)] ∧ w.heap.size ≤ g1 ∧ g1 < g2 ∧ g2 < g3) (stS 3 ⟨g2, 0, none⟩ (.int .i64 (toV x))) (fun w1 hw h => h.2.1.store (by kernel_rfl) rfl (by intro u hu; simp [Value.cells] at hu; subst hu; rfl)) (fun w1 h b hb => ?_) (fun wa w1 e1 e2 h hG => ?_) (by kernel_rfl) (by kernel_rfl) ?_
  · obtain rfl : b = g2 := by simpa using hb
    obtain ⟨k1, k2, k3, k4, k5, k6⟩ := h
    exact ⟨by omega, k2.own⟩
  · obtain ⟨k1, k2, k3, k4, k5, k6⟩ := h
    exact ⟨k1.left e2 (by simp; omega), hG, k3.left e2 (by simp; omega), k4, k5, k6⟩
  refine Good.run (by kernel_rfl) (stop := 1000) 1000 _ ?_
  refine Good.retD1 (f := 78) (args := #[.pointer (some ⟨g3, 0, none⟩), .pointer (some ⟨g2, 0, none⟩), .pointer (some ⟨g1, 0, none⟩)]) g2 3 (by kernel_rfl) (fun w1 => rfl) (fun w1 hw h => ?_)
  obtain ⟨k1, k2, k3, k4, k5, k6⟩ := h
  refine (clamped1_m (W := w) hw k1 k2 k3 k4 (by omega) (by omega) ha hK (fun e => ?_) (fun e => ?_)).mono fun e u' w' he => ?_
  · have : -9223372036854775808 ≤ x ∧ x ≤ 9223372036854775807 := by unfold fitB at e; simpa using e
    exact ⟨by unfold toV; rw [if_pos e], this⟩
  · unfold fitB at e; simpa using e
  · obtain ⟨rfl, rfl, hb, hx⟩ := he
    exact ⟨rfl, _, _, rfl, load_int (by kernel_rfl) hx, (), rfl, hb, fun _ _ _ => trivial⟩
set_option maxRecDepth 100000 in
set_option maxHeartbeats 1000000 in
theorem clampPos_m (ha : IsI a x K w) (hK : K ≤ 1000000) :
    Calls Try.prog 15 #[a.val] w (CallPost w (fun _ : Unit => .int .i64 (clampI x)) fun _ _ => True) := by
  refine Good.enter Try.func15 rfl ?_
  refine Good.run (by kernel_rfl) (stop := 1000) 1000 _ ?_
  refine Good.callv (fun w1 hw h => clamped_m (ha.below hw) hK) (by kernel_rfl) (fun v => ?_)
  refine Good.run (by kernel_rfl) (stop := 1000) 1000 _ ?_
  refine Good.ret (v := .int .i64 (clampI x)) (by kernel_rfl) (fun w1 hw h => ⟨(), rfl, hw, fun _ _ _ => trivial⟩)
theorem clampOk : ClampOk := fun a x K u ha hK => clampPos_m ha hK
end

end Go.Proofs.Ytegnbgckejebgaa
