/-
 Points.
-/
import Derived.Test.YtdeepdckmhpldaaGreatDoorAQP
import Derived.Test.YtdeepdckmhpldaaGreatDoorAUP
namespace Go.Proofs.YtdeepdckmhpldaaGreatDoor
set_option maxRecDepth 100000
set_option maxHeartbeats 8000000
set_option linter.unusedVariables false
set_option linter.unusedSimpArgs false
open Go.RowKit
def pt (a b : Int) : Value := .agg #[.int .i64 a, .int .i64 b]
def eqP (t : TypeId) (x y : Operand) (u v : Value) : Sem Next := (do eqGuard .eql t x y u v; binOp .eql t u v) >>= fun v => pure (.value v)
theorem run_eqP {x y : Operand} {a b c d : Int} {w : World} : (eqP 53 x y (pt a b) (pt c d)).run Tryz.prog w = .ok (.value (.bool (a == c && b == d))) w := by
 have h1 : Tryz.prog.underlying 53 = some (.struct (Tryz.prog.fieldsOf 53)) := by kernel_rfl
 have h2 : Tryz.prog.stoodInHeld 53 = false := by kernel_rfl
 have h3 : Tryz.prog.eqGuardType Tryz.prog.depth 53 = false := by kernel_rfl
 have hm : (Tryz.prog.fieldsOf 53).toList.map (fun f => (f.name, f.offset, f.type)) = [("X", 0, 3), ("Y", 1, 3)] := by kernel_rfl
 have hu : Tryz.prog.underlying 3 = some (.int .i64) := by kernel_rfl
 have hz : O9 Tryz.prog 3 = some 1 := by kernel_rfl
 have hr : Qt Tryz.prog 3 = some false := by kernel_rfl
 obtain ⟨f0, r0, hf, k0, hm⟩ := List.map_eq_cons_iff.1 hm
 obtain ⟨f1, r1, hf1, k1, hm⟩ := List.map_eq_cons_iff.1 hm
 obtain rfl : r1 = [] := List.map_eq_nil_iff.1 hm
 subst hf1
 simp only [Prod.mk.injEq] at k0 k1
 obtain ⟨n0, o0, t0⟩ := k0
 obtain ⟨n1, o1, t1⟩ := k1
 have hp : ∀ (xs : Array Value) (off : Nat) (v : Value), xs[off]? = some v → (part 3 xs off).run Tryz.prog w = .ok v w := by
  intro xs off v hv
  have hag : (isAgg 3).run Tryz.prog w = .ok false w := by unfold isAgg; rw [Sem.run_bind, run_underlying hu w]; rfl
  simp only [part, Sem.run_bind, hag, Result.andThen_ok, Bool.false_eq_true, if_false, hv, Sem.run_pure]
 have e0 : ∀ a b : Int, (Op.equalIn 9999 3 (.int .i64 a) (.int .i64 b)).run Tryz.prog w = .ok (a == b) w := fun a b => run_equalIn_int w 9998 _ .i64 .i64 a b hu
 have p0 : (part 3 #[.int .i64 a, .int .i64 b] 0).run Tryz.prog w = .ok (.int .i64 a) w := hp _ 0 _ rfl
 have p1 : (part 3 #[.int .i64 a, .int .i64 b] 1).run Tryz.prog w = .ok (.int .i64 b) w := hp _ 1 _ rfl
 have q0 : (part 3 #[.int .i64 c, .int .i64 d] 0).run Tryz.prog w = .ok (.int .i64 c) w := hp _ 0 _ rfl
 have q1 : (part 3 #[.int .i64 c, .int .i64 d] 1).run Tryz.prog w = .ok (.int .i64 d) w := hp _ 1 _ rfl
 have hfld : (Op.eqFields 9999 #[.int .i64 a, .int .i64 b] #[.int .i64 c, .int .i64 d] [f0, f1]).run Tryz.prog w = .ok (a == c && b == d) w := by
  have x0 : ("X" : String) ≠ "_" := by decide
  have x1 : ("Y" : String) ≠ "_" := by decide
  simp only [Op.eqFields, n0, n1, o0, o1, t0, t1, Sem.run_bind, p0, q0, p1, q1, Result.andThen_ok, e0, x0, x1, ne_eq, not_false_eq_true, if_true]
  cases h : a == c
  ·simp [e0, h]
  ·cases h' : b == d <;> simp [e0, h, p1, q1, h']
 have hq : (Op.equalIn 10000 53 (pt a b) (pt c d)).run Tryz.prog w = .ok (a == c && b == d) w := by
  rw [pt, pt, run_equalIn_struct w 9999 _ _ _ h1 h2, hf]; exact hfld
 simp only [eqP, pt, Sem.run_bind, run_eqGuard_agg w .eql _ x y _ _ h3, Result.andThen_ok, run_eql_struct, Sem.run_pure]
 rw [pt, pt] at hq
 rw [hq]
 rfl
def L0 (X Y : Int) : Bool := decide ((-1048576 ≤ X ∧ X ≤ 1048576) ∧ (-1048576 ≤ Y ∧ Y ≤ 1048576))
section
variable {p q : Rat} {K1 K2 : Nat} {w : World} {X Y : Int}
theorem rvalid_m : Calls Tryz.prog 288 #[pt X Y] w (K5 w (fun _ : Unit => .bool (L0 X Y)) fun _ _ => True) := by
 refine K0.enter Tryz.func288 rfl ?_
 refine ZS 3 ?_
 by_cases h0 : X ≥ -1048576
 case neg =>
  refine ZT 5 (.bool (decide (X ≥ -1048576))) (.bool false) (by rw [decide_eq_false Zo]) ?_
  exact ZX (.bool false) (by unfold L0; rw [decide_eq_false Zo])
 refine K0.slot 5 (.bool (decide (X ≥ -1048576))) (.bool true) Zk (by rw [decide_eq_true Zo]) ?_
 refine ZS 7 ?_
 by_cases h1 : X ≤ 1048576
 case neg =>
  refine ZT 9 (.bool (decide (X ≤ 1048576))) (.bool false) (by rw [decide_eq_false Zo]) ?_
  exact ZX (.bool false) (by unfold L0; rw [decide_eq_false Zo])
 refine K0.slot 9 (.bool (decide (X ≤ 1048576))) (.bool true) Zk (by rw [decide_eq_true Zo]) ?_
 refine ZS 12 ?_
 by_cases h2 : Y ≥ -1048576
 case neg =>
  refine ZT 14 (.bool (decide (Y ≥ -1048576))) (.bool false) (by rw [decide_eq_false Zo]) ?_
  exact ZX (.bool false) (by unfold L0; rw [decide_eq_false Zo])
 refine K0.slot 14 (.bool (decide (Y ≥ -1048576))) (.bool true) Zk (by rw [decide_eq_true Zo]) ?_
 refine ZS 17 ?_
 by_cases h3 : Y ≤ 1048576
 case neg =>
  refine ZT 19 (.bool (decide (Y ≤ 1048576))) (.bool false) (by rw [decide_eq_false Zo]) ?_
  exact ZX (.bool false) (by unfold L0; rw [decide_eq_false Zo])
 refine ZT 19 (.bool (decide (Y ≤ 1048576))) (.bool true) (by rw [decide_eq_true Zo]) ?_
 exact ZX (.bool true) (by unfold L0; rw [decide_eq_true Zo])
end
def Oj (x : Int) : Int := if x < -1048576 then -1048576 else if 1048576 < x then 1048576 else x
section
variable {w : World} {X Y U V x : Int}
theorem iclampP_m : Calls Tryz.prog 260 #[.int .i64 x, .int .i64 (-1048576), .int .i64 1048576] w (K5 w (fun _ : Unit => .int .i64 (Oj x)) fun _ _ => True) := by
 by_cases h1 : x < -1048576
 ·
  refine K0.enter Tryz.func260 rfl ?_
  refine ZR ?_
  refine ZJ (decide (x < -1048576)) true (by simpa using h1) ?_
  exact ZX (.int .i64 (-1048576)) (by unfold Oj; rw [if_pos h1])
 ·by_cases h2 : 1048576 < x
  ·
   refine K0.enter Tryz.func260 rfl ?_
   refine ZR ?_
   refine ZJ (decide (x < -1048576)) false (by simpa using h1) ?_
   refine ZJ (decide (x > 1048576)) true (by simpa using h2) ?_
   exact ZX (.int .i64 1048576) (by unfold Oj; rw [if_neg h1, if_pos h2])
  ·
   refine K0.enter Tryz.func260 rfl ?_
   refine ZR ?_
   refine ZJ (decide (x < -1048576)) false (by simpa using h1) ?_
   refine ZJ (decide (x > 1048576)) false (by simpa using h2) ?_
   exact ZX (.int .i64 x) (by unfold Oj; rw [if_neg h1, if_neg h2])
theorem held_m : Calls Tryz.prog 215 #[.int .i64 x] w (K5 w (fun _ : Unit => .int .i64 (Oj x)) fun _ _ => True) := by
 refine K0.enter Tryz.func215 rfl ?_
 refine ZR ?_
 refine ZC (fun w1 hw h => iclampP_m (x := x)) fun u => ?_
 exact ZW (.int .i64 (Oj x))
theorem hold_m : Calls Tryz.prog 165 #[pt X Y] w (K5 w (fun _ : Unit => pt (Oj X) (Oj Y)) fun _ _ => True) := by
 refine K0.enter Tryz.func165 rfl ?_
 refine ZR ?_
 refine ZC (fun w1 hw h => held_m (x := X)) fun u => ?_
 refine ZC (fun w1 hw h => held_m (x := Y)) fun v => ?_
 exact ZW (pt (Oj X) (Oj Y))
theorem clampP_eq (x : Int) : (Oj x == x) = decide (-1048576 ≤ x ∧ x ≤ 1048576) := by
 unfold Oj
 split
 ·rw [decide_eq_false Zo]; simp; omega
 ·split
  ·rw [decide_eq_false Zo]; simp; omega
  ·rw [decide_eq_true Zo]; simp
theorem validP_eq (X Y : Int) : (Oj X == X && Oj Y == Y) = L0 X Y := by
 rw [clampP_eq, clampP_eq]; unfold L0; simp
theorem valid_m : Calls Tryz.prog 114 #[pt X Y] w (K5 w (fun _ : Unit => .bool (L0 X Y)) fun _ _ => True) := by
 refine K0.enter Tryz.func114 rfl ?_
 refine ZR ?_
 refine ZD 3 (fun w1 hw h => hold_m (X := X) (Y := Y)) fun u => ?_
 refine ZB 3 (eqP 53 (.tmp 4) (.tmp 5) (pt (Oj X) (Oj Y)) (pt X Y)) (.bool (Oj X == X && Oj Y == Y)) (fun w1 hw h => run_eqP) ?_
 exact ZX (.bool (Oj X == X && Oj Y == Y)) (by rw [validP_eq])
end
section
variable {w : World} {X Y U V x : Int} {p q : Rat} {K : Nat}
theorem Mf {B : Bool} (h : L0 X Y = B) : Calls Tryz.prog 288 #[pt X Y] w (K5 w (fun _ : Unit => .bool B) fun _ _ => True) := by subst h; exact rvalid_m
theorem M5 {B : Bool} (h : L0 X Y = B) : Calls Tryz.prog 114 #[pt X Y] w (K5 w (fun _ : Unit => .bool B) fun _ _ => True) := by subst h; exact valid_m
end
end Go.Proofs.YtdeepdckmhpldaaGreatDoor
