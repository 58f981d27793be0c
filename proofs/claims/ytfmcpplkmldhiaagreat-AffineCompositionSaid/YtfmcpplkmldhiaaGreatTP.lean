/-
  Transforms: the sums of the program, part one.
-/
import Derived.Test.YtfmcpplkmldhiaaGreatQP
import Derived.Test.YtfmcpplkmldhiaaGreatJt
import Derived.Test.YtfmcpplkmldhiaaGreatAo
import Derived.Test.YtfmcpplkmldhiaaGreatIt
namespace Go.Proofs.YtfmcpplkmldhiaaGreat
set_option linter.unusedVariables false
set_option linter.unusedSimpArgs false
open Go.RowKit

/-- A literal number of one digit. -/
def lit1 (s : Bool) (g d : Nat) : SV := ⟨s, some ⟨g, 0, none⟩, 1, 1, [d]⟩
theorem lit1_n {t : TypeId} {g d : Nat} {s : Bool} {w : World} {x : Int} (h : litG t #[.int .u32 (d : Int)] g w) (h0 : d ≠ 0) (hd : d < 4294967296) (hx : zi s d = x) (hs : s = decide (x < 0)) : IsN (lit1 s g d) x 1 w := by
  have hmk : Mk w g t [d] := h
  have ho := hmk.own (B := 0) (Dig.one hd) (by omega) (by simp [maxLen])
  refine ⟨⟨ho.toIn, ?_, Nat.le_refl _⟩, ⟨Dig.one hd, .inr ?_⟩, hs, ho⟩
  · show zi s (val [d]) = x
    rw [← hx]; simp [val]
  · show dg [d] 0 ≠ 0
    simpa [dg] using h0
theorem sameB_nn {v z : SV} {x y : Int} {K K' : Nat} {w w' : World} (hv : IsN v x K w) (hz : IsN z y K' w') : sameB v z = decide (x = y) := by
  rw [sameB_norm hv.i hz, isn_n2 hv, Bool.true_and]
theorem sameQB_nn {a b : RV} {p q : Rat} {K K' : Nat} {w w' : World} (ha : IsQN a p K w) (hb : IsQN b q K' w') : sameQB a b = decide (p = q) := by
  unfold sameQB
  rw [sameB_nn ha.1 hb.1, sameB_nn ha.2 hb.2]
  by_cases e : p = q
  · subst e; simp
  · rw [decide_eq_false e]
    by_cases h : p.num = q.num
    · rw [decide_eq_false (fun (k : (p.den : Int) = q.den) => e (Rat.ext h (by omega)))]; simp
    · rw [decide_eq_false h]; rfl
theorem isI0 (w : World) : IsI SV0 0 2 w := ⟨In.nil_, rfl, by decide⟩
theorem isQ0 (w : World) : IsQ RV0 0 2 w := ⟨0, 0, isI0 w, isI0 w, by rw [divInt_zero']⟩

section
variable {a b : RV} {p q : Rat} {K K1 K2 : Nat} {w : World}
theorem rsame_nn {B : Bool} (ha : IsQN a p K w) (hb : IsQN b q K1 w) (h : decide (p = q) = B) : Calls Tryz.prog 17 #[a.val, b.val] w (CallPost w (fun _ : Unit => .bool B) fun _ _ => True) :=
  rsame_v (by rw [sameQB_nn ha hb]; exact h) ha.1.i ha.2.i hb.1.i hb.2.i
theorem rsameInt_nn {a b : SV} {x y : Int} {B : Bool} (ha : IsN a x K w) (hb : IsN b y K1 w) (h : decide (x = y) = B) : Calls Tryz.prog 42 #[a.val, b.val] w (CallPost w (fun _ : Unit => .bool B) fun _ _ => True) :=
  rsameInt_v (by rw [sameB_nn ha hb]; exact h) ha.i hb.i
theorem qcmp_v {v : Int} (hv : cmpQ p q = v) (ha : IsQ a p K1 w) (hb : IsQ b q K2 w) (hK : 2 ≤ K1 ∧ 2 ≤ K2 ∧ K1 + K2 ≤ 68719476736) :
    Calls Tryz.prog 41 #[a.val, b.val] w (CallPost w (fun _ : Unit => .int .i64 v) fun _ _ => True) := by subst hv; exact qcmp_m ha hb hK
theorem isnQ_n (ha : IsQN a p K w) : isnQ a p.num p.den = true := by
  unfold isnQ
  rw [Rat.num_divInt_den, isn_n2 ha.1, isn_n2 ha.2, decide_eq_true (by have := p.den_nz; omega), decide_eq_true rfl, decide_eq_true rfl]; rfl
theorem qbitLen_v {n : Int} (hn : (bitsQ q : Int) = n) (ha : IsQ a q K w) (hK : 2 ≤ K ∧ K ≤ 68719476736) :
    Calls Tryz.prog 36 #[a.val] w (CallPost w (fun _ : Unit => .int .i64 n) fun _ _ => True) := by subst hn; exact qbitLen_m ha hK

def smallB (a : RV) : Bool := decide (a.a.n ≤ 40) && decide (a.b.n ≤ 40)
end
/-- The range of positions. -/
def clampI (x : Int) : Int := if 1099511627776 < x then 1099511627776 else if x < -1099511627776 then -1099511627776 else x
section
variable {a b : SV} {x y : Int} {K K1 K2 : Nat} {w : World}
theorem rcmp_w {v : Int} (hv : sgn (x - y) = v) (ha : IsI a x K1 w) (hb : IsI b y K2 w) (hK : K1 ≤ 68719476736 ∧ K2 ≤ 68719476736) : Calls Tryz.prog 100 #[a.val, b.val] w (CallPost w (fun _ : Unit => .int .i64 v) fun _ _ => True) := by
  subst hv; exact rcmp_m ha hb hK
theorem sgn_1 {x : Int} (h : 0 < x) : sgn x = 1 := by unfold sgn; rw [if_neg (by omega), if_neg (by omega)]
theorem sgn_m1 {x : Int} (h : x < 0) : sgn x = -1 := if_pos h
end

def pt (a b : Int) : Value := .agg #[.int .i64 a, .int .i64 b]
def eqP (t : TypeId) (x y : Operand) (u v : Value) : Sem Next := (do eqGuard .eql t x y u v; binOp .eql t u v) >>= fun v => pure (.value v)
theorem run_eqP {x y : Operand} {a b c d : Int} {w : World} : (eqP 47 x y (pt a b) (pt c d)).run Tryz.prog w = .ok (.value (.bool (a == c && b == d))) w := by
  have h1 : Tryz.prog.underlying 47 = some (.struct (Tryz.prog.fieldsOf 47)) := by kernel_rfl
  have h2 : Tryz.prog.stoodInHeld 47 = false := by kernel_rfl
  have h3 : Tryz.prog.eqGuardType Tryz.prog.depth 47 = false := by kernel_rfl
  have hm : (Tryz.prog.fieldsOf 47).toList.map (fun f => (f.name, f.offset, f.type)) = [("X", 0, 3), ("Y", 1, 3)] := by kernel_rfl
  have hu : Tryz.prog.underlying 3 = some (.int .i64) := by kernel_rfl
  have hz : sizeT Tryz.prog 3 = some 1 := by kernel_rfl
  have hr : isRowT Tryz.prog 3 = some false := by kernel_rfl
  obtain ⟨f0, r0, hf, k0, hm⟩ := List.map_eq_cons_iff.1 hm
  obtain ⟨f1, r1, hf1, k1, hm⟩ := List.map_eq_cons_iff.1 hm
  obtain rfl : r1 = [] := List.map_eq_nil_iff.1 hm
  subst hf1
  simp only [Prod.mk.injEq] at k0 k1
  obtain ⟨n0, o0, t0⟩ := k0
  obtain ⟨n1, o1, t1⟩ := k1
  have hp : ∀ (xs : Array Value) (off : Nat) (v : Value), xs[off]? = some v → (part 3 xs off).run Tryz.prog w = .ok v w := by
    intro xs off v hv
    have hag : (isAgg 3).run Tryz.prog w = .ok false w := by unfold isAgg; rw [Sem.run_bind, run_underlying hu w]; rfl
    simp only [part, Sem.run_bind, hag, Result.andThen_ok, Bool.false_eq_true, if_false, hv, Sem.run_pure]
  have e0 : ∀ a b : Int, (Op.equalIn 9999 3 (.int .i64 a) (.int .i64 b)).run Tryz.prog w = .ok (a == b) w := fun a b => run_equalIn_int w 9998 _ .i64 .i64 a b hu
  have p0 : (part 3 #[.int .i64 a, .int .i64 b] 0).run Tryz.prog w = .ok (.int .i64 a) w := hp _ 0 _ rfl
  have p1 : (part 3 #[.int .i64 a, .int .i64 b] 1).run Tryz.prog w = .ok (.int .i64 b) w := hp _ 1 _ rfl
  have q0 : (part 3 #[.int .i64 c, .int .i64 d] 0).run Tryz.prog w = .ok (.int .i64 c) w := hp _ 0 _ rfl
  have q1 : (part 3 #[.int .i64 c, .int .i64 d] 1).run Tryz.prog w = .ok (.int .i64 d) w := hp _ 1 _ rfl
  have hfld : (Op.eqFields 9999 #[.int .i64 a, .int .i64 b] #[.int .i64 c, .int .i64 d] [f0, f1]).run Tryz.prog w = .ok (a == c && b == d) w := by
    have x0 : ("X" : String) ≠ "_" := by decide
    have x1 : ("Y" : String) ≠ "_" := by decide
    simp only [Op.eqFields, n0, n1, o0, o1, t0, t1, Sem.run_bind, p0, q0, p1, q1, Result.andThen_ok, e0, x0, x1, ne_eq, not_false_eq_true, if_true]
    cases h : a == c
    · simp [e0, h]
    · cases h' : b == d <;> simp [e0, h, p1, q1, h']
  have hq : (Op.equalIn 10000 47 (pt a b) (pt c d)).run Tryz.prog w = .ok (a == c && b == d) w := by
    rw [pt, pt, run_equalIn_struct w 9999 _ _ _ h1 h2, hf]; exact hfld
  simp only [eqP, pt, Sem.run_bind, run_eqGuard_agg w .eql _ x y _ _ h3, Result.andThen_ok, run_eql_struct, Sem.run_pure]
  rw [pt, pt] at hq
  rw [hq]
  rfl

def validP (X Y : Int) : Bool := decide ((-1048576 ≤ X ∧ X ≤ 1048576) ∧ (-1048576 ≤ Y ∧ Y ≤ 1048576))
section
variable {p q : Rat} {K1 K2 : Nat} {w : World} {X Y : Int}
set_option maxRecDepth 100000 in
set_option maxHeartbeats 1000000 in
theorem rvalid_m : Calls Tryz.prog 69 #[pt X Y] w (CallPost w (fun _ : Unit => .bool (validP X Y)) fun _ _ => True) := by
  by_cases h0 : X ≥ -1048576
  case neg =>
    refine Good.enter Tryz.func69 rfl ?_
    refine Good.run (by kernel_rfl) (stop := 3) 1000 _ ?_
    refine Good.slot 5 (.bool (decide (X ≥ -1048576))) (.bool false) (by kernel_rfl) (by rw [decide_eq_false (by omega)]) ?_
    refine Good.run (by kernel_rfl) (stop := 1000) 1000 _ ?_
    refine Good.ret (v := .bool false) (by kernel_rfl) (fun w1 hw h => ⟨(), by unfold validP; rw [decide_eq_false (by omega)], hw, fun _ _ _ => trivial⟩)
  by_cases h1 : X ≤ 1048576
  case neg =>
    refine Good.enter Tryz.func69 rfl ?_
    refine Good.run (by kernel_rfl) (stop := 3) 1000 _ ?_
    refine Good.slot 5 (.bool (decide (X ≥ -1048576))) (.bool true) (by kernel_rfl) (by rw [decide_eq_true (by omega)]) ?_
    refine Good.run (by kernel_rfl) (stop := 7) 1000 _ ?_
    refine Good.slot 9 (.bool (decide (X ≤ 1048576))) (.bool false) (by kernel_rfl) (by rw [decide_eq_false (by omega)]) ?_
    refine Good.run (by kernel_rfl) (stop := 1000) 1000 _ ?_
    refine Good.ret (v := .bool false) (by kernel_rfl) (fun w1 hw h => ⟨(), by unfold validP; rw [decide_eq_false (by omega)], hw, fun _ _ _ => trivial⟩)
  by_cases h2 : Y ≥ -1048576
  case neg =>
    refine Good.enter Tryz.func69 rfl ?_
    refine Good.run (by kernel_rfl) (stop := 3) 1000 _ ?_
    refine Good.slot 5 (.bool (decide (X ≥ -1048576))) (.bool true) (by kernel_rfl) (by rw [decide_eq_true (by omega)]) ?_
    refine Good.run (by kernel_rfl) (stop := 7) 1000 _ ?_
    refine Good.slot 9 (.bool (decide (X ≤ 1048576))) (.bool true) (by kernel_rfl) (by rw [decide_eq_true (by omega)]) ?_
    refine Good.run (by kernel_rfl) (stop := 12) 1000 _ ?_
    refine Good.slot 14 (.bool (decide (Y ≥ -1048576))) (.bool false) (by kernel_rfl) (by rw [decide_eq_false (by omega)]) ?_
    refine Good.run (by kernel_rfl) (stop := 1000) 1000 _ ?_
    refine Good.ret (v := .bool false) (by kernel_rfl) (fun w1 hw h => ⟨(), by unfold validP; rw [decide_eq_false (by omega)], hw, fun _ _ _ => trivial⟩)
  by_cases h3 : Y ≤ 1048576
  case neg =>
    refine Good.enter Tryz.func69 rfl ?_
    refine Good.run (by kernel_rfl) (stop := 3) 1000 _ ?_
    refine Good.slot 5 (.bool (decide (X ≥ -1048576))) (.bool true) (by kernel_rfl) (by rw [decide_eq_true (by omega)]) ?_
    refine Good.run (by kernel_rfl) (stop := 7) 1000 _ ?_
    refine Good.slot 9 (.bool (decide (X ≤ 1048576))) (.bool true) (by kernel_rfl) (by rw [decide_eq_true (by omega)]) ?_
    refine Good.run (by kernel_rfl) (stop := 12) 1000 _ ?_
    refine Good.slot 14 (.bool (decide (Y ≥ -1048576))) (.bool true) (by kernel_rfl) (by rw [decide_eq_true (by omega)]) ?_
    refine Good.run (by kernel_rfl) (stop := 17) 1000 _ ?_
    refine Good.slot 19 (.bool (decide (Y ≤ 1048576))) (.bool false) (by kernel_rfl) (by rw [decide_eq_false (by omega)]) ?_
    refine Good.run (by kernel_rfl) (stop := 1000) 1000 _ ?_
    refine Good.ret (v := .bool false) (by kernel_rfl) (fun w1 hw h => ⟨(), by unfold validP; rw [decide_eq_false (by omega)], hw, fun _ _ _ => trivial⟩)
  refine Good.enter Tryz.func69 rfl ?_
  refine Good.run (by kernel_rfl) (stop := 3) 1000 _ ?_
  refine Good.slot 5 (.bool (decide (X ≥ -1048576))) (.bool true) (by kernel_rfl) (by rw [decide_eq_true (by omega)]) ?_
  refine Good.run (by kernel_rfl) (stop := 7) 1000 _ ?_
  refine Good.slot 9 (.bool (decide (X ≤ 1048576))) (.bool true) (by kernel_rfl) (by rw [decide_eq_true (by omega)]) ?_
  refine Good.run (by kernel_rfl) (stop := 12) 1000 _ ?_
  refine Good.slot 14 (.bool (decide (Y ≥ -1048576))) (.bool true) (by kernel_rfl) (by rw [decide_eq_true (by omega)]) ?_
  refine Good.run (by kernel_rfl) (stop := 17) 1000 _ ?_
  refine Good.slot 19 (.bool (decide (Y ≤ 1048576))) (.bool true) (by kernel_rfl) (by rw [decide_eq_true (by omega)]) ?_
  refine Good.run (by kernel_rfl) (stop := 1000) 1000 _ ?_
  refine Good.ret (v := .bool true) (by kernel_rfl) (fun w1 hw h => ⟨(), by unfold validP; rw [decide_eq_true (by omega)], hw, fun _ _ _ => trivial⟩)
end

def clampP (x : Int) : Int := if x < -1048576 then -1048576 else if 1048576 < x then 1048576 else x
section
variable {w : World} {X Y U V x : Int}
set_option maxRecDepth 100000 in
set_option maxHeartbeats 1000000 in
theorem iclampP_m : Calls Tryz.prog 137 #[.int .i64 x, .int .i64 (-1048576), .int .i64 1048576] w (CallPost w (fun _ : Unit => .int .i64 (clampP x)) fun _ _ => True) := by
  by_cases h1 : x < -1048576
  ·
    refine Good.enter Tryz.func137 rfl ?_
    refine Good.run (by kernel_rfl) (stop := 1000) 1000 _ ?_
    refine Good.condr (decide (x < -1048576)) true (by kernel_rfl) (by simpa using h1) ?_
    refine Good.run (by kernel_rfl) (stop := 1000) 1000 _ ?_
    refine Good.ret (v := .int .i64 (-1048576)) (by kernel_rfl) (fun w1 hw h => ⟨(), by unfold clampP; rw [if_pos h1], hw, fun _ _ _ => trivial⟩)
  · by_cases h2 : 1048576 < x
    ·
      refine Good.enter Tryz.func137 rfl ?_
      refine Good.run (by kernel_rfl) (stop := 1000) 1000 _ ?_
      refine Good.condr (decide (x < -1048576)) false (by kernel_rfl) (by simpa using h1) ?_
      refine Good.run (by kernel_rfl) (stop := 1000) 1000 _ ?_
      refine Good.condr (decide (x > 1048576)) true (by kernel_rfl) (by simpa using h2) ?_
      refine Good.run (by kernel_rfl) (stop := 1000) 1000 _ ?_
      refine Good.ret (v := .int .i64 1048576) (by kernel_rfl) (fun w1 hw h => ⟨(), by unfold clampP; rw [if_neg h1, if_pos h2], hw, fun _ _ _ => trivial⟩)
    ·
      refine Good.enter Tryz.func137 rfl ?_
      refine Good.run (by kernel_rfl) (stop := 1000) 1000 _ ?_
      refine Good.condr (decide (x < -1048576)) false (by kernel_rfl) (by simpa using h1) ?_
      refine Good.run (by kernel_rfl) (stop := 1000) 1000 _ ?_
      refine Good.condr (decide (x > 1048576)) false (by kernel_rfl) (by simpa using h2) ?_
      refine Good.run (by kernel_rfl) (stop := 1000) 1000 _ ?_
      refine Good.ret (v := .int .i64 x) (by kernel_rfl) (fun w1 hw h => ⟨(), by unfold clampP; rw [if_neg h1, if_neg h2], hw, fun _ _ _ => trivial⟩)
set_option maxRecDepth 100000 in
set_option maxHeartbeats 1000000 in
theorem held_m : Calls Tryz.prog 120 #[.int .i64 x] w (CallPost w (fun _ : Unit => .int .i64 (clampP x)) fun _ _ => True) := by
  refine Good.enter Tryz.func120 rfl ?_
  refine Good.run (by kernel_rfl) (stop := 1000) 1000 _ ?_
  refine Good.callv (fun w1 hw h => iclampP_m (x := x)) (by kernel_rfl) (fun u => ?_)
  refine Good.run (by kernel_rfl) (stop := 1000) 1000 _ ?_
  refine Good.ret (v := .int .i64 (clampP x)) (by kernel_rfl) (fun w1 hw h => ⟨(), rfl, hw, fun _ _ _ => trivial⟩)
set_option maxRecDepth 100000 in
set_option maxHeartbeats 1000000 in
theorem hold_m : Calls Tryz.prog 101 #[pt X Y] w (CallPost w (fun _ : Unit => pt (clampP X) (clampP Y)) fun _ _ => True) := by
  refine Good.enter Tryz.func101 rfl ?_
  refine Good.run (by kernel_rfl) (stop := 1000) 1000 _ ?_
  refine Good.callv (fun w1 hw h => held_m (x := X)) (by kernel_rfl) (fun u => ?_)
  refine Good.run (by kernel_rfl) (stop := 1000) 1000 _ ?_
  refine Good.callv (fun w1 hw h => held_m (x := Y)) (by kernel_rfl) (fun v => ?_)
  refine Good.run (by kernel_rfl) (stop := 1000) 1000 _ ?_
  refine Good.ret (v := pt (clampP X) (clampP Y)) (by kernel_rfl) (fun w1 hw h => ⟨(), rfl, hw, fun _ _ _ => trivial⟩)
theorem clampP_eq (x : Int) : (clampP x == x) = decide (-1048576 ≤ x ∧ x ≤ 1048576) := by
  unfold clampP
  split
  · rw [decide_eq_false (by omega)]; simp; omega
  · split
    · rw [decide_eq_false (by omega)]; simp; omega
    · rw [decide_eq_true (by omega)]; simp
theorem validP_eq (X Y : Int) : (clampP X == X && clampP Y == Y) = validP X Y := by
  rw [clampP_eq, clampP_eq]; unfold validP; simp
set_option maxRecDepth 100000 in
set_option maxHeartbeats 1000000 in
theorem valid_m : Calls Tryz.prog 67 #[pt X Y] w (CallPost w (fun _ : Unit => .bool (validP X Y)) fun _ _ => True) := by
  refine Good.enter Tryz.func67 rfl ?_
  refine Good.run (by kernel_rfl) (stop := 1000) 1000 _ ?_
  refine Good.callv (fun w1 hw h => hold_m (X := X) (Y := Y)) (by kernel_rfl) (fun u => ?_)
  refine Good.run (by kernel_rfl) (stop := 3) 1000 _ ?_
  refine Good.askAt 3 (eqP 47 (.tmp 4) (.tmp 5) (pt (clampP X) (clampP Y)) (pt X Y)) (.bool (clampP X == X && clampP Y == Y)) (by kernel_rfl) (fun w1 hw h => run_eqP) ?_
  refine Good.run (by kernel_rfl) (stop := 1000) 1000 _ ?_
  refine Good.ret (v := .bool (clampP X == X && clampP Y == Y)) (by kernel_rfl) (fun w1 hw h => ⟨(), by rw [validP_eq], hw, fun _ _ _ => trivial⟩)
end

/-- The position along a line. -/
def linF (X Y U V : Int) (p q : Rat) : Rat := (((65536 : Int) : Rat) * ((p - (X : Rat)) * ((U - X : Int) : Rat) + (q - (Y : Rat)) * ((V - Y : Int) : Rat))) / (((U - X : Int) : Rat) * ((U - X : Int) : Rat) + ((V - Y : Int) : Rat) * ((V - Y : Int) : Rat))
def linV (X Y U V : Int) (p q : Rat) : Int := if validP X Y = true ∧ validP U V = true ∧ ¬ (X = U ∧ Y = V) then clampI (linF X Y U V p q).floor else 65536
section
variable {w : World} {X Y U V x : Int} {p q : Rat} {K : Nat}
theorem rvalid_v {B : Bool} (h : validP X Y = B) : Calls Tryz.prog 69 #[pt X Y] w (CallPost w (fun _ : Unit => .bool B) fun _ _ => True) := by subst h; exact rvalid_m
theorem valid_v {B : Bool} (h : validP X Y = B) : Calls Tryz.prog 67 #[pt X Y] w (CallPost w (fun _ : Unit => .bool B) fun _ _ => True) := by subst h; exact valid_m
theorem clampP_id (h : -1048576 ≤ x ∧ x ≤ 1048576) : clampP x = x := by unfold clampP; rw [if_neg (by omega), if_neg (by omega)]
theorem sq_ne {a b : Int} (h : ¬ (a = 0 ∧ b = 0)) : ((a : Rat) * (a : Rat) + (b : Rat) * (b : Rat)) ≠ 0 := by
  intro e
  have h1 : ((a * a + b * b : Int) : Rat) = 0 := by rw [← e]; push_cast; rfl
  have h2 : a * a + b * b = 0 := by exact_mod_cast h1
  have sq : ∀ z : Int, z * z = ((z.natAbs * z.natAbs : Nat) : Int) := fun z => by rw [Int.natCast_mul]; exact (Int.natAbs_mul_self' z).symm
  rw [sq a, sq b] at h2
  have ka : a.natAbs * a.natAbs = 0 := by omega
  have kb : b.natAbs * b.natAbs = 0 := by omega
  have ka : a.natAbs = 0 := by rcases Nat.mul_eq_zero.1 ka with e | e <;> exact e
  have kb : b.natAbs = 0 := by rcases Nat.mul_eq_zero.1 kb with e | e <;> exact e
  exact h ⟨by omega, by omega⟩
theorem quo_n {r : RV} (h : IsQuo r p q K w) (hq : q ≠ 0) : IsQN r (p / q) K w := by unfold IsQuo at h; rw [if_neg hq] at h; exact h
end

/-- A transform's value. -/
structure TV where
  a : RV
  b : RV
  c : RV
  d : RV
  e : RV
  f : RV
def TV.cl (t : TV) : List Value := t.a.cl ++ (t.b.cl ++ (t.c.cl ++ (t.d.cl ++ (t.e.cl ++ t.f.cl))))
@[reducible] def TV.val (t : TV) : Value := .agg t.cl.toArray
structure Aff where
  a : Rat
  b : Rat
  c : Rat
  d : Rat
  e : Rat
  f : Rat
structure IsA (t : TV) (T : Aff) (K : Nat) (w : World) : Prop where
  a : IsQ t.a T.a K w
  b : IsQ t.b T.b K w
  c : IsQ t.c T.c K w
  d : IsQ t.d T.d K w
  e : IsQ t.e T.e K w
  f : IsQ t.f T.f K w
structure IsAN (t : TV) (T : Aff) (K : Nat) (w : World) : Prop where
  a : IsQN t.a T.a K w
  b : IsQN t.b T.b K w
  c : IsQN t.c T.c K w
  d : IsQN t.d T.d K w
  e : IsQN t.e T.e K w
  f : IsQN t.f T.f K w
def TV0 : TV := ⟨RV0, RV0, RV0, RV0, RV0, RV0⟩
def affI (a b c d : Int) : Aff := ⟨(a : Rat), (b : Rat), (c : Rat), (d : Rat), ((0 : Int) : Rat), ((0 : Int) : Rat)⟩
def affId : Aff := affI 1 0 0 1
def bitsA (T : Aff) : List Nat := [bitsQ T.a, bitsQ T.b, bitsQ T.c, bitsQ T.d, bitsQ T.e, bitsQ T.f]
def Aff.ok (T : Aff) : Bool := (bitsA T).all fun n => decide (n ≤ 256)
def Aff.det (T : Aff) : Rat := T.a * T.d - T.b * T.c
def Aff.app (T : Aff) (x y : Rat) : Rat × Rat := (T.a * x + T.c * y + T.e, T.b * x + T.d * y + T.f)
/-- T, then U. -/
def Aff.comp (T U : Aff) : Aff := ⟨U.a * T.a + U.c * T.b, U.b * T.a + U.d * T.b, U.a * T.c + U.c * T.d, U.b * T.c + U.d * T.d, (U.app T.e T.f).1, (U.app T.e T.f).2⟩
section
variable {t u : TV} {T U : Aff} {K K' : Nat} {w w' : World}
theorem IsAN.q (h : IsAN t T K w) : IsA t T K w := ⟨h.a.q, h.b.q, h.c.q, h.d.q, h.e.q, h.f.q⟩
theorem IsA.below (h : IsA t T K w) (hb : Below w.heap.size w w') : IsA t T K w' := ⟨h.a.below hb, h.b.below hb, h.c.below hb, h.d.below hb, h.e.below hb, h.f.below hb⟩
theorem IsAN.below (h : IsAN t T K w) (hb : Below w.heap.size w w') : IsAN t T K w' := ⟨h.a.below hb, h.b.below hb, h.c.below hb, h.d.below hb, h.e.below hb, h.f.below hb⟩
theorem IsA.mono (h : IsA t T K w) (hK : K ≤ K') : IsA t T K' w := ⟨h.a.mono hK, h.b.mono hK, h.c.mono hK, h.d.mono hK, h.e.mono hK, h.f.mono hK⟩
theorem IsAN.mono (h : IsAN t T K w) (hK : K ≤ K') : IsAN t T K' w := ⟨h.a.mono hK, h.b.mono hK, h.c.mono hK, h.d.mono hK, h.e.mono hK, h.f.mono hK⟩
theorem IsAN.cast (h : IsAN t T K w) (e : T = U) : IsAN t U K w := by rw [← e]; exact h
end
theorem isqn_of {r : RV} {q : Rat} {K K' : Nat} {w : World} (h : IsQN r q K w) (h1 : q.num.natAbs < pw K') (h2 : q.den < pw K') : IsQN r q K' w := ⟨isN_of h.1 h1, isN_of h.2 h2⟩
theorem bits_8 {n : Nat} (h : bitsN n ≤ 256) : n < pw 8 := by
  rw [pw_two]
  unfold bitsN at h
  split at h
  · rename_i h0; rw [h0]; exact Nat.two_pow_pos _
  · exact Nat.lt_of_lt_of_le Nat.lt_log2_self (Nat.pow_le_pow_right (by decide) (by omega))
theorem isqn_8 {r : RV} {q : Rat} {K : Nat} {w : World} (h : IsQN r q K w) (hb : bitsQ q ≤ 256) : IsQN r q 8 w := by
  unfold bitsQ at hb
  exact isqn_of h (bits_8 (by omega)) (bits_8 (by omega))
theorem Aff.ok_bits {T : Aff} (h : T.ok = true) : bitsQ T.a ≤ 256 ∧ bitsQ T.b ≤ 256 ∧ bitsQ T.c ≤ 256 ∧ bitsQ T.d ≤ 256 ∧ bitsQ T.e ≤ 256 ∧ bitsQ T.f ≤ 256 := by
  unfold Aff.ok bitsA at h
  simpa using h
theorem IsAN.of_ok {t : TV} {T : Aff} {K : Nat} {w : World} (h : IsAN t T K w) (hk : T.ok = true) : IsAN t T 8 w := by
  obtain ⟨h1, h2, h3, h4, h5, h6⟩ := Aff.ok_bits hk
  exact ⟨isqn_8 h.a h1, isqn_8 h.b h2, isqn_8 h.c h3, isqn_8 h.d h4, isqn_8 h.e h5, isqn_8 h.f h6⟩
theorem isq0 {K : Nat} {w : World} : IsQ RV0 ((0 : Int) : Rat) K w := ⟨0, 0, ⟨In.nil_, rfl, Nat.zero_le _⟩, ⟨In.nil_, rfl, Nat.zero_le _⟩, by rw [divInt_zero']; rfl⟩

section
variable {t u : TV} {T U : Aff} {K : Nat} {w : World} {r s r2 s2 : RV} {p q p2 q2 : Rat}
set_option maxRecDepth 100000 in
set_option maxHeartbeats 1000000 in
theorem made_m : Calls Tryz.prog 34 #[t.val] w (CallPost w (fun _ : Unit => t.val) fun _ _ => True) := by
  refine Good.enter Tryz.func34 rfl ?_
  refine Good.run (by kernel_rfl) (stop := 1000) 1000 _ ?_
  refine Good.ret (v := t.val) (by kernel_rfl) (fun w1 hw h => ⟨(), rfl, hw, fun _ _ _ => trivial⟩)
set_option maxRecDepth 100000 in
set_option maxHeartbeats 1000000 in
theorem twos_m (h1 : IsQ r p K w) (h2 : IsQ s q K w) (h3 : IsQ r2 p2 K w) (h4 : IsQ s2 q2 K w) (hK : 2 ≤ K ∧ K ≤ 10000000) :
    Calls Tryz.prog 91 #[r.val, s.val, r2.val, s2.val] w (CallPost w RV.val fun v u => IsQN v (p * q + p2 * q2) (4 * K + 1) u) := by
  refine Good.enter Tryz.func91 rfl ?_
  refine Good.run (by kernel_rfl) (stop := 1000) 1000 _ ?_
  refine Good.callv (fun w1 hw h => qmul_m (h1.below hw) (h2.below hw) (by omega)) (by kernel_rfl) (fun m => ?_)
  refine Good.run (by kernel_rfl) (stop := 1000) 1000 _ ?_
  refine Good.callv (fun w1 hw h => qmul_m (h3.below hw) (h4.below hw) (by omega)) (by kernel_rfl) (fun n => ?_)
  refine Good.run (by kernel_rfl) (stop := 1000) 1000 _ ?_
  refine Good.callv (fun w1 hw h => qadd_m h.1.2.q h.2.q (by omega)) (by kernel_rfl) (fun v => ?_)
  refine Good.run (by kernel_rfl) (stop := 1000) 1000 _ ?_
  refine Good.ret (v := RV.val v) (by kernel_rfl) (fun w1 hw h => ⟨v, rfl, hw, fun w'' k1 k2 => (h w'' k1 k2).2.mono (by omega)⟩)
set_option maxRecDepth 100000 in
set_option maxHeartbeats 1000000 in
theorem applyE_m (ht : IsA t T K w) (h1 : IsQ r p K w) (h2 : IsQ s q K w) (hK : 2 ≤ K ∧ K ≤ 10000000) :
    Calls Tryz.prog 63 #[t.val, r.val, s.val] w (CallPost w (fun v : RV × RV => .tuple #[v.1.val, v.2.val]) fun v u => IsQN v.1 (T.app p q).1 (5 * K + 2) u ∧ IsQN v.2 (T.app p q).2 (5 * K + 2) u) := by
  refine Good.enter Tryz.func63 rfl ?_
  refine Good.run (by kernel_rfl) (stop := 1000) 1000 _ ?_
  refine Good.callv (fun w1 hw h => twos_m (ht.a.below hw) (h1.below hw) (ht.c.below hw) (h2.below hw) hK) (by kernel_rfl) (fun m => ?_)
  refine Good.run (by kernel_rfl) (stop := 1000) 1000 _ ?_
  refine Good.callv (fun w1 hw h => qadd_m h.2.q (ht.e.below hw) (by omega)) (by kernel_rfl) (fun n => ?_)
  refine Good.run (by kernel_rfl) (stop := 1000) 1000 _ ?_
  refine Good.callv (fun w1 hw h => twos_m (ht.b.below hw) (h1.below hw) (ht.d.below hw) (h2.below hw) hK) (by kernel_rfl) (fun k => ?_)
  refine Good.run (by kernel_rfl) (stop := 1000) 1000 _ ?_
  refine Good.callv (fun w1 hw h => qadd_m h.2.q (ht.f.below hw) (by omega)) (by kernel_rfl) (fun l => ?_)
  refine Good.run (by kernel_rfl) (stop := 1000) 1000 _ ?_
  refine Good.ret (v := .tuple #[n.val, l.val]) (by kernel_rfl) (fun w1 hw h => ⟨(n, l), rfl, hw, fun w'' k1 k2 => ⟨(h w'' k1 k2).1.1.2.mono (by omega), (h w'' k1 k2).2.mono (by omega)⟩⟩)
set_option maxRecDepth 100000 in
set_option maxHeartbeats 2000000 in
theorem behind_m (ht : IsA t T K w) (hu : IsA u U K w) (hK : 2 ≤ K ∧ K ≤ 10000000) :
    Calls Tryz.prog 48 #[t.val, u.val] w (CallPost w TV.val fun v w => IsAN v (T.comp U) (5 * K + 2) w) := by
  refine Good.enter Tryz.func48 rfl ?_
  refine Good.run (by kernel_rfl) (stop := 1000) 1000 _ ?_
  refine Good.callv (fun w1 hw h => applyE_m (hu.below hw) (ht.e.below hw) (ht.f.below hw) hK) (by kernel_rfl) (fun x => ?_)
  refine Good.run (by kernel_rfl) (stop := 1000) 1000 _ ?_
  refine Good.callv (fun w1 hw h => twos_m (hu.a.below hw) (ht.a.below hw) (hu.c.below hw) (ht.b.below hw) hK) (by kernel_rfl) (fun a => ?_)
  refine Good.run (by kernel_rfl) (stop := 1000) 1000 _ ?_
  refine Good.callv (fun w1 hw h => twos_m (hu.b.below hw) (ht.a.below hw) (hu.d.below hw) (ht.b.below hw) hK) (by kernel_rfl) (fun b => ?_)
  refine Good.run (by kernel_rfl) (stop := 1000) 1000 _ ?_
  refine Good.callv (fun w1 hw h => twos_m (hu.a.below hw) (ht.c.below hw) (hu.c.below hw) (ht.d.below hw) hK) (by kernel_rfl) (fun c => ?_)
  refine Good.run (by kernel_rfl) (stop := 1000) 1000 _ ?_
  refine Good.callv (fun w1 hw h => twos_m (hu.b.below hw) (ht.c.below hw) (hu.d.below hw) (ht.d.below hw) hK) (by kernel_rfl) (fun d => ?_)
  refine Good.run (by kernel_rfl) (stop := 1000) 1000 _ ?_
  refine Good.callv (fun w1 hw h => made_m (t := ⟨a, b, c, d, x.1, x.2⟩)) (by kernel_rfl) (fun v => ?_)
  refine Good.run (by kernel_rfl) (stop := 1000) 1000 _ ?_
  refine Good.ret (v := TV.val ⟨a, b, c, d, x.1, x.2⟩) (by kernel_rfl) (fun w1 hw h => ⟨⟨a, b, c, d, x.1, x.2⟩, rfl, hw, fun w'' k1 k2 => ⟨(h w'' k1 k2).1.1.1.1.2.mono (by omega), (h w'' k1 k2).1.1.1.2.mono (by omega), (h w'' k1 k2).1.1.2.mono (by omega), (h w'' k1 k2).1.2.mono (by omega), (h w'' k1 k2).1.1.1.1.1.2.1, (h w'' k1 k2).1.1.1.1.1.2.2⟩⟩)
set_option maxRecDepth 100000 in
set_option maxHeartbeats 1000000 in
theorem numbers_m (ht : IsA t T K w) (hK : 2 ≤ K ∧ K ≤ 10000000) :
    Calls Tryz.prog 35 #[t.val] w (CallPost w TV.val fun v w => IsAN v T K w) := by
  refine Good.enter Tryz.func35 rfl ?_
  refine Good.run (by kernel_rfl) (stop := 1000) 1000 _ ?_
  refine Good.un (by kernel_rfl) ?_
  refine Good.run (by kernel_rfl) (stop := 1000) 1000 _ ?_
  refine Good.drop 5 (by kernel_rfl) (fun _ => ?_)
  refine Good.cond true (by kernel_rfl) ?_
  refine Good.run (by kernel_rfl) (stop := 1000) 1000 _ ?_
  refine Good.callv (fun w1 hw h => qnormalize_m (ht.a.below hw) (by omega)) (by kernel_rfl) (fun a => ?_)
  refine Good.run (by kernel_rfl) (stop := 1000) 1000 _ ?_
  refine Good.drop 5 (by kernel_rfl) (fun _ => ?_)
  refine Good.cond true (by kernel_rfl) ?_
  refine Good.run (by kernel_rfl) (stop := 1000) 1000 _ ?_
  refine Good.callv (fun w1 hw h => qnormalize_m (ht.b.below hw) (by omega)) (by kernel_rfl) (fun b => ?_)
  refine Good.run (by kernel_rfl) (stop := 1000) 1000 _ ?_
  refine Good.drop 5 (by kernel_rfl) (fun _ => ?_)
  refine Good.cond true (by kernel_rfl) ?_
  refine Good.run (by kernel_rfl) (stop := 1000) 1000 _ ?_
  refine Good.callv (fun w1 hw h => qnormalize_m (ht.c.below hw) (by omega)) (by kernel_rfl) (fun c => ?_)
  refine Good.run (by kernel_rfl) (stop := 1000) 1000 _ ?_
  refine Good.drop 5 (by kernel_rfl) (fun _ => ?_)
  refine Good.cond true (by kernel_rfl) ?_
  refine Good.run (by kernel_rfl) (stop := 1000) 1000 _ ?_
  refine Good.callv (fun w1 hw h => qnormalize_m (ht.d.below hw) (by omega)) (by kernel_rfl) (fun d => ?_)
  refine Good.run (by kernel_rfl) (stop := 1000) 1000 _ ?_
  refine Good.drop 5 (by kernel_rfl) (fun _ => ?_)
  refine Good.cond true (by kernel_rfl) ?_
  refine Good.run (by kernel_rfl) (stop := 1000) 1000 _ ?_
  refine Good.callv (fun w1 hw h => qnormalize_m (ht.e.below hw) (by omega)) (by kernel_rfl) (fun e => ?_)
  refine Good.run (by kernel_rfl) (stop := 1000) 1000 _ ?_
  refine Good.drop 5 (by kernel_rfl) (fun _ => ?_)
  refine Good.cond true (by kernel_rfl) ?_
  refine Good.run (by kernel_rfl) (stop := 1000) 1000 _ ?_
  refine Good.callv (fun w1 hw h => qnormalize_m (ht.f.below hw) (by omega)) (by kernel_rfl) (fun f => ?_)
  refine Good.run (by kernel_rfl) (stop := 1000) 1000 _ ?_
  refine Good.cond false (by kernel_rfl) ?_
  refine Good.run (by kernel_rfl) (stop := 1000) 1000 _ ?_
  refine Good.ret (v := TV.val ⟨a, b, c, d, e, f⟩) (by kernel_rfl) (fun w1 hw h => ⟨⟨a, b, c, d, e, f⟩, rfl, hw, fun w'' k1 k2 => ⟨(h w'' k1 k2).1.1.1.1.1.2, (h w'' k1 k2).1.1.1.1.2, (h w'' k1 k2).1.1.1.2, (h w'' k1 k2).1.1.2, (h w'' k1 k2).1.2, (h w'' k1 k2).2⟩⟩)
set_option maxRecDepth 100000 in
set_option maxHeartbeats 1000000 in
theorem normA_m (ht : IsA t T K w) (hK : 2 ≤ K ∧ K ≤ 10000000) :
    Calls Tryz.prog 10 #[t.val] w (CallPost w TV.val fun v w => IsAN v T K w) := by
  refine Good.enter Tryz.func10 rfl ?_
  refine Good.run (by kernel_rfl) (stop := 1000) 1000 _ ?_
  refine Good.callv (fun w1 hw h => numbers_m (ht.below hw) hK) (by kernel_rfl) (fun n => ?_)
  refine Good.run (by kernel_rfl) (stop := 1000) 1000 _ ?_
  refine Good.callv (fun w1 hw h => made_m (t := n)) (by kernel_rfl) (fun v => ?_)
  refine Good.run (by kernel_rfl) (stop := 1000) 1000 _ ?_
  refine Good.ret (v := TV.val n) (by kernel_rfl) (fun w1 hw h => ⟨n, rfl, hw, fun w'' k1 k2 => (h w'' k1 k2).1.2⟩)
set_option maxRecDepth 100000 in
set_option maxHeartbeats 1000000 in
theorem detA_m (ht : IsA t T K w) (hK : 2 ≤ K ∧ K ≤ 10000000) :
    Calls Tryz.prog 18 #[t.val] w (CallPost w RV.val fun v w => IsQN v T.det (4 * K + 1) w) := by
  refine Good.enter Tryz.func18 rfl ?_
  refine Good.run (by kernel_rfl) (stop := 1000) 1000 _ ?_
  refine Good.callv (fun w1 hw h => qmul_m (ht.a.below hw) (ht.d.below hw) (by omega)) (by kernel_rfl) (fun m => ?_)
  refine Good.run (by kernel_rfl) (stop := 1000) 1000 _ ?_
  refine Good.callv (fun w1 hw h => qmul_m (ht.b.below hw) (ht.c.below hw) (by omega)) (by kernel_rfl) (fun n => ?_)
  refine Good.run (by kernel_rfl) (stop := 1000) 1000 _ ?_
  refine Good.callv (fun w1 hw h => qsub_m h.1.2.q h.2.q (by omega)) (by kernel_rfl) (fun v => ?_)
  refine Good.run (by kernel_rfl) (stop := 1000) 1000 _ ?_
  refine Good.ret (v := RV.val v) (by kernel_rfl) (fun w1 hw h => ⟨v, rfl, hw, fun w'' k1 k2 => (h w'' k1 k2).2.mono (by omega)⟩)
set_option maxRecDepth 100000 in
set_option maxHeartbeats 1000000 in
theorem validA_m (ht : IsA t T K w) (hK : 2 ≤ K ∧ K ≤ 10000000) :
    Calls Tryz.prog 11 #[t.val] w (CallPost w (fun _ : Unit => .bool T.ok) fun _ _ => True) := by
  have bad : ∀ n ∈ bitsA T, ((n : Int) > 256) → T.ok = false := fun n hn h => by
    unfold Aff.ok
    rw [List.all_eq_false]
    exact ⟨n, hn, by simp; omega⟩
  refine Good.enter Tryz.func11 rfl ?_
  refine Good.run (by kernel_rfl) (stop := 1000) 1000 _ ?_
  refine Good.callv (fun w1 hw h => numbers_m (ht.below hw) hK) (by kernel_rfl) (fun n => ?_)
  refine Good.run (by kernel_rfl) (stop := 1000) 1000 _ ?_
  refine Good.un (by kernel_rfl) ?_
  refine Good.run (by kernel_rfl) (stop := 1000) 1000 _ ?_
  refine Good.drop 4 (by kernel_rfl) (fun _ => ?_)
  refine Good.cond true (by kernel_rfl) ?_
  refine Good.run (by kernel_rfl) (stop := 1000) 1000 _ ?_
  refine Good.callv (fun w1 hw h => qbitLen_m h.2.a.q (by omega)) (by kernel_rfl) (fun u => ?_)
  refine Good.run (by kernel_rfl) (stop := 1000) 1000 _ ?_
  refine Good.both (decide (((bitsQ T.a : Nat) : Int) > 256)) (by kernel_rfl) (fun hc => ?_) (fun hc => ?_)
  ·
    refine Good.runC (by kernel_rfl) (stop := 1000) 6000 _ ?_
    refine Good.ret (v := .bool false) (by kernel_rfl) (fun w1 hw h => ⟨(), by rw [bad (bitsQ T.a) (by simp [bitsA]) (of_decide_eq_true hc)], hw, fun _ _ _ => trivial⟩)
  have hba := of_decide_eq_false hc
  clear hc
  refine Good.run (by kernel_rfl) (stop := 1000) 1000 _ ?_
  refine Good.drop 4 (by kernel_rfl) (fun _ => ?_)
  refine Good.cond true (by kernel_rfl) ?_
  refine Good.run (by kernel_rfl) (stop := 1000) 1000 _ ?_
  refine Good.callv (fun w1 hw h => qbitLen_m h.1.2.b.q (by omega)) (by kernel_rfl) (fun u => ?_)
  refine Good.run (by kernel_rfl) (stop := 1000) 1000 _ ?_
  refine Good.both (decide (((bitsQ T.b : Nat) : Int) > 256)) (by kernel_rfl) (fun hc => ?_) (fun hc => ?_)
  ·
    refine Good.runC (by kernel_rfl) (stop := 1000) 6000 _ ?_
    refine Good.ret (v := .bool false) (by kernel_rfl) (fun w1 hw h => ⟨(), by rw [bad (bitsQ T.b) (by simp [bitsA]) (of_decide_eq_true hc)], hw, fun _ _ _ => trivial⟩)
  have hbb := of_decide_eq_false hc
  clear hc
  refine Good.run (by kernel_rfl) (stop := 1000) 1000 _ ?_
  refine Good.drop 4 (by kernel_rfl) (fun _ => ?_)
  refine Good.cond true (by kernel_rfl) ?_
  refine Good.run (by kernel_rfl) (stop := 1000) 1000 _ ?_
  refine Good.callv (fun w1 hw h => qbitLen_m h.1.1.2.c.q (by omega)) (by kernel_rfl) (fun u => ?_)
  refine Good.run (by kernel_rfl) (stop := 1000) 1000 _ ?_
  refine Good.both (decide (((bitsQ T.c : Nat) : Int) > 256)) (by kernel_rfl) (fun hc => ?_) (fun hc => ?_)
  ·
    refine Good.runC (by kernel_rfl) (stop := 1000) 6000 _ ?_
    refine Good.ret (v := .bool false) (by kernel_rfl) (fun w1 hw h => ⟨(), by rw [bad (bitsQ T.c) (by simp [bitsA]) (of_decide_eq_true hc)], hw, fun _ _ _ => trivial⟩)
  have hbc := of_decide_eq_false hc
  clear hc
  refine Good.run (by kernel_rfl) (stop := 1000) 1000 _ ?_
  refine Good.drop 4 (by kernel_rfl) (fun _ => ?_)
  refine Good.cond true (by kernel_rfl) ?_
  refine Good.run (by kernel_rfl) (stop := 1000) 1000 _ ?_
  refine Good.callv (fun w1 hw h => qbitLen_m h.1.1.1.2.d.q (by omega)) (by kernel_rfl) (fun u => ?_)
  refine Good.run (by kernel_rfl) (stop := 1000) 1000 _ ?_
  refine Good.both (decide (((bitsQ T.d : Nat) : Int) > 256)) (by kernel_rfl) (fun hc => ?_) (fun hc => ?_)
  ·
    refine Good.runC (by kernel_rfl) (stop := 1000) 6000 _ ?_
    refine Good.ret (v := .bool false) (by kernel_rfl) (fun w1 hw h => ⟨(), by rw [bad (bitsQ T.d) (by simp [bitsA]) (of_decide_eq_true hc)], hw, fun _ _ _ => trivial⟩)
  have hbd := of_decide_eq_false hc
  clear hc
  refine Good.run (by kernel_rfl) (stop := 1000) 1000 _ ?_
  refine Good.drop 4 (by kernel_rfl) (fun _ => ?_)
  refine Good.cond true (by kernel_rfl) ?_
  refine Good.run (by kernel_rfl) (stop := 1000) 1000 _ ?_
  refine Good.callv (fun w1 hw h => qbitLen_m h.1.1.1.1.2.e.q (by omega)) (by kernel_rfl) (fun u => ?_)
  refine Good.run (by kernel_rfl) (stop := 1000) 1000 _ ?_
  refine Good.both (decide (((bitsQ T.e : Nat) : Int) > 256)) (by kernel_rfl) (fun hc => ?_) (fun hc => ?_)
  ·
    refine Good.runC (by kernel_rfl) (stop := 1000) 6000 _ ?_
    refine Good.ret (v := .bool false) (by kernel_rfl) (fun w1 hw h => ⟨(), by rw [bad (bitsQ T.e) (by simp [bitsA]) (of_decide_eq_true hc)], hw, fun _ _ _ => trivial⟩)
  have hbe := of_decide_eq_false hc
  clear hc
  refine Good.run (by kernel_rfl) (stop := 1000) 1000 _ ?_
  refine Good.drop 4 (by kernel_rfl) (fun _ => ?_)
  refine Good.cond true (by kernel_rfl) ?_
  refine Good.run (by kernel_rfl) (stop := 1000) 1000 _ ?_
  refine Good.callv (fun w1 hw h => qbitLen_m h.1.1.1.1.1.2.f.q (by omega)) (by kernel_rfl) (fun u => ?_)
  refine Good.run (by kernel_rfl) (stop := 1000) 1000 _ ?_
  refine Good.both (decide (((bitsQ T.f : Nat) : Int) > 256)) (by kernel_rfl) (fun hc => ?_) (fun hc => ?_)
  ·
    refine Good.runC (by kernel_rfl) (stop := 1000) 6000 _ ?_
    refine Good.ret (v := .bool false) (by kernel_rfl) (fun w1 hw h => ⟨(), by rw [bad (bitsQ T.f) (by simp [bitsA]) (of_decide_eq_true hc)], hw, fun _ _ _ => trivial⟩)
  have hbf := of_decide_eq_false hc
  clear hc
  refine Good.run (by kernel_rfl) (stop := 1000) 1000 _ ?_
  refine Good.cond false (by kernel_rfl) ?_
  refine Good.run (by kernel_rfl) (stop := 1000) 1000 _ ?_
  have hall : T.ok = true := by unfold Aff.ok bitsA; simp only [List.all_cons, List.all_nil, Bool.and_true, Bool.and_eq_true, decide_eq_true_eq]; exact ⟨by omega, by omega, by omega, by omega, by omega, by omega⟩
  refine Good.ret (v := .bool true) (by kernel_rfl) (fun w1 hw h => ⟨(), by rw [hall], hw, fun _ _ _ => trivial⟩)
theorem validA_v {B : Bool} (hB : T.ok = B) (ht : IsA t T K w) (hK : 2 ≤ K ∧ K ≤ 10000000) : Calls Tryz.prog 11 #[t.val] w (CallPost w (fun _ : Unit => .bool B) fun _ _ => True) := by subst hB; exact validA_m ht hK
set_option maxRecDepth 100000 in
set_option maxHeartbeats 1000000 in
theorem ints_m {a b c d : Int} (ha : -9223372036854775808 ≤ a ∧ a ≤ 9223372036854775807) (hb : -9223372036854775808 ≤ b ∧ b ≤ 9223372036854775807) (hc : -9223372036854775808 ≤ c ∧ c ≤ 9223372036854775807) (hd : -9223372036854775808 ≤ d ∧ d ≤ 9223372036854775807) :
    Calls Tryz.prog 79 #[.int .i64 a, .int .i64 b, .int .i64 c, .int .i64 d] w (CallPost w TV.val fun v w => IsAN v (affI a b c d) 2 w) := by
  refine Good.enter Tryz.func79 rfl ?_
  refine Good.run (by kernel_rfl) (stop := 1000) 1000 _ ?_
  refine Good.callv (fun w1 hw h => qfromInt_m a w1 ha.1 ha.2) (by kernel_rfl) (fun x => ?_)
  refine Good.run (by kernel_rfl) (stop := 1000) 1000 _ ?_
  refine Good.callv (fun w1 hw h => qfromInt_m b w1 hb.1 hb.2) (by kernel_rfl) (fun y => ?_)
  refine Good.run (by kernel_rfl) (stop := 1000) 1000 _ ?_
  refine Good.callv (fun w1 hw h => qfromInt_m c w1 hc.1 hc.2) (by kernel_rfl) (fun z => ?_)
  refine Good.run (by kernel_rfl) (stop := 1000) 1000 _ ?_
  refine Good.callv (fun w1 hw h => qfromInt_m d w1 hd.1 hd.2) (by kernel_rfl) (fun i => ?_)
  refine Good.run (by kernel_rfl) (stop := 1000) 1000 _ ?_
  refine Good.callv (fun w1 hw h => qfromInt_m 0 w1 (by decide) (by decide)) (by kernel_rfl) (fun j => ?_)
  refine Good.run (by kernel_rfl) (stop := 1000) 1000 _ ?_
  refine Good.callv (fun w1 hw h => qfromInt_m 0 w1 (by decide) (by decide)) (by kernel_rfl) (fun k => ?_)
  refine Good.run (by kernel_rfl) (stop := 1000) 1000 _ ?_
  refine Good.callv (fun w1 hw h => made_m (t := ⟨x, y, z, i, j, k⟩)) (by kernel_rfl) (fun v => ?_)
  refine Good.run (by kernel_rfl) (stop := 1000) 1000 _ ?_
  refine Good.ret (v := TV.val ⟨x, y, z, i, j, k⟩) (by kernel_rfl) (fun w1 hw h => ⟨⟨x, y, z, i, j, k⟩, rfl, hw, fun w'' k1 k2 => ⟨(h w'' k1 k2).1.1.1.1.1.1.2, (h w'' k1 k2).1.1.1.1.1.2, (h w'' k1 k2).1.1.1.1.2, (h w'' k1 k2).1.1.1.2, (h w'' k1 k2).1.1.2, (h w'' k1 k2).1.2⟩⟩)
set_option maxRecDepth 100000 in
set_option maxHeartbeats 1000000 in
theorem identity_m : Calls Tryz.prog 47 #[] w (CallPost w TV.val fun v w => IsAN v affId 2 w) := by
  refine Good.enter Tryz.func47 rfl ?_
  refine Good.run (by kernel_rfl) (stop := 1000) 1000 _ ?_
  refine Good.callv (fun w1 hw h => ints_m (a := 1) (b := 0) (c := 0) (d := 1) (by decide) (by decide) (by decide) (by decide)) (by kernel_rfl) (fun x => ?_)
  refine Good.run (by kernel_rfl) (stop := 1000) 1000 _ ?_
  refine Good.ret (v := TV.val x) (by kernel_rfl) (fun w1 hw h => ⟨x, rfl, hw, fun w'' k1 k2 => (h w'' k1 k2).2⟩)
set_option maxRecDepth 100000 in
set_option maxHeartbeats 1000000 in
theorem translate_m (h1 : IsQ r p K w) (h2 : IsQ s q K w) (hK : 2 ≤ K ∧ K ≤ 10000000) :
    Calls Tryz.prog 93 #[r.val, s.val] w (CallPost w TV.val fun v w => IsAN v { affId with e := p, f := q } K w) := by
  refine Good.enter Tryz.func93 rfl ?_
  refine Good.run (by kernel_rfl) (stop := 1000) 1000 _ ?_
  refine Good.callv (fun w1 hw h => identity_m) (by kernel_rfl) (fun i => ?_)
  refine Good.run (by kernel_rfl) (stop := 1000) 1000 _ ?_
  refine Good.callv (fun w1 hw h => qnormalize_m (h1.below hw) (by omega)) (by kernel_rfl) (fun x => ?_)
  refine Good.run (by kernel_rfl) (stop := 1000) 1000 _ ?_
  refine Good.callv (fun w1 hw h => qnormalize_m (h2.below hw) (by omega)) (by kernel_rfl) (fun y => ?_)
  refine Good.run (by kernel_rfl) (stop := 1000) 1000 _ ?_
  refine Good.ret (v := TV.val ⟨i.a, i.b, i.c, i.d, x, y⟩) (by kernel_rfl) (fun w1 hw h => ⟨⟨i.a, i.b, i.c, i.d, x, y⟩, rfl, hw, fun w'' k1 k2 => ⟨(h w'' k1 k2).1.1.2.a.mono hK.1, (h w'' k1 k2).1.1.2.b.mono hK.1, (h w'' k1 k2).1.1.2.c.mono hK.1, (h w'' k1 k2).1.1.2.d.mono hK.1, (h w'' k1 k2).1.2, (h w'' k1 k2).2⟩⟩)
set_option maxRecDepth 100000 in
set_option maxHeartbeats 1000000 in
theorem scale_m (h1 : IsQ r p K w) (h2 : IsQ s q K w) (hK : 2 ≤ K ∧ K ≤ 10000000) :
    Calls Tryz.prog 32 #[r.val, s.val] w (CallPost w TV.val fun v w => IsAN v { affId with a := p, d := q } K w) := by
  refine Good.enter Tryz.func32 rfl ?_
  refine Good.run (by kernel_rfl) (stop := 1000) 1000 _ ?_
  refine Good.callv (fun w1 hw h => identity_m) (by kernel_rfl) (fun i => ?_)
  refine Good.run (by kernel_rfl) (stop := 1000) 1000 _ ?_
  refine Good.callv (fun w1 hw h => qnormalize_m (h1.below hw) (by omega)) (by kernel_rfl) (fun x => ?_)
  refine Good.run (by kernel_rfl) (stop := 1000) 1000 _ ?_
  refine Good.callv (fun w1 hw h => qnormalize_m (h2.below hw) (by omega)) (by kernel_rfl) (fun y => ?_)
  refine Good.run (by kernel_rfl) (stop := 1000) 1000 _ ?_
  refine Good.ret (v := TV.val ⟨x, i.b, i.c, y, i.e, i.f⟩) (by kernel_rfl) (fun w1 hw h => ⟨⟨x, i.b, i.c, y, i.e, i.f⟩, rfl, hw, fun w'' k1 k2 => ⟨(h w'' k1 k2).1.2, (h w'' k1 k2).1.1.2.b.mono hK.1, (h w'' k1 k2).1.1.2.c.mono hK.1, (h w'' k1 k2).2, (h w'' k1 k2).1.1.2.e.mono hK.1, (h w'' k1 k2).1.1.2.f.mono hK.1⟩⟩)
set_option maxRecDepth 100000 in
set_option maxHeartbeats 1000000 in
theorem skew_m (h1 : IsQ r p K w) (h2 : IsQ s q K w) (hK : 2 ≤ K ∧ K ≤ 10000000) :
    Calls Tryz.prog 94 #[r.val, s.val] w (CallPost w TV.val fun v w => IsAN v { affId with c := p, b := q } K w) := by
  refine Good.enter Tryz.func94 rfl ?_
  refine Good.run (by kernel_rfl) (stop := 1000) 1000 _ ?_
  refine Good.callv (fun w1 hw h => identity_m) (by kernel_rfl) (fun i => ?_)
  refine Good.run (by kernel_rfl) (stop := 1000) 1000 _ ?_
  refine Good.callv (fun w1 hw h => qnormalize_m (h1.below hw) (by omega)) (by kernel_rfl) (fun x => ?_)
  refine Good.run (by kernel_rfl) (stop := 1000) 1000 _ ?_
  refine Good.callv (fun w1 hw h => qnormalize_m (h2.below hw) (by omega)) (by kernel_rfl) (fun y => ?_)
  refine Good.run (by kernel_rfl) (stop := 1000) 1000 _ ?_
  refine Good.ret (v := TV.val ⟨i.a, y, x, i.d, i.e, i.f⟩) (by kernel_rfl) (fun w1 hw h => ⟨⟨i.a, y, x, i.d, i.e, i.f⟩, rfl, hw, fun w'' k1 k2 => ⟨(h w'' k1 k2).1.1.2.a.mono hK.1, (h w'' k1 k2).2, (h w'' k1 k2).1.2, (h w'' k1 k2).1.1.2.d.mono hK.1, (h w'' k1 k2).1.1.2.e.mono hK.1, (h w'' k1 k2).1.1.2.f.mono hK.1⟩⟩)
end

section
variable {w : World} {t u : TV} {T U : Aff} {K K1 K2 : Nat} {r s : RV} {p q : Rat} {X Y : Int}
/-- What Same says of two fractions. -/
def SameC (r s : RV) (B : Bool) (w : World) : Prop := ∀ v, Below w.heap.size w v → Calls Tryz.prog 17 #[r.val, s.val] v (CallPost v (fun _ : Unit => .bool B) fun _ _ => True)
theorem same_nn (ha : IsQN r p K1 w) (hb : IsQN s q K2 w) : SameC r s (decide (p = q)) w := fun v hv => rsame_nn (ha.below hv) (hb.below hv) rfl
theorem same_00 : SameC RV0 RV0 true w := fun v hv => rsame_v (by decide) (isI0 v) (isI0 v) (isI0 v) (isI0 v)
theorem SameC.below {B : Bool} {w' : World} (h : SameC r s B w) (hb : Below w.heap.size w w') : SameC r s B w' := fun v hv => h v (hb.trans (hv.mono hb.size))
def SixAt (w : World) (g : Nat) (t : TV) : Prop := BoxAt w g t.cl
set_option maxRecDepth 100000 in
set_option maxHeartbeats 1000000 in
theorem coef_m : Calls Tryz.prog 37 #[t.val] w (CallPost w (litV 6) fun g v => BoxAt v g t.cl) := by
  refine Good.enter Tryz.func37 rfl ?_
  refine Good.run (by kernel_rfl) (stop := 12) 1000 _ ?_
  refine Good.make (litS 53 6 #[(0, t.a.val), (1, t.b.val), (2, t.c.val), (3, t.d.val), (4, t.e.val), (5, t.f.val)]) (litV 6) (litG 26 t.cl.toArray) (by kernel_rfl) (fun w1 hw h => make_lit (by kernel_rfl)) (fun g => ?_)
  refine Good.run (by kernel_rfl) (stop := 1000) 1000 _ ?_
  refine Good.ret (v := litV 6 g) (by kernel_rfl) (fun w1 hw h => ⟨g, rfl, hw, fun w'' k1 k2 => ⟨_, (h w'' k1 k2).2⟩⟩)
theorem six_a {g : Nat} (h : BoxAt w g t.cl) : w.rangeAt g (0 * 4) t.a.cl := h.fst
theorem six_b {g : Nat} (h : BoxAt w g t.cl) : w.rangeAt g (1 * 4) t.b.cl := by have := (BoxAt.mid (a := t.a.cl) h); intro j v hv; exact this j v (by rw [List.getElem?_append_left (List.getElem?_eq_some_iff.1 hv).1]; exact hv)
theorem six_c {g : Nat} (h : BoxAt w g t.cl) : w.rangeAt g (2 * 4) t.c.cl := by have := (BoxAt.mid (a := t.a.cl ++ t.b.cl) (b := t.c.cl ++ (t.d.cl ++ (t.e.cl ++ t.f.cl))) (by rw [List.append_assoc]; exact h)); intro j v hv; exact this j v (by rw [List.getElem?_append_left (List.getElem?_eq_some_iff.1 hv).1]; exact hv)
theorem six_d {g : Nat} (h : BoxAt w g t.cl) : w.rangeAt g (3 * 4) t.d.cl := by have := (BoxAt.mid (a := t.a.cl ++ t.b.cl ++ t.c.cl) (b := t.d.cl ++ (t.e.cl ++ t.f.cl)) (by rw [List.append_assoc, List.append_assoc]; exact h)); intro j v hv; exact this j v (by rw [List.getElem?_append_left (List.getElem?_eq_some_iff.1 hv).1]; exact hv)
theorem six_e {g : Nat} (h : BoxAt w g t.cl) : w.rangeAt g (4 * 4) t.e.cl := by have := (BoxAt.mid (a := t.a.cl ++ t.b.cl ++ t.c.cl ++ t.d.cl) (b := t.e.cl ++ t.f.cl) (by rw [List.append_assoc, List.append_assoc, List.append_assoc]; exact h)); intro j v hv; exact this j v (by rw [List.getElem?_append_left (List.getElem?_eq_some_iff.1 hv).1]; exact hv)
theorem six_f {g : Nat} (h : BoxAt w g t.cl) : w.rangeAt g (5 * 4) t.f.cl := BoxAt.mid (a := t.a.cl ++ t.b.cl ++ t.c.cl ++ t.d.cl ++ t.e.cl) (by rw [List.append_assoc, List.append_assoc, List.append_assoc, List.append_assoc]; exact h)
theorem BoxAt.below {g : Nat} {cs : List Value} {w' : World} (h : BoxAt w g cs) (hb : Below w.heap.size w w') : BoxAt w' g cs := by
  obtain ⟨ty, h⟩ := h
  exact ⟨ty, (hb.block g (Array.getElem?_eq_some_iff.1 h).1).trans h⟩
set_option maxRecDepth 100000 in
set_option maxHeartbeats 2000000 in
theorem sameAll6_m {g g' : Nat} {Ba Bb Bc Bd Be Bf : Bool} (hg : BoxAt w g t.cl) (hg' : BoxAt w g' u.cl) (ha : SameC t.a u.a Ba w) (hb : SameC t.b u.b Bb w) (hc : SameC t.c u.c Bc w) (hd : SameC t.d u.d Bd w) (he : SameC t.e u.e Be w) (hf : SameC t.f u.f Bf w) :
    Calls Tryz.prog 39 #[litV 6 g, litV 6 g'] w (CallPost w (fun _ : Unit => .bool (Ba && (Bb && (Bc && (Bd && (Be && Bf)))))) fun _ _ => True) := by
  refine Good.enter Tryz.func39 rfl ?_
  refine Good.run (by kernel_rfl) (stop := 1000) 1000 _ ?_
  refine Good.cond false (by kernel_rfl) ?_
  refine Good.run (by kernel_rfl) (stop := 1000) 1000 _ ?_
  refine Good.un (by kernel_rfl) ?_
  refine Good.run (by kernel_rfl) (stop := 1000) 1000 _ ?_
  refine Good.cond true (by kernel_rfl) ?_
  refine Good.run (by kernel_rfl) (stop := 1000) 1000 _ ?_
  refine Good.askAt 2 (idxS 53 (litV 6 g) 0) (.pointer (some ⟨g, 0 * 4, none⟩)) (by kernel_rfl) (fun w1 hw h => run_idxN (elem := 26) (by kernel_rfl) (by kernel_rfl) (by decide)) ?_
  refine Good.run (by kernel_rfl) (stop := 1000) 1000 _ ?_
  refine Good.askAt 3 (ldS 26 ⟨g, 0 * 4, none⟩) (t.a.val) (by kernel_rfl) (fun w1 hw h => run_ldN (vs := t.a.cl) (by kernel_rfl) (by kernel_rfl) (six_a (hg.below hw))) ?_
  refine Good.run (by kernel_rfl) (stop := 1000) 1000 _ ?_
  refine Good.askAt 6 (idxS 53 (litV 6 g') 0) (.pointer (some ⟨g', 0 * 4, none⟩)) (by kernel_rfl) (fun w1 hw h => run_idxN (elem := 26) (by kernel_rfl) (by kernel_rfl) (by decide)) ?_
  refine Good.run (by kernel_rfl) (stop := 1000) 1000 _ ?_
  refine Good.askAt 7 (ldS 26 ⟨g', 0 * 4, none⟩) (u.a.val) (by kernel_rfl) (fun w1 hw h => run_ldN (vs := u.a.cl) (by kernel_rfl) (by kernel_rfl) (six_a (hg'.below hw))) ?_
  refine Good.run (by kernel_rfl) (stop := 1000) 1000 _ ?_
  cases Ba
  ·
    refine Good.callv (fun w1 hw h => ha w1 hw) (by kernel_rfl) (fun z => ?_)
    refine Good.run (by kernel_rfl) (stop := 1000) 1000 _ ?_
    refine Good.runC (by kernel_rfl) (stop := 1000) 6000 _ ?_
    refine Good.ret (v := .bool false) (by kernel_rfl) (fun w1 hw h => ⟨(), by simp, hw, fun _ _ _ => trivial⟩)
  refine Good.callv (fun w1 hw h => ha w1 hw) (by kernel_rfl) (fun z => ?_)
  refine Good.run (by kernel_rfl) (stop := 1000) 1000 _ ?_
  refine Good.cond false (by kernel_rfl) ?_
  refine Good.run (by kernel_rfl) (stop := 1000) 1000 _ ?_
  refine Good.cond true (by kernel_rfl) ?_
  refine Good.run (by kernel_rfl) (stop := 1000) 1000 _ ?_
  refine Good.askAt 2 (idxS 53 (litV 6 g) 1) (.pointer (some ⟨g, 1 * 4, none⟩)) (by kernel_rfl) (fun w1 hw h => run_idxN (elem := 26) (by kernel_rfl) (by kernel_rfl) (by decide)) ?_
  refine Good.run (by kernel_rfl) (stop := 1000) 1000 _ ?_
  refine Good.askAt 3 (ldS 26 ⟨g, 1 * 4, none⟩) (t.b.val) (by kernel_rfl) (fun w1 hw h => run_ldN (vs := t.b.cl) (by kernel_rfl) (by kernel_rfl) (six_b (hg.below hw))) ?_
  refine Good.run (by kernel_rfl) (stop := 1000) 1000 _ ?_
  refine Good.askAt 6 (idxS 53 (litV 6 g') 1) (.pointer (some ⟨g', 1 * 4, none⟩)) (by kernel_rfl) (fun w1 hw h => run_idxN (elem := 26) (by kernel_rfl) (by kernel_rfl) (by decide)) ?_
  refine Good.run (by kernel_rfl) (stop := 1000) 1000 _ ?_
  refine Good.askAt 7 (ldS 26 ⟨g', 1 * 4, none⟩) (u.b.val) (by kernel_rfl) (fun w1 hw h => run_ldN (vs := u.b.cl) (by kernel_rfl) (by kernel_rfl) (six_b (hg'.below hw))) ?_
  refine Good.run (by kernel_rfl) (stop := 1000) 1000 _ ?_
  cases Bb
  ·
    refine Good.callv (fun w1 hw h => hb w1 hw) (by kernel_rfl) (fun z => ?_)
    refine Good.run (by kernel_rfl) (stop := 1000) 1000 _ ?_
    refine Good.runC (by kernel_rfl) (stop := 1000) 6000 _ ?_
    refine Good.ret (v := .bool false) (by kernel_rfl) (fun w1 hw h => ⟨(), by simp, hw, fun _ _ _ => trivial⟩)
  refine Good.callv (fun w1 hw h => hb w1 hw) (by kernel_rfl) (fun z => ?_)
  refine Good.run (by kernel_rfl) (stop := 1000) 1000 _ ?_
  refine Good.cond false (by kernel_rfl) ?_
  refine Good.run (by kernel_rfl) (stop := 1000) 1000 _ ?_
  refine Good.cond true (by kernel_rfl) ?_
  refine Good.run (by kernel_rfl) (stop := 1000) 1000 _ ?_
  refine Good.askAt 2 (idxS 53 (litV 6 g) 2) (.pointer (some ⟨g, 2 * 4, none⟩)) (by kernel_rfl) (fun w1 hw h => run_idxN (elem := 26) (by kernel_rfl) (by kernel_rfl) (by decide)) ?_
  refine Good.run (by kernel_rfl) (stop := 1000) 1000 _ ?_
  refine Good.askAt 3 (ldS 26 ⟨g, 2 * 4, none⟩) (t.c.val) (by kernel_rfl) (fun w1 hw h => run_ldN (vs := t.c.cl) (by kernel_rfl) (by kernel_rfl) (six_c (hg.below hw))) ?_
  refine Good.run (by kernel_rfl) (stop := 1000) 1000 _ ?_
  refine Good.askAt 6 (idxS 53 (litV 6 g') 2) (.pointer (some ⟨g', 2 * 4, none⟩)) (by kernel_rfl) (fun w1 hw h => run_idxN (elem := 26) (by kernel_rfl) (by kernel_rfl) (by decide)) ?_
  refine Good.run (by kernel_rfl) (stop := 1000) 1000 _ ?_
  refine Good.askAt 7 (ldS 26 ⟨g', 2 * 4, none⟩) (u.c.val) (by kernel_rfl) (fun w1 hw h => run_ldN (vs := u.c.cl) (by kernel_rfl) (by kernel_rfl) (six_c (hg'.below hw))) ?_
  refine Good.run (by kernel_rfl) (stop := 1000) 1000 _ ?_
  cases Bc
  ·
    refine Good.callv (fun w1 hw h => hc w1 hw) (by kernel_rfl) (fun z => ?_)
    refine Good.run (by kernel_rfl) (stop := 1000) 1000 _ ?_
    refine Good.runC (by kernel_rfl) (stop := 1000) 6000 _ ?_
    refine Good.ret (v := .bool false) (by kernel_rfl) (fun w1 hw h => ⟨(), by simp, hw, fun _ _ _ => trivial⟩)
  refine Good.callv (fun w1 hw h => hc w1 hw) (by kernel_rfl) (fun z => ?_)
  refine Good.run (by kernel_rfl) (stop := 1000) 1000 _ ?_
  refine Good.cond false (by kernel_rfl) ?_
  refine Good.run (by kernel_rfl) (stop := 1000) 1000 _ ?_
  refine Good.cond true (by kernel_rfl) ?_
  refine Good.run (by kernel_rfl) (stop := 1000) 1000 _ ?_
  refine Good.askAt 2 (idxS 53 (litV 6 g) 3) (.pointer (some ⟨g, 3 * 4, none⟩)) (by kernel_rfl) (fun w1 hw h => run_idxN (elem := 26) (by kernel_rfl) (by kernel_rfl) (by decide)) ?_
  refine Good.run (by kernel_rfl) (stop := 1000) 1000 _ ?_
  refine Good.askAt 3 (ldS 26 ⟨g, 3 * 4, none⟩) (t.d.val) (by kernel_rfl) (fun w1 hw h => run_ldN (vs := t.d.cl) (by kernel_rfl) (by kernel_rfl) (six_d (hg.below hw))) ?_
  refine Good.run (by kernel_rfl) (stop := 1000) 1000 _ ?_
  refine Good.askAt 6 (idxS 53 (litV 6 g') 3) (.pointer (some ⟨g', 3 * 4, none⟩)) (by kernel_rfl) (fun w1 hw h => run_idxN (elem := 26) (by kernel_rfl) (by kernel_rfl) (by decide)) ?_
  refine Good.run (by kernel_rfl) (stop := 1000) 1000 _ ?_
  refine Good.askAt 7 (ldS 26 ⟨g', 3 * 4, none⟩) (u.d.val) (by kernel_rfl) (fun w1 hw h => run_ldN (vs := u.d.cl) (by kernel_rfl) (by kernel_rfl) (six_d (hg'.below hw))) ?_
  refine Good.run (by kernel_rfl) (stop := 1000) 1000 _ ?_
  cases Bd
  ·
    refine Good.callv (fun w1 hw h => hd w1 hw) (by kernel_rfl) (fun z => ?_)
    refine Good.run (by kernel_rfl) (stop := 1000) 1000 _ ?_
    refine Good.runC (by kernel_rfl) (stop := 1000) 6000 _ ?_
    refine Good.ret (v := .bool false) (by kernel_rfl) (fun w1 hw h => ⟨(), by simp, hw, fun _ _ _ => trivial⟩)
  refine Good.callv (fun w1 hw h => hd w1 hw) (by kernel_rfl) (fun z => ?_)
  refine Good.run (by kernel_rfl) (stop := 1000) 1000 _ ?_
  refine Good.cond false (by kernel_rfl) ?_
  refine Good.run (by kernel_rfl) (stop := 1000) 1000 _ ?_
  refine Good.cond true (by kernel_rfl) ?_
  refine Good.run (by kernel_rfl) (stop := 1000) 1000 _ ?_
  refine Good.askAt 2 (idxS 53 (litV 6 g) 4) (.pointer (some ⟨g, 4 * 4, none⟩)) (by kernel_rfl) (fun w1 hw h => run_idxN (elem := 26) (by kernel_rfl) (by kernel_rfl) (by decide)) ?_
  refine Good.run (by kernel_rfl) (stop := 1000) 1000 _ ?_
  refine Good.askAt 3 (ldS 26 ⟨g, 4 * 4, none⟩) (t.e.val) (by kernel_rfl) (fun w1 hw h => run_ldN (vs := t.e.cl) (by kernel_rfl) (by kernel_rfl) (six_e (hg.below hw))) ?_
  refine Good.run (by kernel_rfl) (stop := 1000) 1000 _ ?_
  refine Good.askAt 6 (idxS 53 (litV 6 g') 4) (.pointer (some ⟨g', 4 * 4, none⟩)) (by kernel_rfl) (fun w1 hw h => run_idxN (elem := 26) (by kernel_rfl) (by kernel_rfl) (by decide)) ?_
  refine Good.run (by kernel_rfl) (stop := 1000) 1000 _ ?_
  refine Good.askAt 7 (ldS 26 ⟨g', 4 * 4, none⟩) (u.e.val) (by kernel_rfl) (fun w1 hw h => run_ldN (vs := u.e.cl) (by kernel_rfl) (by kernel_rfl) (six_e (hg'.below hw))) ?_
  refine Good.run (by kernel_rfl) (stop := 1000) 1000 _ ?_
  cases Be
  ·
    refine Good.callv (fun w1 hw h => he w1 hw) (by kernel_rfl) (fun z => ?_)
    refine Good.run (by kernel_rfl) (stop := 1000) 1000 _ ?_
    refine Good.runC (by kernel_rfl) (stop := 1000) 6000 _ ?_
    refine Good.ret (v := .bool false) (by kernel_rfl) (fun w1 hw h => ⟨(), by simp, hw, fun _ _ _ => trivial⟩)
  refine Good.callv (fun w1 hw h => he w1 hw) (by kernel_rfl) (fun z => ?_)
  refine Good.run (by kernel_rfl) (stop := 1000) 1000 _ ?_
  refine Good.cond false (by kernel_rfl) ?_
  refine Good.run (by kernel_rfl) (stop := 1000) 1000 _ ?_
  refine Good.cond true (by kernel_rfl) ?_
  refine Good.run (by kernel_rfl) (stop := 1000) 1000 _ ?_
  refine Good.askAt 2 (idxS 53 (litV 6 g) 5) (.pointer (some ⟨g, 5 * 4, none⟩)) (by kernel_rfl) (fun w1 hw h => run_idxN (elem := 26) (by kernel_rfl) (by kernel_rfl) (by decide)) ?_
  refine Good.run (by kernel_rfl) (stop := 1000) 1000 _ ?_
  refine Good.askAt 3 (ldS 26 ⟨g, 5 * 4, none⟩) (t.f.val) (by kernel_rfl) (fun w1 hw h => run_ldN (vs := t.f.cl) (by kernel_rfl) (by kernel_rfl) (six_f (hg.below hw))) ?_
  refine Good.run (by kernel_rfl) (stop := 1000) 1000 _ ?_
  refine Good.askAt 6 (idxS 53 (litV 6 g') 5) (.pointer (some ⟨g', 5 * 4, none⟩)) (by kernel_rfl) (fun w1 hw h => run_idxN (elem := 26) (by kernel_rfl) (by kernel_rfl) (by decide)) ?_
  refine Good.run (by kernel_rfl) (stop := 1000) 1000 _ ?_
  refine Good.askAt 7 (ldS 26 ⟨g', 5 * 4, none⟩) (u.f.val) (by kernel_rfl) (fun w1 hw h => run_ldN (vs := u.f.cl) (by kernel_rfl) (by kernel_rfl) (six_f (hg'.below hw))) ?_
  refine Good.run (by kernel_rfl) (stop := 1000) 1000 _ ?_
  cases Bf
  ·
    refine Good.callv (fun w1 hw h => hf w1 hw) (by kernel_rfl) (fun z => ?_)
    refine Good.run (by kernel_rfl) (stop := 1000) 1000 _ ?_
    refine Good.runC (by kernel_rfl) (stop := 1000) 6000 _ ?_
    refine Good.ret (v := .bool false) (by kernel_rfl) (fun w1 hw h => ⟨(), by simp, hw, fun _ _ _ => trivial⟩)
  refine Good.callv (fun w1 hw h => hf w1 hw) (by kernel_rfl) (fun z => ?_)
  refine Good.run (by kernel_rfl) (stop := 1000) 1000 _ ?_
  refine Good.cond false (by kernel_rfl) ?_
  refine Good.run (by kernel_rfl) (stop := 1000) 1000 _ ?_
  refine Good.cond false (by kernel_rfl) ?_
  refine Good.run (by kernel_rfl) (stop := 1000) 1000 _ ?_
  refine Good.ret (v := .bool true) (by kernel_rfl) (fun w1 hw h => ⟨(), by simp, hw, fun _ _ _ => trivial⟩)
set_option maxRecDepth 100000 in
set_option maxHeartbeats 1000000 in
theorem fields_m {Ba Bb Bc Bd Be Bf : Bool} (ha : SameC t.a u.a Ba w) (hb : SameC t.b u.b Bb w) (hc : SameC t.c u.c Bc w) (hd : SameC t.d u.d Bd w) (he : SameC t.e u.e Be w) (hf : SameC t.f u.f Bf w) :
    Calls Tryz.prog 13 #[t.val, u.val] w (CallPost w (fun _ : Unit => .bool (Ba && (Bb && (Bc && (Bd && (Be && Bf)))))) fun _ _ => True) := by
  refine Good.enter Tryz.func13 rfl ?_
  refine Good.run (by kernel_rfl) (stop := 1000) 1000 _ ?_
  refine Good.callv (fun w1 hw h => coef_m (t := t)) (by kernel_rfl) (fun g => ?_)
  refine Good.run (by kernel_rfl) (stop := 1000) 1000 _ ?_
  refine Good.callv (fun w1 hw h => coef_m (t := u)) (by kernel_rfl) (fun g' => ?_)
  refine Good.run (by kernel_rfl) (stop := 1000) 1000 _ ?_
  refine Good.callv (fun w1 hw h => sameAll6_m h.1.2 h.2 (ha.below hw) (hb.below hw) (hc.below hw) (hd.below hw) (he.below hw) (hf.below hw)) (by kernel_rfl) (fun v => ?_)
  refine Good.run (by kernel_rfl) (stop := 1000) 1000 _ ?_
  refine Good.ret (v := .bool (Ba && (Bb && (Bc && (Bd && (Be && Bf)))))) (by kernel_rfl) (fun w1 hw h => ⟨(), rfl, hw, fun _ _ _ => trivial⟩)
def eqA (T U : Aff) : Bool := decide (T.a = U.a) && (decide (T.b = U.b) && (decide (T.c = U.c) && (decide (T.d = U.d) && (decide (T.e = U.e) && decide (T.f = U.f)))))
theorem eqA_rfl : eqA T T = true := by simp [eqA]
theorem eqA_eq (h : eqA T U = true) : T = U := by
  simp only [eqA, Bool.and_eq_true, decide_eq_true_eq] at h
  obtain ⟨h1, h2, h3, h4, h5, h6⟩ := h
  cases T; cases U
  simp only at h1 h2 h3 h4 h5 h6
  subst h1; subst h2; subst h3; subst h4; subst h5; subst h6
  rfl
theorem fieldsN_m {B : Bool} (hB : eqA T U = B) (h1 : IsAN t T K1 w) (h2 : IsAN u U K2 w) : Calls Tryz.prog 13 #[t.val, u.val] w (CallPost w (fun _ : Unit => .bool B) fun _ _ => True) := by
  subst hB
  exact fields_m (same_nn h1.a h2.a) (same_nn h1.b h2.b) (same_nn h1.c h2.c) (same_nn h1.d h2.d) (same_nn h1.e h2.e) (same_nn h1.f h2.f)
/-- A transform and an error: one of the two. -/
def OutA (r : TV) (e : Int) (T : Aff) (K : Nat) (u : World) : Prop := if e = 0 then IsAN r T K u else r = TV0
theorem OutA.n {r : TV} {e : Int} (h : OutA r e T K w) (he : e = 0) : IsAN r T K w := by unfold OutA at h; rwa [if_pos he] at h
theorem OutA.z {r : TV} {e : Int} (h : OutA r e T K w) (he : e ≠ 0) : r = TV0 := by unfold OutA at h; rwa [if_neg he] at h
theorem outA0 {e : Int} (he : e ≠ 0) : OutA TV0 e T K w := by unfold OutA; rw [if_neg he]
theorem outAn {r : TV} {e : Int} (he : e = 0) (h : IsAN r T K w) : OutA r e T K w := by unfold OutA; rwa [if_pos he]
theorem OutA.below {r : TV} {e : Int} {w' : World} (h : OutA r e T K w) (hb : Below w.heap.size w w') : OutA r e T K w' := by
  unfold OutA at h ⊢
  split
  · rename_i he; rw [if_pos he] at h; exact h.below hb
  · rename_i he; rwa [if_neg he] at h
theorem fieldsO_m {e : Int} (h1 : OutA t e T K1 w) (h2 : OutA u e T K2 w) : Calls Tryz.prog 13 #[t.val, u.val] w (CallPost w (fun _ : Unit => .bool true) fun _ _ => True) := by
  by_cases he : e = 0
  · exact fieldsN_m eqA_rfl (h1.n he) (h2.n he)
  · rw [h1.z he, h2.z he]
    exact fields_m (t := TV0) (u := TV0) same_00 same_00 same_00 same_00 same_00 same_00

/-- A slice of transforms. -/
structure RowT (w : World) (A : Option Addr) (n : Nat) (L : List TV) (Ts : List Aff) (K : Nat) : Prop where
  len : L.length = n
  lenT : Ts.length = n
  cells : ∀ (k : Nat) (t : TV), L[k]? = some t → ∃ ad : Addr, A = some ad ∧ ∀ (j : Nat) (v : Value), t.cl[j]? = some v → w.cell? ((ad.add (k * 24)).add j) = some v
  elems : ∀ (k : Nat) (t : TV) (T : Aff), L[k]? = some t → Ts[k]? = some T → IsA t T K w
theorem flat_at {α : Type} (f : α → List Value) {m : Nat} (hf : ∀ x, (f x).length = m) : ∀ (L : List α) (k j : Nat) (x : α) (v : Value), L[k]? = some x → (f x)[j]? = some v → (L.flatMap f)[k * m + j]? = some v := by
  intro L
  induction L with
  | nil => intro k j r v h; cases h
  | cons y L ih =>
    intro k j x v h hv
    have hj : j < m := by rw [← hf x]; exact (List.getElem?_eq_some_iff.1 hv).1
    rw [List.flatMap_cons]
    cases k with
    | zero =>
      obtain rfl : y = x := by simpa using h
      rw [List.getElem?_append_left (by rw [hf]; omega), Nat.zero_mul, Nat.zero_add]
      exact hv
    | succ k =>
      have e : (k + 1) * m = k * m + m := Nat.succ_mul k m
      rw [List.getElem?_append_right (by rw [hf]; omega), show (k + 1) * m + j - (f y).length = k * m + j by rw [hf]; omega]
      exact ih k j x v (by simpa using h) hv
theorem rowT_box {g n : Nat} {L : List TV} {Ts : List Aff} (h : BoxAt w g (L.flatMap TV.cl)) (hn : L.length = n) (hT : Ts.length = n) (he : ∀ (k : Nat) (t : TV) (T : Aff), L[k]? = some t → Ts[k]? = some T → IsA t T K w) : RowT w (some ⟨g, 0, none⟩) n L Ts K := by
  refine ⟨hn, hT, fun k t hk => ⟨_, rfl, fun j v hv => ?_⟩, he⟩
  obtain ⟨ty, h⟩ := h
  have := flat_at TV.cl (m := 24) (fun _ => rfl) L k j t v hk hv
  simp only [Addr.add_mid, Nat.zero_add, World.cell?, h, Option.isSome_none, Bool.false_eq_true, if_false]
  rw [List.getElem?_toArray]
  exact this
theorem RowT.below {A : Option Addr} {n : Nat} {L : List TV} {Ts : List Aff} {w' : World} (h : RowT w A n L Ts K) (hb : Below w.heap.size w w') : RowT w' A n L Ts K :=
  ⟨h.len, h.lenT, fun k t hk => by obtain ⟨ad, hA, hc⟩ := h.cells k t hk; exact ⟨ad, hA, fun j v hv => keepc hb (hc j v hv)⟩, fun k t T h1 h2 => (h.elems k t T h1 h2).below hb⟩

def preOk : Aff → List Aff → Bool
  | _, [] => true
  | A, T :: l => (A.comp T).ok && preOk (A.comp T) l
def compF (Ts : List Aff) : Aff := Ts.foldl Aff.comp affId
def compE (Ts : List Aff) : Int := if (Ts.all Aff.ok && preOk affId Ts) = true then 0 else 5
def bd (z : Int) : Prop := -9223372036854775808 ≤ z ∧ z ≤ 9223372036854775807
set_option maxRecDepth 100000 in
set_option maxHeartbeats 2000000 in
theorem compose_m {A : Option Addr} {n c : Nat} {L : List TV} {Ts : List Aff} (hl : RowT w A n L Ts K) (hn : n ≤ 1000) (hK : 8 ≤ K ∧ K ≤ 1000000) :
    Calls Tryz.prog 20 #[.slice A n c] w (CallPost w (fun r : TV => .tuple #[r.val, .int .i64 (compE Ts)]) fun r u => OutA r (compE Ts) (compF Ts) 8 u) := by
  refine Good.enter Tryz.func20 rfl ?_
  refine Good.run (by kernel_rfl) (stop := 1000) 1000 _ ?_
  refine Good.callv (fun w1 hw h => identity_m) (by kernel_rfl) (fun i => ?_)
  refine Good.run (by kernel_rfl) (stop := 1000) 1000 _ ?_
  refine Good.loop (ι := {k : Nat // k ≤ n ∧ (Ts.take k).all Aff.ok = true}) 37 (fun q => ⟨[(0, .v (.slice A n c)), (2, .p 2 0), (3, .v (.int .i64 0)), (4, .p 4 0), (10, .v (.slice A n c)), (11, .v (.int .i64 n)), (12, .v (.int .i64 q.1))], [(2, TV0.cl.map .v), (4, i.cl.map .v)]⟩) (fun _ u => IsAN i affId 2 u) (fun q => n - q.1) (⟨0, by omega, rfl⟩) (by kernel_rfl) (fun _ => by kernel_rfl) ⟨by kernel_rfl, by kernel_rfl, by kernel_rfl⟩ (fun u h => h.2) ?_
  rintro ⟨k, hk, hall⟩ gg
  by_cases hlt : k < n
  ·
    refine Good.run (by kernel_rfl) (stop := 1000) 1000 _ ?_
    refine Good.condr (decide ((k : Int) < (n : Int))) true (by kernel_rfl) (by simp; omega) ?_
    refine Good.run (by kernel_rfl) (stop := 1000) 1000 _ ?_
    obtain ⟨x, hx⟩ : ∃ x, L[k]? = some x := ⟨_, List.getElem?_eq_getElem (by rw [hl.len]; exact hlt)⟩
    obtain ⟨T, hT⟩ : ∃ T, Ts[k]? = some T := ⟨_, List.getElem?_eq_getElem (by rw [hl.lenT]; exact hlt)⟩
    obtain ⟨ad, hA, hcells⟩ := hl.cells k x hx
    have hxT := hl.elems k x T hx hT
    refine Good.ask (idxS 35 (.slice A n c) k) (.pointer (some (ad.add (k * 24)))) (by kernel_rfl) (fun w1 hw h => by rw [hA]; exact run_idxA (elem := 28) (by kernel_rfl) (by kernel_rfl) hlt) ?_
    refine Good.run (by kernel_rfl) (stop := 1000) 1000 _ ?_
    refine Good.ask (ldS 28 (ad.add (k * 24))) (x.val) (by kernel_rfl) (fun w1 hw h => run_ldA (vs := x.cl) (by kernel_rfl) (by kernel_rfl) (fun j v hv => keepc hw (hcells j v hv))) ?_
    refine Good.run (by kernel_rfl) (stop := 1000) 1000 _ ?_
    cases hB : T.ok
    ·
      refine Good.callv (fun w1 hw h => validA_v hB (hxT.below hw) (by omega)) (by kernel_rfl) (fun u => ?_)
      refine Good.run (by kernel_rfl) (stop := 1000) 1000 _ ?_
      refine Good.runC (by kernel_rfl) (stop := 1000) 6000 _ ?_
      refine Good.leave (by kernel_rfl) ?_
      refine Good.run (by kernel_rfl) (stop := 1000) 1000 _ ?_
      have he : compE Ts = 5 := by
        unfold compE
        rw [if_neg]
        intro e
        have h1 := List.all_eq_true.1 (Bool.and_eq_true _ _ ▸ e).1 T (List.mem_of_getElem? hT)
        rw [hB] at h1; cases h1
      refine Good.ret (v := .tuple #[TV0.val, .int .i64 5]) (by kernel_rfl) (fun w1 hw h => ⟨TV0, by rw [he], hw, fun w'' k1 k2 => outA0 (by rw [he]; decide)⟩)
    ·
      refine Good.callv (fun w1 hw h => validA_v hB (hxT.below hw) (by omega)) (by kernel_rfl) (fun u => ?_)
      refine Good.run (by kernel_rfl) (stop := 1000) 1000 _ ?_
      refine Good.cond false (by kernel_rfl) ?_
      refine Good.run (by kernel_rfl) (stop := 1000) 1000 _ ?_
      refine Good.slot 12 (.int .i64 (IntKind.i64.wrap ((k : Int) + 1))) (.int .i64 ((k + 1 : Nat) : Int)) (by kernel_rfl) (by rw [wrap_succ hlt (by omega)]) ?_
      refine Good.next (⟨k + 1, by omega, by rw [List.take_add_one, hT, List.all_append, hall]; simp [hB]⟩) (by kernel_rfl) (by show n - (k + 1) < n - k; omega) ⟨by kernel_rfl, by kernel_rfl, by kernel_rfl⟩ (fun u h => h.1)
  ·
    refine Good.run (by kernel_rfl) (stop := 1000) 1000 _ ?_
    refine Good.condr (decide ((k : Int) < (n : Int))) false (by kernel_rfl) (by simp at hlt ⊢; omega) ?_
    refine Good.run (by kernel_rfl) (stop := 1000) 1000 _ ?_
    refine Good.leave (by kernel_rfl) ?_
    refine Good.run (by kernel_rfl) (stop := 1000) 1000 _ ?_
    have hkn : k = n := by omega
    have hok : Ts.all Aff.ok = true := by rw [hkn, List.take_of_length_le (by rw [hl.lenT]; omega)] at hall; exact hall
    refine Good.loop (ι := {q : Nat × TV × Aff // q.1 ≤ n ∧ preOk affId Ts = preOk q.2.2 (Ts.drop q.1) ∧ compF Ts = (Ts.drop q.1).foldl Aff.comp q.2.2}) 37 (fun q => ⟨[(0, .v (.slice A n c)), (2, .p 2 0), (3, .v (.int .i64 0)), (4, .p 4 0), (21, .v (.slice A n c)), (22, .v (.int .i64 n)), (23, .v (.int .i64 q.1.1))], [(2, TV0.cl.map .v), (4, q.1.2.1.cl.map .v)]⟩) (fun q u => IsAN q.1.2.1 q.1.2.2 8 u) (fun q => n - q.1.1) (⟨(0, i, affId), by show 0 ≤ n; omega, rfl, rfl⟩) (by kernel_rfl) (fun _ => by kernel_rfl) ⟨by kernel_rfl, by kernel_rfl, by kernel_rfl⟩ (fun u h => h.mono (by decide)) ?_
    rintro ⟨⟨k, t, T⟩, hk, hpre, hcomp⟩ gg
    simp only at hk hpre hcomp
    by_cases hlt : k < n
    ·
      refine Good.run (by kernel_rfl) (stop := 1000) 1000 _ ?_
      refine Good.condr (decide ((k : Int) < (n : Int))) true (by kernel_rfl) (by simp; omega) ?_
      refine Good.run (by kernel_rfl) (stop := 1000) 1000 _ ?_
      obtain ⟨x, hx⟩ : ∃ x, L[k]? = some x := ⟨_, List.getElem?_eq_getElem (by rw [hl.len]; exact hlt)⟩
      obtain ⟨S, hT⟩ : ∃ T, Ts[k]? = some T := ⟨_, List.getElem?_eq_getElem (by rw [hl.lenT]; exact hlt)⟩
      obtain ⟨ad, hA, hcells⟩ := hl.cells k x hx
      have hxT := hl.elems k x S hx hT
      have hdrop : Ts.drop k = S :: Ts.drop (k + 1) := by
        rw [← List.getElem_cons_drop (h := by rw [hl.lenT]; exact hlt)]
        congr 1
        have := List.getElem?_eq_getElem (l := Ts) (i := k) (by rw [hl.lenT]; exact hlt)
        rw [hT] at this
        injection this with this
        exact this.symm
      rw [hdrop] at hpre hcomp
      simp only [preOk] at hpre
      refine Good.ask (idxS 35 (.slice A n c) k) (.pointer (some (ad.add (k * 24)))) (by kernel_rfl) (fun w1 hw h => by rw [hA]; exact run_idxA (elem := 28) (by kernel_rfl) (by kernel_rfl) hlt) ?_
      refine Good.run (by kernel_rfl) (stop := 1000) 1000 _ ?_
      refine Good.ask (ldS 28 (ad.add (k * 24))) (x.val) (by kernel_rfl) (fun w1 hw h => run_ldA (vs := x.cl) (by kernel_rfl) (by kernel_rfl) (fun j v hv => keepc hw (hcells j v hv))) ?_
      refine Good.run (by kernel_rfl) (stop := 1000) 1000 _ ?_
      refine Good.callv (fun w1 hw h => behind_m (h.q.mono hK.1) (hxT.below hw) (by omega)) (by kernel_rfl) (fun b => ?_)
      refine Good.run (by kernel_rfl) (stop := 1000) 1000 _ ?_
      cases hB : (T.comp S).ok
      ·
        refine Good.callv (fun w1 hw h => validA_v hB h.2.q (by omega)) (by kernel_rfl) (fun u => ?_)
        refine Good.run (by kernel_rfl) (stop := 1000) 1000 _ ?_
        refine Good.runC (by kernel_rfl) (stop := 1000) 6000 _ ?_
        refine Good.leave (by kernel_rfl) ?_
        refine Good.run (by kernel_rfl) (stop := 1000) 1000 _ ?_
        have he : compE Ts = 5 := by
          unfold compE
          rw [if_neg]
          intro e
          rw [hpre, hB] at e
          simp at e
        refine Good.ret (v := .tuple #[TV0.val, .int .i64 5]) (by kernel_rfl) (fun w1 hw h => ⟨TV0, by rw [he], hw, fun w'' k1 k2 => outA0 (by rw [he]; decide)⟩)
      ·
        refine Good.callv (fun w1 hw h => validA_v hB h.2.q (by omega)) (by kernel_rfl) (fun u => ?_)
        refine Good.run (by kernel_rfl) (stop := 1000) 1000 _ ?_
        refine Good.cond false (by kernel_rfl) ?_
        refine Good.run (by kernel_rfl) (stop := 1000) 1000 _ ?_
        refine Good.slot 23 (.int .i64 (IntKind.i64.wrap ((k : Int) + 1))) (.int .i64 ((k + 1 : Nat) : Int)) (by kernel_rfl) (by rw [wrap_succ hlt (by omega)]) ?_
        refine Good.next (⟨(k + 1, b, T.comp S), by show k + 1 ≤ n; omega, by rw [hpre, hB, Bool.true_and], by rw [hcomp]; rfl⟩) (by kernel_rfl) (by show n - (k + 1) < n - k; omega) ⟨by kernel_rfl, by kernel_rfl, by kernel_rfl⟩ (fun u h => h.1.2.of_ok hB)
    ·
      refine Good.run (by kernel_rfl) (stop := 1000) 1000 _ ?_
      refine Good.condr (decide ((k : Int) < (n : Int))) false (by kernel_rfl) (by simp at hlt ⊢; omega) ?_
      refine Good.run (by kernel_rfl) (stop := 1000) 1000 _ ?_
      refine Good.leave (by kernel_rfl) ?_
      refine Good.run (by kernel_rfl) (stop := 1000) 1000 _ ?_
      have hkn : k = n := by omega
      have hd : Ts.drop k = [] := List.drop_eq_nil_of_le (by rw [hl.lenT]; omega)
      rw [hd] at hpre hcomp
      have he : compE Ts = 0 := by
        unfold compE
        rw [hok, hpre]
        rfl
      refine Good.callv (fun w1 hw h => normA_m h.q (by decide)) (by kernel_rfl) (fun v => ?_)
      refine Good.run (by kernel_rfl) (stop := 1000) 1000 _ ?_
      refine Good.ret (v := .tuple #[v.val, .int .i64 0]) (by kernel_rfl) (fun w1 hw h => ⟨v, by rw [he], hw, fun w'' k1 k2 => outAn he ((h w'' k1 k2).2.cast hcomp.symm)⟩)
theorem compose_v {A : Option Addr} {n c : Nat} {L : List TV} {Ts : List Aff} {e : Int} (he : compE Ts = e) (hl : RowT w A n L Ts K) (hn : n ≤ 1000) (hK : 8 ≤ K ∧ K ≤ 1000000) :
    Calls Tryz.prog 20 #[.slice A n c] w (CallPost w (fun r : TV => .tuple #[r.val, .int .i64 e]) fun r u => OutA r e (compF Ts) 8 u) := by subst he; exact compose_m hl hn hK

theorem and3 (n : Int) : IntKind.i64.wrap (((BitVec.ofInt 64 n &&& BitVec.ofInt 64 3).toNat : Nat) : Int) = n % 4 := by
  have h : (BitVec.ofInt 64 n &&& BitVec.ofInt 64 3).toNat = (n % 4).toNat := by
    rw [BitVec.toNat_and]
    have e3 : (BitVec.ofInt 64 3).toNat = 2 ^ 2 - 1 := by decide
    rw [e3, Nat.and_two_pow_sub_one_eq_mod, BitVec.toNat_ofInt]
    omega
  rw [h, Int.toNat_of_nonneg (by omega)]
  have h1 : 0 ≤ n % 4 ∧ n % 4 < 4 := by omega
  generalize n % 4 = m at h1
  obtain h | h | h | h : m = 0 ∨ m = 1 ∨ m = 2 ∨ m = 3 := by omega
  all_goals (subst h; decide)
def qtA (m : Int) : Aff := if m = 1 then affI 0 1 (-1) 0 else if m = 2 then affI (-1) 0 0 (-1) else if m = 3 then affI 0 (-1) 1 0 else affId
def qe (n : Int) : Int := IntKind.i64.wrap (((BitVec.ofInt 64 n &&& BitVec.ofInt 64 3).toNat : Nat) : Int)
theorem qe_eq {n : Int} : qe n = n % 4 := and3 n
set_option maxRecDepth 100000 in
set_option maxHeartbeats 1000000 in
theorem qt_m {n : Int} : Calls Tryz.prog 33 #[.int .i64 n] w (CallPost w TV.val fun v u => IsAN v (qtA (n % 4)) 2 u) := by
  have h1 : 0 ≤ n % 4 ∧ n % 4 < 4 := by omega
  obtain ⟨m, hm⟩ : ∃ m, n % 4 = m := ⟨_, rfl⟩
  rw [hm]
  obtain h | h | h | h : m = 1 ∨ m = 2 ∨ m = 3 ∨ m = 0 := by omega
  · subst h
    refine Good.enter Tryz.func33 rfl ?_
    refine Good.run (by kernel_rfl) (stop := 1000) 1000 _ ?_
    refine Good.condr (qe n == 1) true (by kernel_rfl) (by rw [qe_eq, hm]; rfl) ?_
    refine Good.run (by kernel_rfl) (stop := 1000) 1000 _ ?_
    refine Good.callv (fun w1 hw h => ints_m (a := 0) (b := 1) (c := -1) (d := 0) (by decide) (by decide) (by decide) (by decide)) (by kernel_rfl) (fun v => ?_)
    refine Good.run (by kernel_rfl) (stop := 1000) 1000 _ ?_
    refine Good.ret (v := TV.val v) (by kernel_rfl) (fun w1 hw h => ⟨v, rfl, hw, fun w'' k1 k2 => (h w'' k1 k2).2.cast rfl⟩)
  · subst h
    refine Good.enter Tryz.func33 rfl ?_
    refine Good.run (by kernel_rfl) (stop := 1000) 1000 _ ?_
    refine Good.condr (qe n == 1) false (by kernel_rfl) (by rw [qe_eq, hm]; rfl) ?_
    refine Good.run (by kernel_rfl) (stop := 1000) 1000 _ ?_
    refine Good.condr (qe n == 2) true (by kernel_rfl) (by rw [qe_eq, hm]; rfl) ?_
    refine Good.run (by kernel_rfl) (stop := 1000) 1000 _ ?_
    refine Good.callv (fun w1 hw h => ints_m (a := -1) (b := 0) (c := 0) (d := -1) (by decide) (by decide) (by decide) (by decide)) (by kernel_rfl) (fun v => ?_)
    refine Good.run (by kernel_rfl) (stop := 1000) 1000 _ ?_
    refine Good.ret (v := TV.val v) (by kernel_rfl) (fun w1 hw h => ⟨v, rfl, hw, fun w'' k1 k2 => (h w'' k1 k2).2.cast rfl⟩)
  · subst h
    refine Good.enter Tryz.func33 rfl ?_
    refine Good.run (by kernel_rfl) (stop := 1000) 1000 _ ?_
    refine Good.condr (qe n == 1) false (by kernel_rfl) (by rw [qe_eq, hm]; rfl) ?_
    refine Good.run (by kernel_rfl) (stop := 1000) 1000 _ ?_
    refine Good.condr (qe n == 2) false (by kernel_rfl) (by rw [qe_eq, hm]; rfl) ?_
    refine Good.run (by kernel_rfl) (stop := 1000) 1000 _ ?_
    refine Good.condr (qe n == 3) true (by kernel_rfl) (by rw [qe_eq, hm]; rfl) ?_
    refine Good.run (by kernel_rfl) (stop := 1000) 1000 _ ?_
    refine Good.callv (fun w1 hw h => ints_m (a := 0) (b := -1) (c := 1) (d := 0) (by decide) (by decide) (by decide) (by decide)) (by kernel_rfl) (fun v => ?_)
    refine Good.run (by kernel_rfl) (stop := 1000) 1000 _ ?_
    refine Good.ret (v := TV.val v) (by kernel_rfl) (fun w1 hw h => ⟨v, rfl, hw, fun w'' k1 k2 => (h w'' k1 k2).2.cast rfl⟩)
  · subst h
    refine Good.enter Tryz.func33 rfl ?_
    refine Good.run (by kernel_rfl) (stop := 1000) 1000 _ ?_
    refine Good.condr (qe n == 1) false (by kernel_rfl) (by rw [qe_eq, hm]; rfl) ?_
    refine Good.run (by kernel_rfl) (stop := 1000) 1000 _ ?_
    refine Good.condr (qe n == 2) false (by kernel_rfl) (by rw [qe_eq, hm]; rfl) ?_
    refine Good.run (by kernel_rfl) (stop := 1000) 1000 _ ?_
    refine Good.condr (qe n == 3) false (by kernel_rfl) (by rw [qe_eq, hm]; rfl) ?_
    refine Good.run (by kernel_rfl) (stop := 1000) 1000 _ ?_
    refine Good.callv (fun w1 hw h => identity_m) (by kernel_rfl) (fun v => ?_)
    refine Good.run (by kernel_rfl) (stop := 1000) 1000 _ ?_
    refine Good.ret (v := TV.val v) (by kernel_rfl) (fun w1 hw h => ⟨v, rfl, hw, fun w'' k1 k2 => (h w'' k1 k2).2.cast rfl⟩)
set_option maxRecDepth 100000 in
set_option maxHeartbeats 1000000 in
theorem quoA_m (h1 : IsQ r p K w) (h2 : IsQ s q K w) (hq : q ≠ 0) (hK : 2 ≤ K ∧ K ≤ 10000000) : Calls Tryz.prog 95 #[r.val, s.val] w (CallPost w RV.val fun v u => IsQN v (p / q) (K + K) u) := by
  refine Good.enter Tryz.func95 rfl ?_
  refine Good.run (by kernel_rfl) (stop := 1000) 1000 _ ?_
  refine Good.callv (fun w1 hw h => qquo_m (h1.below hw) (h2.below hw) (by omega)) (by kernel_rfl) (fun x => ?_)
  refine Good.run (by kernel_rfl) (stop := 1000) 1000 _ ?_
  refine Good.ret (v := RV.val x) (by kernel_rfl) (fun w1 hw h => ⟨x, rfl, hw, fun w'' k1 k2 => quo_n (h w'' k1 k2).2 hq⟩)
set_option maxRecDepth 100000 in
set_option maxHeartbeats 1000000 in
theorem inv1_m {g : Nat} (h1 : IsQ r p K w) (hb : BoxAt w g s.cl) (h2 : IsQ s q K w) (hq : q ≠ 0) (hK : 2 ≤ K ∧ K ≤ 10000000) : Calls Tryz.prog 60 #[r.val, .pointer (some ⟨g, 0, none⟩)] w (CallPost w RV.val fun v u => IsQN v (p / q) (K + K) u) := by
  refine Good.enter Tryz.func60 rfl ?_
  refine Good.run (by kernel_rfl) (stop := 1000) 1000 _ ?_
  refine Good.ask (ldS 26 ⟨g, 0, none⟩) (s.val) (by kernel_rfl) (fun w1 hw h => run_ldN (vs := s.cl) (by kernel_rfl) (by kernel_rfl) (hb.below hw).range) ?_
  refine Good.run (by kernel_rfl) (stop := 1000) 1000 _ ?_
  refine Good.callv (fun w1 hw h => qquo_m (h1.below hw) (h2.below hw) (by omega)) (by kernel_rfl) (fun x => ?_)
  refine Good.run (by kernel_rfl) (stop := 1000) 1000 _ ?_
  refine Good.ret (v := RV.val x) (by kernel_rfl) (fun w1 hw h => ⟨x, rfl, hw, fun w'' k1 k2 => quo_n (h w'' k1 k2).2 hq⟩)
def Aff.inv (T : Aff) : Aff := ⟨T.d / T.det, -T.b / T.det, -T.c / T.det, T.a / T.det, -(T.d / T.det * T.e + -T.c / T.det * T.f + ((0 : Int) : Rat)), -(-T.b / T.det * T.e + T.a / T.det * T.f + ((0 : Int) : Rat))⟩
def invE (T : Aff) : Int := if T.ok = false then 5 else if T.det = 0 then 9 else if T.inv.ok = false then 5 else 0
theorem cmpQ0 {q : Rat} {B : Bool} (h : decide (q = 0) = B) : (cmpQ q ((0 : Int) : Rat) == 0) = B := by
  rw [← h]
  unfold cmpQ
  have e : ((0 : Int) : Rat) = 0 := rfl
  rw [e]
  by_cases h1 : q < 0
  · rw [if_pos h1, decide_eq_false (fun k => by rw [k] at h1; exact absurd h1 (by decide))]; rfl
  · rw [if_neg h1]
    by_cases h2 : q = 0
    · rw [if_pos h2, decide_eq_true h2]; rfl
    · rw [if_neg h2, decide_eq_false h2]; rfl
set_option maxRecDepth 100000 in
set_option maxHeartbeats 2000000 in
theorem invert_m (ht : IsA t T K w) (hK : 2 ≤ K ∧ K ≤ 10000) : Calls Tryz.prog 25 #[t.val] w (CallPost w (fun r : TV => .tuple #[r.val, .int .i64 (invE T)]) fun r u => OutA r (invE T) T.inv 8 u) := by
  refine Good.enter Tryz.func25 rfl ?_
  refine Good.run (by kernel_rfl) (stop := 1000) 1000 _ ?_
  cases hB : T.ok
  ·
    refine Good.callv (fun w1 hw h => validA_v hB (ht.below hw) (by omega)) (by kernel_rfl) (fun u => ?_)
    refine Good.run (by kernel_rfl) (stop := 1000) 1000 _ ?_
    refine Good.runC (by kernel_rfl) (stop := 1000) 6000 _ ?_
    have he : invE T = 5 := by unfold invE; rw [if_pos hB]
    refine Good.ret (v := .tuple #[TV0.val, .int .i64 5]) (by kernel_rfl) (fun w1 hw h => ⟨TV0, by rw [he], hw, fun w'' k1 k2 => outA0 (by rw [he]; decide)⟩)
  refine Good.callv (fun w1 hw h => validA_v hB (ht.below hw) (by omega)) (by kernel_rfl) (fun u => ?_)
  refine Good.run (by kernel_rfl) (stop := 1000) 1000 _ ?_
  refine Good.cond false (by kernel_rfl) ?_
  refine Good.run (by kernel_rfl) (stop := 1000) 1000 _ ?_
  refine Good.callv (fun w1 hw h => detA_m (ht.below hw) (by omega)) (by kernel_rfl) (fun d => ?_)
  refine Good.run (by kernel_rfl) (stop := 1000) 1000 _ ?_
  refine Good.callv (fun w1 hw h => qfromInt_m 0 w1 (by decide) (by decide)) (by kernel_rfl) (fun z => ?_)
  refine Good.run (by kernel_rfl) (stop := 1000) 1000 _ ?_
  refine Good.callv (fun w1 hw h => qcmp_m h.1.2.q h.2.q (by omega)) (by kernel_rfl) (fun u => ?_)
  refine Good.run (by kernel_rfl) (stop := 1000) 1000 _ ?_
  cases hD : decide (T.det = 0)
  case true =>
    refine Good.condr (cmpQ T.det ((0 : Int) : Rat) == 0) true (by kernel_rfl) (cmpQ0 hD) ?_
    refine Good.run (by kernel_rfl) (stop := 1000) 1000 _ ?_
    have he : invE T = 9 := by unfold invE; rw [if_neg (by rw [hB]; simp), if_pos (of_decide_eq_true hD)]
    refine Good.ret (v := .tuple #[TV0.val, .int .i64 9]) (by kernel_rfl) (fun w1 hw h => ⟨TV0, by rw [he], hw, fun w'' k1 k2 => outA0 (by rw [he]; decide)⟩)
  have hd0 : T.det ≠ 0 := of_decide_eq_false hD
  refine Good.condr (cmpQ T.det ((0 : Int) : Rat) == 0) false (by kernel_rfl) (cmpQ0 hD) ?_
  refine Good.run (by kernel_rfl) (stop := 1000) 1000 _ ?_
  refine Good.call (val := RV.val) (G := fun v u => IsQN v (T.d / T.det) (4 * K + 1 + (4 * K + 1)) u) (xs := [.v t.d.val, .p 4 0]) (by kernel_rfl) (fun β w1 hw h hB => inv1_m ((ht.d.below hw).mono (by omega)) (box_of hB (k := 4) (by simp [AV.ids]) (cs := d.cl.map .v) (by kernel_rfl)) h.1.1.2.q hd0 (by omega)) (fun a => ?_)
  refine Good.run (by kernel_rfl) (stop := 1000) 1000 _ ?_
  refine Good.callv (fun w1 hw h => qneg_m (ht.b.below hw) (by omega)) (by kernel_rfl) (fun n => ?_)
  refine Good.run (by kernel_rfl) (stop := 1000) 1000 _ ?_
  refine Good.call (val := RV.val) (G := fun v u => IsQN v (-T.b / T.det) (4 * K + 1 + (4 * K + 1)) u) (xs := [.v n.val, .p 4 0]) (by kernel_rfl) (fun β w1 hw h hB => inv1_m (h.2.q.mono (by omega)) (box_of hB (k := 4) (by simp [AV.ids]) (cs := d.cl.map .v) (by kernel_rfl)) h.1.1.1.1.2.q hd0 (by omega)) (fun b => ?_)
  refine Good.run (by kernel_rfl) (stop := 1000) 1000 _ ?_
  refine Good.callv (fun w1 hw h => qneg_m (ht.c.below hw) (by omega)) (by kernel_rfl) (fun m => ?_)
  refine Good.run (by kernel_rfl) (stop := 1000) 1000 _ ?_
  refine Good.call (val := RV.val) (G := fun v u => IsQN v (-T.c / T.det) (4 * K + 1 + (4 * K + 1)) u) (xs := [.v m.val, .p 4 0]) (by kernel_rfl) (fun β w1 hw h hB => inv1_m (h.2.q.mono (by omega)) (box_of hB (k := 4) (by simp [AV.ids]) (cs := d.cl.map .v) (by kernel_rfl)) h.1.1.1.1.1.1.2.q hd0 (by omega)) (fun c => ?_)
  refine Good.run (by kernel_rfl) (stop := 1000) 1000 _ ?_
  refine Good.call (val := RV.val) (G := fun v u => IsQN v (T.a / T.det) (4 * K + 1 + (4 * K + 1)) u) (xs := [.v t.a.val, .p 4 0]) (by kernel_rfl) (fun β w1 hw h hB => inv1_m ((ht.a.below hw).mono (by omega)) (box_of hB (k := 4) (by simp [AV.ids]) (cs := d.cl.map .v) (by kernel_rfl)) h.1.1.1.1.1.1.1.2.q hd0 (by omega)) (fun i => ?_)
  refine Good.run (by kernel_rfl) (stop := 1000) 1000 _ ?_
  refine Good.callv (fun w1 hw h => applyE_m (t := ⟨a, b, c, i, RV0, RV0⟩) (T := ⟨T.d / T.det, -T.b / T.det, -T.c / T.det, T.a / T.det, ((0 : Int) : Rat), ((0 : Int) : Rat)⟩) (K := 8 * K + 2) ⟨h.1.1.1.1.1.2.q.mono (by omega), h.1.1.1.2.q.mono (by omega), h.1.2.q.mono (by omega), h.2.q.mono (by omega), isq0, isq0⟩ ((ht.e.below hw).mono (by omega)) ((ht.f.below hw).mono (by omega)) (by omega)) (by kernel_rfl) (fun x => ?_)
  refine Good.run (by kernel_rfl) (stop := 1000) 1000 _ ?_
  refine Good.callv (fun w1 hw h => qneg_m h.2.1.q (by omega)) (by kernel_rfl) (fun e => ?_)
  refine Good.run (by kernel_rfl) (stop := 1000) 1000 _ ?_
  refine Good.callv (fun w1 hw h => qneg_m h.1.2.2.q (by omega)) (by kernel_rfl) (fun f => ?_)
  refine Good.run (by kernel_rfl) (stop := 1000) 1000 _ ?_
  have hN : ∀ u, (IsQN a (T.d / T.det) (4 * K + 1 + (4 * K + 1)) u ∧ IsQN b (-T.b / T.det) (4 * K + 1 + (4 * K + 1)) u ∧ IsQN c (-T.c / T.det) (4 * K + 1 + (4 * K + 1)) u ∧ IsQN i (T.a / T.det) (4 * K + 1 + (4 * K + 1)) u ∧ IsQN e T.inv.e (5 * (8 * K + 2) + 2) u ∧ IsQN f T.inv.f (5 * (8 * K + 2) + 2) u) → IsAN ⟨a, b, c, i, e, f⟩ T.inv (5 * (8 * K + 2) + 2) u := fun u h =>
    ⟨h.1.mono (by omega), h.2.1.mono (by omega), h.2.2.1.mono (by omega), h.2.2.2.1.mono (by omega), h.2.2.2.2.1, h.2.2.2.2.2⟩
  cases hI : T.inv.ok
  ·
    refine Good.callv (fun w1 hw h => validA_v (t := ⟨a, b, c, i, e, f⟩) hI (hN _ ⟨h.1.1.1.1.1.1.1.1.2, h.1.1.1.1.1.1.2, h.1.1.1.1.2, h.1.1.1.2, h.1.2, h.2⟩).q (by omega)) (by kernel_rfl) (fun u => ?_)
    refine Good.run (by kernel_rfl) (stop := 1000) 1000 _ ?_
    refine Good.runC (by kernel_rfl) (stop := 1000) 6000 _ ?_
    have he : invE T = 5 := by unfold invE; rw [if_neg (by rw [hB]; simp), if_neg hd0, if_pos hI]
    refine Good.ret (v := .tuple #[TV0.val, .int .i64 5]) (by kernel_rfl) (fun w1 hw h => ⟨TV0, by rw [he], hw, fun w'' k1 k2 => outA0 (by rw [he]; decide)⟩)
  refine Good.callv (fun w1 hw h => validA_v (t := ⟨a, b, c, i, e, f⟩) hI (hN _ ⟨h.1.1.1.1.1.1.1.1.2, h.1.1.1.1.1.1.2, h.1.1.1.1.2, h.1.1.1.2, h.1.2, h.2⟩).q (by omega)) (by kernel_rfl) (fun u => ?_)
  refine Good.run (by kernel_rfl) (stop := 1000) 1000 _ ?_
  refine Good.cond false (by kernel_rfl) ?_
  refine Good.run (by kernel_rfl) (stop := 1000) 1000 _ ?_
  refine Good.callv (fun w1 hw h => normA_m (t := ⟨a, b, c, i, e, f⟩) (hN _ ⟨h.1.1.1.1.1.1.1.1.1.2, h.1.1.1.1.1.1.1.2, h.1.1.1.1.1.2, h.1.1.1.1.2, h.1.1.2, h.1.2⟩).q (by omega)) (by kernel_rfl) (fun v => ?_)
  refine Good.run (by kernel_rfl) (stop := 1000) 1000 _ ?_
  have he : invE T = 0 := by unfold invE; rw [if_neg (by rw [hB]; simp), if_neg hd0, if_neg (by rw [hI]; simp)]
  refine Good.ret (v := .tuple #[v.val, .int .i64 0]) (by kernel_rfl) (fun w1 hw h => ⟨v, by rw [he], hw, fun w'' k1 k2 => outAn he ((h w'' k1 k2).2.of_ok hI)⟩)

/-- Where a point goes, rounded: the point and the error. -/
def halfQ : Rat := Rat.divInt 1 2
def atX (T : Aff) (X Y : Int) : Int := ((T.app (X : Rat) (Y : Rat)).1 + halfQ).floor
def atY (T : Aff) (X Y : Int) : Int := ((T.app (X : Rat) (Y : Rat)).2 + halfQ).floor
def atOk (T : Aff) (X Y : Int) : Bool := fitB (atX T X Y) && (fitB (atY T X Y) && validP (toV (atX T X Y)) (toV (atY T X Y)))
def atE (T : Aff) (X Y : Int) : Int := if T.ok = false then 5 else if validP X Y = false then 6 else if atOk T X Y = false then 6 else 0
def atP (T : Aff) (X Y : Int) : Value := if atE T X Y = 0 then pt (atX T X Y) (atY T X Y) else pt 0 0
theorem itoInt_v {a : SV} {x v : Int} {B : Bool} (hv : toV x = v) (hB : fitB x = B) (ha : IsI a x K w) (hK : K ≤ 1000000) : Calls Tryz.prog 73 #[a.val] w (CallPost w (fun _ : Unit => .tuple #[.int .i64 v, .bool B]) fun _ _ => True) := by
  subst hv; subst hB; exact (itoInt_c w ha.inn (by have := ha.le; omega) ha.zi).mono fun _ _ h => h.post
theorem at_bad {e : Int} (he : atE T X Y = e) (h0 : e ≠ 0) : (Value.tuple #[atP T X Y, .int .i64 (atE T X Y)]) = .tuple #[pt 0 0, .int .i64 e] := by
  unfold atP; rw [he, if_neg h0]
theorem toV_fit {x : Int} (h : fitB x = true) : toV x = x := by unfold toV; rw [if_pos h]
set_option maxRecDepth 100000 in
set_option maxHeartbeats 2000000 in
theorem apply_m (ht : IsA t T K w) (hK : 8 ≤ K ∧ K ≤ 10000) : Calls Tryz.prog 30 #[t.val, pt X Y] w (CallPost w (fun _ : Unit => .tuple #[atP T X Y, .int .i64 (atE T X Y)]) fun _ _ => True) := by
  refine Good.enter Tryz.func30 rfl ?_
  refine Good.run (by kernel_rfl) (stop := 1000) 1000 _ ?_
  cases hB : T.ok
  ·
    refine Good.callv (fun w1 hw h => validA_v hB (ht.below hw) (by omega)) (by kernel_rfl) (fun u => ?_)
    refine Good.run (by kernel_rfl) (stop := 1000) 1000 _ ?_
    refine Good.runC (by kernel_rfl) (stop := 1000) 6000 _ ?_
    have he : atE T X Y = 5 := by unfold atE; rw [if_pos hB]
    refine Good.ret (v := .tuple #[pt 0 0, .int .i64 5]) (by kernel_rfl) (fun w1 hw h => ⟨(), congrArg Ending.returned (at_bad he (by decide)).symm, hw, fun _ _ _ => trivial⟩)
  refine Good.callv (fun w1 hw h => validA_v hB (ht.below hw) (by omega)) (by kernel_rfl) (fun u => ?_)
  refine Good.run (by kernel_rfl) (stop := 1000) 1000 _ ?_
  refine Good.cond false (by kernel_rfl) ?_
  refine Good.run (by kernel_rfl) (stop := 1000) 1000 _ ?_
  cases hP : validP X Y
  ·
    refine Good.callv (fun w1 hw h => valid_v hP) (by kernel_rfl) (fun u => ?_)
    refine Good.run (by kernel_rfl) (stop := 1000) 1000 _ ?_
    refine Good.runC (by kernel_rfl) (stop := 1000) 6000 _ ?_
    have he : atE T X Y = 6 := by unfold atE; rw [if_neg (by rw [hB]; simp), if_pos hP]
    refine Good.ret (v := .tuple #[pt 0 0, .int .i64 6]) (by kernel_rfl) (fun w1 hw h => ⟨(), congrArg Ending.returned (at_bad he (by decide)).symm, hw, fun _ _ _ => trivial⟩)
  refine Good.callv (fun w1 hw h => valid_v hP) (by kernel_rfl) (fun u => ?_)
  refine Good.run (by kernel_rfl) (stop := 1000) 1000 _ ?_
  refine Good.cond false (by kernel_rfl) ?_
  refine Good.run (by kernel_rfl) (stop := 1000) 1000 _ ?_
  have hpb : (-1048576 ≤ X ∧ X ≤ 1048576) ∧ (-1048576 ≤ Y ∧ Y ≤ 1048576) := by unfold validP at hP; simpa using hP
  refine Good.callv (fun w1 hw h => qfromInt_m X w1 (by omega) (by omega)) (by kernel_rfl) (fun c => ?_)
  refine Good.run (by kernel_rfl) (stop := 1000) 1000 _ ?_
  refine Good.callv (fun w1 hw h => qfromInt_m Y w1 (by omega) (by omega)) (by kernel_rfl) (fun d => ?_)
  refine Good.run (by kernel_rfl) (stop := 1000) 1000 _ ?_
  refine Good.callv (fun w1 hw h => applyE_m (ht.below hw) (h.1.2.q.mono (by omega)) (h.2.q.mono (by omega)) (by omega)) (by kernel_rfl) (fun x => ?_)
  refine Good.run (by kernel_rfl) (stop := 1000) 1000 _ ?_
  refine Good.callv (fun w1 hw h => qfromInts_m (x := 1) (y := 2) (by decide) (by decide)) (by kernel_rfl) (fun f => ?_)
  refine Good.run (by kernel_rfl) (stop := 1000) 1000 _ ?_
  refine Good.callv (fun w1 hw h => qadd_m h.1.2.1.q (h.2.n (by decide)).q (by omega)) (by kernel_rfl) (fun m => ?_)
  refine Good.run (by kernel_rfl) (stop := 1000) 1000 _ ?_
  refine Good.callv (fun w1 hw h => qfloor_m h.2.q (by omega)) (by kernel_rfl) (fun g => ?_)
  refine Good.run (by kernel_rfl) (stop := 1000) 1000 _ ?_
  obtain ⟨a, ha⟩ : ∃ a, toV (atX T X Y) = a := ⟨_, rfl⟩
  obtain ⟨b, hb⟩ : ∃ b, toV (atY T X Y) = b := ⟨_, rfl⟩
  have bad : atOk T X Y = false → atE T X Y = 6 := fun h => by unfold atE; rw [if_neg (by rw [hB]; simp), if_neg (by rw [hP]; simp), if_pos h]
  cases hfa : fitB (atX T X Y)
  ·
    refine Good.callv (fun w1 hw h => itoInt_v ha hfa h.2.i (by omega)) (by kernel_rfl) (fun u => ?_)
    refine Good.run (by kernel_rfl) (stop := 1000) 1000 _ ?_
    refine Good.callv (fun w1 hw h => qadd_m h.1.1.1.1.2.2.q (h.1.1.1.2.n (by decide)).q (by omega)) (by kernel_rfl) (fun n => ?_)
    refine Good.run (by kernel_rfl) (stop := 1000) 1000 _ ?_
    refine Good.callv (fun w1 hw h => qfloor_m h.2.q (by omega)) (by kernel_rfl) (fun k => ?_)
    refine Good.run (by kernel_rfl) (stop := 1000) 1000 _ ?_
    cases hfb : fitB (atY T X Y)
    all_goals
      refine Good.callv (fun w1 hw h => itoInt_v hb hfb h.2.i (by omega)) (by kernel_rfl) (fun u => ?_)
      refine Good.run (by kernel_rfl) (stop := 1000) 1000 _ ?_
      refine Good.runC (by kernel_rfl) (stop := 1000) 6000 _ ?_
      refine Good.ret (v := .tuple #[pt 0 0, .int .i64 6]) (by kernel_rfl) (fun w1 hw h => ⟨(), congrArg Ending.returned (at_bad (bad (by unfold atOk; rw [hfa]; rfl)) (by decide)).symm, hw, fun _ _ _ => trivial⟩)
  refine Good.callv (fun w1 hw h => itoInt_v ha hfa h.2.i (by omega)) (by kernel_rfl) (fun u => ?_)
  refine Good.run (by kernel_rfl) (stop := 1000) 1000 _ ?_
  refine Good.callv (fun w1 hw h => qadd_m h.1.1.1.1.2.2.q (h.1.1.1.2.n (by decide)).q (by omega)) (by kernel_rfl) (fun n => ?_)
  refine Good.run (by kernel_rfl) (stop := 1000) 1000 _ ?_
  refine Good.callv (fun w1 hw h => qfloor_m h.2.q (by omega)) (by kernel_rfl) (fun k => ?_)
  refine Good.run (by kernel_rfl) (stop := 1000) 1000 _ ?_
  cases hfb : fitB (atY T X Y)
  ·
    refine Good.callv (fun w1 hw h => itoInt_v hb hfb h.2.i (by omega)) (by kernel_rfl) (fun u => ?_)
    refine Good.run (by kernel_rfl) (stop := 1000) 1000 _ ?_
    refine Good.runC (by kernel_rfl) (stop := 1000) 6000 _ ?_
    refine Good.ret (v := .tuple #[pt 0 0, .int .i64 6]) (by kernel_rfl) (fun w1 hw h => ⟨(), congrArg Ending.returned (at_bad (bad (by unfold atOk; rw [hfa, hfb]; rfl)) (by decide)).symm, hw, fun _ _ _ => trivial⟩)
  refine Good.callv (fun w1 hw h => itoInt_v hb hfb h.2.i (by omega)) (by kernel_rfl) (fun u => ?_)
  refine Good.run (by kernel_rfl) (stop := 1000) 1000 _ ?_
  cases hv : validP a b
  ·
    refine Good.callv (fun w1 hw h => valid_v hv) (by kernel_rfl) (fun u => ?_)
    refine Good.run (by kernel_rfl) (stop := 1000) 1000 _ ?_
    refine Good.runC (by kernel_rfl) (stop := 1000) 6000 _ ?_
    refine Good.ret (v := .tuple #[pt 0 0, .int .i64 6]) (by kernel_rfl) (fun w1 hw h => ⟨(), congrArg Ending.returned (at_bad (bad (by unfold atOk; rw [hfa, hfb, ha, hb, hv]; rfl)) (by decide)).symm, hw, fun _ _ _ => trivial⟩)
  refine Good.callv (fun w1 hw h => valid_v hv) (by kernel_rfl) (fun u => ?_)
  refine Good.run (by kernel_rfl) (stop := 1000) 1000 _ ?_
  refine Good.runC (by kernel_rfl) (stop := 1000) 6000 _ ?_
  have hok : atOk T X Y = true := by unfold atOk; rw [hfa, hfb, ha, hb, hv]; rfl
  have he : atE T X Y = 0 := by unfold atE; rw [if_neg (by rw [hB]; simp), if_neg (by rw [hP]; simp), if_neg (by rw [hok]; simp)]
  refine Good.ret (v := .tuple #[pt a b, .int .i64 0]) (by kernel_rfl) (fun w1 hw h => ⟨(), by unfold atP; rw [if_pos he, he, ← toV_fit hfa, ← toV_fit hfb, ha, hb], hw, fun _ _ _ => trivial⟩)
end

section
variable {w : World} {t u : TV} {T U : Aff} {K K1 K2 : Nat} {r s r2 s2 : RV} {p q p2 q2 : Rat} {X Y : Int}
set_option maxRecDepth 100000 in
set_option maxHeartbeats 1000000 in
theorem rdot_A (h1 : IsQ r p K w) (h2 : IsQ s q K w) (h3 : IsQ r2 p2 K w) (h4 : IsQ s2 q2 K w) (hK : 2 ≤ K ∧ K ≤ 10000000) :
    Calls Tryz.prog 65 #[r.val, s.val, r2.val, s2.val] w (CallPost w RV.val fun v u => IsQN v (p * q + p2 * q2) (4 * K + 1) u) := by
  refine Good.enter Tryz.func65 rfl ?_
  refine Good.run (by kernel_rfl) (stop := 1000) 1000 _ ?_
  refine Good.callv (fun w1 hw h => rqmul_m (h1.below hw) (h2.below hw) (by omega)) (by kernel_rfl) (fun m => ?_)
  refine Good.run (by kernel_rfl) (stop := 1000) 1000 _ ?_
  refine Good.callv (fun w1 hw h => rqmul_m (h3.below hw) (h4.below hw) (by omega)) (by kernel_rfl) (fun n => ?_)
  refine Good.run (by kernel_rfl) (stop := 1000) 1000 _ ?_
  refine Good.callv (fun w1 hw h => rqadd_m h.1.2.q h.2.q (by omega)) (by kernel_rfl) (fun v => ?_)
  refine Good.run (by kernel_rfl) (stop := 1000) 1000 _ ?_
  refine Good.ret (v := RV.val v) (by kernel_rfl) (fun w1 hw h => ⟨v, rfl, hw, fun w'' k1 k2 => (h w'' k1 k2).2.mono (by omega)⟩)
set_option maxRecDepth 100000 in
set_option maxHeartbeats 1000000 in
theorem rfromInts_A {a b c d : Int} (ha : -9223372036854775808 ≤ a ∧ a ≤ 9223372036854775807) (hb : -9223372036854775808 ≤ b ∧ b ≤ 9223372036854775807) (hc : -9223372036854775808 ≤ c ∧ c ≤ 9223372036854775807) (hd : -9223372036854775808 ≤ d ∧ d ≤ 9223372036854775807)
    (h1 : IsQ r p K w) (h2 : IsQ s q K w) (hK : 2 ≤ K ∧ K ≤ 10000000) :
    Calls Tryz.prog 66 #[.int .i64 a, .int .i64 b, .int .i64 c, .int .i64 d, r.val, s.val] w (CallPost w TV.val fun v w => IsAN v { affI a b c d with e := p, f := q } K w) := by
  refine Good.enter Tryz.func66 rfl ?_
  refine Good.run (by kernel_rfl) (stop := 1000) 1000 _ ?_
  refine Good.callv (fun w1 hw h => rqfromInt_m a w1 ha.1 ha.2) (by kernel_rfl) (fun x => ?_)
  refine Good.run (by kernel_rfl) (stop := 1000) 1000 _ ?_
  refine Good.callv (fun w1 hw h => rqfromInt_m b w1 hb.1 hb.2) (by kernel_rfl) (fun y => ?_)
  refine Good.run (by kernel_rfl) (stop := 1000) 1000 _ ?_
  refine Good.callv (fun w1 hw h => rqfromInt_m c w1 hc.1 hc.2) (by kernel_rfl) (fun z => ?_)
  refine Good.run (by kernel_rfl) (stop := 1000) 1000 _ ?_
  refine Good.callv (fun w1 hw h => rqfromInt_m d w1 hd.1 hd.2) (by kernel_rfl) (fun i => ?_)
  refine Good.run (by kernel_rfl) (stop := 1000) 1000 _ ?_
  refine Good.callv (fun w1 hw h => rqnormalize_m (h1.below hw) (by omega)) (by kernel_rfl) (fun j => ?_)
  refine Good.run (by kernel_rfl) (stop := 1000) 1000 _ ?_
  refine Good.callv (fun w1 hw h => rqnormalize_m (h2.below hw) (by omega)) (by kernel_rfl) (fun k => ?_)
  refine Good.run (by kernel_rfl) (stop := 1000) 1000 _ ?_
  refine Good.ret (v := TV.val ⟨x, y, z, i, j, k⟩) (by kernel_rfl) (fun w1 hw h => ⟨⟨x, y, z, i, j, k⟩, rfl, hw, fun w'' k1 k2 => ⟨(h w'' k1 k2).1.1.1.1.1.2.mono hK.1, (h w'' k1 k2).1.1.1.1.2.mono hK.1, (h w'' k1 k2).1.1.1.2.mono hK.1, (h w'' k1 k2).1.1.2.mono hK.1, (h w'' k1 k2).1.2, (h w'' k1 k2).2⟩⟩)
set_option maxRecDepth 100000 in
set_option maxHeartbeats 1000000 in
theorem ridentity_m : Calls Tryz.prog 27 #[] w (CallPost w TV.val fun v w => IsAN v affId 2 w) := by
  refine Good.enter Tryz.func27 rfl ?_
  refine Good.run (by kernel_rfl) (stop := 1000) 1000 _ ?_
  refine Good.callv (fun w1 hw h => rfromInts_A (a := 1) (b := 0) (c := 0) (d := 1) (r := RV0) (s := RV0) (by decide) (by decide) (by decide) (by decide) (isq0 (K := 2)) isq0 (by decide)) (by kernel_rfl) (fun x => ?_)
  refine Good.run (by kernel_rfl) (stop := 1000) 1000 _ ?_
  refine Good.ret (v := TV.val x) (by kernel_rfl) (fun w1 hw h => ⟨x, rfl, hw, fun w'' k1 k2 => (h w'' k1 k2).2⟩)
set_option maxRecDepth 100000 in
set_option maxHeartbeats 1000000 in
theorem rtranslate_m (h1 : IsQ r p K w) (h2 : IsQ s q K w) (hK : 2 ≤ K ∧ K ≤ 10000000) :
    Calls Tryz.prog 59 #[r.val, s.val] w (CallPost w TV.val fun v w => IsAN v { affId with e := p, f := q } K w) := by
  refine Good.enter Tryz.func59 rfl ?_
  refine Good.run (by kernel_rfl) (stop := 1000) 1000 _ ?_
  refine Good.callv (fun w1 hw h => rfromInts_A (a := 1) (b := 0) (c := 0) (d := 1) (by decide) (by decide) (by decide) (by decide) (h1.below hw) (h2.below hw) hK) (by kernel_rfl) (fun x => ?_)
  refine Good.run (by kernel_rfl) (stop := 1000) 1000 _ ?_
  refine Good.ret (v := TV.val x) (by kernel_rfl) (fun w1 hw h => ⟨x, rfl, hw, fun w'' k1 k2 => (h w'' k1 k2).2⟩)
set_option maxRecDepth 100000 in
set_option maxHeartbeats 1000000 in
theorem rscale_m (h1 : IsQ r p K w) (h2 : IsQ s q K w) (hK : 2 ≤ K ∧ K ≤ 10000000) :
    Calls Tryz.prog 55 #[r.val, s.val] w (CallPost w TV.val fun v w => IsAN v { affId with a := p, d := q } K w) := by
  refine Good.enter Tryz.func55 rfl ?_
  refine Good.run (by kernel_rfl) (stop := 1000) 1000 _ ?_
  refine Good.callv (fun w1 hw h => rfromInts_A (a := 0) (b := 0) (c := 0) (d := 0) (r := RV0) (s := RV0) (by decide) (by decide) (by decide) (by decide) (isq0 (K := 2)) isq0 (by decide)) (by kernel_rfl) (fun i => ?_)
  refine Good.run (by kernel_rfl) (stop := 1000) 1000 _ ?_
  refine Good.callv (fun w1 hw h => rqnormalize_m (h1.below hw) (by omega)) (by kernel_rfl) (fun x => ?_)
  refine Good.run (by kernel_rfl) (stop := 1000) 1000 _ ?_
  refine Good.callv (fun w1 hw h => rqnormalize_m (h2.below hw) (by omega)) (by kernel_rfl) (fun y => ?_)
  refine Good.run (by kernel_rfl) (stop := 1000) 1000 _ ?_
  refine Good.ret (v := TV.val ⟨x, i.b, i.c, y, i.e, i.f⟩) (by kernel_rfl) (fun w1 hw h => ⟨⟨x, i.b, i.c, y, i.e, i.f⟩, rfl, hw, fun w'' k1 k2 => ⟨(h w'' k1 k2).1.2, (h w'' k1 k2).1.1.2.b.mono hK.1, (h w'' k1 k2).1.1.2.c.mono hK.1, (h w'' k1 k2).2, (h w'' k1 k2).1.1.2.e.mono hK.1, (h w'' k1 k2).1.1.2.f.mono hK.1⟩⟩)
set_option maxRecDepth 100000 in
set_option maxHeartbeats 1000000 in
theorem rskew_m (h1 : IsQ r p K w) (h2 : IsQ s q K w) (hK : 2 ≤ K ∧ K ≤ 10000000) :
    Calls Tryz.prog 57 #[r.val, s.val] w (CallPost w TV.val fun v w => IsAN v { affId with c := p, b := q } K w) := by
  refine Good.enter Tryz.func57 rfl ?_
  refine Good.run (by kernel_rfl) (stop := 1000) 1000 _ ?_
  refine Good.callv (fun w1 hw h => ridentity_m) (by kernel_rfl) (fun i => ?_)
  refine Good.run (by kernel_rfl) (stop := 1000) 1000 _ ?_
  refine Good.callv (fun w1 hw h => rqnormalize_m (h1.below hw) (by omega)) (by kernel_rfl) (fun x => ?_)
  refine Good.run (by kernel_rfl) (stop := 1000) 1000 _ ?_
  refine Good.callv (fun w1 hw h => rqnormalize_m (h2.below hw) (by omega)) (by kernel_rfl) (fun y => ?_)
  refine Good.run (by kernel_rfl) (stop := 1000) 1000 _ ?_
  refine Good.ret (v := TV.val ⟨i.a, y, x, i.d, i.e, i.f⟩) (by kernel_rfl) (fun w1 hw h => ⟨⟨i.a, y, x, i.d, i.e, i.f⟩, rfl, hw, fun w'' k1 k2 => ⟨(h w'' k1 k2).1.1.2.a.mono hK.1, (h w'' k1 k2).2, (h w'' k1 k2).1.2, (h w'' k1 k2).1.1.2.d.mono hK.1, (h w'' k1 k2).1.1.2.e.mono hK.1, (h w'' k1 k2).1.1.2.f.mono hK.1⟩⟩)
def rqe (n : Int) : Int := (IntKind.i64.wrap (n.tmod 4 + 4)).tmod 4
theorem rqe_eq {n : Int} : rqe n = n % 4 := by
  unfold rqe
  have h1 : -4 < n.tmod 4 ∧ n.tmod 4 < 4 := by
    have h1 := Int.tmod_lt_of_pos n (show (0 : Int) < 4 by decide)
    have h2 := Int.tmod_lt_of_pos (-n) (show (0 : Int) < 4 by decide)
    rw [Int.neg_tmod] at h2
    omega
  rw [IntWalk.i64_in _ (by omega), Int.tmod_eq_emod_of_nonneg (by omega), Int.add_emod_right]
  have h2 : n = 4 * n.tdiv 4 + n.tmod 4 := (Int.mul_tdiv_add_tmod n 4).symm
  omega
set_option maxRecDepth 100000 in
set_option maxHeartbeats 1000000 in
theorem rqt_m {n : Int} : Calls Tryz.prog 54 #[.int .i64 n] w (CallPost w TV.val fun v u => IsAN v (qtA (n % 4)) 2 u) := by
  have h1 : 0 ≤ n % 4 ∧ n % 4 < 4 := by omega
  obtain ⟨m, hm⟩ : ∃ m, n % 4 = m := ⟨_, rfl⟩
  rw [hm]
  obtain h | h | h | h : m = 1 ∨ m = 2 ∨ m = 3 ∨ m = 0 := by omega
  · subst h
    refine Good.enter Tryz.func54 rfl ?_
    refine Good.run (by kernel_rfl) (stop := 1000) 1000 _ ?_
    refine Good.condr (rqe n == 1) true (by kernel_rfl) (by rw [rqe_eq, hm]; rfl) ?_
    refine Good.run (by kernel_rfl) (stop := 1000) 1000 _ ?_
    refine Good.callv (fun w1 hw h => rfromInts_A (a := 0) (b := 1) (c := -1) (d := 0) (r := RV0) (s := RV0) (by decide) (by decide) (by decide) (by decide) (isq0 (K := 2)) isq0 (by decide)) (by kernel_rfl) (fun v => ?_)
    refine Good.run (by kernel_rfl) (stop := 1000) 1000 _ ?_
    refine Good.ret (v := TV.val v) (by kernel_rfl) (fun w1 hw h => ⟨v, rfl, hw, fun w'' k1 k2 => (h w'' k1 k2).2.cast rfl⟩)
  · subst h
    refine Good.enter Tryz.func54 rfl ?_
    refine Good.run (by kernel_rfl) (stop := 1000) 1000 _ ?_
    refine Good.condr (rqe n == 1) false (by kernel_rfl) (by rw [rqe_eq, hm]; rfl) ?_
    refine Good.run (by kernel_rfl) (stop := 1000) 1000 _ ?_
    refine Good.condr (rqe n == 2) true (by kernel_rfl) (by rw [rqe_eq, hm]; rfl) ?_
    refine Good.run (by kernel_rfl) (stop := 1000) 1000 _ ?_
    refine Good.callv (fun w1 hw h => rfromInts_A (a := -1) (b := 0) (c := 0) (d := -1) (r := RV0) (s := RV0) (by decide) (by decide) (by decide) (by decide) (isq0 (K := 2)) isq0 (by decide)) (by kernel_rfl) (fun v => ?_)
    refine Good.run (by kernel_rfl) (stop := 1000) 1000 _ ?_
    refine Good.ret (v := TV.val v) (by kernel_rfl) (fun w1 hw h => ⟨v, rfl, hw, fun w'' k1 k2 => (h w'' k1 k2).2.cast rfl⟩)
  · subst h
    refine Good.enter Tryz.func54 rfl ?_
    refine Good.run (by kernel_rfl) (stop := 1000) 1000 _ ?_
    refine Good.condr (rqe n == 1) false (by kernel_rfl) (by rw [rqe_eq, hm]; rfl) ?_
    refine Good.run (by kernel_rfl) (stop := 1000) 1000 _ ?_
    refine Good.condr (rqe n == 2) false (by kernel_rfl) (by rw [rqe_eq, hm]; rfl) ?_
    refine Good.run (by kernel_rfl) (stop := 1000) 1000 _ ?_
    refine Good.condr (rqe n == 3) true (by kernel_rfl) (by rw [rqe_eq, hm]; rfl) ?_
    refine Good.run (by kernel_rfl) (stop := 1000) 1000 _ ?_
    refine Good.callv (fun w1 hw h => rfromInts_A (a := 0) (b := -1) (c := 1) (d := 0) (r := RV0) (s := RV0) (by decide) (by decide) (by decide) (by decide) (isq0 (K := 2)) isq0 (by decide)) (by kernel_rfl) (fun v => ?_)
    refine Good.run (by kernel_rfl) (stop := 1000) 1000 _ ?_
    refine Good.ret (v := TV.val v) (by kernel_rfl) (fun w1 hw h => ⟨v, rfl, hw, fun w'' k1 k2 => (h w'' k1 k2).2.cast rfl⟩)
  · subst h
    refine Good.enter Tryz.func54 rfl ?_
    refine Good.run (by kernel_rfl) (stop := 1000) 1000 _ ?_
    refine Good.condr (rqe n == 1) false (by kernel_rfl) (by rw [rqe_eq, hm]; rfl) ?_
    refine Good.run (by kernel_rfl) (stop := 1000) 1000 _ ?_
    refine Good.condr (rqe n == 2) false (by kernel_rfl) (by rw [rqe_eq, hm]; rfl) ?_
    refine Good.run (by kernel_rfl) (stop := 1000) 1000 _ ?_
    refine Good.condr (rqe n == 3) false (by kernel_rfl) (by rw [rqe_eq, hm]; rfl) ?_
    refine Good.run (by kernel_rfl) (stop := 1000) 1000 _ ?_
    refine Good.callv (fun w1 hw h => ridentity_m) (by kernel_rfl) (fun v => ?_)
    refine Good.run (by kernel_rfl) (stop := 1000) 1000 _ ?_
    refine Good.ret (v := TV.val v) (by kernel_rfl) (fun w1 hw h => ⟨v, rfl, hw, fun w'' k1 k2 => (h w'' k1 k2).2.cast rfl⟩)
set_option maxRecDepth 100000 in
set_option maxHeartbeats 1000000 in
theorem rvalidA_m (ht : IsA t T K w) (hK : 2 ≤ K ∧ K ≤ 10000000) :
    Calls Tryz.prog 12 #[t.val] w (CallPost w (fun _ : Unit => .bool T.ok) fun _ _ => True) := by
  have bad : ∀ n ∈ bitsA T, ((n : Int) > 256) → T.ok = false := fun n hn h => by
    unfold Aff.ok
    rw [List.all_eq_false]
    exact ⟨n, hn, by simp; omega⟩
  refine Good.enter Tryz.func12 rfl ?_
  refine Good.run (by kernel_rfl) (stop := 1000) 1000 _ ?_
  refine Good.callv (fun w1 hw h => coef_m (t := t)) (by kernel_rfl) (fun g => ?_)
  refine Good.run (by kernel_rfl) (stop := 1000) 1000 _ ?_
  refine Good.un (by kernel_rfl) ?_
  refine Good.run (by kernel_rfl) (stop := 1000) 1000 _ ?_
  refine Good.cond true (by kernel_rfl) ?_
  refine Good.run (by kernel_rfl) (stop := 1000) 1000 _ ?_
  refine Good.ask (idxS 53 (litV 6 g) 0) (.pointer (some ⟨g, 0 * 4, none⟩)) (by kernel_rfl) (fun w1 hw h => run_idxN (elem := 26) (by kernel_rfl) (by kernel_rfl) (by decide)) ?_
  refine Good.run (by kernel_rfl) (stop := 1000) 1000 _ ?_
  refine Good.ask (ldS 26 ⟨g, 0 * 4, none⟩) (t.a.val) (by kernel_rfl) (fun w1 hw h => run_ldN (vs := t.a.cl) (by kernel_rfl) (by kernel_rfl) (six_a h.2)) ?_
  refine Good.run (by kernel_rfl) (stop := 1000) 1000 _ ?_
  refine Good.callv (fun w1 hw h => rqbitLen_m (ht.a.below hw) (by omega)) (by kernel_rfl) (fun u => ?_)
  refine Good.run (by kernel_rfl) (stop := 1000) 1000 _ ?_
  refine Good.both (decide (((bitsQ T.a : Nat) : Int) > 256)) (by kernel_rfl) (fun hc => ?_) (fun hc => ?_)
  ·
    refine Good.runC (by kernel_rfl) (stop := 1000) 6000 _ ?_
    refine Good.ret (v := .bool false) (by kernel_rfl) (fun w1 hw h => ⟨(), by rw [bad (bitsQ T.a) (by simp [bitsA]) (of_decide_eq_true hc)], hw, fun _ _ _ => trivial⟩)
  have hba := of_decide_eq_false hc
  clear hc
  refine Good.run (by kernel_rfl) (stop := 1000) 1000 _ ?_
  refine Good.cond true (by kernel_rfl) ?_
  refine Good.run (by kernel_rfl) (stop := 1000) 1000 _ ?_
  refine Good.ask (idxS 53 (litV 6 g) 1) (.pointer (some ⟨g, 1 * 4, none⟩)) (by kernel_rfl) (fun w1 hw h => run_idxN (elem := 26) (by kernel_rfl) (by kernel_rfl) (by decide)) ?_
  refine Good.run (by kernel_rfl) (stop := 1000) 1000 _ ?_
  refine Good.ask (ldS 26 ⟨g, 1 * 4, none⟩) (t.b.val) (by kernel_rfl) (fun w1 hw h => run_ldN (vs := t.b.cl) (by kernel_rfl) (by kernel_rfl) (six_b h.1.2)) ?_
  refine Good.run (by kernel_rfl) (stop := 1000) 1000 _ ?_
  refine Good.callv (fun w1 hw h => rqbitLen_m (ht.b.below hw) (by omega)) (by kernel_rfl) (fun u => ?_)
  refine Good.run (by kernel_rfl) (stop := 1000) 1000 _ ?_
  refine Good.both (decide (((bitsQ T.b : Nat) : Int) > 256)) (by kernel_rfl) (fun hc => ?_) (fun hc => ?_)
  ·
    refine Good.runC (by kernel_rfl) (stop := 1000) 6000 _ ?_
    refine Good.ret (v := .bool false) (by kernel_rfl) (fun w1 hw h => ⟨(), by rw [bad (bitsQ T.b) (by simp [bitsA]) (of_decide_eq_true hc)], hw, fun _ _ _ => trivial⟩)
  have hbb := of_decide_eq_false hc
  clear hc
  refine Good.run (by kernel_rfl) (stop := 1000) 1000 _ ?_
  refine Good.cond true (by kernel_rfl) ?_
  refine Good.run (by kernel_rfl) (stop := 1000) 1000 _ ?_
  refine Good.ask (idxS 53 (litV 6 g) 2) (.pointer (some ⟨g, 2 * 4, none⟩)) (by kernel_rfl) (fun w1 hw h => run_idxN (elem := 26) (by kernel_rfl) (by kernel_rfl) (by decide)) ?_
  refine Good.run (by kernel_rfl) (stop := 1000) 1000 _ ?_
  refine Good.ask (ldS 26 ⟨g, 2 * 4, none⟩) (t.c.val) (by kernel_rfl) (fun w1 hw h => run_ldN (vs := t.c.cl) (by kernel_rfl) (by kernel_rfl) (six_c h.1.1.2)) ?_
  refine Good.run (by kernel_rfl) (stop := 1000) 1000 _ ?_
  refine Good.callv (fun w1 hw h => rqbitLen_m (ht.c.below hw) (by omega)) (by kernel_rfl) (fun u => ?_)
  refine Good.run (by kernel_rfl) (stop := 1000) 1000 _ ?_
  refine Good.both (decide (((bitsQ T.c : Nat) : Int) > 256)) (by kernel_rfl) (fun hc => ?_) (fun hc => ?_)
  ·
    refine Good.runC (by kernel_rfl) (stop := 1000) 6000 _ ?_
    refine Good.ret (v := .bool false) (by kernel_rfl) (fun w1 hw h => ⟨(), by rw [bad (bitsQ T.c) (by simp [bitsA]) (of_decide_eq_true hc)], hw, fun _ _ _ => trivial⟩)
  have hbc := of_decide_eq_false hc
  clear hc
  refine Good.run (by kernel_rfl) (stop := 1000) 1000 _ ?_
  refine Good.cond true (by kernel_rfl) ?_
  refine Good.run (by kernel_rfl) (stop := 1000) 1000 _ ?_
  refine Good.ask (idxS 53 (litV 6 g) 3) (.pointer (some ⟨g, 3 * 4, none⟩)) (by kernel_rfl) (fun w1 hw h => run_idxN (elem := 26) (by kernel_rfl) (by kernel_rfl) (by decide)) ?_
  refine Good.run (by kernel_rfl) (stop := 1000) 1000 _ ?_
  refine Good.ask (ldS 26 ⟨g, 3 * 4, none⟩) (t.d.val) (by kernel_rfl) (fun w1 hw h => run_ldN (vs := t.d.cl) (by kernel_rfl) (by kernel_rfl) (six_d h.1.1.1.2)) ?_
  refine Good.run (by kernel_rfl) (stop := 1000) 1000 _ ?_
  refine Good.callv (fun w1 hw h => rqbitLen_m (ht.d.below hw) (by omega)) (by kernel_rfl) (fun u => ?_)
  refine Good.run (by kernel_rfl) (stop := 1000) 1000 _ ?_
  refine Good.both (decide (((bitsQ T.d : Nat) : Int) > 256)) (by kernel_rfl) (fun hc => ?_) (fun hc => ?_)
  ·
    refine Good.runC (by kernel_rfl) (stop := 1000) 6000 _ ?_
    refine Good.ret (v := .bool false) (by kernel_rfl) (fun w1 hw h => ⟨(), by rw [bad (bitsQ T.d) (by simp [bitsA]) (of_decide_eq_true hc)], hw, fun _ _ _ => trivial⟩)
  have hbd := of_decide_eq_false hc
  clear hc
  refine Good.run (by kernel_rfl) (stop := 1000) 1000 _ ?_
  refine Good.cond true (by kernel_rfl) ?_
  refine Good.run (by kernel_rfl) (stop := 1000) 1000 _ ?_
  refine Good.ask (idxS 53 (litV 6 g) 4) (.pointer (some ⟨g, 4 * 4, none⟩)) (by kernel_rfl) (fun w1 hw h => run_idxN (elem := 26) (by kernel_rfl) (by kernel_rfl) (by decide)) ?_
  refine Good.run (by kernel_rfl) (stop := 1000) 1000 _ ?_
  refine Good.ask (ldS 26 ⟨g, 4 * 4, none⟩) (t.e.val) (by kernel_rfl) (fun w1 hw h => run_ldN (vs := t.e.cl) (by kernel_rfl) (by kernel_rfl) (six_e h.1.1.1.1.2)) ?_
  refine Good.run (by kernel_rfl) (stop := 1000) 1000 _ ?_
  refine Good.callv (fun w1 hw h => rqbitLen_m (ht.e.below hw) (by omega)) (by kernel_rfl) (fun u => ?_)
  refine Good.run (by kernel_rfl) (stop := 1000) 1000 _ ?_
  refine Good.both (decide (((bitsQ T.e : Nat) : Int) > 256)) (by kernel_rfl) (fun hc => ?_) (fun hc => ?_)
  ·
    refine Good.runC (by kernel_rfl) (stop := 1000) 6000 _ ?_
    refine Good.ret (v := .bool false) (by kernel_rfl) (fun w1 hw h => ⟨(), by rw [bad (bitsQ T.e) (by simp [bitsA]) (of_decide_eq_true hc)], hw, fun _ _ _ => trivial⟩)
  have hbe := of_decide_eq_false hc
  clear hc
  refine Good.run (by kernel_rfl) (stop := 1000) 1000 _ ?_
  refine Good.cond true (by kernel_rfl) ?_
  refine Good.run (by kernel_rfl) (stop := 1000) 1000 _ ?_
  refine Good.ask (idxS 53 (litV 6 g) 5) (.pointer (some ⟨g, 5 * 4, none⟩)) (by kernel_rfl) (fun w1 hw h => run_idxN (elem := 26) (by kernel_rfl) (by kernel_rfl) (by decide)) ?_
  refine Good.run (by kernel_rfl) (stop := 1000) 1000 _ ?_
  refine Good.ask (ldS 26 ⟨g, 5 * 4, none⟩) (t.f.val) (by kernel_rfl) (fun w1 hw h => run_ldN (vs := t.f.cl) (by kernel_rfl) (by kernel_rfl) (six_f h.1.1.1.1.1.2)) ?_
  refine Good.run (by kernel_rfl) (stop := 1000) 1000 _ ?_
  refine Good.callv (fun w1 hw h => rqbitLen_m (ht.f.below hw) (by omega)) (by kernel_rfl) (fun u => ?_)
  refine Good.run (by kernel_rfl) (stop := 1000) 1000 _ ?_
  refine Good.both (decide (((bitsQ T.f : Nat) : Int) > 256)) (by kernel_rfl) (fun hc => ?_) (fun hc => ?_)
  ·
    refine Good.runC (by kernel_rfl) (stop := 1000) 6000 _ ?_
    refine Good.ret (v := .bool false) (by kernel_rfl) (fun w1 hw h => ⟨(), by rw [bad (bitsQ T.f) (by simp [bitsA]) (of_decide_eq_true hc)], hw, fun _ _ _ => trivial⟩)
  have hbf := of_decide_eq_false hc
  clear hc
  refine Good.run (by kernel_rfl) (stop := 1000) 1000 _ ?_
  refine Good.cond false (by kernel_rfl) ?_
  refine Good.run (by kernel_rfl) (stop := 1000) 1000 _ ?_
  have hall : T.ok = true := by unfold Aff.ok bitsA; simp only [List.all_cons, List.all_nil, Bool.and_true, Bool.and_eq_true, decide_eq_true_eq]; exact ⟨by omega, by omega, by omega, by omega, by omega, by omega⟩
  refine Good.ret (v := .bool true) (by kernel_rfl) (fun w1 hw h => ⟨(), by rw [hall], hw, fun _ _ _ => trivial⟩)
theorem rvalidA_v {B : Bool} (hB : T.ok = B) (ht : IsA t T K w) (hK : 2 ≤ K ∧ K ≤ 10000000) : Calls Tryz.prog 12 #[t.val] w (CallPost w (fun _ : Unit => .bool B) fun _ _ => True) := by subst hB; exact rvalidA_m ht hK
def smallT (t : TV) : Bool := decide (t.a.a.n ≤ 20) && (decide (t.a.b.n ≤ 20) && (decide (t.b.a.n ≤ 20) && (decide (t.b.b.n ≤ 20) && (decide (t.c.a.n ≤ 20) && (decide (t.c.b.n ≤ 20) && (decide (t.d.a.n ≤ 20) && (decide (t.d.b.n ≤ 20) && (decide (t.e.a.n ≤ 20) && (decide (t.e.b.n ≤ 20) && (decide (t.f.a.n ≤ 20) && decide (t.f.b.n ≤ 20)))))))))))
def gtI (n : Nat) : Bool := decide ((n : Int) > 20)
theorem gtI_t {n : Nat} (h : decide ((n : Int) > 20) = true) : decide (n ≤ 20) = false := decide_eq_false (by have := of_decide_eq_true h; omega)
theorem gtI_f {n : Nat} (h : decide ((n : Int) > 20) = false) : decide (n ≤ 20) = true := decide_eq_true (by have := of_decide_eq_false h; omega)
set_option maxRecDepth 100000 in
set_option maxHeartbeats 4000000 in
theorem smallA_m : Calls Tryz.prog 8 #[t.val] w (CallPost w (fun _ : Unit => .bool (smallT t)) fun _ _ => True) := by
  refine Good.enter Tryz.func8 rfl ?_
  refine Good.run (by kernel_rfl) (stop := 12) 1000 _ ?_
  refine Good.make (litS 53 6 #[(0, t.a.val), (1, t.b.val), (2, t.c.val), (3, t.d.val), (4, t.e.val), (5, t.f.val)]) (litV 6) (litG 26 t.cl.toArray) (by kernel_rfl) (fun w1 hw h => make_lit (by kernel_rfl)) (fun g => ?_)
  refine Good.run (by kernel_rfl) (stop := 1000) 1000 _ ?_
  have hg : ∀ v : World, litG 26 t.cl.toArray g v → BoxAt v g t.cl := fun v h => ⟨_, h⟩
  have hcell : ∀ {v : World} {k j : Nat} {cs : List Value} {x : Value}, v.rangeAt g k cs → cs[j]? = some x → v.cell? ⟨g, k + j, none⟩ = some x := fun h1 h2 => h1 _ _ h2
  refine Good.un (by kernel_rfl) ?_
  refine Good.run (by kernel_rfl) (stop := 1000) 1000 _ ?_
  refine Good.cond true (by kernel_rfl) ?_
  refine Good.run (by kernel_rfl) (stop := 1000) 1000 _ ?_
  refine Good.ask (idxS 53 (litV 6 g) 0) (.pointer (some ⟨g, 0 * 4, none⟩)) (by kernel_rfl) (fun w1 hw h => run_idxN (elem := 26) (by kernel_rfl) (by kernel_rfl) (by decide)) ?_
  refine Good.run (by kernel_rfl) (stop := 1000) 1000 _ ?_
  refine Good.ask (ldS 22 ⟨g, 1, none⟩) (.slice t.a.a.A t.a.a.n t.a.a.c) (by kernel_rfl) (fun w1 hw h => run_ldS (by kernel_rfl) (hcell (k := 0 * 4) (j := 1) (six_a (hg _ h.2)) rfl)) ?_
  refine Good.run (by kernel_rfl) (stop := 9) 1000 _ ?_
  refine Good.fork 31 (decide ((t.a.a.n : Int) > 20)) (by kernel_rfl) (fun hc => ?_) (fun hc => ?_)
  ·
    refine Good.runC (by kernel_rfl) (stop := 1000) 6000 _ ?_
    refine Good.ret (v := .bool false) (by kernel_rfl) (fun w1 hw h => ⟨(), by unfold smallT; rw [gtI_t hc]; simp, hw, fun _ _ _ => trivial⟩)
  have haa := gtI_f hc
  clear hc
  refine Good.run (by kernel_rfl) (stop := 1000) 1000 _ ?_
  refine Good.ask (idxS 53 (litV 6 g) 0) (.pointer (some ⟨g, 0 * 4, none⟩)) (by kernel_rfl) (fun w1 hw h => run_idxN (elem := 26) (by kernel_rfl) (by kernel_rfl) (by decide)) ?_
  refine Good.run (by kernel_rfl) (stop := 1000) 1000 _ ?_
  refine Good.ask (ldS 22 ⟨g, 3, none⟩) (.slice t.a.b.A t.a.b.n t.a.b.c) (by kernel_rfl) (fun w1 hw h => run_ldS (by kernel_rfl) (hcell (k := 0 * 4) (j := 3) (six_a (hg _ h.2)) rfl)) ?_
  refine Good.run (by kernel_rfl) (stop := 1000) 1000 _ ?_
  refine Good.both (decide ((t.a.b.n : Int) > 20)) (by kernel_rfl) (fun hc => ?_) (fun hc => ?_)
  ·
    refine Good.runC (by kernel_rfl) (stop := 1000) 6000 _ ?_
    refine Good.ret (v := .bool false) (by kernel_rfl) (fun w1 hw h => ⟨(), by unfold smallT; rw [gtI_t hc]; simp, hw, fun _ _ _ => trivial⟩)
  have hba := gtI_f hc
  clear hc
  refine Good.run (by kernel_rfl) (stop := 1000) 1000 _ ?_
  refine Good.cond true (by kernel_rfl) ?_
  refine Good.run (by kernel_rfl) (stop := 1000) 1000 _ ?_
  refine Good.ask (idxS 53 (litV 6 g) 1) (.pointer (some ⟨g, 1 * 4, none⟩)) (by kernel_rfl) (fun w1 hw h => run_idxN (elem := 26) (by kernel_rfl) (by kernel_rfl) (by decide)) ?_
  refine Good.run (by kernel_rfl) (stop := 1000) 1000 _ ?_
  refine Good.ask (ldS 22 ⟨g, 5, none⟩) (.slice t.b.a.A t.b.a.n t.b.a.c) (by kernel_rfl) (fun w1 hw h => run_ldS (by kernel_rfl) (hcell (k := 1 * 4) (j := 1) (six_b (hg _ h.2)) rfl)) ?_
  refine Good.run (by kernel_rfl) (stop := 9) 1000 _ ?_
  refine Good.fork 31 (decide ((t.b.a.n : Int) > 20)) (by kernel_rfl) (fun hc => ?_) (fun hc => ?_)
  ·
    refine Good.runC (by kernel_rfl) (stop := 1000) 6000 _ ?_
    refine Good.ret (v := .bool false) (by kernel_rfl) (fun w1 hw h => ⟨(), by unfold smallT; rw [gtI_t hc]; simp, hw, fun _ _ _ => trivial⟩)
  have hab := gtI_f hc
  clear hc
  refine Good.run (by kernel_rfl) (stop := 1000) 1000 _ ?_
  refine Good.ask (idxS 53 (litV 6 g) 1) (.pointer (some ⟨g, 1 * 4, none⟩)) (by kernel_rfl) (fun w1 hw h => run_idxN (elem := 26) (by kernel_rfl) (by kernel_rfl) (by decide)) ?_
  refine Good.run (by kernel_rfl) (stop := 1000) 1000 _ ?_
  refine Good.ask (ldS 22 ⟨g, 7, none⟩) (.slice t.b.b.A t.b.b.n t.b.b.c) (by kernel_rfl) (fun w1 hw h => run_ldS (by kernel_rfl) (hcell (k := 1 * 4) (j := 3) (six_b (hg _ h.2)) rfl)) ?_
  refine Good.run (by kernel_rfl) (stop := 1000) 1000 _ ?_
  refine Good.both (decide ((t.b.b.n : Int) > 20)) (by kernel_rfl) (fun hc => ?_) (fun hc => ?_)
  ·
    refine Good.runC (by kernel_rfl) (stop := 1000) 6000 _ ?_
    refine Good.ret (v := .bool false) (by kernel_rfl) (fun w1 hw h => ⟨(), by unfold smallT; rw [gtI_t hc]; simp, hw, fun _ _ _ => trivial⟩)
  have hbb := gtI_f hc
  clear hc
  refine Good.run (by kernel_rfl) (stop := 1000) 1000 _ ?_
  refine Good.cond true (by kernel_rfl) ?_
  refine Good.run (by kernel_rfl) (stop := 1000) 1000 _ ?_
  refine Good.ask (idxS 53 (litV 6 g) 2) (.pointer (some ⟨g, 2 * 4, none⟩)) (by kernel_rfl) (fun w1 hw h => run_idxN (elem := 26) (by kernel_rfl) (by kernel_rfl) (by decide)) ?_
  refine Good.run (by kernel_rfl) (stop := 1000) 1000 _ ?_
  refine Good.ask (ldS 22 ⟨g, 9, none⟩) (.slice t.c.a.A t.c.a.n t.c.a.c) (by kernel_rfl) (fun w1 hw h => run_ldS (by kernel_rfl) (hcell (k := 2 * 4) (j := 1) (six_c (hg _ h.2)) rfl)) ?_
  refine Good.run (by kernel_rfl) (stop := 9) 1000 _ ?_
  refine Good.fork 31 (decide ((t.c.a.n : Int) > 20)) (by kernel_rfl) (fun hc => ?_) (fun hc => ?_)
  ·
    refine Good.runC (by kernel_rfl) (stop := 1000) 6000 _ ?_
    refine Good.ret (v := .bool false) (by kernel_rfl) (fun w1 hw h => ⟨(), by unfold smallT; rw [gtI_t hc]; simp, hw, fun _ _ _ => trivial⟩)
  have hac := gtI_f hc
  clear hc
  refine Good.run (by kernel_rfl) (stop := 1000) 1000 _ ?_
  refine Good.ask (idxS 53 (litV 6 g) 2) (.pointer (some ⟨g, 2 * 4, none⟩)) (by kernel_rfl) (fun w1 hw h => run_idxN (elem := 26) (by kernel_rfl) (by kernel_rfl) (by decide)) ?_
  refine Good.run (by kernel_rfl) (stop := 1000) 1000 _ ?_
  refine Good.ask (ldS 22 ⟨g, 11, none⟩) (.slice t.c.b.A t.c.b.n t.c.b.c) (by kernel_rfl) (fun w1 hw h => run_ldS (by kernel_rfl) (hcell (k := 2 * 4) (j := 3) (six_c (hg _ h.2)) rfl)) ?_
  refine Good.run (by kernel_rfl) (stop := 1000) 1000 _ ?_
  refine Good.both (decide ((t.c.b.n : Int) > 20)) (by kernel_rfl) (fun hc => ?_) (fun hc => ?_)
  ·
    refine Good.runC (by kernel_rfl) (stop := 1000) 6000 _ ?_
    refine Good.ret (v := .bool false) (by kernel_rfl) (fun w1 hw h => ⟨(), by unfold smallT; rw [gtI_t hc]; simp, hw, fun _ _ _ => trivial⟩)
  have hbc := gtI_f hc
  clear hc
  refine Good.run (by kernel_rfl) (stop := 1000) 1000 _ ?_
  refine Good.cond true (by kernel_rfl) ?_
  refine Good.run (by kernel_rfl) (stop := 1000) 1000 _ ?_
  refine Good.ask (idxS 53 (litV 6 g) 3) (.pointer (some ⟨g, 3 * 4, none⟩)) (by kernel_rfl) (fun w1 hw h => run_idxN (elem := 26) (by kernel_rfl) (by kernel_rfl) (by decide)) ?_
  refine Good.run (by kernel_rfl) (stop := 1000) 1000 _ ?_
  refine Good.ask (ldS 22 ⟨g, 13, none⟩) (.slice t.d.a.A t.d.a.n t.d.a.c) (by kernel_rfl) (fun w1 hw h => run_ldS (by kernel_rfl) (hcell (k := 3 * 4) (j := 1) (six_d (hg _ h.2)) rfl)) ?_
  refine Good.run (by kernel_rfl) (stop := 9) 1000 _ ?_
  refine Good.fork 31 (decide ((t.d.a.n : Int) > 20)) (by kernel_rfl) (fun hc => ?_) (fun hc => ?_)
  ·
    refine Good.runC (by kernel_rfl) (stop := 1000) 6000 _ ?_
    refine Good.ret (v := .bool false) (by kernel_rfl) (fun w1 hw h => ⟨(), by unfold smallT; rw [gtI_t hc]; simp, hw, fun _ _ _ => trivial⟩)
  have had := gtI_f hc
  clear hc
  refine Good.run (by kernel_rfl) (stop := 1000) 1000 _ ?_
  refine Good.ask (idxS 53 (litV 6 g) 3) (.pointer (some ⟨g, 3 * 4, none⟩)) (by kernel_rfl) (fun w1 hw h => run_idxN (elem := 26) (by kernel_rfl) (by kernel_rfl) (by decide)) ?_
  refine Good.run (by kernel_rfl) (stop := 1000) 1000 _ ?_
  refine Good.ask (ldS 22 ⟨g, 15, none⟩) (.slice t.d.b.A t.d.b.n t.d.b.c) (by kernel_rfl) (fun w1 hw h => run_ldS (by kernel_rfl) (hcell (k := 3 * 4) (j := 3) (six_d (hg _ h.2)) rfl)) ?_
  refine Good.run (by kernel_rfl) (stop := 1000) 1000 _ ?_
  refine Good.both (decide ((t.d.b.n : Int) > 20)) (by kernel_rfl) (fun hc => ?_) (fun hc => ?_)
  ·
    refine Good.runC (by kernel_rfl) (stop := 1000) 6000 _ ?_
    refine Good.ret (v := .bool false) (by kernel_rfl) (fun w1 hw h => ⟨(), by unfold smallT; rw [gtI_t hc]; simp, hw, fun _ _ _ => trivial⟩)
  have hbd := gtI_f hc
  clear hc
  refine Good.run (by kernel_rfl) (stop := 1000) 1000 _ ?_
  refine Good.cond true (by kernel_rfl) ?_
  refine Good.run (by kernel_rfl) (stop := 1000) 1000 _ ?_
  refine Good.ask (idxS 53 (litV 6 g) 4) (.pointer (some ⟨g, 4 * 4, none⟩)) (by kernel_rfl) (fun w1 hw h => run_idxN (elem := 26) (by kernel_rfl) (by kernel_rfl) (by decide)) ?_
  refine Good.run (by kernel_rfl) (stop := 1000) 1000 _ ?_
  refine Good.ask (ldS 22 ⟨g, 17, none⟩) (.slice t.e.a.A t.e.a.n t.e.a.c) (by kernel_rfl) (fun w1 hw h => run_ldS (by kernel_rfl) (hcell (k := 4 * 4) (j := 1) (six_e (hg _ h.2)) rfl)) ?_
  refine Good.run (by kernel_rfl) (stop := 9) 1000 _ ?_
  refine Good.fork 31 (decide ((t.e.a.n : Int) > 20)) (by kernel_rfl) (fun hc => ?_) (fun hc => ?_)
  ·
    refine Good.runC (by kernel_rfl) (stop := 1000) 6000 _ ?_
    refine Good.ret (v := .bool false) (by kernel_rfl) (fun w1 hw h => ⟨(), by unfold smallT; rw [gtI_t hc]; simp, hw, fun _ _ _ => trivial⟩)
  have hae := gtI_f hc
  clear hc
  refine Good.run (by kernel_rfl) (stop := 1000) 1000 _ ?_
  refine Good.ask (idxS 53 (litV 6 g) 4) (.pointer (some ⟨g, 4 * 4, none⟩)) (by kernel_rfl) (fun w1 hw h => run_idxN (elem := 26) (by kernel_rfl) (by kernel_rfl) (by decide)) ?_
  refine Good.run (by kernel_rfl) (stop := 1000) 1000 _ ?_
  refine Good.ask (ldS 22 ⟨g, 19, none⟩) (.slice t.e.b.A t.e.b.n t.e.b.c) (by kernel_rfl) (fun w1 hw h => run_ldS (by kernel_rfl) (hcell (k := 4 * 4) (j := 3) (six_e (hg _ h.2)) rfl)) ?_
  refine Good.run (by kernel_rfl) (stop := 1000) 1000 _ ?_
  refine Good.both (decide ((t.e.b.n : Int) > 20)) (by kernel_rfl) (fun hc => ?_) (fun hc => ?_)
  ·
    refine Good.runC (by kernel_rfl) (stop := 1000) 6000 _ ?_
    refine Good.ret (v := .bool false) (by kernel_rfl) (fun w1 hw h => ⟨(), by unfold smallT; rw [gtI_t hc]; simp, hw, fun _ _ _ => trivial⟩)
  have hbe := gtI_f hc
  clear hc
  refine Good.run (by kernel_rfl) (stop := 1000) 1000 _ ?_
  refine Good.cond true (by kernel_rfl) ?_
  refine Good.run (by kernel_rfl) (stop := 1000) 1000 _ ?_
  refine Good.ask (idxS 53 (litV 6 g) 5) (.pointer (some ⟨g, 5 * 4, none⟩)) (by kernel_rfl) (fun w1 hw h => run_idxN (elem := 26) (by kernel_rfl) (by kernel_rfl) (by decide)) ?_
  refine Good.run (by kernel_rfl) (stop := 1000) 1000 _ ?_
  refine Good.ask (ldS 22 ⟨g, 21, none⟩) (.slice t.f.a.A t.f.a.n t.f.a.c) (by kernel_rfl) (fun w1 hw h => run_ldS (by kernel_rfl) (hcell (k := 5 * 4) (j := 1) (six_f (hg _ h.2)) rfl)) ?_
  refine Good.run (by kernel_rfl) (stop := 9) 1000 _ ?_
  refine Good.fork 31 (decide ((t.f.a.n : Int) > 20)) (by kernel_rfl) (fun hc => ?_) (fun hc => ?_)
  ·
    refine Good.runC (by kernel_rfl) (stop := 1000) 6000 _ ?_
    refine Good.ret (v := .bool false) (by kernel_rfl) (fun w1 hw h => ⟨(), by unfold smallT; rw [gtI_t hc]; simp, hw, fun _ _ _ => trivial⟩)
  have haf := gtI_f hc
  clear hc
  refine Good.run (by kernel_rfl) (stop := 1000) 1000 _ ?_
  refine Good.ask (idxS 53 (litV 6 g) 5) (.pointer (some ⟨g, 5 * 4, none⟩)) (by kernel_rfl) (fun w1 hw h => run_idxN (elem := 26) (by kernel_rfl) (by kernel_rfl) (by decide)) ?_
  refine Good.run (by kernel_rfl) (stop := 1000) 1000 _ ?_
  refine Good.ask (ldS 22 ⟨g, 23, none⟩) (.slice t.f.b.A t.f.b.n t.f.b.c) (by kernel_rfl) (fun w1 hw h => run_ldS (by kernel_rfl) (hcell (k := 5 * 4) (j := 3) (six_f (hg _ h.2)) rfl)) ?_
  refine Good.run (by kernel_rfl) (stop := 1000) 1000 _ ?_
  refine Good.both (decide ((t.f.b.n : Int) > 20)) (by kernel_rfl) (fun hc => ?_) (fun hc => ?_)
  ·
    refine Good.runC (by kernel_rfl) (stop := 1000) 6000 _ ?_
    refine Good.ret (v := .bool false) (by kernel_rfl) (fun w1 hw h => ⟨(), by unfold smallT; rw [gtI_t hc]; simp, hw, fun _ _ _ => trivial⟩)
  have hbf := gtI_f hc
  clear hc
  refine Good.run (by kernel_rfl) (stop := 1000) 1000 _ ?_
  refine Good.cond false (by kernel_rfl) ?_
  refine Good.run (by kernel_rfl) (stop := 1000) 1000 _ ?_
  refine Good.ret (v := .bool true) (by kernel_rfl) (fun w1 hw h => ⟨(), by unfold smallT; rw [haa, hba, hab, hbb, hac, hbc, had, hbd, hae, hbe, haf, hbf]; rfl, hw, fun _ _ _ => trivial⟩)
theorem smallA_v {B : Bool} (hB : smallT t = B) : Calls Tryz.prog 8 #[t.val] w (CallPost w (fun _ : Unit => .bool B) fun _ _ => True) := by subst hB; exact smallA_m
end

theorem aff_ext {T U : Aff} (h1 : T.a = U.a) (h2 : T.b = U.b) (h3 : T.c = U.c) (h4 : T.d = U.d) (h5 : T.e = U.e) (h6 : T.f = U.f) : T = U := by
  cases T; cases U
  simp only at h1 h2 h3 h4 h5 h6
  subst h1; subst h2; subst h3; subst h4; subst h5; subst h6
  rfl
theorem q0 : ((0 : Int) : Rat) = 0 := rfl
theorem q1 : ((1 : Int) : Rat) = 1 := rfl
theorem id_comp (T : Aff) : affId.comp T = T := by
  refine aff_ext ?_ ?_ ?_ ?_ ?_ ?_ <;> simp only [Aff.comp, affId, affI, Aff.app, q0, q1] <;> grind
theorem comp_id (T : Aff) : T.comp affId = T := by
  refine aff_ext ?_ ?_ ?_ ?_ ?_ ?_ <;> simp only [Aff.comp, affId, affI, Aff.app, q0, q1] <;> grind
theorem comp_assoc (A B C : Aff) : (A.comp B).comp C = A.comp (B.comp C) := by
  refine aff_ext ?_ ?_ ?_ ?_ ?_ ?_ <;> simp only [Aff.comp, Aff.app] <;> grind
theorem app_comp (A B : Aff) (x y : Rat) : (A.comp B).app x y = B.app (A.app x y).1 (A.app x y).2 := by
  simp only [Aff.comp, Aff.app, Prod.mk.injEq]
  constructor <;> grind
theorem det_comp (A B : Aff) : (A.comp B).det = A.det * B.det := by
  simp only [Aff.comp, Aff.det]
  grind
theorem compE_or (Ts : List Aff) : compE Ts = 0 ∨ compE Ts = 5 := by unfold compE; split <;> simp
theorem compE_zero {Ts : List Aff} (h : compE Ts = 0) : Ts.all Aff.ok = true ∧ preOk affId Ts = true := by
  unfold compE at h
  split at h
  · rename_i h1; exact (Bool.and_eq_true_iff).1 h1
  · cases h
theorem compE_of {Ts : List Aff} (h1 : Ts.all Aff.ok = true) (h2 : preOk affId Ts = true) : compE Ts = 0 := by unfold compE; rw [h1, h2]; rfl
theorem compE2 {A B : Aff} : compE [A, B] = 0 ↔ A.ok = true ∧ B.ok = true ∧ (A.comp B).ok = true := by
  constructor
  · intro h
    obtain ⟨h1, h2⟩ := compE_zero h
    simp only [List.all_cons, List.all_nil, Bool.and_true, Bool.and_eq_true] at h1
    simp only [preOk, Bool.and_true, Bool.and_eq_true, id_comp] at h2
    exact ⟨h1.1, h1.2, h2.2⟩
  · rintro ⟨h1, h2, h3⟩
    exact compE_of (by simp [h1, h2]) (by simp [preOk, id_comp, h1, h3])
theorem compF2 {A B : Aff} : compF [A, B] = A.comp B := by simp [compF, id_comp]
theorem compE3 {A B C : Aff} : compE [A, B, C] = 0 ↔ A.ok = true ∧ B.ok = true ∧ C.ok = true ∧ (A.comp B).ok = true ∧ ((A.comp B).comp C).ok = true := by
  constructor
  · intro h
    obtain ⟨h1, h2⟩ := compE_zero h
    simp only [List.all_cons, List.all_nil, Bool.and_true, Bool.and_eq_true] at h1
    simp only [preOk, Bool.and_true, Bool.and_eq_true, id_comp] at h2
    exact ⟨h1.1, h1.2.1, h1.2.2, h2.2.1, h2.2.2⟩
  · rintro ⟨h1, h2, h3, h4, h5⟩
    exact compE_of (by simp [h1, h2, h3]) (by simp [preOk, id_comp, h1, h4, h5])
theorem compF3 {A B C : Aff} : compF [A, B, C] = (A.comp B).comp C := by simp [compF, id_comp]

/-- Three points. -/
structure Tri where
  x0 : Int
  y0 : Int
  x1 : Int
  y1 : Int
  x2 : Int
  y2 : Int
@[reducible] def Tri.val (p : Tri) : Value := .agg #[.int .i64 p.x0, .int .i64 p.y0, .int .i64 p.x1, .int .i64 p.y1, .int .i64 p.x2, .int .i64 p.y2]
def Tri.ok (p : Tri) : Bool := validP p.x0 p.y0 && (validP p.x1 p.y1 && validP p.x2 p.y2)
def frameT (p : Tri) : Aff := ⟨((p.x1 - p.x0 : Int) : Rat), ((p.y1 - p.y0 : Int) : Rat), ((p.x2 - p.x0 : Int) : Rat), ((p.y2 - p.y0 : Int) : Rat), (p.x0 : Rat), (p.y0 : Rat)⟩
def triE (a b : Tri) : Int := if (a.ok && b.ok) = false then 6 else if invE (frameT a) ≠ 0 then invE (frameT a) else compE [(frameT a).inv, frameT b]
def triF (a b : Tri) : Aff := compF [(frameT a).inv, frameT b]
theorem tri_bd {X Y : Int} (h : validP X Y = true) : (-1048576 ≤ X ∧ X ≤ 1048576) ∧ (-1048576 ≤ Y ∧ Y ≤ 1048576) := by unfold validP at h; simpa using h
theorem Tri.bd {p : Tri} (h : p.ok = true) : ((-1048576 ≤ p.x0 ∧ p.x0 ≤ 1048576) ∧ (-1048576 ≤ p.y0 ∧ p.y0 ≤ 1048576)) ∧ ((-1048576 ≤ p.x1 ∧ p.x1 ≤ 1048576) ∧ (-1048576 ≤ p.y1 ∧ p.y1 ≤ 1048576)) ∧ ((-1048576 ≤ p.x2 ∧ p.x2 ≤ 1048576) ∧ (-1048576 ≤ p.y2 ∧ p.y2 ≤ 1048576)) := by
  unfold Tri.ok at h
  simp only [Bool.and_eq_true] at h
  exact ⟨tri_bd h.1, tri_bd h.2.1, tri_bd h.2.2⟩
theorem IsAN.list2 {w : World} {t u : TV} {T U : Aff} {K : Nat} (h1 : IsA t T K w) (h2 : IsA u U K w) : ∀ (k : Nat) (s : TV) (S : Aff), [t, u][k]? = some s → [T, U][k]? = some S → IsA s S K w := by
  intro k s S hk hS
  match k, hk, hS with
  | 0, hk, hS => obtain rfl : t = s := by simpa using hk
                 obtain rfl : T = S := by simpa using hS
                 exact h1
  | 1, hk, hS => obtain rfl : u = s := by simpa using hk
                 obtain rfl : U = S := by simpa using hS
                 exact h2
theorem row_two {w : World} {g : Nat} {ty : TypeId} {t u : TV} {T U : Aff} {K : Nat} (h : litG ty ([t, u].flatMap TV.cl).toArray g w) (h1 : IsA t T K w) (h2 : IsA u U K w) : RowT w (some ⟨g, 0, none⟩) 2 [t, u] [T, U] K :=
  rowT_box ⟨_, h⟩ rfl rfl (IsAN.list2 h1 h2)
section
variable {w : World} {t u : TV} {T U : Aff} {K K1 K2 : Nat} {r s : RV} {p q : Rat} {X Y : Int} {a b : Tri}
set_option maxRecDepth 100000 in
set_option maxHeartbeats 2000000 in
theorem frame_m (hp : a.ok = true) : Calls Tryz.prog 68 #[a.val] w (CallPost w TV.val fun v u => IsAN v (frameT a) 2 u) := by
  have hb := Tri.bd hp
  have e1 : IntKind.i64.wrap (a.x1 - a.x0) = a.x1 - a.x0 := IntWalk.i64_in _ (by omega)
  have e2 : IntKind.i64.wrap (a.y1 - a.y0) = a.y1 - a.y0 := IntWalk.i64_in _ (by omega)
  have e3 : IntKind.i64.wrap (a.x2 - a.x0) = a.x2 - a.x0 := IntWalk.i64_in _ (by omega)
  have e4 : IntKind.i64.wrap (a.y2 - a.y0) = a.y2 - a.y0 := IntWalk.i64_in _ (by omega)
  refine Good.enter Tryz.func68 rfl ?_
  refine Good.run (by kernel_rfl) (stop := 1000) 1000 _ ?_
  refine Good.callv (fun w1 hw h => qfromInt_m (IntKind.i64.wrap (a.x1 - a.x0)) w1 (by omega) (by omega)) (by kernel_rfl) (fun m => ?_)
  refine Good.run (by kernel_rfl) (stop := 1000) 1000 _ ?_
  refine Good.callv (fun w1 hw h => qfromInt_m (IntKind.i64.wrap (a.y1 - a.y0)) w1 (by omega) (by omega)) (by kernel_rfl) (fun n => ?_)
  refine Good.run (by kernel_rfl) (stop := 1000) 1000 _ ?_
  refine Good.callv (fun w1 hw h => qfromInt_m (IntKind.i64.wrap (a.x2 - a.x0)) w1 (by omega) (by omega)) (by kernel_rfl) (fun k => ?_)
  refine Good.run (by kernel_rfl) (stop := 1000) 1000 _ ?_
  refine Good.callv (fun w1 hw h => qfromInt_m (IntKind.i64.wrap (a.y2 - a.y0)) w1 (by omega) (by omega)) (by kernel_rfl) (fun l => ?_)
  refine Good.run (by kernel_rfl) (stop := 1000) 1000 _ ?_
  refine Good.callv (fun w1 hw h => qfromInt_m a.x0 w1 (by omega) (by omega)) (by kernel_rfl) (fun x => ?_)
  refine Good.run (by kernel_rfl) (stop := 1000) 1000 _ ?_
  refine Good.callv (fun w1 hw h => qfromInt_m a.y0 w1 (by omega) (by omega)) (by kernel_rfl) (fun y => ?_)
  refine Good.run (by kernel_rfl) (stop := 1000) 1000 _ ?_
  refine Good.ret (v := TV.val ⟨m, n, k, l, x, y⟩) (by kernel_rfl) (fun w1 hw h => ⟨⟨m, n, k, l, x, y⟩, rfl, hw, fun w'' k1 k2 => ⟨(h w'' k1 k2).1.1.1.1.1.2.cast (by rw [e1]; rfl), (h w'' k1 k2).1.1.1.1.2.cast (by rw [e2]; rfl), (h w'' k1 k2).1.1.1.2.cast (by rw [e3]; rfl), (h w'' k1 k2).1.1.2.cast (by rw [e4]; rfl), (h w'' k1 k2).1.2, (h w'' k1 k2).2⟩⟩)
theorem invE_or (T : Aff) : invE T = 0 ∨ invE T = 5 ∨ invE T = 9 := by unfold invE; repeat' split
                                                                       all_goals simp
set_option maxRecDepth 100000 in
set_option maxHeartbeats 2000000 in
theorem fromTri_m : Calls Tryz.prog 28 #[a.val, b.val] w (CallPost w (fun r : TV => .tuple #[r.val, .int .i64 (triE a b)]) fun r u => OutA r (triE a b) (triF a b) 8 u) := by
  have bad : (a.ok && b.ok) = false → triE a b = 6 := fun h => by unfold triE; rw [if_pos h]
  refine Good.enter Tryz.func28 rfl ?_
  refine Good.run (by kernel_rfl) (stop := 1000) 1000 _ ?_
  refine Good.un (by kernel_rfl) ?_
  refine Good.run (by kernel_rfl) (stop := 1000) 1000 _ ?_
  refine Good.cond true (by kernel_rfl) ?_
  refine Good.run (by kernel_rfl) (stop := 1000) 1000 _ ?_
  cases ha0 : validP a.x0 a.y0
  ·
    refine Good.callv (fun w1 hw h => valid_v ha0) (by kernel_rfl) (fun u => ?_)
    refine Good.run (by kernel_rfl) (stop := 1000) 1000 _ ?_
    refine Good.runC (by kernel_rfl) (stop := 1000) 6000 _ ?_
    refine Good.ret (v := .tuple #[TV0.val, .int .i64 6]) (by kernel_rfl) (fun w1 hw h => ⟨TV0, by rw [bad (by unfold Tri.ok; rw [ha0]; simp)], hw, fun w'' k1 k2 => outA0 (by rw [bad (by unfold Tri.ok; rw [ha0]; simp)]; decide)⟩)
  refine Good.callv (fun w1 hw h => valid_v ha0) (by kernel_rfl) (fun u => ?_)
  refine Good.run (by kernel_rfl) (stop := 1000) 1000 _ ?_
  cases hb0 : validP b.x0 b.y0
  ·
    refine Good.callv (fun w1 hw h => valid_v hb0) (by kernel_rfl) (fun u => ?_)
    refine Good.run (by kernel_rfl) (stop := 1000) 1000 _ ?_
    refine Good.runC (by kernel_rfl) (stop := 1000) 6000 _ ?_
    refine Good.ret (v := .tuple #[TV0.val, .int .i64 6]) (by kernel_rfl) (fun w1 hw h => ⟨TV0, by rw [bad (by unfold Tri.ok; rw [hb0]; simp)], hw, fun w'' k1 k2 => outA0 (by rw [bad (by unfold Tri.ok; rw [hb0]; simp)]; decide)⟩)
  refine Good.callv (fun w1 hw h => valid_v hb0) (by kernel_rfl) (fun u => ?_)
  refine Good.run (by kernel_rfl) (stop := 1000) 1000 _ ?_
  refine Good.cond false (by kernel_rfl) ?_
  refine Good.run (by kernel_rfl) (stop := 1000) 1000 _ ?_
  refine Good.cond true (by kernel_rfl) ?_
  refine Good.run (by kernel_rfl) (stop := 1000) 1000 _ ?_
  cases ha1 : validP a.x1 a.y1
  ·
    refine Good.callv (fun w1 hw h => valid_v ha1) (by kernel_rfl) (fun u => ?_)
    refine Good.run (by kernel_rfl) (stop := 1000) 1000 _ ?_
    refine Good.runC (by kernel_rfl) (stop := 1000) 6000 _ ?_
    refine Good.ret (v := .tuple #[TV0.val, .int .i64 6]) (by kernel_rfl) (fun w1 hw h => ⟨TV0, by rw [bad (by unfold Tri.ok; rw [ha1]; simp)], hw, fun w'' k1 k2 => outA0 (by rw [bad (by unfold Tri.ok; rw [ha1]; simp)]; decide)⟩)
  refine Good.callv (fun w1 hw h => valid_v ha1) (by kernel_rfl) (fun u => ?_)
  refine Good.run (by kernel_rfl) (stop := 1000) 1000 _ ?_
  cases hb1 : validP b.x1 b.y1
  ·
    refine Good.callv (fun w1 hw h => valid_v hb1) (by kernel_rfl) (fun u => ?_)
    refine Good.run (by kernel_rfl) (stop := 1000) 1000 _ ?_
    refine Good.runC (by kernel_rfl) (stop := 1000) 6000 _ ?_
    refine Good.ret (v := .tuple #[TV0.val, .int .i64 6]) (by kernel_rfl) (fun w1 hw h => ⟨TV0, by rw [bad (by unfold Tri.ok; rw [hb1]; simp)], hw, fun w'' k1 k2 => outA0 (by rw [bad (by unfold Tri.ok; rw [hb1]; simp)]; decide)⟩)
  refine Good.callv (fun w1 hw h => valid_v hb1) (by kernel_rfl) (fun u => ?_)
  refine Good.run (by kernel_rfl) (stop := 1000) 1000 _ ?_
  refine Good.cond false (by kernel_rfl) ?_
  refine Good.run (by kernel_rfl) (stop := 1000) 1000 _ ?_
  refine Good.cond true (by kernel_rfl) ?_
  refine Good.run (by kernel_rfl) (stop := 1000) 1000 _ ?_
  cases ha2 : validP a.x2 a.y2
  ·
    refine Good.callv (fun w1 hw h => valid_v ha2) (by kernel_rfl) (fun u => ?_)
    refine Good.run (by kernel_rfl) (stop := 1000) 1000 _ ?_
    refine Good.runC (by kernel_rfl) (stop := 1000) 6000 _ ?_
    refine Good.ret (v := .tuple #[TV0.val, .int .i64 6]) (by kernel_rfl) (fun w1 hw h => ⟨TV0, by rw [bad (by unfold Tri.ok; rw [ha2]; simp)], hw, fun w'' k1 k2 => outA0 (by rw [bad (by unfold Tri.ok; rw [ha2]; simp)]; decide)⟩)
  refine Good.callv (fun w1 hw h => valid_v ha2) (by kernel_rfl) (fun u => ?_)
  refine Good.run (by kernel_rfl) (stop := 1000) 1000 _ ?_
  cases hb2 : validP b.x2 b.y2
  ·
    refine Good.callv (fun w1 hw h => valid_v hb2) (by kernel_rfl) (fun u => ?_)
    refine Good.run (by kernel_rfl) (stop := 1000) 1000 _ ?_
    refine Good.runC (by kernel_rfl) (stop := 1000) 6000 _ ?_
    refine Good.ret (v := .tuple #[TV0.val, .int .i64 6]) (by kernel_rfl) (fun w1 hw h => ⟨TV0, by rw [bad (by unfold Tri.ok; rw [hb2]; simp)], hw, fun w'' k1 k2 => outA0 (by rw [bad (by unfold Tri.ok; rw [hb2]; simp)]; decide)⟩)
  refine Good.callv (fun w1 hw h => valid_v hb2) (by kernel_rfl) (fun u => ?_)
  refine Good.run (by kernel_rfl) (stop := 1000) 1000 _ ?_
  refine Good.cond false (by kernel_rfl) ?_
  refine Good.run (by kernel_rfl) (stop := 1000) 1000 _ ?_
  refine Good.cond false (by kernel_rfl) ?_
  refine Good.run (by kernel_rfl) (stop := 1000) 1000 _ ?_
  have hoa : a.ok = true := by unfold Tri.ok; rw [ha0, ha1, ha2]; rfl
  have hob : b.ok = true := by unfold Tri.ok; rw [hb0, hb1, hb2]; rfl
  refine Good.callv (fun w1 hw h => frame_m hoa) (by kernel_rfl) (fun f => ?_)
  refine Good.run (by kernel_rfl) (stop := 1000) 1000 _ ?_
  refine Good.callv (fun w1 hw h => invert_m h.2.q (by decide)) (by kernel_rfl) (fun v => ?_)
  refine Good.run (by kernel_rfl) (stop := 1000) 1000 _ ?_
  by_cases hE : invE (frameT a) = 0
  case neg =>
    refine Good.condr (invE (frameT a) != 0) true (by kernel_rfl) (by simpa using hE) ?_
    refine Good.run (by kernel_rfl) (stop := 1000) 1000 _ ?_
    have he : triE a b = invE (frameT a) := by unfold triE; rw [if_neg (by rw [hoa, hob]; simp), if_pos hE]
    refine Good.ret (v := .tuple #[TV0.val, .int .i64 (invE (frameT a))]) (by kernel_rfl) (fun w1 hw h => ⟨TV0, by rw [he], hw, fun w'' k1 k2 => outA0 (by rw [he]; exact hE)⟩)
  have he : triE a b = compE [(frameT a).inv, frameT b] := by unfold triE; rw [if_neg (by rw [hoa, hob]; simp), if_neg (by simp [hE])]
  refine Good.condr (invE (frameT a) != 0) false (by kernel_rfl) (by simp [hE]) ?_
  refine Good.run (by kernel_rfl) (stop := 1000) 1000 _ ?_
  refine Good.callv (fun w1 hw h => frame_m hob) (by kernel_rfl) (fun g => ?_)
  refine Good.run (by kernel_rfl) (stop := 3) 1000 _ ?_
  refine Good.make (litS 35 2 #[(0, v.val), (1, g.val)]) (litV 2) (litG 28 ([v, g].flatMap TV.cl).toArray) (by kernel_rfl) (fun w1 hw h => make_lit (by kernel_rfl)) (fun l => ?_)
  refine Good.run (by kernel_rfl) (stop := 1000) 1000 _ ?_
  refine Good.callv (fun w1 hw h => compose_m (c := 2) (row_two h.2 (h.1.1.2.n hE).q (h.1.2.q.mono (by decide))) (by decide) (by decide)) (by kernel_rfl) (fun z => ?_)
  refine Good.run (by kernel_rfl) (stop := 1000) 1000 _ ?_
  refine Good.ret (v := .tuple #[z.val, .int .i64 (compE [(frameT a).inv, frameT b])]) (by kernel_rfl) (fun w1 hw h => ⟨z, by rw [he], hw, fun w'' k1 k2 => by rw [he]; exact (h w'' k1 k2).2⟩)

def partsA (T : Aff) : List Aff := if T.a = 0 then [qtA 1, affId, { affId with a := -T.c, d := T.b }, { affId with c := ((0 : Int) : Rat), b := T.d / T.c }, { affId with e := T.e, f := T.f }]
  else [affId, { affId with c := T.c / T.a, b := ((0 : Int) : Rat) }, { affId with a := T.a, d := T.det / T.a }, { affId with c := ((0 : Int) : Rat), b := T.b / T.a }, { affId with e := T.e, f := T.f }]
theorem partsA_len : (partsA T).length = 5 := by unfold partsA; split <;> rfl
theorem five_q {t0 t1 t2 t3 t4 : TV} {T0 T1 T2 T3 T4 : Aff} (h0 : IsA t0 T0 K w) (h1 : IsA t1 T1 K w) (h2 : IsA t2 T2 K w) (h3 : IsA t3 T3 K w) (h4 : IsA t4 T4 K w) :
    ∀ (k : Nat) (s : TV) (S : Aff), [t0, t1, t2, t3, t4][k]? = some s → [T0, T1, T2, T3, T4][k]? = some S → IsA s S K w := by
  intro k s S hk hS
  match k, hk, hS with
  | 0, hk, hS => obtain rfl : t0 = s := by simpa using hk
                 obtain rfl : T0 = S := by simpa using hS
                 exact h0
  | 1, hk, hS => obtain rfl : t1 = s := by simpa using hk
                 obtain rfl : T1 = S := by simpa using hS
                 exact h1
  | 2, hk, hS => obtain rfl : t2 = s := by simpa using hk
                 obtain rfl : T2 = S := by simpa using hS
                 exact h2
  | 3, hk, hS => obtain rfl : t3 = s := by simpa using hk
                 obtain rfl : T3 = S := by simpa using hS
                 exact h3
  | 4, hk, hS => obtain rfl : t4 = s := by simpa using hk
                 obtain rfl : T4 = S := by simpa using hS
                 exact h4
/-- Five transforms in new memory, normalized. -/
structure FiveN (q : Nat × (TV × TV × TV × TV × TV)) (Ts : List Aff) (K : Nat) (u : World) : Prop where
  box : BoxAt u q.1 ([q.2.1, q.2.2.1, q.2.2.2.1, q.2.2.2.2.1, q.2.2.2.2.2].flatMap TV.cl)
  n0 : ∃ T, Ts[0]? = some T ∧ IsAN q.2.1 T K u
  n1 : ∃ T, Ts[1]? = some T ∧ IsAN q.2.2.1 T K u
  n2 : ∃ T, Ts[2]? = some T ∧ IsAN q.2.2.2.1 T K u
  n3 : ∃ T, Ts[3]? = some T ∧ IsAN q.2.2.2.2.1 T K u
  n4 : ∃ T, Ts[4]? = some T ∧ IsAN q.2.2.2.2.2 T K u
theorem det_c (h : T.a = 0) (hd : T.det ≠ 0) : T.c ≠ 0 := fun e => hd (by unfold Aff.det; rw [h, e]; grind)
set_option maxRecDepth 100000 in
set_option maxHeartbeats 4000000 in
theorem parts_m (ht : IsA t T K w) (hd : T.det ≠ 0) (hK : 2 ≤ K ∧ K ≤ 10000) : Calls Tryz.prog 51 #[t.val] w (CallPost w (fun q : Nat × (TV × TV × TV × TV × TV) => litV 5 q.1) fun q u => FiveN q (partsA T) (8 * K + 2) u) := by
  refine Good.enter Tryz.func51 rfl ?_
  refine Good.run (by kernel_rfl) (stop := 1000) 1000 _ ?_
  refine Good.callv (fun w1 hw h => qfromInt_m 0 w1 (by decide) (by decide)) (by kernel_rfl) (fun z => ?_)
  refine Good.run (by kernel_rfl) (stop := 1000) 1000 _ ?_
  refine Good.callv (fun w1 hw h => translate_m (ht.e.below hw) (ht.f.below hw) (by omega)) (by kernel_rfl) (fun m => ?_)
  refine Good.run (by kernel_rfl) (stop := 1000) 1000 _ ?_
  refine Good.callv (fun w1 hw h => qcmp_m (ht.a.below hw) h.1.2.q (by omega)) (by kernel_rfl) (fun u => ?_)
  refine Good.run (by kernel_rfl) (stop := 1000) 1000 _ ?_
  cases hA : decide (T.a = 0)
  case true =>
    have hp : partsA T = [qtA 1, affId, { affId with a := -T.c, d := T.b }, { affId with c := ((0 : Int) : Rat), b := T.d / T.c }, { affId with e := T.e, f := T.f }] := by unfold partsA; rw [if_pos (of_decide_eq_true hA)]
    have hc0 := det_c (of_decide_eq_true hA) hd
    refine Good.condr (cmpQ T.a ((0 : Int) : Rat) == 0) true (by kernel_rfl) (cmpQ0 hA) ?_
    refine Good.run (by kernel_rfl) (stop := 1000) 1000 _ ?_
    refine Good.callv (fun w1 hw h => qt_m (n := 1)) (by kernel_rfl) (fun a => ?_)
    refine Good.run (by kernel_rfl) (stop := 1000) 1000 _ ?_
    refine Good.callv (fun w1 hw h => identity_m) (by kernel_rfl) (fun b => ?_)
    refine Good.run (by kernel_rfl) (stop := 1000) 1000 _ ?_
    refine Good.callv (fun w1 hw h => qneg_m (ht.c.below hw) (by omega)) (by kernel_rfl) (fun n => ?_)
    refine Good.run (by kernel_rfl) (stop := 1000) 1000 _ ?_
    refine Good.callv (fun w1 hw h => scale_m h.2.q (ht.b.below hw) (by omega)) (by kernel_rfl) (fun c => ?_)
    refine Good.run (by kernel_rfl) (stop := 1000) 1000 _ ?_
    refine Good.callv (fun w1 hw h => quoA_m (ht.d.below hw) (ht.c.below hw) hc0 (by omega)) (by kernel_rfl) (fun x => ?_)
    refine Good.run (by kernel_rfl) (stop := 1000) 1000 _ ?_
    refine Good.callv (fun w1 hw h => skew_m (K := K + K) (h.1.1.1.1.1.1.1.2.q.mono (by omega)) h.2.q (by omega)) (by kernel_rfl) (fun d => ?_)
    refine Good.run (by kernel_rfl) (stop := 16) 1000 _ ?_
    refine Good.make (litS 35 5 #[(0, a.val), (1, b.val), (2, c.val), (3, d.val), (4, m.val)]) (litV 5) (litG 28 ([a, b, c, d, m].flatMap TV.cl).toArray) (by kernel_rfl) (fun w1 hw h => make_lit (by kernel_rfl)) (fun g => ?_)
    refine Good.run (by kernel_rfl) (stop := 1000) 1000 _ ?_
    refine Good.ret (v := litV 5 g) (by kernel_rfl) (fun w1 hw h => ⟨(g, a, b, c, d, m), rfl, hw, fun w'' k1 k2 => by rw [hp]; exact ⟨⟨_, (h w'' k1 k2).2⟩, ⟨_, rfl, (h w'' k1 k2).1.1.1.1.1.1.2.mono (by omega)⟩, ⟨_, rfl, (h w'' k1 k2).1.1.1.1.1.2.mono (by omega)⟩, ⟨_, rfl, (h w'' k1 k2).1.1.1.2.mono (by omega)⟩, ⟨_, rfl, (h w'' k1 k2).1.2.mono (by omega)⟩, ⟨_, rfl, (h w'' k1 k2).1.1.1.1.1.1.1.1.2.mono (by omega)⟩⟩⟩)
  case false =>
    have hp : partsA T = [affId, { affId with c := T.c / T.a, b := ((0 : Int) : Rat) }, { affId with a := T.a, d := T.det / T.a }, { affId with c := ((0 : Int) : Rat), b := T.b / T.a }, { affId with e := T.e, f := T.f }] := by unfold partsA; rw [if_neg (of_decide_eq_false hA)]
    have ha0 : T.a ≠ 0 := of_decide_eq_false hA
    refine Good.condr (cmpQ T.a ((0 : Int) : Rat) == 0) false (by kernel_rfl) (cmpQ0 hA) ?_
    refine Good.run (by kernel_rfl) (stop := 1000) 1000 _ ?_
    refine Good.callv (fun w1 hw h => identity_m) (by kernel_rfl) (fun a => ?_)
    refine Good.run (by kernel_rfl) (stop := 1000) 1000 _ ?_
    refine Good.callv (fun w1 hw h => quoA_m (ht.c.below hw) (ht.a.below hw) ha0 (by omega)) (by kernel_rfl) (fun x => ?_)
    refine Good.run (by kernel_rfl) (stop := 1000) 1000 _ ?_
    refine Good.callv (fun w1 hw h => skew_m (K := K + K) h.2.q (h.1.1.1.1.2.q.mono (by omega)) (by omega)) (by kernel_rfl) (fun b => ?_)
    refine Good.run (by kernel_rfl) (stop := 1000) 1000 _ ?_
    refine Good.callv (fun w1 hw h => detA_m (ht.below hw) (by omega)) (by kernel_rfl) (fun n => ?_)
    refine Good.run (by kernel_rfl) (stop := 1000) 1000 _ ?_
    refine Good.callv (fun w1 hw h => quoA_m h.2.q ((ht.a.below hw).mono (by omega)) ha0 (by omega)) (by kernel_rfl) (fun y => ?_)
    refine Good.run (by kernel_rfl) (stop := 1000) 1000 _ ?_
    refine Good.callv (fun w1 hw h => scale_m ((ht.a.below hw).mono (by omega)) h.2.q (by omega)) (by kernel_rfl) (fun c => ?_)
    refine Good.run (by kernel_rfl) (stop := 1000) 1000 _ ?_
    refine Good.callv (fun w1 hw h => quoA_m (ht.b.below hw) (ht.a.below hw) ha0 (by omega)) (by kernel_rfl) (fun l => ?_)
    refine Good.run (by kernel_rfl) (stop := 1000) 1000 _ ?_
    refine Good.callv (fun w1 hw h => skew_m (K := K + K) (h.1.1.1.1.1.1.1.1.1.2.q.mono (by omega)) h.2.q (by omega)) (by kernel_rfl) (fun d => ?_)
    refine Good.run (by kernel_rfl) (stop := 24) 1000 _ ?_
    refine Good.make (litS 35 5 #[(0, a.val), (1, b.val), (2, c.val), (3, d.val), (4, m.val)]) (litV 5) (litG 28 ([a, b, c, d, m].flatMap TV.cl).toArray) (by kernel_rfl) (fun w1 hw h => make_lit (by kernel_rfl)) (fun g => ?_)
    refine Good.run (by kernel_rfl) (stop := 1000) 1000 _ ?_
    refine Good.ret (v := litV 5 g) (by kernel_rfl) (fun w1 hw h => ⟨(g, a, b, c, d, m), rfl, hw, fun w'' k1 k2 => by rw [hp]; exact ⟨⟨_, (h w'' k1 k2).2⟩, ⟨_, rfl, (h w'' k1 k2).1.1.1.1.1.1.1.1.2.mono (by omega)⟩, ⟨_, rfl, (h w'' k1 k2).1.1.1.1.1.1.2.mono (by omega)⟩, ⟨_, rfl, (h w'' k1 k2).1.1.1.2.mono (by omega)⟩, ⟨_, rfl, (h w'' k1 k2).1.2.mono (by omega)⟩, ⟨_, rfl, (h w'' k1 k2).1.1.1.1.1.1.1.1.1.1.2.mono (by omega)⟩⟩⟩)
def decE (T : Aff) : Int := if T.ok = false then 5 else if T.det = 0 then 9 else if (partsA T).all Aff.ok = false then 5 else 0
def decV (T : Aff) (g : Nat) : Value := if decE T = 0 then litV 5 g else .slice none 0 0
theorem flat5 {g : Nat} {t0 t1 t2 t3 t4 s : TV} {k : Nat} (h : BoxAt w g ([t0, t1, t2, t3, t4].flatMap TV.cl)) (hk : [t0, t1, t2, t3, t4][k]? = some s) : w.rangeAt g (k * 24) s.cl := by
  obtain ⟨ty, h⟩ := h
  intro j v hv
  simp only [World.cell?, h, Option.isSome_none, Bool.false_eq_true, if_false]
  rw [List.getElem?_toArray]
  exact flat_at TV.cl (m := 24) (fun _ => rfl) _ k j s v hk hv
theorem notall {Ts : List Aff} {k : Nat} {S : Aff} (h : Ts[k]? = some S) (hS : S.ok = false) : Ts.all Aff.ok = false := by
  rw [List.all_eq_false]
  exact ⟨S, List.mem_of_getElem? h, by rw [hS]; simp⟩
set_option maxRecDepth 100000 in
set_option maxHeartbeats 4000000 in
theorem decompose_m (ht : IsA t T K w) (hK : 2 ≤ K ∧ K ≤ 10000) : Calls Tryz.prog 22 #[t.val] w (CallPost w (fun q : Nat × (TV × TV × TV × TV × TV) => .tuple #[decV T q.1, .int .i64 (decE T)]) fun q u => decE T = 0 → FiveN q (partsA T) (8 * K + 2) u) := by
  have out : ∀ e, decE T = e → e ≠ 0 → ∀ g, (Value.tuple #[decV T g, .int .i64 (decE T)]) = .tuple #[.slice none 0 0, .int .i64 e] := fun e he h0 g => by unfold decV; rw [he, if_neg h0]
  refine Good.enter Tryz.func22 rfl ?_
  refine Good.run (by kernel_rfl) (stop := 1000) 1000 _ ?_
  cases hB : T.ok
  ·
    refine Good.callv (fun w1 hw h => validA_v hB (ht.below hw) (by omega)) (by kernel_rfl) (fun u => ?_)
    refine Good.run (by kernel_rfl) (stop := 1000) 1000 _ ?_
    refine Good.runC (by kernel_rfl) (stop := 1000) 6000 _ ?_
    have he : decE T = 5 := by unfold decE; rw [if_pos hB]
    refine Good.ret (v := .tuple #[.slice none 0 0, .int .i64 5]) (by kernel_rfl) (fun w1 hw h => ⟨(0, t, t, t, t, t), congrArg Ending.returned (out 5 he (by decide) 0).symm, hw, fun w'' k1 k2 e => by rw [he] at e; cases e⟩)
  refine Good.callv (fun w1 hw h => validA_v hB (ht.below hw) (by omega)) (by kernel_rfl) (fun u => ?_)
  refine Good.run (by kernel_rfl) (stop := 1000) 1000 _ ?_
  refine Good.cond false (by kernel_rfl) ?_
  refine Good.run (by kernel_rfl) (stop := 1000) 1000 _ ?_
  refine Good.callv (fun w1 hw h => detA_m (ht.below hw) (by omega)) (by kernel_rfl) (fun d => ?_)
  refine Good.run (by kernel_rfl) (stop := 1000) 1000 _ ?_
  refine Good.callv (fun w1 hw h => qfromInt_m 0 w1 (by decide) (by decide)) (by kernel_rfl) (fun z => ?_)
  refine Good.run (by kernel_rfl) (stop := 1000) 1000 _ ?_
  refine Good.callv (fun w1 hw h => qcmp_m h.1.2.q h.2.q (by omega)) (by kernel_rfl) (fun u => ?_)
  refine Good.run (by kernel_rfl) (stop := 1000) 1000 _ ?_
  cases hD : decide (T.det = 0)
  case true =>
    refine Good.condr (cmpQ T.det ((0 : Int) : Rat) == 0) true (by kernel_rfl) (cmpQ0 hD) ?_
    refine Good.run (by kernel_rfl) (stop := 1000) 1000 _ ?_
    have he : decE T = 9 := by unfold decE; rw [if_neg (by rw [hB]; simp), if_pos (of_decide_eq_true hD)]
    refine Good.ret (v := .tuple #[.slice none 0 0, .int .i64 9]) (by kernel_rfl) (fun w1 hw h => ⟨(0, t, t, t, t, t), congrArg Ending.returned (out 9 he (by decide) 0).symm, hw, fun w'' k1 k2 e => by rw [he] at e; cases e⟩)
  have hd0 : T.det ≠ 0 := of_decide_eq_false hD
  refine Good.condr (cmpQ T.det ((0 : Int) : Rat) == 0) false (by kernel_rfl) (cmpQ0 hD) ?_
  refine Good.run (by kernel_rfl) (stop := 1000) 1000 _ ?_
  have bad : (partsA T).all Aff.ok = false → decE T = 5 := fun h => by unfold decE; rw [if_neg (by rw [hB]; simp), if_neg hd0, if_pos h]
  refine Good.callv (fun w1 hw h => parts_m (ht.below hw) hd0 (by omega)) (by kernel_rfl) (fun l => ?_)
  refine Good.run (by kernel_rfl) (stop := 1000) 1000 _ ?_
  obtain ⟨T0, hT0⟩ : ∃ S, (partsA T)[0]? = some S := ⟨_, List.getElem?_eq_getElem (by rw [partsA_len]; decide)⟩
  obtain ⟨T1, hT1⟩ : ∃ S, (partsA T)[1]? = some S := ⟨_, List.getElem?_eq_getElem (by rw [partsA_len]; decide)⟩
  obtain ⟨T2, hT2⟩ : ∃ S, (partsA T)[2]? = some S := ⟨_, List.getElem?_eq_getElem (by rw [partsA_len]; decide)⟩
  obtain ⟨T3, hT3⟩ : ∃ S, (partsA T)[3]? = some S := ⟨_, List.getElem?_eq_getElem (by rw [partsA_len]; decide)⟩
  obtain ⟨T4, hT4⟩ : ∃ S, (partsA T)[4]? = some S := ⟨_, List.getElem?_eq_getElem (by rw [partsA_len]; decide)⟩
  refine Good.un (by kernel_rfl) ?_
  refine Good.run (by kernel_rfl) (stop := 1000) 1000 _ ?_
  refine Good.drop 6 (by kernel_rfl) (fun _ => ?_)
  refine Good.cond true (by kernel_rfl) ?_
  refine Good.run (by kernel_rfl) (stop := 1000) 1000 _ ?_
  refine Good.ask (idxS 35 (litV 5 l.1) 0) (.pointer (some ⟨l.1, 0 * 24, none⟩)) (by kernel_rfl) (fun w1 hw h => run_idxN (elem := 28) (by kernel_rfl) (by kernel_rfl) (by decide)) ?_
  refine Good.run (by kernel_rfl) (stop := 1000) 1000 _ ?_
  refine Good.ask (ldS 28 ⟨l.1, 0 * 24, none⟩) (l.2.1.val) (by kernel_rfl) (fun w1 hw h => run_ldN (vs := l.2.1.cl) (by kernel_rfl) (by kernel_rfl) (flat5 h.2.box rfl)) ?_
  refine Good.run (by kernel_rfl) (stop := 1000) 1000 _ ?_
  cases hB0 : T0.ok
  ·
    refine Good.callv (fun w1 hw h => validA_v (K := 8 * K + 2) hB0 (by obtain ⟨S, hS, hn⟩ := h.2.n0; rw [hT0] at hS; injection hS with hS; rw [hS]; exact hn.q) (by omega)) (by kernel_rfl) (fun u => ?_)
    refine Good.run (by kernel_rfl) (stop := 1000) 1000 _ ?_
    refine Good.runC (by kernel_rfl) (stop := 1000) 6000 _ ?_
    have he := bad (notall hT0 hB0)
    refine Good.ret (v := .tuple #[.slice none 0 0, .int .i64 5]) (by kernel_rfl) (fun w1 hw h => ⟨l, congrArg Ending.returned (out 5 he (by decide) l.1).symm, hw, fun w'' k1 k2 e => by rw [he] at e; cases e⟩)
  refine Good.callv (fun w1 hw h => validA_v (K := 8 * K + 2) hB0 (by obtain ⟨S, hS, hn⟩ := h.2.n0; rw [hT0] at hS; injection hS with hS; rw [hS]; exact hn.q) (by omega)) (by kernel_rfl) (fun u => ?_)
  refine Good.run (by kernel_rfl) (stop := 1000) 1000 _ ?_
  refine Good.cond false (by kernel_rfl) ?_
  refine Good.run (by kernel_rfl) (stop := 1000) 1000 _ ?_
  refine Good.drop 6 (by kernel_rfl) (fun _ => ?_)
  refine Good.cond true (by kernel_rfl) ?_
  refine Good.run (by kernel_rfl) (stop := 1000) 1000 _ ?_
  refine Good.ask (idxS 35 (litV 5 l.1) 1) (.pointer (some ⟨l.1, 1 * 24, none⟩)) (by kernel_rfl) (fun w1 hw h => run_idxN (elem := 28) (by kernel_rfl) (by kernel_rfl) (by decide)) ?_
  refine Good.run (by kernel_rfl) (stop := 1000) 1000 _ ?_
  refine Good.ask (ldS 28 ⟨l.1, 1 * 24, none⟩) (l.2.2.1.val) (by kernel_rfl) (fun w1 hw h => run_ldN (vs := l.2.2.1.cl) (by kernel_rfl) (by kernel_rfl) (flat5 h.1.2.box rfl)) ?_
  refine Good.run (by kernel_rfl) (stop := 1000) 1000 _ ?_
  cases hB1 : T1.ok
  ·
    refine Good.callv (fun w1 hw h => validA_v (K := 8 * K + 2) hB1 (by obtain ⟨S, hS, hn⟩ := h.1.2.n1; rw [hT1] at hS; injection hS with hS; rw [hS]; exact hn.q) (by omega)) (by kernel_rfl) (fun u => ?_)
    refine Good.run (by kernel_rfl) (stop := 1000) 1000 _ ?_
    refine Good.runC (by kernel_rfl) (stop := 1000) 6000 _ ?_
    have he := bad (notall hT1 hB1)
    refine Good.ret (v := .tuple #[.slice none 0 0, .int .i64 5]) (by kernel_rfl) (fun w1 hw h => ⟨l, congrArg Ending.returned (out 5 he (by decide) l.1).symm, hw, fun w'' k1 k2 e => by rw [he] at e; cases e⟩)
  refine Good.callv (fun w1 hw h => validA_v (K := 8 * K + 2) hB1 (by obtain ⟨S, hS, hn⟩ := h.1.2.n1; rw [hT1] at hS; injection hS with hS; rw [hS]; exact hn.q) (by omega)) (by kernel_rfl) (fun u => ?_)
  refine Good.run (by kernel_rfl) (stop := 1000) 1000 _ ?_
  refine Good.cond false (by kernel_rfl) ?_
  refine Good.run (by kernel_rfl) (stop := 1000) 1000 _ ?_
  refine Good.drop 6 (by kernel_rfl) (fun _ => ?_)
  refine Good.cond true (by kernel_rfl) ?_
  refine Good.run (by kernel_rfl) (stop := 1000) 1000 _ ?_
  refine Good.ask (idxS 35 (litV 5 l.1) 2) (.pointer (some ⟨l.1, 2 * 24, none⟩)) (by kernel_rfl) (fun w1 hw h => run_idxN (elem := 28) (by kernel_rfl) (by kernel_rfl) (by decide)) ?_
  refine Good.run (by kernel_rfl) (stop := 1000) 1000 _ ?_
  refine Good.ask (ldS 28 ⟨l.1, 2 * 24, none⟩) (l.2.2.2.1.val) (by kernel_rfl) (fun w1 hw h => run_ldN (vs := l.2.2.2.1.cl) (by kernel_rfl) (by kernel_rfl) (flat5 h.1.1.2.box rfl)) ?_
  refine Good.run (by kernel_rfl) (stop := 1000) 1000 _ ?_
  cases hB2 : T2.ok
  ·
    refine Good.callv (fun w1 hw h => validA_v (K := 8 * K + 2) hB2 (by obtain ⟨S, hS, hn⟩ := h.1.1.2.n2; rw [hT2] at hS; injection hS with hS; rw [hS]; exact hn.q) (by omega)) (by kernel_rfl) (fun u => ?_)
    refine Good.run (by kernel_rfl) (stop := 1000) 1000 _ ?_
    refine Good.runC (by kernel_rfl) (stop := 1000) 6000 _ ?_
    have he := bad (notall hT2 hB2)
    refine Good.ret (v := .tuple #[.slice none 0 0, .int .i64 5]) (by kernel_rfl) (fun w1 hw h => ⟨l, congrArg Ending.returned (out 5 he (by decide) l.1).symm, hw, fun w'' k1 k2 e => by rw [he] at e; cases e⟩)
  refine Good.callv (fun w1 hw h => validA_v (K := 8 * K + 2) hB2 (by obtain ⟨S, hS, hn⟩ := h.1.1.2.n2; rw [hT2] at hS; injection hS with hS; rw [hS]; exact hn.q) (by omega)) (by kernel_rfl) (fun u => ?_)
  refine Good.run (by kernel_rfl) (stop := 1000) 1000 _ ?_
  refine Good.cond false (by kernel_rfl) ?_
  refine Good.run (by kernel_rfl) (stop := 1000) 1000 _ ?_
  refine Good.drop 6 (by kernel_rfl) (fun _ => ?_)
  refine Good.cond true (by kernel_rfl) ?_
  refine Good.run (by kernel_rfl) (stop := 1000) 1000 _ ?_
  refine Good.ask (idxS 35 (litV 5 l.1) 3) (.pointer (some ⟨l.1, 3 * 24, none⟩)) (by kernel_rfl) (fun w1 hw h => run_idxN (elem := 28) (by kernel_rfl) (by kernel_rfl) (by decide)) ?_
  refine Good.run (by kernel_rfl) (stop := 1000) 1000 _ ?_
  refine Good.ask (ldS 28 ⟨l.1, 3 * 24, none⟩) (l.2.2.2.2.1.val) (by kernel_rfl) (fun w1 hw h => run_ldN (vs := l.2.2.2.2.1.cl) (by kernel_rfl) (by kernel_rfl) (flat5 h.1.1.1.2.box rfl)) ?_
  refine Good.run (by kernel_rfl) (stop := 1000) 1000 _ ?_
  cases hB3 : T3.ok
  ·
    refine Good.callv (fun w1 hw h => validA_v (K := 8 * K + 2) hB3 (by obtain ⟨S, hS, hn⟩ := h.1.1.1.2.n3; rw [hT3] at hS; injection hS with hS; rw [hS]; exact hn.q) (by omega)) (by kernel_rfl) (fun u => ?_)
    refine Good.run (by kernel_rfl) (stop := 1000) 1000 _ ?_
    refine Good.runC (by kernel_rfl) (stop := 1000) 6000 _ ?_
    have he := bad (notall hT3 hB3)
    refine Good.ret (v := .tuple #[.slice none 0 0, .int .i64 5]) (by kernel_rfl) (fun w1 hw h => ⟨l, congrArg Ending.returned (out 5 he (by decide) l.1).symm, hw, fun w'' k1 k2 e => by rw [he] at e; cases e⟩)
  refine Good.callv (fun w1 hw h => validA_v (K := 8 * K + 2) hB3 (by obtain ⟨S, hS, hn⟩ := h.1.1.1.2.n3; rw [hT3] at hS; injection hS with hS; rw [hS]; exact hn.q) (by omega)) (by kernel_rfl) (fun u => ?_)
  refine Good.run (by kernel_rfl) (stop := 1000) 1000 _ ?_
  refine Good.cond false (by kernel_rfl) ?_
  refine Good.run (by kernel_rfl) (stop := 1000) 1000 _ ?_
  refine Good.drop 6 (by kernel_rfl) (fun _ => ?_)
  refine Good.cond true (by kernel_rfl) ?_
  refine Good.run (by kernel_rfl) (stop := 1000) 1000 _ ?_
  refine Good.ask (idxS 35 (litV 5 l.1) 4) (.pointer (some ⟨l.1, 4 * 24, none⟩)) (by kernel_rfl) (fun w1 hw h => run_idxN (elem := 28) (by kernel_rfl) (by kernel_rfl) (by decide)) ?_
  refine Good.run (by kernel_rfl) (stop := 1000) 1000 _ ?_
  refine Good.ask (ldS 28 ⟨l.1, 4 * 24, none⟩) (l.2.2.2.2.2.val) (by kernel_rfl) (fun w1 hw h => run_ldN (vs := l.2.2.2.2.2.cl) (by kernel_rfl) (by kernel_rfl) (flat5 h.1.1.1.1.2.box rfl)) ?_
  refine Good.run (by kernel_rfl) (stop := 1000) 1000 _ ?_
  cases hB4 : T4.ok
  ·
    refine Good.callv (fun w1 hw h => validA_v (K := 8 * K + 2) hB4 (by obtain ⟨S, hS, hn⟩ := h.1.1.1.1.2.n4; rw [hT4] at hS; injection hS with hS; rw [hS]; exact hn.q) (by omega)) (by kernel_rfl) (fun u => ?_)
    refine Good.run (by kernel_rfl) (stop := 1000) 1000 _ ?_
    refine Good.runC (by kernel_rfl) (stop := 1000) 6000 _ ?_
    have he := bad (notall hT4 hB4)
    refine Good.ret (v := .tuple #[.slice none 0 0, .int .i64 5]) (by kernel_rfl) (fun w1 hw h => ⟨l, congrArg Ending.returned (out 5 he (by decide) l.1).symm, hw, fun w'' k1 k2 e => by rw [he] at e; cases e⟩)
  refine Good.callv (fun w1 hw h => validA_v (K := 8 * K + 2) hB4 (by obtain ⟨S, hS, hn⟩ := h.1.1.1.1.2.n4; rw [hT4] at hS; injection hS with hS; rw [hS]; exact hn.q) (by omega)) (by kernel_rfl) (fun u => ?_)
  refine Good.run (by kernel_rfl) (stop := 1000) 1000 _ ?_
  refine Good.cond false (by kernel_rfl) ?_
  refine Good.run (by kernel_rfl) (stop := 1000) 1000 _ ?_
  refine Good.cond false (by kernel_rfl) ?_
  refine Good.run (by kernel_rfl) (stop := 1000) 1000 _ ?_
  have hall : (partsA T).all Aff.ok = true := by
    have h5 := partsA_len (T := T)
    match hm : partsA T, h5 with
    | [a, b, c, d, e], _ =>
      rw [hm] at hT0 hT1 hT2 hT3 hT4
      simp only [List.getElem?_cons_zero, List.getElem?_cons_succ, Option.some.injEq] at hT0 hT1 hT2 hT3 hT4
      subst hT0; subst hT1; subst hT2; subst hT3; subst hT4
      simp [hB0, hB1, hB2, hB3, hB4]
  have he : decE T = 0 := by unfold decE; rw [if_neg (by rw [hB]; simp), if_neg hd0, if_neg (by rw [hall]; simp)]
  refine Good.ret (v := .tuple #[litV 5 l.1, .int .i64 0]) (by kernel_rfl) (fun w1 hw h => ⟨l, by unfold decV; rw [he]; rfl, hw, fun w'' k1 k2 _ => (h w'' k1 k2).1.1.1.1.1.2⟩)
end

end Go.Proofs.YtfmcpplkmldhiaaGreat
