/-
 Paths as text.
-/
import Derived.Test.YtdeepdckmhpldaaGreatDoorPG
namespace Go.Proofs.YtdeepdckmhpldaaGreatDoor
set_option maxRecDepth 100000
set_option maxHeartbeats 8000000
set_option linter.unusedVariables false
set_option linter.unusedSimpArgs false
open Go.RowKit
structure Sg where
 v : Int
 ax : Int
 ay : Int
 bx : Int
 by_ : Int
 cx : Int
 cy : Int
def iv (z : Int) : Value := .int .i64 z
@[reducible] def Sg.cl (s : Sg) : List Value := [.int .i64 s.v, .int .i64 s.ax, .int .i64 s.ay, .int .i64 s.bx, .int .i64 s.by_, .int .i64 s.cx, .int .i64 s.cy]
@[reducible] def Sg.val (s : Sg) : Value := .agg #[.int .i64 s.v, .int .i64 s.ax, .int .i64 s.ay, .int .i64 s.bx, .int .i64 s.by_, .int .i64 s.cx, .int .i64 s.cy]
theorem Lr {x y : Operand} {a b c d : Int} {w : World} : (Zc 53 x y (pt a b) (pt c d)).run Tryz.prog w = .ok (.value (.bool (!(a == c && b == d)))) w := by
 have h3 : Tryz.prog.eqGuardType Tryz.prog.depth 53 = false := by kernel_rfl
 have he := run_eqP (x := x) (y := y) (a := a) (b := b) (c := c) (d := d) (w := w)
 simp only [eqP, pt, Sem.run_bind, run_eqGuard_agg w .eql _ x y _ _ h3, Result.andThen_ok, run_eql_struct, Sem.run_pure] at he
 simp only [Zc, pt, Sem.run_bind, run_eqGuard_agg w .neq _ x y _ _ h3, Result.andThen_ok, run_neq_struct, Sem.run_pure]
 generalize (Op.equalIn 10000 53 (.agg #[.int .i64 a, .int .i64 b]) (.agg #[.int .i64 c, .int .i64 d])).run Tryz.prog w = r at he ⊢
 cases r with
 | ok x w' => simp only [Result.andThen_ok, Sem.run_pure, Result.ok.injEq, Next.value.injEq, Value.bool.injEq] at he ⊢; exact ⟨by rw [he.1], he.2⟩
 | _ => cases he
def Mr (v : Int) : Int := if v = 1 ∨ v = 2 then 1 else if v = 3 then 2 else if v = 4 then 3 else if v = 5 then 0 else -1
theorem named_cases (v : Int) : v = 1 ∨ v = 2 ∨ v = 3 ∨ v = 4 ∨ v = 5 ∨ (v ≠ 1 ∧ v ≠ 2 ∧ v ≠ 3 ∧ v ≠ 4 ∧ v ≠ 5) := by omega
theorem Qx {v : Int} (h : v ≠ 1 ∧ v ≠ 2 ∧ v ≠ 3 ∧ v ≠ 4 ∧ v ≠ 5) : Mr v = -1 := by
 unfold Mr
 rw [if_neg Zo, if_neg Zo, if_neg Zo, if_neg Zo]
def okP (i n x y : Int) : Bool := L0 x y && (decide (i < n) || (x == 0 && y == 0))
def N5 (s : Sg) : Bool := okP 0 (Mr s.v) s.ax s.ay && okP 1 (Mr s.v) s.bx s.by_ && okP 2 (Mr s.v) s.cx s.cy
def Ma (last v : Int) : Bool := v == 1 || (last != 5 && (v != 5 || last != 1))
def Z7 (last : Int) (s : Sg) : Int := if Mr s.v < 0 then 2 else if Ma last s.v = false then 10 else if N5 s = false then 6 else 0
def Y6 : Int → Nat → List Sg → Int × Nat
 | _, _, [] => (0, 0)
 | last, i, s :: l => if Z7 last s = 0 then Y6 s.v (i + 1) l else (Z7 last s, i)
def chk (l : List Sg) : Int × Nat := if 256 < l.length then (5, 256) else Y6 5 0 l
def Yb (w : World) (A : Option Addr) (n : Nat) (ls : List Sg) : Prop := ls.length = n ∧ ∀ (k : Nat) (s : Sg), ls[k]? = some s → ∃ ad, A = some ad ∧ ∀ (j : Nat) (v : Value), s.cl[j]? = some v → w.cell? ((ad.add (k * 7)).add j) = some v
theorem Yb.below {w w1 : World} {A : Option Addr} {n : Nat} {ls : List Sg} (h : Yb w A n ls) (hw : Below w.heap.size w w1) : Yb w1 A n ls :=
 ⟨h.1, fun k s hk => by obtain ⟨ad, h1, h2⟩ := h.2 k s hk; exact ⟨ad, h1, fun j v hj => Ky hw (h2 j v hj)⟩⟩
section
variable {w : World} {A A2 : Option Addr} {n n2 c c2 : Nat} {ls ms : List Sg} {X Y : Int}
theorem Pf {k : Nat} {ad : Addr} (hA : A = some ad) (hk : k < n) : (Ke 39 (.slice A n c) k).run Tryz.prog w = .ok (.value (.pointer (some (ad.add (k * 7))))) w := by
 rw [hA]; exact Um (elem := 179) Zk Zk hk
theorem X0 {ad : Addr} {s : Sg} (h : ∀ (j : Nat) (v : Value), s.cl[j]? = some v → w.cell? (ad.add j) = some v) : (L7 179 ad).run Tryz.prog w = .ok (.value s.val) w :=
 Yj (vs := s.cl) Zk Zk h
theorem M7 {v r : Int} (h : Mr v = r) : Calls Tryz.prog 229 #[.int .i64 v] w (K5 w (fun _ : Unit => .int .i64 r) fun _ _ => True) := by
 rcases named_cases v with rfl | rfl | rfl | rfl | rfl | hv
 ·obtain rfl : r = 1 := h.symm
  refine K0.enter Tryz.func229 rfl ?_
  refine K0.runC Zk (stop := 1000) 6000 _ ?_
  exact ZW (.int .i64 1)
 ·obtain rfl : r = 1 := h.symm
  refine K0.enter Tryz.func229 rfl ?_
  refine K0.runC Zk (stop := 1000) 6000 _ ?_
  exact ZW (.int .i64 1)
 ·obtain rfl : r = 2 := h.symm
  refine K0.enter Tryz.func229 rfl ?_
  refine K0.runC Zk (stop := 1000) 6000 _ ?_
  exact ZW (.int .i64 2)
 ·obtain rfl : r = 3 := h.symm
  refine K0.enter Tryz.func229 rfl ?_
  refine K0.runC Zk (stop := 1000) 6000 _ ?_
  exact ZW (.int .i64 3)
 ·obtain rfl : r = 0 := h.symm
  refine K0.enter Tryz.func229 rfl ?_
  refine K0.runC Zk (stop := 1000) 6000 _ ?_
  exact ZW (.int .i64 0)
 ·obtain rfl : r = -1 := h.symm.trans (Qx hv)
  refine K0.enter Tryz.func229 rfl ?_
  refine ZR ?_
  refine ZJ ((v == 4)) false Zp ?_
  refine ZJ ((v == 3)) false Zp ?_
  refine ZJ ((v == 1)) false Zp ?_
  refine ZJ ((v == 2)) false Zp ?_
  refine ZJ ((v == 5)) false Zp ?_
  exact ZW (.int .i64 (-1))
theorem R4 {v r : Int} (h : Mr v = r) : Calls Tryz.prog 285 #[.int .i64 v] w (K5 w (fun _ : Unit => .int .i64 r) fun _ _ => True) := by
 rcases named_cases v with rfl | rfl | rfl | rfl | rfl | hv
 ·obtain rfl : r = 1 := h.symm
  refine K0.enter Tryz.func285 rfl ?_
  refine K0.runC Zk (stop := 1000) 6000 _ ?_
  exact ZW (.int .i64 1)
 ·obtain rfl : r = 1 := h.symm
  refine K0.enter Tryz.func285 rfl ?_
  refine K0.runC Zk (stop := 1000) 6000 _ ?_
  exact ZW (.int .i64 1)
 ·obtain rfl : r = 2 := h.symm
  refine K0.enter Tryz.func285 rfl ?_
  refine K0.runC Zk (stop := 1000) 6000 _ ?_
  exact ZW (.int .i64 2)
 ·obtain rfl : r = 3 := h.symm
  refine K0.enter Tryz.func285 rfl ?_
  refine K0.runC Zk (stop := 1000) 6000 _ ?_
  exact ZW (.int .i64 3)
 ·obtain rfl : r = 0 := h.symm
  refine K0.enter Tryz.func285 rfl ?_
  refine K0.runC Zk (stop := 1000) 6000 _ ?_
  exact ZW (.int .i64 0)
 ·obtain rfl : r = -1 := h.symm.trans (Qx hv)
  refine K0.enter Tryz.func285 rfl ?_
  refine ZR ?_
  refine ZJ ((v == 1)) false Zp ?_
  refine ZJ ((v == 2)) false Zp ?_
  refine ZJ ((v == 3)) false Zp ?_
  refine ZJ ((v == 4)) false Zp ?_
  refine ZJ ((v == 5)) false Zp ?_
  exact ZW (.int .i64 (-1))
theorem Qs {g off : Nat} {cells : Array Value} {x y : Int} (h : Kp 53 cells g w) (hc : ∀ (j : Nat) (v : Value), ([.int .i64 x, .int .i64 y] : List Value)[j]? = some v → cells[off + j]? = some v) : (L7 53 ⟨g, off, none⟩).run Tryz.prog w = .ok (.value (pt x y)) w :=
 M6 (vs := [.int .i64 x, .int .i64 y]) Zk Zk (fun j v hj => by
  have h1 : w.heap[g]? = some (.cells cells 53 (0, 0)) := h
  simp only [World.cell?, h1, Option.isSome_none, Bool.false_eq_true, if_false]
  exact hc j v hj)
theorem Ph {i n x y : Int} (h : i < n) : okP i n x y = L0 x y := by unfold okP; rw [decide_eq_true h]; simp
theorem Nm {i n x y : Int} (h : ¬ i < n) : okP i n x y = (L0 x y && (x == 0 && y == 0)) := by unfold okP; rw [decide_eq_false h]; simp
theorem fits_0 {s : Sg} {B : Bool} (hn : Mr s.v = 0) (h : N5 s = B) : Calls Tryz.prog 230 #[s.val] w (K5 w (fun _ : Unit => .bool B) fun _ _ => True) := by
 unfold N5 at h
 rw [hn, Nm (show ¬ ((0 : Int) < 0) by decide), Nm (show ¬ ((1 : Int) < 0) by decide), Nm (show ¬ ((2 : Int) < 0) by decide)] at h
 refine K0.enter Tryz.func230 rfl ?_
 refine ZR ?_
 refine K0.make (Ks (180) 3 #[(0, pt s.ax s.ay), (1, pt s.bx s.by_), (2, pt s.cx s.cy)]) (Kb 3) (Kp 53 #[.int .i64 s.ax, .int .i64 s.ay, .int .i64 s.bx, .int .i64 s.by_, .int .i64 s.cx, .int .i64 s.cy]) Zk (fun w1 hw h => K8 Zk) (fun g => ?_)
 refine ZR ?_
 refine K0.un Zk ?_
 refine ZR ?_
 refine K0.drop 4 Zk (fun _ => ?_)
 refine ZI true ?_
 refine ZA (Ke 180 (Kb 3 g) (0 : Nat)) (.pointer (some ⟨g, 0 * 2, none⟩)) (fun w1 hw h => Kn (elem := 53) Zk Zk Zd) ?_
 refine ZA (L7 53 ⟨g, 0 * 2, none⟩) (pt s.ax s.ay) (fun w1 hw h => Qs h.2 (fun j v hj => by rcases j with _ | _ | j <;> simp at hj ⊢ <;> exact hj)) ?_
 cases hv0 : L0 s.ax s.ay with
 | false =>
  obtain rfl : B = false := by rw [← h, hv0]; simp
  refine ZC (fun w1 hw h => M5 hv0) fun u => ?_
  refine ZI true ?_
  exact ZW (.bool false)
 | true =>
 rw [hv0] at h
 refine ZC (fun w1 hw h => M5 hv0) fun u => ?_
 refine ZD 12 (fun w1 hw h => M7 hn) fun u => ?_
 cases hz0 : (s.ax == 0 && s.ay == 0) with
 | false =>
  obtain rfl : B = false := by rw [← h, hz0]; simp
  refine ZA (Zc 53 (.tmp 28) (.tmp 29) (pt s.ax s.ay) (pt 0 0)) (.bool true) (fun w1 hw h => by rw [Lr, hz0]; rfl) ?_
  refine ZI true ?_
  exact ZW (.bool false)
 | true =>
 rw [hz0] at h
 refine ZA (Zc 53 (.tmp 28) (.tmp 29) (pt s.ax s.ay) (pt 0 0)) (.bool false) (fun w1 hw h => by rw [Lr, hz0]; rfl) ?_
 refine ZI false ?_
 refine K0.drop 4 Zk (fun _ => ?_)
 refine ZI true ?_
 refine ZA (Ke 180 (Kb 3 g) (1 : Nat)) (.pointer (some ⟨g, 1 * 2, none⟩)) (fun w1 hw h => Kn (elem := 53) Zk Zk Zd) ?_
 refine ZA (L7 53 ⟨g, 1 * 2, none⟩) (pt s.bx s.by_) (fun w1 hw h => Qs h.1.1.2 (fun j v hj => by rcases j with _ | _ | j <;> simp at hj ⊢ <;> exact hj)) ?_
 cases hv1 : L0 s.bx s.by_ with
 | false =>
  obtain rfl : B = false := by rw [← h, hv1]; simp
  refine ZC (fun w1 hw h => M5 hv1) fun u => ?_
  refine ZI true ?_
  exact ZW (.bool false)
 | true =>
 rw [hv1] at h
 refine ZC (fun w1 hw h => M5 hv1) fun u => ?_
 refine ZD 12 (fun w1 hw h => M7 hn) fun u => ?_
 cases hz1 : (s.bx == 0 && s.by_ == 0) with
 | false =>
  obtain rfl : B = false := by rw [← h, hz1]; simp
  refine ZA (Zc 53 (.tmp 28) (.tmp 29) (pt s.bx s.by_) (pt 0 0)) (.bool true) (fun w1 hw h => by rw [Lr, hz1]; rfl) ?_
  refine ZI true ?_
  exact ZW (.bool false)
 | true =>
 rw [hz1] at h
 refine ZA (Zc 53 (.tmp 28) (.tmp 29) (pt s.bx s.by_) (pt 0 0)) (.bool false) (fun w1 hw h => by rw [Lr, hz1]; rfl) ?_
 refine ZI false ?_
 refine K0.drop 4 Zk (fun _ => ?_)
 refine ZI true ?_
 refine ZA (Ke 180 (Kb 3 g) (2 : Nat)) (.pointer (some ⟨g, 2 * 2, none⟩)) (fun w1 hw h => Kn (elem := 53) Zk Zk Zd) ?_
 refine ZA (L7 53 ⟨g, 2 * 2, none⟩) (pt s.cx s.cy) (fun w1 hw h => Qs h.1.1.1.1.2 (fun j v hj => by rcases j with _ | _ | j <;> simp at hj ⊢ <;> exact hj)) ?_
 cases hv2 : L0 s.cx s.cy with
 | false =>
  obtain rfl : B = false := by rw [← h, hv2]; simp
  refine ZC (fun w1 hw h => M5 hv2) fun u => ?_
  refine ZI true ?_
  exact ZW (.bool false)
 | true =>
 rw [hv2] at h
 refine ZC (fun w1 hw h => M5 hv2) fun u => ?_
 refine ZD 12 (fun w1 hw h => M7 hn) fun u => ?_
 cases hz2 : (s.cx == 0 && s.cy == 0) with
 | false =>
  obtain rfl : B = false := by rw [← h, hz2]; simp
  refine ZA (Zc 53 (.tmp 28) (.tmp 29) (pt s.cx s.cy) (pt 0 0)) (.bool true) (fun w1 hw h => by rw [Lr, hz2]; rfl) ?_
  refine ZI true ?_
  exact ZW (.bool false)
 | true =>
 rw [hz2] at h
 refine ZA (Zc 53 (.tmp 28) (.tmp 29) (pt s.cx s.cy) (pt 0 0)) (.bool false) (fun w1 hw h => by rw [Lr, hz2]; rfl) ?_
 refine ZI false ?_
 obtain rfl : B = true := by rw [← h]; rfl
 refine ZI false ?_
 exact ZW (.bool true)
theorem fits_1 {s : Sg} {B : Bool} (hn : Mr s.v = 1) (h : N5 s = B) : Calls Tryz.prog 230 #[s.val] w (K5 w (fun _ : Unit => .bool B) fun _ _ => True) := by
 unfold N5 at h
 rw [hn, Ph (show (0 : Int) < 1 by decide), Nm (show ¬ ((1 : Int) < 1) by decide), Nm (show ¬ ((2 : Int) < 1) by decide)] at h
 refine K0.enter Tryz.func230 rfl ?_
 refine ZR ?_
 refine K0.make (Ks (180) 3 #[(0, pt s.ax s.ay), (1, pt s.bx s.by_), (2, pt s.cx s.cy)]) (Kb 3) (Kp 53 #[.int .i64 s.ax, .int .i64 s.ay, .int .i64 s.bx, .int .i64 s.by_, .int .i64 s.cx, .int .i64 s.cy]) Zk (fun w1 hw h => K8 Zk) (fun g => ?_)
 refine ZR ?_
 refine K0.un Zk ?_
 refine ZR ?_
 refine K0.drop 4 Zk (fun _ => ?_)
 refine ZI true ?_
 refine ZA (Ke 180 (Kb 3 g) (0 : Nat)) (.pointer (some ⟨g, 0 * 2, none⟩)) (fun w1 hw h => Kn (elem := 53) Zk Zk Zd) ?_
 refine ZA (L7 53 ⟨g, 0 * 2, none⟩) (pt s.ax s.ay) (fun w1 hw h => Qs h.2 (fun j v hj => by rcases j with _ | _ | j <;> simp at hj ⊢ <;> exact hj)) ?_
 cases hv0 : L0 s.ax s.ay with
 | false =>
  obtain rfl : B = false := by rw [← h, hv0]; simp
  refine ZC (fun w1 hw h => M5 hv0) fun u => ?_
  refine ZI true ?_
  exact ZW (.bool false)
 | true =>
 rw [hv0] at h
 refine ZC (fun w1 hw h => M5 hv0) fun u => ?_
 refine ZC (fun w1 hw h => M7 hn) fun u => ?_
 refine ZI false ?_
 refine K0.drop 4 Zk (fun _ => ?_)
 refine ZI true ?_
 refine ZA (Ke 180 (Kb 3 g) (1 : Nat)) (.pointer (some ⟨g, 1 * 2, none⟩)) (fun w1 hw h => Kn (elem := 53) Zk Zk Zd) ?_
 refine ZA (L7 53 ⟨g, 1 * 2, none⟩) (pt s.bx s.by_) (fun w1 hw h => Qs h.1.1.2 (fun j v hj => by rcases j with _ | _ | j <;> simp at hj ⊢ <;> exact hj)) ?_
 cases hv1 : L0 s.bx s.by_ with
 | false =>
  obtain rfl : B = false := by rw [← h, hv1]; simp
  refine ZC (fun w1 hw h => M5 hv1) fun u => ?_
  refine ZI true ?_
  exact ZW (.bool false)
 | true =>
 rw [hv1] at h
 refine ZC (fun w1 hw h => M5 hv1) fun u => ?_
 refine ZD 12 (fun w1 hw h => M7 hn) fun u => ?_
 cases hz1 : (s.bx == 0 && s.by_ == 0) with
 | false =>
  obtain rfl : B = false := by rw [← h, hz1]; simp
  refine ZA (Zc 53 (.tmp 28) (.tmp 29) (pt s.bx s.by_) (pt 0 0)) (.bool true) (fun w1 hw h => by rw [Lr, hz1]; rfl) ?_
  refine ZI true ?_
  exact ZW (.bool false)
 | true =>
 rw [hz1] at h
 refine ZA (Zc 53 (.tmp 28) (.tmp 29) (pt s.bx s.by_) (pt 0 0)) (.bool false) (fun w1 hw h => by rw [Lr, hz1]; rfl) ?_
 refine ZI false ?_
 refine K0.drop 4 Zk (fun _ => ?_)
 refine ZI true ?_
 refine ZA (Ke 180 (Kb 3 g) (2 : Nat)) (.pointer (some ⟨g, 2 * 2, none⟩)) (fun w1 hw h => Kn (elem := 53) Zk Zk Zd) ?_
 refine ZA (L7 53 ⟨g, 2 * 2, none⟩) (pt s.cx s.cy) (fun w1 hw h => Qs h.1.1.1.1.2 (fun j v hj => by rcases j with _ | _ | j <;> simp at hj ⊢ <;> exact hj)) ?_
 cases hv2 : L0 s.cx s.cy with
 | false =>
  obtain rfl : B = false := by rw [← h, hv2]; simp
  refine ZC (fun w1 hw h => M5 hv2) fun u => ?_
  refine ZI true ?_
  exact ZW (.bool false)
 | true =>
 rw [hv2] at h
 refine ZC (fun w1 hw h => M5 hv2) fun u => ?_
 refine ZD 12 (fun w1 hw h => M7 hn) fun u => ?_
 cases hz2 : (s.cx == 0 && s.cy == 0) with
 | false =>
  obtain rfl : B = false := by rw [← h, hz2]; simp
  refine ZA (Zc 53 (.tmp 28) (.tmp 29) (pt s.cx s.cy) (pt 0 0)) (.bool true) (fun w1 hw h => by rw [Lr, hz2]; rfl) ?_
  refine ZI true ?_
  exact ZW (.bool false)
 | true =>
 rw [hz2] at h
 refine ZA (Zc 53 (.tmp 28) (.tmp 29) (pt s.cx s.cy) (pt 0 0)) (.bool false) (fun w1 hw h => by rw [Lr, hz2]; rfl) ?_
 refine ZI false ?_
 obtain rfl : B = true := by rw [← h]; rfl
 refine ZI false ?_
 exact ZW (.bool true)
theorem fits_2 {s : Sg} {B : Bool} (hn : Mr s.v = 2) (h : N5 s = B) : Calls Tryz.prog 230 #[s.val] w (K5 w (fun _ : Unit => .bool B) fun _ _ => True) := by
 unfold N5 at h
 rw [hn, Ph (show (0 : Int) < 2 by decide), Ph (show (1 : Int) < 2 by decide), Nm (show ¬ ((2 : Int) < 2) by decide)] at h
 refine K0.enter Tryz.func230 rfl ?_
 refine ZR ?_
 refine K0.make (Ks (180) 3 #[(0, pt s.ax s.ay), (1, pt s.bx s.by_), (2, pt s.cx s.cy)]) (Kb 3) (Kp 53 #[.int .i64 s.ax, .int .i64 s.ay, .int .i64 s.bx, .int .i64 s.by_, .int .i64 s.cx, .int .i64 s.cy]) Zk (fun w1 hw h => K8 Zk) (fun g => ?_)
 refine ZR ?_
 refine K0.un Zk ?_
 refine ZR ?_
 refine K0.drop 4 Zk (fun _ => ?_)
 refine ZI true ?_
 refine ZA (Ke 180 (Kb 3 g) (0 : Nat)) (.pointer (some ⟨g, 0 * 2, none⟩)) (fun w1 hw h => Kn (elem := 53) Zk Zk Zd) ?_
 refine ZA (L7 53 ⟨g, 0 * 2, none⟩) (pt s.ax s.ay) (fun w1 hw h => Qs h.2 (fun j v hj => by rcases j with _ | _ | j <;> simp at hj ⊢ <;> exact hj)) ?_
 cases hv0 : L0 s.ax s.ay with
 | false =>
  obtain rfl : B = false := by rw [← h, hv0]; simp
  refine ZC (fun w1 hw h => M5 hv0) fun u => ?_
  refine ZI true ?_
  exact ZW (.bool false)
 | true =>
 rw [hv0] at h
 refine ZC (fun w1 hw h => M5 hv0) fun u => ?_
 refine ZC (fun w1 hw h => M7 hn) fun u => ?_
 refine ZI false ?_
 refine K0.drop 4 Zk (fun _ => ?_)
 refine ZI true ?_
 refine ZA (Ke 180 (Kb 3 g) (1 : Nat)) (.pointer (some ⟨g, 1 * 2, none⟩)) (fun w1 hw h => Kn (elem := 53) Zk Zk Zd) ?_
 refine ZA (L7 53 ⟨g, 1 * 2, none⟩) (pt s.bx s.by_) (fun w1 hw h => Qs h.1.1.2 (fun j v hj => by rcases j with _ | _ | j <;> simp at hj ⊢ <;> exact hj)) ?_
 cases hv1 : L0 s.bx s.by_ with
 | false =>
  obtain rfl : B = false := by rw [← h, hv1]; simp
  refine ZC (fun w1 hw h => M5 hv1) fun u => ?_
  refine ZI true ?_
  exact ZW (.bool false)
 | true =>
 rw [hv1] at h
 refine ZC (fun w1 hw h => M5 hv1) fun u => ?_
 refine ZC (fun w1 hw h => M7 hn) fun u => ?_
 refine ZI false ?_
 refine K0.drop 4 Zk (fun _ => ?_)
 refine ZI true ?_
 refine ZA (Ke 180 (Kb 3 g) (2 : Nat)) (.pointer (some ⟨g, 2 * 2, none⟩)) (fun w1 hw h => Kn (elem := 53) Zk Zk Zd) ?_
 refine ZA (L7 53 ⟨g, 2 * 2, none⟩) (pt s.cx s.cy) (fun w1 hw h => Qs h.1.1.1.1.2 (fun j v hj => by rcases j with _ | _ | j <;> simp at hj ⊢ <;> exact hj)) ?_
 cases hv2 : L0 s.cx s.cy with
 | false =>
  obtain rfl : B = false := by rw [← h, hv2]; simp
  refine ZC (fun w1 hw h => M5 hv2) fun u => ?_
  refine ZI true ?_
  exact ZW (.bool false)
 | true =>
 rw [hv2] at h
 refine ZC (fun w1 hw h => M5 hv2) fun u => ?_
 refine ZD 12 (fun w1 hw h => M7 hn) fun u => ?_
 cases hz2 : (s.cx == 0 && s.cy == 0) with
 | false =>
  obtain rfl : B = false := by rw [← h, hz2]; simp
  refine ZA (Zc 53 (.tmp 28) (.tmp 29) (pt s.cx s.cy) (pt 0 0)) (.bool true) (fun w1 hw h => by rw [Lr, hz2]; rfl) ?_
  refine ZI true ?_
  exact ZW (.bool false)
 | true =>
 rw [hz2] at h
 refine ZA (Zc 53 (.tmp 28) (.tmp 29) (pt s.cx s.cy) (pt 0 0)) (.bool false) (fun w1 hw h => by rw [Lr, hz2]; rfl) ?_
 refine ZI false ?_
 obtain rfl : B = true := by rw [← h]; rfl
 refine ZI false ?_
 exact ZW (.bool true)
theorem fits_3 {s : Sg} {B : Bool} (hn : Mr s.v = 3) (h : N5 s = B) : Calls Tryz.prog 230 #[s.val] w (K5 w (fun _ : Unit => .bool B) fun _ _ => True) := by
 unfold N5 at h
 rw [hn, Ph (show (0 : Int) < 3 by decide), Ph (show (1 : Int) < 3 by decide), Ph (show (2 : Int) < 3 by decide)] at h
 refine K0.enter Tryz.func230 rfl ?_
 refine ZR ?_
 refine K0.make (Ks (180) 3 #[(0, pt s.ax s.ay), (1, pt s.bx s.by_), (2, pt s.cx s.cy)]) (Kb 3) (Kp 53 #[.int .i64 s.ax, .int .i64 s.ay, .int .i64 s.bx, .int .i64 s.by_, .int .i64 s.cx, .int .i64 s.cy]) Zk (fun w1 hw h => K8 Zk) (fun g => ?_)
 refine ZR ?_
 refine K0.un Zk ?_
 refine ZR ?_
 refine K0.drop 4 Zk (fun _ => ?_)
 refine ZI true ?_
 refine ZA (Ke 180 (Kb 3 g) (0 : Nat)) (.pointer (some ⟨g, 0 * 2, none⟩)) (fun w1 hw h => Kn (elem := 53) Zk Zk Zd) ?_
 refine ZA (L7 53 ⟨g, 0 * 2, none⟩) (pt s.ax s.ay) (fun w1 hw h => Qs h.2 (fun j v hj => by rcases j with _ | _ | j <;> simp at hj ⊢ <;> exact hj)) ?_
 cases hv0 : L0 s.ax s.ay with
 | false =>
  obtain rfl : B = false := by rw [← h, hv0]; simp
  refine ZC (fun w1 hw h => M5 hv0) fun u => ?_
  refine ZI true ?_
  exact ZW (.bool false)
 | true =>
 rw [hv0] at h
 refine ZC (fun w1 hw h => M5 hv0) fun u => ?_
 refine ZC (fun w1 hw h => M7 hn) fun u => ?_
 refine ZI false ?_
 refine K0.drop 4 Zk (fun _ => ?_)
 refine ZI true ?_
 refine ZA (Ke 180 (Kb 3 g) (1 : Nat)) (.pointer (some ⟨g, 1 * 2, none⟩)) (fun w1 hw h => Kn (elem := 53) Zk Zk Zd) ?_
 refine ZA (L7 53 ⟨g, 1 * 2, none⟩) (pt s.bx s.by_) (fun w1 hw h => Qs h.1.1.2 (fun j v hj => by rcases j with _ | _ | j <;> simp at hj ⊢ <;> exact hj)) ?_
 cases hv1 : L0 s.bx s.by_ with
 | false =>
  obtain rfl : B = false := by rw [← h, hv1]; simp
  refine ZC (fun w1 hw h => M5 hv1) fun u => ?_
  refine ZI true ?_
  exact ZW (.bool false)
 | true =>
 rw [hv1] at h
 refine ZC (fun w1 hw h => M5 hv1) fun u => ?_
 refine ZC (fun w1 hw h => M7 hn) fun u => ?_
 refine ZI false ?_
 refine K0.drop 4 Zk (fun _ => ?_)
 refine ZI true ?_
 refine ZA (Ke 180 (Kb 3 g) (2 : Nat)) (.pointer (some ⟨g, 2 * 2, none⟩)) (fun w1 hw h => Kn (elem := 53) Zk Zk Zd) ?_
 refine ZA (L7 53 ⟨g, 2 * 2, none⟩) (pt s.cx s.cy) (fun w1 hw h => Qs h.1.1.1.1.2 (fun j v hj => by rcases j with _ | _ | j <;> simp at hj ⊢ <;> exact hj)) ?_
 cases hv2 : L0 s.cx s.cy with
 | false =>
  obtain rfl : B = false := by rw [← h, hv2]; simp
  refine ZC (fun w1 hw h => M5 hv2) fun u => ?_
  refine ZI true ?_
  exact ZW (.bool false)
 | true =>
 rw [hv2] at h
 refine ZC (fun w1 hw h => M5 hv2) fun u => ?_
 refine ZC (fun w1 hw h => M7 hn) fun u => ?_
 refine ZI false ?_
 obtain rfl : B = true := by rw [← h]; rfl
 refine ZI false ?_
 exact ZW (.bool true)
end
section
variable {w : World} {A A2 : Option Addr} {n n2 c c2 : Nat} {ls ms : List Sg}
theorem Z1 {last : Int} {k : Nat} {s : Sg} {l : List Sg} (h : Z7 last s = 0) : Y6 last k (s :: l) = Y6 s.v (k + 1) l := by rw [Y6, if_pos h]
theorem P8 {last : Int} {k : Nat} {s : Sg} {l : List Sg} (h : Z7 last s ≠ 0) : Y6 last k (s :: l) = (Z7 last s, k) := by rw [Y6, if_neg h]
theorem chkS_arg {last : Int} {s : Sg} (h : Mr s.v = -1) : Z7 last s = 2 := by unfold Z7; rw [h, if_pos Zd]
theorem Q8 {last m : Int} {s : Sg} (h : Mr s.v = m) (hm : 0 ≤ m) (h2 : Ma last s.v = false) : Z7 last s = 10 := by unfold Z7; rw [h, if_neg Zo, if_pos h2]
theorem Rf {last m : Int} {s : Sg} (h : Mr s.v = m) (hm : 0 ≤ m) (h2 : Ma last s.v = true) (h3 : N5 s = false) : Z7 last s = 6 := by unfold Z7; rw [h, if_neg Zo, h2, if_neg Zd, if_pos h3]
theorem Sy {last m : Int} {s : Sg} (h : Mr s.v = m) (hm : 0 ≤ m) (h2 : Ma last s.v = true) (h3 : N5 s = true) : Z7 last s = 0 := by unfold Z7; rw [h, if_neg Zo, h2, if_neg Zd, h3, if_neg Zd]
theorem sg_drop {ls : List Sg} {k : Nat} {s : Sg} (h : ls[k]? = some s) : ls.drop k = s :: ls.drop (k + 1) := by
 obtain ⟨h1, h2⟩ := List.getElem?_eq_some_iff.1 h
 rw [List.drop_eq_getElem_cons h1, h2]
theorem check_m {e : Int} {i : Nat} (hs : Yb w A n ls) (hn : n ≤ 1000000) (h : chk ls = (e, i)) : Calls Tryz.prog 191 #[.slice A n c] w (K5 w (fun _ : Unit => .tuple #[.int .i64 e, .int .i64 i]) fun _ _ => True) := by
 have hln := hs.1
 by_cases hbig : 256 < ls.length
 ·have hch : chk ls = (5, 256) := if_pos hbig
  rw [hch] at h
  obtain ⟨rfl, rfl⟩ := Prod.mk.inj h
  refine K0.enter Tryz.func191 rfl ?_
  refine ZR ?_
  refine ZJ (decide ((n : Int) > 256)) true Zp ?_
  exact ZW (.tuple #[.int .i64 5, .int .i64 256])
 have hch : chk ls = Y6 5 0 ls := if_neg hbig
 rw [hch] at h
 refine K0.enter Tryz.func191 rfl ?_
 refine ZR ?_
 refine ZJ (decide ((n : Int) > 256)) false Zp ?_
 refine K0.loop (ι := {q : Nat × Int // q.1 ≤ n ∧ Y6 5 0 ls = Y6 q.2 q.1 (ls.drop q.1) ∧ (1 ≤ q.2 ∧ q.2 ≤ 5)}) 52 (fun q => ⟨[(4, .v (.int .i64 q.1.2)), (11, .v (.slice A n c)), (12, .v (.int .i64 n)), (13, .v (.int .i64 q.1.1))], []⟩) (fun _ _ => True) (fun q => n - q.1.1) (⟨(0, 5), Nat.zero_le _, rfl, by decide⟩) Zk (fun _ => by kernel_rfl) ⟨Zk, Zk, Zk⟩ (fun _ _ => trivial) ?_
 rintro ⟨⟨k, last⟩, hk⟩ g
 have hk1 : k ≤ n := hk.1
 have hk2 : Y6 5 0 ls = Y6 last k (ls.drop k) := hk.2.1
 have hk3 : 1 ≤ last ∧ last ≤ 5 := hk.2.2
 by_cases hlt : k < n
 case neg =>
  rw [hk2, List.drop_of_length_le Zo] at h
  obtain ⟨rfl, rfl⟩ := Prod.mk.inj h
  refine ZR ?_
  refine ZJ (decide ((k : Int) < (n : Int))) false Zp ?_
  refine K0.leave Zk ?_
  refine ZR ?_
  exact ZW (.tuple #[.int .i64 0, .int .i64 0])
 obtain ⟨s, hsk⟩ : ∃ s, ls[k]? = some s := ⟨_, List.getElem?_eq_getElem Zo⟩
 obtain ⟨ad, hA, hc⟩ := hs.2 k s hsk
 rw [hk2, sg_drop hsk] at h
 rw [sg_drop hsk] at hk2
 refine ZR ?_
 refine ZJ (decide ((k : Int) < (n : Int))) true Zp ?_
 refine ZA (Ke 39 (.slice A n c) k) (.pointer (some (ad.add (k * 7)))) (fun w1 hw h => Pf hA hlt) ?_
 obtain ⟨v, ax, ay, bx, by_, cx, cy⟩ := s
 rcases named_cases v with rfl | rfl | rfl | rfl | rfl | hv
 ·have hst : Ma last 1 = true := rfl
  refine K0.ask (L7 179 (ad.add (k * 7))) (Sg.val ⟨1, ax, ay, bx, by_, cx, cy⟩) Zk (fun w1 hw h => X0 fun j u hj => Ky hw (hc j u hj)) ?_
  refine ZS 6 ?_
  refine ZR ?_
  refine ZC (fun w1 hw h => M7 (v := 1) (r := 1) rfl) fun u => ?_
  refine ZI false ?_
  refine ZI false ?_
  cases hf : N5 ⟨1, ax, ay, bx, by_, cx, cy⟩ with
  | true =>
   have hz := Sy (s := ⟨1, ax, ay, bx, by_, cx, cy⟩) (m := 1) rfl Zd hst hf
   rw [Z1 hz] at hk2
   refine ZC (fun w1 hw h => fits_1 (s := ⟨1, ax, ay, bx, by_, cx, cy⟩) rfl hf) fun u => ?_
   refine ZI false ?_
   refine K0.slot 13 (.int .i64 (IntKind.i64.wrap ((k : Int) + 1))) (.int .i64 ((k + 1 : Nat) : Int)) Zk (by rw [Kc hlt Zo]) ?_
   refine K0.next (⟨(k + 1, 1), by show k + 1 ≤ n; omega, hk2, by show (1 : Int) ≤ 1 ∧ ((1 : Int) ≤ 5); decide⟩) Zk (by show n - (k + 1) < n - k; omega) ⟨Zk, Zk, Zk⟩ (fun _ _ => trivial)
  | false =>
   have hz := Rf (s := ⟨1, ax, ay, bx, by_, cx, cy⟩) (m := 1) rfl Zd hst hf
   rw [P8 (by rw [hz]; decide), hz] at h
   obtain ⟨rfl, rfl⟩ := Prod.mk.inj h
   refine ZC (fun w1 hw h => fits_1 (s := ⟨1, ax, ay, bx, by_, cx, cy⟩) rfl hf) fun u => ?_
   refine ZI true ?_
   refine K0.leave Zk ?_
   refine ZR ?_
   exact ZW (.tuple #[.int .i64 6, .int .i64 k])
 ·
  refine K0.ask (L7 179 (ad.add (k * 7))) (Sg.val ⟨2, ax, ay, bx, by_, cx, cy⟩) Zk (fun w1 hw h => X0 fun j u hj => Ky hw (hc j u hj)) ?_
  refine ZS 6 ?_
  by_cases hl : last = 5
  ·have hst : Ma last 2 = false := by rw [hl]; rfl
   refine ZT 23 (.bool (last != 5)) (.bool false) Zp ?_
   have hz := Q8 (s := ⟨2, ax, ay, bx, by_, cx, cy⟩) (m := 1) rfl Zd hst
   rw [P8 (by rw [hz]; decide), hz] at h
   obtain ⟨rfl, rfl⟩ := Prod.mk.inj h
   refine ZC (fun w1 hw h => M7 (v := 2) (r := 1) rfl) fun u => ?_
   refine ZI false ?_
   refine ZI true ?_
   refine K0.leave Zk ?_
   refine ZR ?_
   exact ZW (.tuple #[.int .i64 10, .int .i64 k])
  ·have hst : Ma last 2 = true := by unfold Ma; simp [hl]
   refine ZT 23 (.bool (last != 5)) (.bool true) Zp ?_
   refine ZC (fun w1 hw h => M7 (v := 2) (r := 1) rfl) fun u => ?_
   refine ZI false ?_
   refine ZI false ?_
   cases hf : N5 ⟨2, ax, ay, bx, by_, cx, cy⟩ with
   | true =>
    have hz := Sy (s := ⟨2, ax, ay, bx, by_, cx, cy⟩) (m := 1) rfl Zd hst hf
    rw [Z1 hz] at hk2
    refine ZC (fun w1 hw h => fits_1 (s := ⟨2, ax, ay, bx, by_, cx, cy⟩) rfl hf) fun u => ?_
    refine ZI false ?_
    refine K0.slot 13 (.int .i64 (IntKind.i64.wrap ((k : Int) + 1))) (.int .i64 ((k + 1 : Nat) : Int)) Zk (by rw [Kc hlt Zo]) ?_
    refine K0.next (⟨(k + 1, 2), by show k + 1 ≤ n; omega, hk2, by show (1 : Int) ≤ 2 ∧ ((2 : Int) ≤ 5); decide⟩) Zk (by show n - (k + 1) < n - k; omega) ⟨Zk, Zk, Zk⟩ (fun _ _ => trivial)
   | false =>
    have hz := Rf (s := ⟨2, ax, ay, bx, by_, cx, cy⟩) (m := 1) rfl Zd hst hf
    rw [P8 (by rw [hz]; decide), hz] at h
    obtain ⟨rfl, rfl⟩ := Prod.mk.inj h
    refine ZC (fun w1 hw h => fits_1 (s := ⟨2, ax, ay, bx, by_, cx, cy⟩) rfl hf) fun u => ?_
    refine ZI true ?_
    refine K0.leave Zk ?_
    refine ZR ?_
    exact ZW (.tuple #[.int .i64 6, .int .i64 k])
 ·
  refine K0.ask (L7 179 (ad.add (k * 7))) (Sg.val ⟨3, ax, ay, bx, by_, cx, cy⟩) Zk (fun w1 hw h => X0 fun j u hj => Ky hw (hc j u hj)) ?_
  refine ZS 6 ?_
  by_cases hl : last = 5
  ·have hst : Ma last 3 = false := by rw [hl]; rfl
   refine ZT 23 (.bool (last != 5)) (.bool false) Zp ?_
   have hz := Q8 (s := ⟨3, ax, ay, bx, by_, cx, cy⟩) (m := 2) rfl Zd hst
   rw [P8 (by rw [hz]; decide), hz] at h
   obtain ⟨rfl, rfl⟩ := Prod.mk.inj h
   refine ZC (fun w1 hw h => M7 (v := 3) (r := 2) rfl) fun u => ?_
   refine ZI false ?_
   refine ZI true ?_
   refine K0.leave Zk ?_
   refine ZR ?_
   exact ZW (.tuple #[.int .i64 10, .int .i64 k])
  ·have hst : Ma last 3 = true := by unfold Ma; simp [hl]
   refine ZT 23 (.bool (last != 5)) (.bool true) Zp ?_
   refine ZC (fun w1 hw h => M7 (v := 3) (r := 2) rfl) fun u => ?_
   refine ZI false ?_
   refine ZI false ?_
   cases hf : N5 ⟨3, ax, ay, bx, by_, cx, cy⟩ with
   | true =>
    have hz := Sy (s := ⟨3, ax, ay, bx, by_, cx, cy⟩) (m := 2) rfl Zd hst hf
    rw [Z1 hz] at hk2
    refine ZC (fun w1 hw h => fits_2 (s := ⟨3, ax, ay, bx, by_, cx, cy⟩) rfl hf) fun u => ?_
    refine ZI false ?_
    refine K0.slot 13 (.int .i64 (IntKind.i64.wrap ((k : Int) + 1))) (.int .i64 ((k + 1 : Nat) : Int)) Zk (by rw [Kc hlt Zo]) ?_
    refine K0.next (⟨(k + 1, 3), by show k + 1 ≤ n; omega, hk2, by show (1 : Int) ≤ 3 ∧ ((3 : Int) ≤ 5); decide⟩) Zk (by show n - (k + 1) < n - k; omega) ⟨Zk, Zk, Zk⟩ (fun _ _ => trivial)
   | false =>
    have hz := Rf (s := ⟨3, ax, ay, bx, by_, cx, cy⟩) (m := 2) rfl Zd hst hf
    rw [P8 (by rw [hz]; decide), hz] at h
    obtain ⟨rfl, rfl⟩ := Prod.mk.inj h
    refine ZC (fun w1 hw h => fits_2 (s := ⟨3, ax, ay, bx, by_, cx, cy⟩) rfl hf) fun u => ?_
    refine ZI true ?_
    refine K0.leave Zk ?_
    refine ZR ?_
    exact ZW (.tuple #[.int .i64 6, .int .i64 k])
 ·
  refine K0.ask (L7 179 (ad.add (k * 7))) (Sg.val ⟨4, ax, ay, bx, by_, cx, cy⟩) Zk (fun w1 hw h => X0 fun j u hj => Ky hw (hc j u hj)) ?_
  refine ZS 6 ?_
  by_cases hl : last = 5
  ·have hst : Ma last 4 = false := by rw [hl]; rfl
   refine ZT 23 (.bool (last != 5)) (.bool false) Zp ?_
   have hz := Q8 (s := ⟨4, ax, ay, bx, by_, cx, cy⟩) (m := 3) rfl Zd hst
   rw [P8 (by rw [hz]; decide), hz] at h
   obtain ⟨rfl, rfl⟩ := Prod.mk.inj h
   refine ZC (fun w1 hw h => M7 (v := 4) (r := 3) rfl) fun u => ?_
   refine ZI false ?_
   refine ZI true ?_
   refine K0.leave Zk ?_
   refine ZR ?_
   exact ZW (.tuple #[.int .i64 10, .int .i64 k])
  ·have hst : Ma last 4 = true := by unfold Ma; simp [hl]
   refine ZT 23 (.bool (last != 5)) (.bool true) Zp ?_
   refine ZC (fun w1 hw h => M7 (v := 4) (r := 3) rfl) fun u => ?_
   refine ZI false ?_
   refine ZI false ?_
   cases hf : N5 ⟨4, ax, ay, bx, by_, cx, cy⟩ with
   | true =>
    have hz := Sy (s := ⟨4, ax, ay, bx, by_, cx, cy⟩) (m := 3) rfl Zd hst hf
    rw [Z1 hz] at hk2
    refine ZC (fun w1 hw h => fits_3 (s := ⟨4, ax, ay, bx, by_, cx, cy⟩) rfl hf) fun u => ?_
    refine ZI false ?_
    refine K0.slot 13 (.int .i64 (IntKind.i64.wrap ((k : Int) + 1))) (.int .i64 ((k + 1 : Nat) : Int)) Zk (by rw [Kc hlt Zo]) ?_
    refine K0.next (⟨(k + 1, 4), by show k + 1 ≤ n; omega, hk2, by show (1 : Int) ≤ 4 ∧ ((4 : Int) ≤ 5); decide⟩) Zk (by show n - (k + 1) < n - k; omega) ⟨Zk, Zk, Zk⟩ (fun _ _ => trivial)
   | false =>
    have hz := Rf (s := ⟨4, ax, ay, bx, by_, cx, cy⟩) (m := 3) rfl Zd hst hf
    rw [P8 (by rw [hz]; decide), hz] at h
    obtain ⟨rfl, rfl⟩ := Prod.mk.inj h
    refine ZC (fun w1 hw h => fits_3 (s := ⟨4, ax, ay, bx, by_, cx, cy⟩) rfl hf) fun u => ?_
    refine ZI true ?_
    refine K0.leave Zk ?_
    refine ZR ?_
    exact ZW (.tuple #[.int .i64 6, .int .i64 k])
 ·
  refine K0.ask (L7 179 (ad.add (k * 7))) (Sg.val ⟨5, ax, ay, bx, by_, cx, cy⟩) Zk (fun w1 hw h => X0 fun j u hj => Ky hw (hc j u hj)) ?_
  refine ZS 6 ?_
  by_cases hl : last = 5
  ·have hst : Ma last 5 = false := by rw [hl]; rfl
   refine ZT 23 (.bool (last != 5)) (.bool false) Zp ?_
   have hz := Q8 (s := ⟨5, ax, ay, bx, by_, cx, cy⟩) (m := 0) rfl Zd hst
   rw [P8 (by rw [hz]; decide), hz] at h
   obtain ⟨rfl, rfl⟩ := Prod.mk.inj h
   refine ZC (fun w1 hw h => M7 (v := 5) (r := 0) rfl) fun u => ?_
   refine ZI false ?_
   refine ZI true ?_
   refine K0.leave Zk ?_
   refine ZR ?_
   exact ZW (.tuple #[.int .i64 10, .int .i64 k])
  ·
   refine K0.slot 23 (.bool (last != 5)) (.bool true) Zk Zp ?_
   refine ZS 13 ?_
   by_cases hl1 : last = 1
   ·have hst : Ma last 5 = false := by rw [hl1]; rfl
    refine ZT 30 (.bool (last != 1)) (.bool false) Zp ?_
    have hz := Q8 (s := ⟨5, ax, ay, bx, by_, cx, cy⟩) (m := 0) rfl Zd hst
    rw [P8 (by rw [hz]; decide), hz] at h
    obtain ⟨rfl, rfl⟩ := Prod.mk.inj h
    refine ZC (fun w1 hw h => M7 (v := 5) (r := 0) rfl) fun u => ?_
    refine ZI false ?_
    refine ZI true ?_
    refine K0.leave Zk ?_
    refine ZR ?_
    exact ZW (.tuple #[.int .i64 10, .int .i64 k])
   ·have hst : Ma last 5 = true := by unfold Ma; simp [hl, hl1]
    refine ZT 30 (.bool (last != 1)) (.bool true) Zp ?_
    refine ZC (fun w1 hw h => M7 (v := 5) (r := 0) rfl) fun u => ?_
    refine ZI false ?_
    refine ZI false ?_
    cases hf : N5 ⟨5, ax, ay, bx, by_, cx, cy⟩ with
    | true =>
     have hz := Sy (s := ⟨5, ax, ay, bx, by_, cx, cy⟩) (m := 0) rfl Zd hst hf
     rw [Z1 hz] at hk2
     refine ZC (fun w1 hw h => fits_0 (s := ⟨5, ax, ay, bx, by_, cx, cy⟩) rfl hf) fun u => ?_
     refine ZI false ?_
     refine K0.slot 13 (.int .i64 (IntKind.i64.wrap ((k : Int) + 1))) (.int .i64 ((k + 1 : Nat) : Int)) Zk (by rw [Kc hlt Zo]) ?_
     refine K0.next (⟨(k + 1, 5), by show k + 1 ≤ n; omega, hk2, by show (1 : Int) ≤ 5 ∧ ((5 : Int) ≤ 5); decide⟩) Zk (by show n - (k + 1) < n - k; omega) ⟨Zk, Zk, Zk⟩ (fun _ _ => trivial)
    | false =>
     have hz := Rf (s := ⟨5, ax, ay, bx, by_, cx, cy⟩) (m := 0) rfl Zd hst hf
     rw [P8 (by rw [hz]; decide), hz] at h
     obtain ⟨rfl, rfl⟩ := Prod.mk.inj h
     refine ZC (fun w1 hw h => fits_0 (s := ⟨5, ax, ay, bx, by_, cx, cy⟩) rfl hf) fun u => ?_
     refine ZI true ?_
     refine K0.leave Zk ?_
     refine ZR ?_
     exact ZW (.tuple #[.int .i64 6, .int .i64 k])
 ·have hz := chkS_arg (last := last) (s := ⟨v, ax, ay, bx, by_, cx, cy⟩) (Qx hv)
  rw [P8 (by rw [hz]; decide), hz] at h
  obtain ⟨rfl, rfl⟩ := Prod.mk.inj h
  refine K0.ask (L7 179 (ad.add (k * 7))) (Sg.val ⟨v, ax, ay, bx, by_, cx, cy⟩) Zk (fun w1 hw h => X0 fun j u hj => Ky hw (hc j u hj)) ?_
  refine ZS 3 ?_
  refine K0.run Zk (stop := 1000) 3 _ ?_
  refine ZS 3 ?_
  refine K0.slot 20 (.bool (v == 1)) (.bool false) Zk Zp ?_
  refine ZS 6 ?_
  by_cases hl : last = 5
  ·
   refine ZT 23 (.bool (last != 5)) (.bool false) Zp ?_
   refine ZC (fun w1 hw h => M7 (v := v) (r := -1) (Qx hv)) fun u => ?_
   refine ZI true ?_
   refine K0.leave Zk ?_
   refine ZR ?_
   exact ZW (.tuple #[.int .i64 2, .int .i64 k])
  ·
   refine K0.slot 23 (.bool (last != 5)) (.bool true) Zk Zp ?_
   refine ZS 10 ?_
   refine ZT 27 (.bool (v != 5)) (.bool true) Zp ?_
   refine ZC (fun w1 hw h => M7 (v := v) (r := -1) (Qx hv)) fun u => ?_
   refine ZI true ?_
   refine K0.leave Zk ?_
   refine ZR ?_
   exact ZW (.tuple #[.int .i64 2, .int .i64 k])
theorem validL_m {B : Bool} (hs : Yb w A n ls) (hn : n ≤ 1000000) (hB : decide ((chk ls).1 = 0) = B) : Calls Tryz.prog 135 #[.slice A n c] w (K5 w (fun _ : Unit => .bool B) fun _ _ => True) := by
 obtain ⟨e, i, he⟩ : ∃ e i, chk ls = (e, i) := ⟨_, _, rfl⟩
 rw [he] at hB
 refine K0.enter Tryz.func135 rfl ?_
 refine ZR ?_
 refine ZC (fun w1 hw h => check_m (c := c) (hs.below hw) hn he) fun u => ?_
 exact ZX (.bool (e == 0)) (by rw [← hB]; rfl)
end
def Tg (ls : List Sg) : Nat → Int
 | 0 => 5
 | k + 1 => (ls[k]?.map (·.v)).getD 5
theorem lastAt_succ {ls : List Sg} {k : Nat} {p : Sg} (h : ls[k]? = some p) : Tg ls (k + 1) = p.v := by simp [Tg, h]
section
variable {w : World} {A A2 : Option Addr} {n n2 c c2 k : Nat} {ls ms : List Sg} {s : Sg}
theorem stand5 (v : Int) : Ma 5 v = (v == 1) := by unfold Ma; simp
theorem stand_no {last v : Int} (h : last ≠ 5) (h2 : v ≠ 5) : Ma last v = true := by unfold Ma; simp [h, h2]
theorem stand_end {last : Int} (h : last ≠ 5) : Ma last 5 = (last != 1) := by unfold Ma; simp [h]
theorem Qw {B : Bool} (hs : Yb w A n ls) (hn : n ≤ 1000000) (hsk : ls[k]? = some s) (hB : Ma (Tg ls k) s.v = B) : Calls Tryz.prog 286 #[.slice A n c, .int .i64 k] w (K5 w (fun _ : Unit => .bool B) fun _ _ => True) := by
 have hln := hs.1
 have hlt := (List.getElem?_eq_some_iff.1 hsk).1
 obtain ⟨ad, hA, hc⟩ := hs.2 k s hsk
 refine K0.enter Tryz.func286 rfl ?_
 cases k with
 | zero =>
  rw [show Tg ls 0 = 5 from rfl, stand5] at hB
  refine ZR ?_
  refine ZI true ?_
  refine K0.ask (Ke 39 (.slice A n c) (0 : Nat)) (.pointer (some (ad.add ((0 : Nat) * 7)))) Zk (fun w1 hw h => Pf hA Zo) ?_
  refine ZS 3 ?_
  refine ZA (Pr 179 (ad.add ((0 : Nat) * 7)) 0) (.pointer (some ((ad.add ((0 : Nat) * 7)).add 0))) (fun w1 hw h => L5 (d := 0) Zk) ?_
  refine ZA (L7 3 ((ad.add ((0 : Nat) * 7)).add 0)) (.int .i64 s.v) (fun w1 hw h => K9 Zk (Ky hw (hc 0 _ rfl))) ?_
  exact ZX (.bool (s.v == 1)) (by rw [hB])
 | succ k =>
  obtain ⟨p, hp⟩ : ∃ p, ls[k]? = some p := ⟨_, List.getElem?_eq_getElem Zo⟩
  obtain ⟨ap, hAp, hcp⟩ := hs.2 k p hp
  rw [lastAt_succ hp] at hB
  refine ZS 2 ?_
  refine K0.slot 6 (.bool (((k + 1 : Nat) : Int) == 0)) (.bool false) Zk Zp ?_
  refine ZS 6 ?_
  refine K0.slot 10 (.int .i64 (IntKind.i64.wrap (((k + 1 : Nat) : Int) - 1))) (.int .i64 (k : Nat)) Zk (by rw [IntWalk.i64_in _ Zo]; congr 1; omega) ?_
  refine K0.ask (Ke 39 (.slice A n c) k) (.pointer (some (ap.add (k * 7)))) Zk (fun w1 hw h => Pf hAp Zo) ?_
  refine ZS 7 ?_
  refine ZA (Pr 179 (ap.add (k * 7)) 0) (.pointer (some ((ap.add (k * 7)).add 0))) (fun w1 hw h => L5 (d := 0) Zk) ?_
  refine ZA (L7 3 ((ap.add (k * 7)).add 0)) (.int .i64 p.v) (fun w1 hw h => K9 Zk (Ky hw (hcp 0 _ rfl))) ?_
  by_cases h5 : p.v = 5
  ·rw [h5, stand5] at hB
   refine ZJ ((p.v == 5)) true (by simp [h5]) ?_
   refine K0.ask (Ke 39 (.slice A n c) (k + 1 : Nat)) (.pointer (some (ad.add ((k + 1 : Nat) * 7)))) Zk (fun w1 hw h => Pf hA Zo) ?_
   refine ZS 3 ?_
   refine ZA (Pr 179 (ad.add ((k + 1 : Nat) * 7)) 0) (.pointer (some ((ad.add ((k + 1 : Nat) * 7)).add 0))) (fun w1 hw h => L5 (d := 0) Zk) ?_
   refine ZA (L7 3 ((ad.add ((k + 1 : Nat) * 7)).add 0)) (.int .i64 s.v) (fun w1 hw h => K9 Zk (Ky hw (hc 0 _ rfl))) ?_
   exact ZX (.bool (s.v == 1)) (by rw [hB])
  ·
   refine ZJ ((p.v == 5)) false (by simp [h5]) ?_
   refine K0.ask (Ke 39 (.slice A n c) (k + 1 : Nat)) (.pointer (some (ad.add ((k + 1 : Nat) * 7)))) Zk (fun w1 hw h => Pf hA Zo) ?_
   refine ZS 3 ?_
   refine ZA (Pr 179 (ad.add ((k + 1 : Nat) * 7)) 0) (.pointer (some ((ad.add ((k + 1 : Nat) * 7)).add 0))) (fun w1 hw h => L5 (d := 0) Zk) ?_
   refine K0.ask (L7 3 ((ad.add ((k + 1 : Nat) * 7)).add 0)) (.int .i64 s.v) Zk (fun w1 hw h => K9 Zk (Ky hw (hc 0 _ rfl))) ?_
   refine ZS 6 ?_
   by_cases h6 : s.v = 5
   ·rw [h6, stand_end h5] at hB
    refine K0.slot 27 (.bool (s.v != 5)) (.bool false) Zk (by simp [h6]) ?_
    refine ZS 10 ?_
    refine K0.slot 31 (.int .i64 (IntKind.i64.wrap (((k + 1 : Nat) : Int) - 1))) (.int .i64 (k : Nat)) Zk (by rw [IntWalk.i64_in _ Zo]; congr 1; omega) ?_
    refine K0.ask (Ke 39 (.slice A n c) k) (.pointer (some (ap.add (k * 7)))) Zk (fun w1 hw h => Pf hAp Zo) ?_
    refine ZS 11 ?_
    refine ZA (Pr 179 (ap.add (k * 7)) 0) (.pointer (some ((ap.add (k * 7)).add 0))) (fun w1 hw h => L5 (d := 0) Zk) ?_
    refine ZA (L7 3 ((ap.add (k * 7)).add 0)) (.int .i64 p.v) (fun w1 hw h => K9 Zk (Ky hw (hcp 0 _ rfl))) ?_
    exact ZX (.bool (p.v != 1)) (by rw [hB])
   ·rw [stand_no h5 h6] at hB
    subst hB
    refine ZT 27 (.bool (s.v != 5)) (.bool true) (by simp [h6]) ?_
    exact ZW (.bool true)
theorem three_m : Calls Tryz.prog 287 #[s.val] w (K5 w (fun _ : Unit => .agg #[.int .i64 s.ax, .int .i64 s.ay, .int .i64 s.bx, .int .i64 s.by_, .int .i64 s.cx, .int .i64 s.cy]) fun _ _ => True) := by
 refine K0.enter Tryz.func287 rfl ?_
 refine ZR ?_
 exact ZW (.agg #[.int .i64 s.ax, .int .i64 s.ay, .int .i64 s.bx, .int .i64 s.by_, .int .i64 s.cx, .int .i64 s.cy])
theorem Mx {x y : Int} (h : (x == 0 && y == 0) = true) : L0 x y = true := by
 simp at h; obtain ⟨rfl, rfl⟩ := h; rfl
theorem named_rng (v : Int) : Mr v = -1 ∨ Mr v = 0 ∨ Mr v = 1 ∨ Mr v = 2 ∨ Mr v = 3 := by
 unfold Mr; split; omega; split; omega; split; omega; split; omega; omega
theorem wrong_m {e : Int} (hs : Yb w A n ls) (hn : n ≤ 1000000) (hsk : ls[k]? = some s) (he : Z7 (Tg ls k) s = e) : Calls Tryz.prog 249 #[.slice A n c, .int .i64 k] w (K5 w (fun _ : Unit => .int .i64 e) fun _ _ => True) := by
 have hln := hs.1
 have hlt := (List.getElem?_eq_some_iff.1 hsk).1
 obtain ⟨ad, hA, hc⟩ := hs.2 k s hsk
 refine K0.enter Tryz.func249 rfl ?_
 refine ZR ?_
 refine K0.ask (Ke 39 (.slice A n c) k) (.pointer (some (ad.add (k * 7)))) Zk (fun w1 hw h => Pf hA Zo) ?_
 refine ZS 3 ?_
 refine ZA (Pr 179 (ad.add (k * 7)) 0) (.pointer (some ((ad.add (k * 7)).add 0))) (fun w1 hw h => L5 (d := 0) Zk) ?_
 refine ZA (L7 3 ((ad.add (k * 7)).add 0)) (.int .i64 s.v) (fun w1 hw h => K9 Zk (Ky hw (hc 0 _ rfl))) ?_
 rcases named_rng s.v with hr | hr | hr | hr | hr
 ·obtain rfl : e = 2 := he.symm.trans (chkS_arg hr)
  refine ZC (fun w1 hw h => R4 hr) fun u => ?_
  refine ZI true ?_
  exact ZW (.int .i64 2)
 ·cases hst : Ma (Tg ls k) s.v with
  | false =>
   obtain rfl : e = 10 := he.symm.trans (Q8 hr Zd hst)
   refine ZC (fun w1 hw h => R4 hr) fun u => ?_
   refine ZI false ?_
   refine ZC (fun w1 hw h => Qw (c := c) (hs.below hw) hn hsk hst) fun u => ?_
   refine ZI true ?_
   exact ZW (.int .i64 10)
  | true =>
   refine ZC (fun w1 hw h => R4 hr) fun u => ?_
   refine ZI false ?_
   refine ZC (fun w1 hw h => Qw (c := c) (hs.below hw) hn hsk hst) fun u => ?_
   refine ZI false ?_
   refine ZA (Ke 39 (.slice A n c) k) (.pointer (some (ad.add (k * 7)))) (fun w1 hw h => Pf hA Zo) ?_
   refine ZA (L7 179 (ad.add (k * 7))) (s.val) (fun w1 hw h => X0 fun j u hj => Ky hw (hc j u hj)) ?_
   refine ZC (fun w1 hw h => three_m (s := s)) fun u => ?_
   cases hf : N5 s with
   | false =>
    obtain rfl : e = 6 := he.symm.trans (Rf hr Zd hst hf)
    unfold N5 at hf
    rw [hr, Nm (show ¬ ((0 : Int) < 0) by decide), Nm (show ¬ ((1 : Int) < 0) by decide), Nm (show ¬ ((2 : Int) < 0) by decide)] at hf
    refine K0.un Zk ?_
    refine ZR ?_
    refine K0.cond true Zk ?_
    refine ZS 19 ?_
    cases hz0 : (s.ax == 0 && s.ay == 0) with
    | false =>
     refine ZA (Zc 53 (.tmp 46) (.tmp 47) (pt s.ax s.ay) (pt 0 0)) (.bool true) (fun w1 hw h => by rw [Lr, hz0]; rfl) ?_
     refine ZI true ?_
     exact ZW (.int .i64 6)
    | true =>
    have hv0 := Mx hz0
    rw [hz0, hv0] at hf
    refine ZA (Zc 53 (.tmp 46) (.tmp 47) (pt s.ax s.ay) (pt 0 0)) (.bool false) (fun w1 hw h => by rw [Lr, hz0]; rfl) ?_
    refine ZI false ?_
    refine K0.cond true Zk ?_
    refine ZS 19 ?_
    cases hz1 : (s.bx == 0 && s.by_ == 0) with
    | false =>
     refine ZA (Zc 53 (.tmp 46) (.tmp 47) (pt s.bx s.by_) (pt 0 0)) (.bool true) (fun w1 hw h => by rw [Lr, hz1]; rfl) ?_
     refine ZI true ?_
     exact ZW (.int .i64 6)
    | true =>
    have hv1 := Mx hz1
    rw [hz1, hv1] at hf
    refine ZA (Zc 53 (.tmp 46) (.tmp 47) (pt s.bx s.by_) (pt 0 0)) (.bool false) (fun w1 hw h => by rw [Lr, hz1]; rfl) ?_
    refine ZI false ?_
    refine K0.cond true Zk ?_
    refine ZS 19 ?_
    cases hz2 : (s.cx == 0 && s.cy == 0) with
    | false =>
     refine ZA (Zc 53 (.tmp 46) (.tmp 47) (pt s.cx s.cy) (pt 0 0)) (.bool true) (fun w1 hw h => by rw [Lr, hz2]; rfl) ?_
     refine ZI true ?_
     exact ZW (.int .i64 6)
    | true =>
    have hv2 := Mx hz2
    rw [hz2, hv2] at hf
    refine ZA (Zc 53 (.tmp 46) (.tmp 47) (pt s.cx s.cy) (pt 0 0)) (.bool false) (fun w1 hw h => by rw [Lr, hz2]; rfl) ?_
    refine ZI false ?_
    simp at hf
   | true =>
    obtain rfl : e = 0 := he.symm.trans (Sy hr Zd hst hf)
    unfold N5 at hf
    rw [hr, Nm (show ¬ ((0 : Int) < 0) by decide), Nm (show ¬ ((1 : Int) < 0) by decide), Nm (show ¬ ((2 : Int) < 0) by decide)] at hf
    refine K0.un Zk ?_
    refine ZR ?_
    refine K0.cond true Zk ?_
    refine ZS 19 ?_
    cases hz0 : (s.ax == 0 && s.ay == 0) with
    | false =>
     rw [hz0] at hf; simp at hf
    | true =>
    have hv0 := Mx hz0
    rw [hz0, hv0] at hf
    refine ZA (Zc 53 (.tmp 46) (.tmp 47) (pt s.ax s.ay) (pt 0 0)) (.bool false) (fun w1 hw h => by rw [Lr, hz0]; rfl) ?_
    refine ZI false ?_
    refine K0.cond true Zk ?_
    refine ZS 19 ?_
    cases hz1 : (s.bx == 0 && s.by_ == 0) with
    | false =>
     rw [hz1] at hf; simp at hf
    | true =>
    have hv1 := Mx hz1
    rw [hz1, hv1] at hf
    refine ZA (Zc 53 (.tmp 46) (.tmp 47) (pt s.bx s.by_) (pt 0 0)) (.bool false) (fun w1 hw h => by rw [Lr, hz1]; rfl) ?_
    refine ZI false ?_
    refine K0.cond true Zk ?_
    refine ZS 19 ?_
    cases hz2 : (s.cx == 0 && s.cy == 0) with
    | false =>
     rw [hz2] at hf; simp at hf
    | true =>
    have hv2 := Mx hz2
    rw [hz2, hv2] at hf
    refine ZA (Zc 53 (.tmp 46) (.tmp 47) (pt s.cx s.cy) (pt 0 0)) (.bool false) (fun w1 hw h => by rw [Lr, hz2]; rfl) ?_
    refine ZI false ?_
    refine ZI false ?_
    exact ZW (.int .i64 0)
 ·cases hst : Ma (Tg ls k) s.v with
  | false =>
   obtain rfl : e = 10 := he.symm.trans (Q8 hr Zd hst)
   refine ZC (fun w1 hw h => R4 hr) fun u => ?_
   refine ZI false ?_
   refine ZC (fun w1 hw h => Qw (c := c) (hs.below hw) hn hsk hst) fun u => ?_
   refine ZI true ?_
   exact ZW (.int .i64 10)
  | true =>
   refine ZC (fun w1 hw h => R4 hr) fun u => ?_
   refine ZI false ?_
   refine ZC (fun w1 hw h => Qw (c := c) (hs.below hw) hn hsk hst) fun u => ?_
   refine ZI false ?_
   refine ZA (Ke 39 (.slice A n c) k) (.pointer (some (ad.add (k * 7)))) (fun w1 hw h => Pf hA Zo) ?_
   refine ZA (L7 179 (ad.add (k * 7))) (s.val) (fun w1 hw h => X0 fun j u hj => Ky hw (hc j u hj)) ?_
   refine ZC (fun w1 hw h => three_m (s := s)) fun u => ?_
   cases hf : N5 s with
   | false =>
    obtain rfl : e = 6 := he.symm.trans (Rf hr Zd hst hf)
    unfold N5 at hf
    rw [hr, Ph (show (0 : Int) < 1 by decide), Nm (show ¬ ((1 : Int) < 1) by decide), Nm (show ¬ ((2 : Int) < 1) by decide)] at hf
    refine K0.un Zk ?_
    refine ZR ?_
    refine ZI true ?_
    cases hv0 : L0 s.ax s.ay with
    | false =>
     refine ZC (fun w1 hw h => Mf hv0) fun u => ?_
     refine ZI true ?_
     exact ZW (.int .i64 6)
    | true =>
    rw [hv0] at hf
    refine ZC (fun w1 hw h => Mf hv0) fun u => ?_
    refine ZI false ?_
    refine K0.cond true Zk ?_
    refine ZS 19 ?_
    cases hz1 : (s.bx == 0 && s.by_ == 0) with
    | false =>
     refine ZA (Zc 53 (.tmp 46) (.tmp 47) (pt s.bx s.by_) (pt 0 0)) (.bool true) (fun w1 hw h => by rw [Lr, hz1]; rfl) ?_
     refine ZI true ?_
     exact ZW (.int .i64 6)
    | true =>
    have hv1 := Mx hz1
    rw [hz1, hv1] at hf
    refine ZA (Zc 53 (.tmp 46) (.tmp 47) (pt s.bx s.by_) (pt 0 0)) (.bool false) (fun w1 hw h => by rw [Lr, hz1]; rfl) ?_
    refine ZI false ?_
    refine K0.cond true Zk ?_
    refine ZS 19 ?_
    cases hz2 : (s.cx == 0 && s.cy == 0) with
    | false =>
     refine ZA (Zc 53 (.tmp 46) (.tmp 47) (pt s.cx s.cy) (pt 0 0)) (.bool true) (fun w1 hw h => by rw [Lr, hz2]; rfl) ?_
     refine ZI true ?_
     exact ZW (.int .i64 6)
    | true =>
    have hv2 := Mx hz2
    rw [hz2, hv2] at hf
    refine ZA (Zc 53 (.tmp 46) (.tmp 47) (pt s.cx s.cy) (pt 0 0)) (.bool false) (fun w1 hw h => by rw [Lr, hz2]; rfl) ?_
    refine ZI false ?_
    simp at hf
   | true =>
    obtain rfl : e = 0 := he.symm.trans (Sy hr Zd hst hf)
    unfold N5 at hf
    rw [hr, Ph (show (0 : Int) < 1 by decide), Nm (show ¬ ((1 : Int) < 1) by decide), Nm (show ¬ ((2 : Int) < 1) by decide)] at hf
    refine K0.un Zk ?_
    refine ZR ?_
    refine ZI true ?_
    cases hv0 : L0 s.ax s.ay with
    | false =>
     rw [hv0] at hf; simp at hf
    | true =>
    rw [hv0] at hf
    refine ZC (fun w1 hw h => Mf hv0) fun u => ?_
    refine ZI false ?_
    refine K0.cond true Zk ?_
    refine ZS 19 ?_
    cases hz1 : (s.bx == 0 && s.by_ == 0) with
    | false =>
     rw [hz1] at hf; simp at hf
    | true =>
    have hv1 := Mx hz1
    rw [hz1, hv1] at hf
    refine ZA (Zc 53 (.tmp 46) (.tmp 47) (pt s.bx s.by_) (pt 0 0)) (.bool false) (fun w1 hw h => by rw [Lr, hz1]; rfl) ?_
    refine ZI false ?_
    refine K0.cond true Zk ?_
    refine ZS 19 ?_
    cases hz2 : (s.cx == 0 && s.cy == 0) with
    | false =>
     rw [hz2] at hf; simp at hf
    | true =>
    have hv2 := Mx hz2
    rw [hz2, hv2] at hf
    refine ZA (Zc 53 (.tmp 46) (.tmp 47) (pt s.cx s.cy) (pt 0 0)) (.bool false) (fun w1 hw h => by rw [Lr, hz2]; rfl) ?_
    refine ZI false ?_
    refine ZI false ?_
    exact ZW (.int .i64 0)
 ·cases hst : Ma (Tg ls k) s.v with
  | false =>
   obtain rfl : e = 10 := he.symm.trans (Q8 hr Zd hst)
   refine ZC (fun w1 hw h => R4 hr) fun u => ?_
   refine ZI false ?_
   refine ZC (fun w1 hw h => Qw (c := c) (hs.below hw) hn hsk hst) fun u => ?_
   refine ZI true ?_
   exact ZW (.int .i64 10)
  | true =>
   refine ZC (fun w1 hw h => R4 hr) fun u => ?_
   refine ZI false ?_
   refine ZC (fun w1 hw h => Qw (c := c) (hs.below hw) hn hsk hst) fun u => ?_
   refine ZI false ?_
   refine ZA (Ke 39 (.slice A n c) k) (.pointer (some (ad.add (k * 7)))) (fun w1 hw h => Pf hA Zo) ?_
   refine ZA (L7 179 (ad.add (k * 7))) (s.val) (fun w1 hw h => X0 fun j u hj => Ky hw (hc j u hj)) ?_
   refine ZC (fun w1 hw h => three_m (s := s)) fun u => ?_
   cases hf : N5 s with
   | false =>
    obtain rfl : e = 6 := he.symm.trans (Rf hr Zd hst hf)
    unfold N5 at hf
    rw [hr, Ph (show (0 : Int) < 2 by decide), Ph (show (1 : Int) < 2 by decide), Nm (show ¬ ((2 : Int) < 2) by decide)] at hf
    refine K0.un Zk ?_
    refine ZR ?_
    refine ZI true ?_
    cases hv0 : L0 s.ax s.ay with
    | false =>
     refine ZC (fun w1 hw h => Mf hv0) fun u => ?_
     refine ZI true ?_
     exact ZW (.int .i64 6)
    | true =>
    rw [hv0] at hf
    refine ZC (fun w1 hw h => Mf hv0) fun u => ?_
    refine ZI false ?_
    refine ZI true ?_
    cases hv1 : L0 s.bx s.by_ with
    | false =>
     refine ZC (fun w1 hw h => Mf hv1) fun u => ?_
     refine ZI true ?_
     exact ZW (.int .i64 6)
    | true =>
    rw [hv1] at hf
    refine ZC (fun w1 hw h => Mf hv1) fun u => ?_
    refine ZI false ?_
    refine K0.cond true Zk ?_
    refine ZS 19 ?_
    cases hz2 : (s.cx == 0 && s.cy == 0) with
    | false =>
     refine ZA (Zc 53 (.tmp 46) (.tmp 47) (pt s.cx s.cy) (pt 0 0)) (.bool true) (fun w1 hw h => by rw [Lr, hz2]; rfl) ?_
     refine ZI true ?_
     exact ZW (.int .i64 6)
    | true =>
    have hv2 := Mx hz2
    rw [hz2, hv2] at hf
    refine ZA (Zc 53 (.tmp 46) (.tmp 47) (pt s.cx s.cy) (pt 0 0)) (.bool false) (fun w1 hw h => by rw [Lr, hz2]; rfl) ?_
    refine ZI false ?_
    simp at hf
   | true =>
    obtain rfl : e = 0 := he.symm.trans (Sy hr Zd hst hf)
    unfold N5 at hf
    rw [hr, Ph (show (0 : Int) < 2 by decide), Ph (show (1 : Int) < 2 by decide), Nm (show ¬ ((2 : Int) < 2) by decide)] at hf
    refine K0.un Zk ?_
    refine ZR ?_
    refine ZI true ?_
    cases hv0 : L0 s.ax s.ay with
    | false =>
     rw [hv0] at hf; simp at hf
    | true =>
    rw [hv0] at hf
    refine ZC (fun w1 hw h => Mf hv0) fun u => ?_
    refine ZI false ?_
    refine ZI true ?_
    cases hv1 : L0 s.bx s.by_ with
    | false =>
     rw [hv1] at hf; simp at hf
    | true =>
    rw [hv1] at hf
    refine ZC (fun w1 hw h => Mf hv1) fun u => ?_
    refine ZI false ?_
    refine K0.cond true Zk ?_
    refine ZS 19 ?_
    cases hz2 : (s.cx == 0 && s.cy == 0) with
    | false =>
     rw [hz2] at hf; simp at hf
    | true =>
    have hv2 := Mx hz2
    rw [hz2, hv2] at hf
    refine ZA (Zc 53 (.tmp 46) (.tmp 47) (pt s.cx s.cy) (pt 0 0)) (.bool false) (fun w1 hw h => by rw [Lr, hz2]; rfl) ?_
    refine ZI false ?_
    refine ZI false ?_
    exact ZW (.int .i64 0)
 ·cases hst : Ma (Tg ls k) s.v with
  | false =>
   obtain rfl : e = 10 := he.symm.trans (Q8 hr Zd hst)
   refine ZC (fun w1 hw h => R4 hr) fun u => ?_
   refine ZI false ?_
   refine ZC (fun w1 hw h => Qw (c := c) (hs.below hw) hn hsk hst) fun u => ?_
   refine ZI true ?_
   exact ZW (.int .i64 10)
  | true =>
   refine ZC (fun w1 hw h => R4 hr) fun u => ?_
   refine ZI false ?_
   refine ZC (fun w1 hw h => Qw (c := c) (hs.below hw) hn hsk hst) fun u => ?_
   refine ZI false ?_
   refine ZA (Ke 39 (.slice A n c) k) (.pointer (some (ad.add (k * 7)))) (fun w1 hw h => Pf hA Zo) ?_
   refine ZA (L7 179 (ad.add (k * 7))) (s.val) (fun w1 hw h => X0 fun j u hj => Ky hw (hc j u hj)) ?_
   refine ZC (fun w1 hw h => three_m (s := s)) fun u => ?_
   cases hf : N5 s with
   | false =>
    obtain rfl : e = 6 := he.symm.trans (Rf hr Zd hst hf)
    unfold N5 at hf
    rw [hr, Ph (show (0 : Int) < 3 by decide), Ph (show (1 : Int) < 3 by decide), Ph (show (2 : Int) < 3 by decide)] at hf
    refine K0.un Zk ?_
    refine ZR ?_
    refine ZI true ?_
    cases hv0 : L0 s.ax s.ay with
    | false =>
     refine ZC (fun w1 hw h => Mf hv0) fun u => ?_
     refine ZI true ?_
     exact ZW (.int .i64 6)
    | true =>
    rw [hv0] at hf
    refine ZC (fun w1 hw h => Mf hv0) fun u => ?_
    refine ZI false ?_
    refine ZI true ?_
    cases hv1 : L0 s.bx s.by_ with
    | false =>
     refine ZC (fun w1 hw h => Mf hv1) fun u => ?_
     refine ZI true ?_
     exact ZW (.int .i64 6)
    | true =>
    rw [hv1] at hf
    refine ZC (fun w1 hw h => Mf hv1) fun u => ?_
    refine ZI false ?_
    refine ZI true ?_
    cases hv2 : L0 s.cx s.cy with
    | false =>
     refine ZC (fun w1 hw h => Mf hv2) fun u => ?_
     refine ZI true ?_
     exact ZW (.int .i64 6)
    | true =>
    rw [hv2] at hf
    refine ZC (fun w1 hw h => Mf hv2) fun u => ?_
    refine ZI false ?_
    simp at hf
   | true =>
    obtain rfl : e = 0 := he.symm.trans (Sy hr Zd hst hf)
    unfold N5 at hf
    rw [hr, Ph (show (0 : Int) < 3 by decide), Ph (show (1 : Int) < 3 by decide), Ph (show (2 : Int) < 3 by decide)] at hf
    refine K0.un Zk ?_
    refine ZR ?_
    refine ZI true ?_
    cases hv0 : L0 s.ax s.ay with
    | false =>
     rw [hv0] at hf; simp at hf
    | true =>
    rw [hv0] at hf
    refine ZC (fun w1 hw h => Mf hv0) fun u => ?_
    refine ZI false ?_
    refine ZI true ?_
    cases hv1 : L0 s.bx s.by_ with
    | false =>
     rw [hv1] at hf; simp at hf
    | true =>
    rw [hv1] at hf
    refine ZC (fun w1 hw h => Mf hv1) fun u => ?_
    refine ZI false ?_
    refine ZI true ?_
    cases hv2 : L0 s.cx s.cy with
    | false =>
     rw [hv2] at hf; simp at hf
    | true =>
    rw [hv2] at hf
    refine ZC (fun w1 hw h => Mf hv2) fun u => ?_
    refine ZI false ?_
    refine ZI false ?_
    exact ZW (.int .i64 0)
theorem rcheck_m {e : Int} {i : Nat} (hs : Yb w A n ls) (hn : n ≤ 1000000) (he : chk ls = (e, i)) : Calls Tryz.prog 202 #[.slice A n c] w (K5 w (fun _ : Unit => .tuple #[.int .i64 e, .int .i64 i]) fun _ _ => True) := by
 have hln := hs.1
 by_cases hbig : 256 < ls.length
 ·have hch : chk ls = (5, 256) := if_pos hbig
  rw [hch] at he
  obtain ⟨rfl, rfl⟩ := Prod.mk.inj he
  refine K0.enter Tryz.func202 rfl ?_
  refine ZR ?_
  refine ZJ (decide ((n : Int) > 256)) true Zp ?_
  exact ZW (.tuple #[.int .i64 5, .int .i64 256])
 have hch : chk ls = Y6 5 0 ls := if_neg hbig
 rw [hch] at he
 refine K0.enter Tryz.func202 rfl ?_
 refine ZR ?_
 refine ZJ (decide ((n : Int) > 256)) false Zp ?_
 refine K0.loop (ι := {k : Nat // k ≤ n ∧ Y6 5 0 ls = Y6 (Tg ls k) k (ls.drop k)}) 22 (fun q => ⟨[(0, .v (.slice A n c)), (4, .v (.int .i64 q.1))], []⟩) (fun _ _ => True) (fun q => n - q.1) (⟨0, Nat.zero_le _, rfl⟩) Zk (fun _ => by kernel_rfl) ⟨Zk, Zk, Zk⟩ (fun _ _ => trivial) ?_
 rintro ⟨k, hk1, hk2⟩ g
 by_cases hlt : k < n
 case neg =>
  rw [hk2, List.drop_of_length_le Zo] at he
  obtain ⟨rfl, rfl⟩ := Prod.mk.inj he
  refine ZR ?_
  refine ZJ (decide ((k : Int) < (n : Int))) false Zp ?_
  refine K0.leave Zk ?_
  refine ZR ?_
  exact ZW (.tuple #[.int .i64 0, .int .i64 0])
 obtain ⟨s, hsk⟩ : ∃ s, ls[k]? = some s := ⟨_, List.getElem?_eq_getElem Zo⟩
 rw [hk2, sg_drop hsk] at he
 rw [sg_drop hsk] at hk2
 refine ZR ?_
 refine ZJ (decide ((k : Int) < (n : Int))) true Zp ?_
 by_cases h0 : Z7 (Tg ls k) s = 0
 ·rw [Z1 h0, ← lastAt_succ hsk] at hk2
  refine ZC (fun w1 hw h => wrong_m (c := c) (hs.below hw) hn hsk h0) fun u => ?_
  refine ZI false ?_
  refine K0.slot 4 (.int .i64 (IntKind.i64.wrap ((k : Int) + 1))) (.int .i64 ((k + 1 : Nat) : Int)) Zk (by rw [Kc hlt Zo]) ?_
  refine K0.next (⟨k + 1, by omega, hk2⟩) Zk (by show n - (k + 1) < n - k; omega) ⟨Zk, Zk, Zk⟩ (fun _ _ => trivial)
 ·rw [P8 h0] at he
  obtain ⟨he1, rfl⟩ := Prod.mk.inj he
  have he0 : e ≠ 0 := by rw [← he1]; exact h0
  refine ZC (fun w1 hw h => wrong_m (c := c) (hs.below hw) hn hsk he1) fun u => ?_
  refine ZJ ((e != 0)) true (by simpa using he0) ?_
  refine K0.leave Zk ?_
  refine ZR ?_
  exact ZW (.tuple #[.int .i64 e, .int .i64 k])
theorem Uk {B : Bool} (hs : Yb w A n ls) (hn : n ≤ 1000000) (hB : decide ((chk ls).1 = 0) = B) : Calls Tryz.prog 146 #[.slice A n c] w (K5 w (fun _ : Unit => .bool B) fun _ _ => True) := by
 obtain ⟨e, i, he⟩ : ∃ e i, chk ls = (e, i) := ⟨_, _, rfl⟩
 rw [he] at hB
 refine K0.enter Tryz.func146 rfl ?_
 refine ZR ?_
 refine ZC (fun w1 hw h => rcheck_m (c := c) (hs.below hw) hn he) fun u => ?_
 exact ZX (.bool (e == 0)) (by rw [← hB]; rfl)
end
def V9 (s : Sg) : List (Int × Int) := [(s.ax, s.ay), (s.bx, s.by_), (s.cx, s.cy)]
def ptsS (s : Sg) : List (Int × Int) := (V9 s).take (Mr s.v).toNat
def Oa (p : Int × Int) : List (List UInt8) := [K6 p.1, K6 p.2]
def On (v : Int) : UInt8 := if v = 1 then 77 else if v = 2 then 76 else if v = 3 then 81 else if v = 4 then 67 else 90
def segW (s : Sg) : List (List UInt8) := [On s.v] :: (ptsS s).flatMap Oa
def Nz (l : List Sg) : List (List UInt8) := l.flatMap segW
def N9 (l : List Sg) : List UInt8 := Mj 32 (Nz l)
def Pv (l : List Sg) : Bool := decide ((chk l).1 = 0)
def GoodS (s : Sg) : Prop := (s.v = 1 ∨ s.v = 2 ∨ s.v = 3 ∨ s.v = 4 ∨ s.v = 5) ∧ N5 s = true
theorem chkL_good : ∀ {last : Int} {k : Nat} {l : List Sg}, (Y6 last k l).1 = 0 → ∀ s ∈ l, GoodS s
 | _, _, [], _, s, hs => by cases hs
 | last, k, s :: l, h, t, ht => by
  rw [Y6] at h
  split at h
  ·rename_i h0
   have hs : GoodS s := by
    unfold Z7 at h0
    split at h0
    ·cases h0
    ·rename_i hn
     split at h0
     ·cases h0
     ·split at h0
      ·cases h0
      ·rename_i hf
       refine ⟨?_, by cases hb : N5 s; exact absurd hb hf; rfl⟩
       rcases named_cases s.v with h1 | h1 | h1 | h1 | h1 | h1
       ·exact .inl h1
       ·exact .inr (.inl h1)
       ·exact .inr (.inr (.inl h1))
       ·exact .inr (.inr (.inr (.inl h1)))
       ·exact .inr (.inr (.inr (.inr h1)))
       ·rw [Qx h1] at hn; omega
   rcases List.mem_cons.1 ht with rfl | ht
   ·exact hs
   ·exact chkL_good h t ht
  ·rename_i h0; exact absurd h h0
theorem good_path {l : List Sg} (h : Pv l = true) : (∀ s ∈ l, GoodS s) ∧ l.length ≤ 256 := by
 have h1 : (chk l).1 = 0 := of_decide_eq_true h
 unfold chk at h1
 split at h1
 ·cases h1
 ·exact ⟨chkL_good h1, by omega⟩
theorem fits_rng {s : Sg} (h : N5 s = true) : (-1048576 ≤ s.ax ∧ s.ax ≤ 1048576 ∧ -1048576 ≤ s.ay ∧ s.ay ≤ 1048576) ∧ (-1048576 ≤ s.bx ∧ s.bx ≤ 1048576 ∧ -1048576 ≤ s.by_ ∧ s.by_ ≤ 1048576) ∧ (-1048576 ≤ s.cx ∧ s.cx ≤ 1048576 ∧ -1048576 ≤ s.cy ∧ s.cy ≤ 1048576) := by
 simp only [N5, okP, Bool.and_eq_true, L0, decide_eq_true_eq] at h
 omega
theorem My {x : Int} (h : -1048576 ≤ x ∧ x ≤ 1048576) : (K6 x).length ≤ 25 := by
 have := Qg (x := x) (k := 1) Zd (by rw [show pw 1 = 4294967296 from by decide]; omega)
 omega
theorem Xw (c : UInt8) (x : List UInt8) (l : List (List UInt8)) : Mj c (x :: l) = x ++ l.flatMap (c :: ·) := by
 induction l generalizing x with
 | nil => simp [Mj]
 | cons y l ih =>
  show x ++ c :: Mj c (y :: l) = _
  rw [ih y]; simp
theorem joinBy_app (c : UInt8) {a b : List (List UInt8)} (ha : a ≠ []) : Mj c (a ++ b) = Mj c a ++ b.flatMap (c :: ·) := by
 cases a with
 | nil => exact absurd rfl ha
 | cons x a => rw [List.cons_append, Xw, Xw]; simp
theorem wordsP_snoc {l : List Sg} {k : Nat} {s : Sg} (h : l[k]? = some s) : Nz (l.take (k + 1)) = Nz (l.take k) ++ segW s := by
 unfold Nz; rw [List.take_add_one, h]; simp
theorem segW_len (s : Sg) : (segW s).length ≤ 7 := by
 have h1 : (ptsS s).length ≤ 3 := by unfold ptsS V9; rw [List.length_take]; simp; omega
 simp only [segW, Oa, List.length_cons, List.length_flatMap]
 have h2 : ∀ l : List (Int × Int), (l.map fun _ => 0 + 1 + 1).sum = 2 * l.length := fun l => by
  induction l with
  | nil => rfl
  | cons p l ih => simp only [List.map_cons, List.sum_cons, ih, List.length_cons]; omega
 have h3 := h2 (ptsS s)
 simp only [List.length_nil] at h3 ⊢
 omega
theorem Zq : ∀ l : List Sg, (Nz l).length ≤ 7 * l.length
 | [] => Nat.le_refl _
 | s :: l => by
  have ih := Zq l
  have := segW_len s
  simp only [Nz, List.flatMap_cons, List.length_append, List.length_cons] at ih ⊢
  omega
theorem segW_sum {s : Sg} (h : GoodS s) : M2 (segW s) ≤ 151 := by
 obtain ⟨h1, h2, h3⟩ := fits_rng h.2
 have a1 := My ⟨h1.1, h1.2.1⟩
 have a2 := My ⟨h1.2.2.1, h1.2.2.2⟩
 have b1 := My ⟨h2.1, h2.2.1⟩
 have b2 := My ⟨h2.2.2.1, h2.2.2.2⟩
 have c1 := My ⟨h3.1, h3.2.1⟩
 have c2 := My ⟨h3.2.2.1, h3.2.2.2⟩
 unfold segW ptsS V9
 rcases named_rng s.v with hr | hr | hr | hr | hr <;> rw [hr] <;> simp [M2, Oa] <;> omega
theorem wordsP_sum : ∀ {l : List Sg}, (∀ s ∈ l, GoodS s) → M2 (Nz l) ≤ 151 * l.length
 | [], _ => Nat.le_refl _
 | s :: l, h => by
  have ih := wordsP_sum (l := l) fun t ht => h t (by simp [ht])
  have := segW_sum (h s Zs)
  have e : Nz (s :: l) = segW s ++ Nz l := by simp [Nz]
  rw [e, P3]
  simp only [List.length_cons]
  omega
theorem fmtP_len {l : List Sg} (h : ∀ s ∈ l, GoodS s) : (N9 l).length ≤ 158 * l.length := by
 have h1 := join_len 32 (Nz l)
 have h2 := wordsP_sum h
 have h3 := Zq l
 unfold N9; omega
theorem mem_take {l : List Sg} {k : Nat} (h : ∀ s ∈ l, GoodS s) : ∀ s ∈ l.take k, GoodS s := fun s hs => h s (List.mem_of_mem_take hs)
section
variable {w : World} {A : Option Addr} {n c : Nat} {ls : List Sg}
theorem lit_ne {u : World} {B m cc g : Nat} {Y : Option Addr} {xs : List Value} {cells : Array Value} (h : K7 u B 9 1 Y m cc xs) (hl : Kp 53 cells g u) : g ∉ bl Y := fun hg => by
 obtain ⟨cur, own, h1⟩ := h.ty g hg
 have h2 : u.heap[g]? = some (.cells cells 53 (0, 0)) := hl
 rw [h2] at h1
 simp only [Option.some.injEq, Obj.cells.injEq] at h1
 exact absurd h1.2.1 Zd
theorem points_m {v r : Int} (hv : v = 1 ∨ v = 2 ∨ v = 3 ∨ v = 4 ∨ v = 5) (h : Mr v = r) : Calls Tryz.prog 136 #[.int .i64 v] w (K5 w (fun _ : Unit => .int .i64 r) fun _ _ => True) := by
 rcases hv with rfl | rfl | rfl | rfl | rfl
 ·obtain rfl : r = 1 := h.symm
  refine K0.enter Tryz.func136 rfl ?_
  refine ZR ?_
  exact ZW (.int .i64 1)
 ·obtain rfl : r = 1 := h.symm
  refine K0.enter Tryz.func136 rfl ?_
  refine ZR ?_
  exact ZW (.int .i64 1)
 ·obtain rfl : r = 2 := h.symm
  refine K0.enter Tryz.func136 rfl ?_
  refine ZR ?_
  exact ZW (.int .i64 2)
 ·obtain rfl : r = 3 := h.symm
  refine K0.enter Tryz.func136 rfl ?_
  refine ZR ?_
  exact ZW (.int .i64 3)
 ·obtain rfl : r = 0 := h.symm
  refine K0.enter Tryz.func136 rfl ?_
  refine ZR ?_
  exact ZW (.int .i64 0)
theorem app_strs {B m yc gb : Nat} {y : Option Addr} {p l : List (List UInt8)} (ho : K7 w B 9 1 y m yc (sv p)) (hB : B ≤ w.heap.size) (hg : Kp 9 (sv l).toArray gb w) (hm : m < 1000000) (hl : l.length ≤ 10) :
 Pm Tryz.prog w (bl y) (fun z : Option Addr × Nat => .slice z.1 (m + l.length) z.2) (fun z v => K7 v B 9 1 z.1 (m + l.length) z.2 (sv (p ++ l))) (Lh 64 64 (.slice y m yc) (Kb l.length gb)) := by
 have ha := Ok (P := Tryz.prog) (s := 1) (z := .string ⟨#[]⟩) (bytes := 16) (m := l.length) (cc := l.length) (t := 64) (elem := 9) Zk Zk rfl Zd ho hB (Ni (n := l.length) hg (by simp [sv])) (by intro v hv; simp [sv] at hv; obtain ⟨x, _, rfl⟩ := hv; rfl) Zo Zd
 have e : sv (p ++ l) = sv p ++ sv l := by simp [sv]
 rw [e]; exact ha
theorem run_slHp {g n c i : Nat} (hi : i ≤ c := by decide) : (slH 180 (.slice (some ⟨g, 0, none⟩) n c) i).run Tryz.prog w = .ok (.value (.slice (some ⟨g, 0, none⟩) i c)) w := by
 have ht : Tryz.prog.underlying 180 = some (.slice 53) := by kernel_rfl
 have he : Tryz.prog.elem 180 = 53 := by kernel_rfl
 have hs : O9 Tryz.prog 53 = some 2 := by kernel_rfl
 have h1 := run_slice_h (P := Tryz.prog) w 180 (some ⟨g, 0, none⟩) n c (by rw [he]; exact ht) .i64 i Zo Zo
 have h2 := run_sliceAt_slice (P := Tryz.prog) w 180 (.slice (some ⟨g, 0, none⟩) n c) none (some (.int .i64 i)) none (by rw [he]; exact ht)
 simp only [slH, Sem.run_bind, h2, h1, he, Ln hs, Result.andThen_ok, Sem.run_pure]
 simp [sliced, Addr.add]
end
section
variable {w : World} {A : Option Addr} {n c : Nat} {ls : List Sg}
theorem run_let {v : Int} (hv : v = 1 ∨ v = 2 ∨ v = 3 ∨ v = 4 ∨ v = 5) : (slC 9 (K3 [32, 77, 76, 81, 67, 90]) .i64 v (IntKind.i64.wrap (v + 1))).run Tryz.prog w = .ok (.value (K3 [On v])) w := by
 rcases hv with rfl | rfl | rfl | rfl | rfl
 ·exact Og (i := 1) Zk rfl
 ·exact Og (i := 2) Zk rfl
 ·exact Og (i := 3) Zk rfl
 ·exact Og (i := 4) Zk rfl
 ·exact Og (i := 5) Zk rfl
theorem tri_ld {g j : Nat} {v ax ay bx by_ cx cy : Int} {q : Int × Int} (h : Kp 53 #[.int .i64 ax, .int .i64 ay, .int .i64 bx, .int .i64 by_, .int .i64 cx, .int .i64 cy] g w) (hq : (V9 ⟨v, ax, ay, bx, by_, cx, cy⟩)[j]? = some q) : (L7 53 ⟨g, j * 2, none⟩).run Tryz.prog w = .ok (.value (pt q.1 q.2)) w := by
 rcases j with _ | _ | _ | j
 ·obtain rfl : (ax, ay) = q := by simpa [V9] using hq
  refine Qs h fun i x hx => ?_
  rcases i with _ | _ | i <;> simp at hx <;> subst hx <;> rfl
 ·obtain rfl : (bx, by_) = q := by simpa [V9] using hq
  refine Qs h fun i x hx => ?_
  rcases i with _ | _ | i <;> simp at hx <;> subst hx <;> rfl
 ·obtain rfl : (cx, cy) = q := by simpa [V9] using hq
  refine Qs h fun i x hx => ?_
  rcases i with _ | _ | i <;> simp at hx <;> subst hx <;> rfl
 ·simp [V9] at hq
theorem tri_rng {s : Sg} {j : Nat} {q : Int × Int} (h : N5 s = true) (hq : (V9 s)[j]? = some q) : -1048576 ≤ q.1 ∧ q.1 ≤ 1048576 ∧ -1048576 ≤ q.2 ∧ q.2 ≤ 1048576 := by
 obtain ⟨ra, rb, rc⟩ := fits_rng h
 rcases j with _ | _ | _ | j
 ·obtain rfl : (s.ax, s.ay) = q := by simpa [V9] using hq
  exact ra
 ·obtain rfl : (s.bx, s.by_) = q := by simpa [V9] using hq
  exact rb
 ·obtain rfl : (s.cx, s.cy) = q := by simpa [V9] using hq
  exact rc
 ·simp [V9] at hq
theorem named_good {v : Int} (hv : v = 1 ∨ v = 2 ∨ v = 3 ∨ v = 4 ∨ v = 5) : ∃ r : Nat, Mr v = (r : Int) ∧ r ≤ 3 := by
 rcases hv with rfl | rfl | rfl | rfl | rfl
 ·exact ⟨1, rfl, by decide⟩
 ·exact ⟨1, rfl, by decide⟩
 ·exact ⟨2, rfl, by decide⟩
 ·exact ⟨3, rfl, by decide⟩
 ·exact ⟨0, rfl, by decide⟩
theorem format_s (hs : Yb w A n ls) (hB : Pv ls = true) : Calls Tryz.prog 75 #[.slice A n c] w (K5 w (fun _ : Unit => .tuple #[K3 (N9 ls), .int .i64 0]) fun _ _ => True) := by
 have hln := hs.1
 obtain ⟨hgood, hsmall⟩ := good_path hB
 have hfl := fmtP_len hgood
 refine K0.enter Tryz.func75 rfl ?_
 refine ZR ?_
 refine ZC (fun w1 hw h => validL_m (c := c) (hs.below hw) Zo hB) fun u => ?_
 refine ZI false ?_
 refine K0.loop (ι := {q : Nat × Nat × (Option Addr × Nat) // q.1 ≤ n ∧ q.2.1 = (Nz (ls.take q.1)).length}) 56 (fun q => ⟨[(0, .v (.slice A n c)), (4, .v (.slice q.1.2.2.1 q.1.2.1 q.1.2.2.2)), (12, .v (.slice A n c)), (13, .v (.int .i64 n)), (14, .v (.int .i64 q.1.1))], []⟩) (fun q u => K7 u w.heap.size 9 1 q.1.2.2.1 q.1.2.1 q.1.2.2.2 (sv (Nz (ls.take q.1.1)))) (fun q => n - q.1.1) (⟨(0, 0, none, 0), Nat.zero_le _, rfl⟩) Zk (fun _ => by kernel_rfl) ⟨Zk, Zk, Zk⟩ (fun u h => K7.nil_) ?_
 rintro ⟨⟨k, m, y, yc⟩, hk, hm⟩ gg
 have hk : k ≤ n := hk
 have hm : m = (Nz (ls.take k)).length := hm
 have hml : m ≤ 7 * 256 := by
  have h1 := Zq (ls.take k)
  have h2 : (ls.take k).length ≤ 256 := by rw [List.length_take]; omega
  omega
 by_cases hlt : k < n
 case neg =>
  obtain rfl : k = n := by omega
  have hfull : ls.take k = ls := List.take_of_length_le Zo
  refine ZR ?_
  refine ZJ (decide ((k : Int) < (k : Int))) false Zs ?_
  refine K0.leave Zk ?_
  refine ZR ?_
  refine ZC (fun w1 hw h => join_m (p := Nz ls) (by rw [← hfull]; exact h) (by show (N9 ls).length ≤ _; omega) (show m ≤ 100000000 from by omega)) fun u => ?_
  exact ZW (.tuple #[K3 (Mj 32 (Nz ls)), .int .i64 0])
 obtain ⟨s, hsk⟩ : ∃ s, ls[k]? = some s := ⟨_, List.getElem?_eq_getElem Zo⟩
 obtain ⟨ad, hA, hc⟩ := hs.2 k s hsk
 have hgs := hgood s (List.mem_of_getElem? hsk)
 have hnext := wordsP_snoc hsk
 obtain ⟨p, hp⟩ : ∃ p, p = Nz (ls.take k) := ⟨_, rfl⟩
 rw [← hp] at hnext hm
 refine ZR ?_
 refine ZJ (decide ((k : Int) < (n : Int))) true Zp ?_
 refine ZA (Ke 39 (.slice A n c) k) (.pointer (some (ad.add (k * 7)))) (fun w1 hw h => Pf hA hlt) ?_
 have htri := @tri_rng s
 obtain ⟨v, ax, ay, bx, by_, cx, cy⟩ := s
 obtain ⟨hv, hfit⟩ := hgs
 replace htri := fun j q => @htri j q hfit
 have hv : v = 1 ∨ v = 2 ∨ v = 3 ∨ v = 4 ∨ v = 5 := hv
 obtain ⟨r, hr, hr3⟩ := named_good hv
 have hpts : segW ⟨v, ax, ay, bx, by_, cx, cy⟩ = [On v] :: ((V9 ⟨v, ax, ay, bx, by_, cx, cy⟩).take r).flatMap Oa := by
  unfold segW ptsS; rw [show (Sg.mk v ax ay bx by_ cx cy).v = v from rfl, hr]; rfl
 obtain ⟨T, hT⟩ : ∃ T, T = V9 ⟨v, ax, ay, bx, by_, cx, cy⟩ := ⟨_, rfl⟩
 have hTl : T.length = 3 := by rw [hT]; rfl
 rw [hpts, ← hT] at hnext
 refine K0.ask (L7 179 (ad.add (k * 7))) (Sg.val ⟨v, ax, ay, bx, by_, cx, cy⟩) Zk (fun w1 hw h => X0 fun j u hj => Ky hw (hc j u hj)) ?_
 refine ZS 6 ?_
 refine K0.ask (slC 9 (K3 [32, 77, 76, 81, 67, 90]) .i64 v (IntKind.i64.wrap (v + 1))) (K3 [On v]) Zk (fun w1 hw h => run_let hv) ?_
 refine ZS 7 ?_
 refine K0.make (Ks 64 1 #[(0, K3 [On v])]) (Kb 1) (Kp 9 #[K3 [On v]]) Zk (fun w1 hw h => K8 Zk) (fun gb => ?_)
 refine ZS 8 ?_
 refine K0.mutOp (L := bl y) (val := fun (z : Option Addr × Nat) => .slice z.1 (m + 1) z.2) (Φ' := fun (z : Option Addr × Nat) vv => K7 vv w.heap.size 9 1 z.1 (m + 1) z.2 (sv (p ++ [[On v]]))) (G := fun (z : Option Addr × Nat) vv => K7 vv w.heap.size 9 1 z.1 (m + 1) z.2 (sv (p ++ [[On v]]))) (Lh 64 64 (.slice y m yc) (Kb 1 gb)) (fun w1 hw h => by have ho : K7 w1 w.heap.size 9 1 y m yc (sv (p)) := (by rw [hp]; exact h.1); exact app_strs (l := [[On v]]) ho hw.size h.2 (show m < 1000000 from by omega) Zs) (fun w1 h => fun b hb => ⟨((show K7 w1 w.heap.size 9 1 y m yc (sv (p)) from (by rw [hp]; exact h.1)).lt b hb).1, ((show K7 w1 w.heap.size 9 1 y m yc (sv (p)) from (by rw [hp]; exact h.1)).blk b hb).2⟩) (fun z wa w1 e1 e2 h hG => hG) Zk Zk (fun z => ?_)
 refine ZR ?_
 refine K0.two (i := 6) (j := 9) Zk ?_ ?_
 ·
  refine O0.make (i := 6) (Ks (180) 3 #[(0, pt ax ay), (1, pt bx by_), (2, pt cx cy)]) (Kb 3) (Kp 53 #[.int .i64 ax, .int .i64 ay, .int .i64 bx, .int .i64 by_, .int .i64 cx, .int .i64 cy]) Zk (fun w1 hw h => K8 Zk) (fun g => ?_)
  refine ZR ?_
  refine ZD 10 (fun w1 hw h => points_m hv hr) fun u => ?_
  refine ZA (slH 180 (.slice (some ⟨g, 0, none⟩) 3 3) (r : Nat)) (.slice (some ⟨g, 0, none⟩) r 3) (fun w1 hw h => run_slHp Zo) ?_
  refine K0.loop (ι := {q : Nat × Nat × (Option Addr × Nat) // q.1 ≤ r ∧ q.2.1 = m + 1 + 2 * q.1}) 56 (fun q => ⟨[(0, .v (.slice A n c)), (4, .v (.slice q.1.2.2.1 q.1.2.1 q.1.2.2.2)), (12, .v (.slice A n c)), (13, .v (.int .i64 n)), (14, .v (.int .i64 k)), (37, .v (.slice (some ⟨g, 0, none⟩) r 3)), (38, .v (.int .i64 r)), (39, .v (.int .i64 q.1.1))], []⟩) (fun q u => K7 u w.heap.size 9 1 q.1.2.2.1 q.1.2.1 q.1.2.2.2 (sv ((p ++ [[On v]]) ++ (T.take q.1.1).flatMap Oa)) ∧ Kp 53 #[.int .i64 ax, .int .i64 ay, .int .i64 bx, .int .i64 by_, .int .i64 cx, .int .i64 cy] g u) (fun q => r - q.1.1) (⟨(0, m + 1, z.1, z.2), Nat.zero_le _, rfl⟩) Zk (fun _ => by kernel_rfl) ⟨Zk, Zk, Zk⟩ (fun u h => (by have h2 := h; simp only [List.take_zero, List.flatMap_nil, List.append_nil]; exact ⟨h2.1.1, h2.1.2⟩)) ?_
  rintro ⟨⟨j, mj, y2, yc2⟩, hj, hmj⟩ gg2
  have hj : j ≤ r := hj
  have hmj : mj = m + 1 + 2 * j := hmj
  by_cases hlt2 : j < r
  case neg =>
   obtain rfl : j = r := by omega
   refine ZR ?_
   refine ZJ (decide ((j : Int) < (j : Int))) false Zs ?_
   refine K0.leave Zk ?_
   refine ZR ?_
   refine K0.slot 14 (.int .i64 (IntKind.i64.wrap ((k : Int) + 1))) (.int .i64 ((k + 1 : Nat) : Int)) Zk (by rw [Kc hlt Zo]) ?_
   refine K0.next (⟨(k + 1, mj, y2, yc2), by show k + 1 ≤ n; omega, by show mj = _; rw [hnext]; simp only [List.length_append, List.length_cons, List.length_flatMap, Oa, List.length_nil]; have e : ∀ l : List (Int × Int), (l.map fun _ => 0 + 1 + 1).sum = 2 * l.length := (fun l => by induction l with | nil => rfl | cons p l ih => simp only [List.map_cons, List.sum_cons, ih, List.length_cons]; omega); rw [e, List.length_take, hTl]; omega⟩) Zk (by show n - (k + 1) < n - k; omega) ⟨Zk, Zk, Zk⟩ (fun u h => (by have h1 := h.1; show K7 u w.heap.size 9 1 y2 mj yc2 (sv (Nz (ls.take (k + 1)))); rw [hnext, List.append_cons]; exact h1))
  obtain ⟨q, hq⟩ : ∃ q, T[j]? = some q := ⟨_, List.getElem?_eq_getElem Zo⟩
  have hstep : (T.take (j + 1)).flatMap Oa = (T.take j).flatMap Oa ++ [K6 q.1, K6 q.2] := by rw [List.take_add_one, hq]; simp [Oa]
  obtain ⟨pj, hpj⟩ : ∃ pj, pj = (p ++ [[On v]]) ++ (T.take j).flatMap Oa := ⟨_, rfl⟩
  have hrng := htri j q (hT ▸ hq)
  refine ZR ?_
  refine ZJ (decide ((j : Int) < (r : Int))) true Zp ?_
  refine ZA (Ke 180 (.slice (some ⟨g, 0, none⟩) r 3) j) (.pointer (some ⟨g, j * 2, none⟩)) (fun w1 hw h => Kn (elem := 53) Zk Zk hlt2) ?_
  refine ZA (L7 53 ⟨g, j * 2, none⟩) (pt q.1 q.2) (fun w1 hw h => tri_ld h.2 (hT ▸ hq)) ?_
  refine ZC (fun w1 hw h => Kk (n := q.1) Zo Zo) fun u1 => ?_
  refine ZC (fun w1 hw h => Kk (n := q.2) Zo Zo) fun u2 => ?_
  refine K0.make (Ks 64 2 #[(0, K3 (K6 q.1)), (1, K3 (K6 q.2))]) (Kb 2) (Kp 9 #[K3 (K6 q.1), K3 (K6 q.2)]) Zk (fun w1 hw h => K8 Zk) (fun gb2 => ?_)
  refine ZS 8 ?_
  refine K0.mutAny (L := bl y2) (val := fun (z : Option Addr × Nat) => .slice z.1 (mj + 2) z.2) (Φ' := fun (z : Option Addr × Nat) vv => K7 vv w.heap.size 9 1 z.1 (mj + 2) z.2 (sv (pj ++ [K6 q.1, K6 q.2])) ∧ Kp 53 #[.int .i64 ax, .int .i64 ay, .int .i64 bx, .int .i64 by_, .int .i64 cx, .int .i64 cy] g vv) (G := fun (z : Option Addr × Nat) vv => K7 vv w.heap.size 9 1 z.1 (mj + 2) z.2 (sv (pj ++ [K6 q.1, K6 q.2]))) (Lh 64 64 (.slice y2 mj yc2) (Kb 2 gb2)) (fun w1 hw h => by have ho : K7 w1 w.heap.size 9 1 y2 mj yc2 (sv (pj)) := (by rw [hpj]; exact h.1.1.1.1); exact app_strs (l := [K6 q.1, K6 q.2]) ho hw.size h.2 (show mj < 1000000 from by omega) Zs) (fun w1 h => fun b hb => ⟨((show K7 w1 w.heap.size 9 1 y2 mj yc2 (sv (pj)) from (by rw [hpj]; exact h.1.1.1.1)).lt b hb).1, ((show K7 w1 w.heap.size 9 1 y2 mj yc2 (sv (pj)) from (by rw [hpj]; exact h.1.1.1.1)).blk b hb).2⟩) (fun z wa w1 e1 e2 h hG => ⟨hG, (e2 g (lit_ne (show K7 wa w.heap.size 9 1 y2 mj yc2 (sv (pj)) from (by rw [hpj]; exact h.1.1.1.1)) h.1.1.1.2)).symm.trans h.1.1.1.2⟩) Zk Zk (fun z2 => ?_)
  refine ZR ?_
  refine K0.slot 39 (.int .i64 (IntKind.i64.wrap ((j : Int) + 1))) (.int .i64 ((j + 1 : Nat) : Int)) Zk (by rw [Kc hlt2 Zo]) ?_
  refine K0.next (⟨(j + 1, mj + 2, z2.1, z2.2), by show j + 1 ≤ r; omega, by show mj + 2 = _; omega⟩) Zk (by show r - (j + 1) < r - j; omega) ⟨Zk, Zk, Zk⟩ (fun u h => ⟨(by have h1 := h.1; show K7 u w.heap.size 9 1 z2.1 (mj + 2) z2.2 (sv ((p ++ [[On v]]) ++ (T.take (j + 1)).flatMap Oa)); rw [hstep, ← List.append_assoc, ← hpj]; exact h1), h.2⟩)
 ·
  refine O0.callv (i := 9) (fun w1 hw h => points_m hv hr) Zk (fun u => ?_)
  refine ZR ?_
  refine K0.make (Ks (180) 3 #[(0, pt ax ay), (1, pt bx by_), (2, pt cx cy)]) (Kb 3) (Kp 53 #[.int .i64 ax, .int .i64 ay, .int .i64 bx, .int .i64 by_, .int .i64 cx, .int .i64 cy]) Zk (fun w1 hw h => K8 Zk) (fun g => ?_)
  refine ZS 10 ?_
  refine ZA (slH 180 (.slice (some ⟨g, 0, none⟩) 3 3) (r : Nat)) (.slice (some ⟨g, 0, none⟩) r 3) (fun w1 hw h => run_slHp Zo) ?_
  refine K0.loop (ι := {q : Nat × Nat × (Option Addr × Nat) // q.1 ≤ r ∧ q.2.1 = m + 1 + 2 * q.1}) 56 (fun q => ⟨[(0, .v (.slice A n c)), (4, .v (.slice q.1.2.2.1 q.1.2.1 q.1.2.2.2)), (12, .v (.slice A n c)), (13, .v (.int .i64 n)), (14, .v (.int .i64 k)), (37, .v (.slice (some ⟨g, 0, none⟩) r 3)), (38, .v (.int .i64 r)), (39, .v (.int .i64 q.1.1))], []⟩) (fun q u => K7 u w.heap.size 9 1 q.1.2.2.1 q.1.2.1 q.1.2.2.2 (sv ((p ++ [[On v]]) ++ (T.take q.1.1).flatMap Oa)) ∧ Kp 53 #[.int .i64 ax, .int .i64 ay, .int .i64 bx, .int .i64 by_, .int .i64 cx, .int .i64 cy] g u) (fun q => r - q.1.1) (⟨(0, m + 1, z.1, z.2), Nat.zero_le _, rfl⟩) Zk (fun _ => by kernel_rfl) ⟨Zk, Zk, Zk⟩ (fun u h => (by have h2 := h; simp only [List.take_zero, List.flatMap_nil, List.append_nil]; exact ⟨h2.1.1, h2.2⟩)) ?_
  rintro ⟨⟨j, mj, y2, yc2⟩, hj, hmj⟩ gg2
  have hj : j ≤ r := hj
  have hmj : mj = m + 1 + 2 * j := hmj
  by_cases hlt2 : j < r
  case neg =>
   obtain rfl : j = r := by omega
   refine ZR ?_
   refine ZJ (decide ((j : Int) < (j : Int))) false Zs ?_
   refine K0.leave Zk ?_
   refine ZR ?_
   refine K0.slot 14 (.int .i64 (IntKind.i64.wrap ((k : Int) + 1))) (.int .i64 ((k + 1 : Nat) : Int)) Zk (by rw [Kc hlt Zo]) ?_
   refine K0.next (⟨(k + 1, mj, y2, yc2), by show k + 1 ≤ n; omega, by show mj = _; rw [hnext]; simp only [List.length_append, List.length_cons, List.length_flatMap, Oa, List.length_nil]; have e : ∀ l : List (Int × Int), (l.map fun _ => 0 + 1 + 1).sum = 2 * l.length := (fun l => by induction l with | nil => rfl | cons p l ih => simp only [List.map_cons, List.sum_cons, ih, List.length_cons]; omega); rw [e, List.length_take, hTl]; omega⟩) Zk (by show n - (k + 1) < n - k; omega) ⟨Zk, Zk, Zk⟩ (fun u h => (by have h1 := h.1; show K7 u w.heap.size 9 1 y2 mj yc2 (sv (Nz (ls.take (k + 1)))); rw [hnext, List.append_cons]; exact h1))
  obtain ⟨q, hq⟩ : ∃ q, T[j]? = some q := ⟨_, List.getElem?_eq_getElem Zo⟩
  have hstep : (T.take (j + 1)).flatMap Oa = (T.take j).flatMap Oa ++ [K6 q.1, K6 q.2] := by rw [List.take_add_one, hq]; simp [Oa]
  obtain ⟨pj, hpj⟩ : ∃ pj, pj = (p ++ [[On v]]) ++ (T.take j).flatMap Oa := ⟨_, rfl⟩
  have hrng := htri j q (hT ▸ hq)
  refine ZR ?_
  refine ZJ (decide ((j : Int) < (r : Int))) true Zp ?_
  refine ZA (Ke 180 (.slice (some ⟨g, 0, none⟩) r 3) j) (.pointer (some ⟨g, j * 2, none⟩)) (fun w1 hw h => Kn (elem := 53) Zk Zk hlt2) ?_
  refine ZA (L7 53 ⟨g, j * 2, none⟩) (pt q.1 q.2) (fun w1 hw h => tri_ld h.2 (hT ▸ hq)) ?_
  refine ZC (fun w1 hw h => Kk (n := q.1) Zo Zo) fun u1 => ?_
  refine ZC (fun w1 hw h => Kk (n := q.2) Zo Zo) fun u2 => ?_
  refine K0.make (Ks 64 2 #[(0, K3 (K6 q.1)), (1, K3 (K6 q.2))]) (Kb 2) (Kp 9 #[K3 (K6 q.1), K3 (K6 q.2)]) Zk (fun w1 hw h => K8 Zk) (fun gb2 => ?_)
  refine ZS 8 ?_
  refine K0.mutAny (L := bl y2) (val := fun (z : Option Addr × Nat) => .slice z.1 (mj + 2) z.2) (Φ' := fun (z : Option Addr × Nat) vv => K7 vv w.heap.size 9 1 z.1 (mj + 2) z.2 (sv (pj ++ [K6 q.1, K6 q.2])) ∧ Kp 53 #[.int .i64 ax, .int .i64 ay, .int .i64 bx, .int .i64 by_, .int .i64 cx, .int .i64 cy] g vv) (G := fun (z : Option Addr × Nat) vv => K7 vv w.heap.size 9 1 z.1 (mj + 2) z.2 (sv (pj ++ [K6 q.1, K6 q.2]))) (Lh 64 64 (.slice y2 mj yc2) (Kb 2 gb2)) (fun w1 hw h => by have ho : K7 w1 w.heap.size 9 1 y2 mj yc2 (sv (pj)) := (by rw [hpj]; exact h.1.1.1.1); exact app_strs (l := [K6 q.1, K6 q.2]) ho hw.size h.2 (show mj < 1000000 from by omega) Zs) (fun w1 h => fun b hb => ⟨((show K7 w1 w.heap.size 9 1 y2 mj yc2 (sv (pj)) from (by rw [hpj]; exact h.1.1.1.1)).lt b hb).1, ((show K7 w1 w.heap.size 9 1 y2 mj yc2 (sv (pj)) from (by rw [hpj]; exact h.1.1.1.1)).blk b hb).2⟩) (fun z wa w1 e1 e2 h hG => ⟨hG, (e2 g (lit_ne (show K7 wa w.heap.size 9 1 y2 mj yc2 (sv (pj)) from (by rw [hpj]; exact h.1.1.1.1)) h.1.1.1.2)).symm.trans h.1.1.1.2⟩) Zk Zk (fun z2 => ?_)
  refine ZR ?_
  refine K0.slot 39 (.int .i64 (IntKind.i64.wrap ((j : Int) + 1))) (.int .i64 ((j + 1 : Nat) : Int)) Zk (by rw [Kc hlt2 Zo]) ?_
  refine K0.next (⟨(j + 1, mj + 2, z2.1, z2.2), by show j + 1 ≤ r; omega, by show mj + 2 = _; omega⟩) Zk (by show r - (j + 1) < r - j; omega) ⟨Zk, Zk, Zk⟩ (fun u h => ⟨(by have h1 := h.1; show K7 u w.heap.size 9 1 z2.1 (mj + 2) z2.2 (sv ((p ++ [[On v]]) ++ (T.take (j + 1)).flatMap Oa)); rw [hstep, ← List.append_assoc, ← hpj]; exact h1), h.2⟩)
end
def Zj (w : World) (A : Option Addr) (ps : List (Int × Int)) : Prop := ∀ (j : Nat) (q : Int × Int), ps[j]? = some q → ∃ ad, A = some ad ∧ w.cell? ((ad.add (j * 2)).add 0) = some (.int .i64 q.1) ∧ w.cell? ((ad.add (j * 2)).add 1) = some (.int .i64 q.2)
def ptC (ps : List (Int × Int)) : List Value := ps.flatMap fun q => [.int .i64 q.1, .int .i64 q.2]
section
variable {w : World} {A : Option Addr} {n c : Nat} {ls : List Sg}
theorem ptC_get : ∀ {ps : List (Int × Int)} {j : Nat} {q : Int × Int}, ps[j]? = some q → (ptC ps)[j * 2]? = some (.int .i64 q.1) ∧ (ptC ps)[j * 2 + 1]? = some (.int .i64 q.2)
 | [], j, q, h => by simp at h
 | p :: ps, 0, q, h => by
  obtain rfl : p = q := by simpa using h
  simp [ptC]
 | p :: ps, j + 1, q, h => by
  have ih := ptC_get (ps := ps) (j := j) (q := q) (by simpa using h)
  rw [show (j + 1) * 2 = j * 2 + 2 by omega]
  simpa [ptC] using ih
theorem pts_lit {g : Nat} {cells : Array Value} {ps : List (Int × Int)} (h : Kp 53 cells g w) (hc : cells.toList = ptC ps) : Zj w (some ⟨g, 0, none⟩) ps := fun j q hq => by
 obtain ⟨h0, h1⟩ := ptC_get hq
 have h2 : w.heap[g]? = some (.cells cells 53 (0, 0)) := h
 refine ⟨_, rfl, ?_, ?_⟩
 ·rw [Addr.add_mid, Addr.add_mid]
  simp only [World.cell?, h2, Option.isSome_none, Bool.false_eq_true, if_false]
  rw [← hc] at h0
  simpa using h0
 ·rw [Addr.add_mid, Addr.add_mid]
  simp only [World.cell?, h2, Option.isSome_none, Bool.false_eq_true, if_false]
  rw [← hc] at h1
  simpa using h1
theorem pt_idx {j r cc : Nat} {ad : Addr} (hA : A = some ad) (hj : j < r) : (Ke 180 (.slice A r cc) j).run Tryz.prog w = .ok (.value (.pointer (some (ad.add (j * 2))))) w := by
 rw [hA]; exact Um (elem := 53) Zk Zk hj
theorem rpoints_m {v ax ay bx by_ cx cy : Int} {r : Nat} (hv : v = 1 ∨ v = 2 ∨ v = 3 ∨ v = 4 ∨ v = 5) (hr : Mr v = (r : Int)) : Calls Tryz.prog 147 #[Sg.val ⟨v, ax, ay, bx, by_, cx, cy⟩] w (K5 w (fun y : {y : Option Addr // 0 < r → ∃ a, y = some a} => .slice y.1 r r) fun y u => Zj u y.1 ((V9 ⟨v, ax, ay, bx, by_, cx, cy⟩).take r)) := by
 rcases hv with rfl | rfl | rfl | rfl | rfl
 ·obtain rfl : r = 1 := by have h1 : (1 : Int) = (r : Int) := hr; omega
  refine K0.enter Tryz.func147 rfl ?_
  refine K0.runC Zk (stop := 1000) 6000 _ ?_
  refine K0.make (Ks (180) 1 #[(0, pt ax ay)]) (Kb 1) (Kp 53 #[.int .i64 ax, .int .i64 ay]) Zk (fun w1 hw h => K8 Zk) (fun g => ?_)
  refine ZR ?_
  refine ZV (.slice (some ⟨g, 0, none⟩) 1 1) (fun w1 hw h => ⟨⟨some ⟨g, 0, none⟩, fun _ => ⟨_, rfl⟩⟩, rfl, hw, fun w'' k1 k2 => pts_lit (h w'' k1 k2).2 rfl⟩)
 ·obtain rfl : r = 1 := by have h1 : (1 : Int) = (r : Int) := hr; omega
  refine K0.enter Tryz.func147 rfl ?_
  refine K0.runC Zk (stop := 1000) 6000 _ ?_
  refine K0.make (Ks (180) 1 #[(0, pt ax ay)]) (Kb 1) (Kp 53 #[.int .i64 ax, .int .i64 ay]) Zk (fun w1 hw h => K8 Zk) (fun g => ?_)
  refine ZR ?_
  refine ZV (.slice (some ⟨g, 0, none⟩) 1 1) (fun w1 hw h => ⟨⟨some ⟨g, 0, none⟩, fun _ => ⟨_, rfl⟩⟩, rfl, hw, fun w'' k1 k2 => pts_lit (h w'' k1 k2).2 rfl⟩)
 ·obtain rfl : r = 2 := by have h1 : (2 : Int) = (r : Int) := hr; omega
  refine K0.enter Tryz.func147 rfl ?_
  refine K0.runC Zk (stop := 1000) 6000 _ ?_
  refine K0.make (Ks (180) 2 #[(0, pt ax ay), (1, pt bx by_)]) (Kb 2) (Kp 53 #[.int .i64 ax, .int .i64 ay, .int .i64 bx, .int .i64 by_]) Zk (fun w1 hw h => K8 Zk) (fun g => ?_)
  refine ZR ?_
  refine ZV (.slice (some ⟨g, 0, none⟩) 2 2) (fun w1 hw h => ⟨⟨some ⟨g, 0, none⟩, fun _ => ⟨_, rfl⟩⟩, rfl, hw, fun w'' k1 k2 => pts_lit (h w'' k1 k2).2 rfl⟩)
 ·obtain rfl : r = 3 := by have h1 : (3 : Int) = (r : Int) := hr; omega
  refine K0.enter Tryz.func147 rfl ?_
  refine K0.runC Zk (stop := 1000) 6000 _ ?_
  refine K0.make (Ks (180) 3 #[(0, pt ax ay), (1, pt bx by_), (2, pt cx cy)]) (Kb 3) (Kp 53 #[.int .i64 ax, .int .i64 ay, .int .i64 bx, .int .i64 by_, .int .i64 cx, .int .i64 cy]) Zk (fun w1 hw h => K8 Zk) (fun g => ?_)
  refine ZR ?_
  refine ZV (.slice (some ⟨g, 0, none⟩) 3 3) (fun w1 hw h => ⟨⟨some ⟨g, 0, none⟩, fun _ => ⟨_, rfl⟩⟩, rfl, hw, fun w'' k1 k2 => pts_lit (h w'' k1 k2).2 rfl⟩)
 ·obtain rfl : r = 0 := by have h1 : (0 : Int) = (r : Int) := hr; omega
  refine K0.enter Tryz.func147 rfl ?_
  refine K0.runC Zk (stop := 1000) 6000 _ ?_
  refine ZV (.slice none 0 0) (fun w1 hw h => ⟨⟨none, fun h => absurd h Zd⟩, rfl, hw, fun w'' k1 k2 => fun j q hq => by simp at hq⟩)
theorem run_let2 {v : Int} (hv : v = 1 ∨ v = 2 ∨ v = 3 ∨ v = 4 ∨ v = 5) : (slC 9 (K3 [77, 76, 81, 67, 90]) .i64 (IntKind.i64.wrap (v - 1)) v).run Tryz.prog w = .ok (.value (K3 [On v])) w := by
 rcases hv with rfl | rfl | rfl | rfl | rfl
 ·exact Og (i := 0) Zk rfl
 ·exact Og (i := 1) Zk rfl
 ·exact Og (i := 2) Zk rfl
 ·exact Og (i := 3) Zk rfl
 ·exact Og (i := 4) Zk rfl
def Rh (l : List (List UInt8)) : List UInt8 := l.flatMap (32 :: ·)
theorem glue_len : ∀ {l : List (Int × Int)}, (∀ q ∈ l, -1048576 ≤ q.1 ∧ q.1 ≤ 1048576 ∧ -1048576 ≤ q.2 ∧ q.2 ≤ 1048576) → (Rh (l.flatMap Oa)).length ≤ 52 * l.length
 | [], _ => Nat.le_refl _
 | q :: l, h => by
  have ih := glue_len (l := l) fun p hp => h p (by simp [hp])
  have hq := h q Zs
  have h1 := My (x := q.1) ⟨hq.1, hq.2.1⟩
  have h2 := My (x := q.2) ⟨hq.2.2.1, hq.2.2.2⟩
  simp only [Rh, List.flatMap_cons, List.flatMap_append, Oa, List.flatMap_nil, List.length_append, List.length_cons, List.length_nil] at ih ⊢
  omega
theorem glue_app (a b : List (List UInt8)) : Rh (a ++ b) = Rh a ++ Rh b := by simp [Rh]
def Q2 (k : Nat) : List UInt8 := if k = 0 then [] else [32]
theorem fmtP_snoc {k : Nat} {l : List (List UInt8)} {x : List UInt8} {p : List (List UInt8)} (hp : p = [] ↔ k = 0) : Mj 32 (p ++ x :: l) = Mj 32 p ++ Q2 k ++ x ++ Rh l := by
 cases p with
 | nil =>
  rw [hp.1 rfl, List.nil_append, Xw]; simp [Q2, Mj, Rh]
 | cons y p =>
  have hk : k ≠ 0 := fun h => by cases hp.2 h
  rw [joinBy_app _ (List.cons_ne_nil _ _), List.flatMap_cons]; simp [Q2, hk, Rh]
theorem wordsP_nil {l : List Sg} : Nz l = [] ↔ l = [] := by
 cases l <;> simp [Nz, segW]
theorem rformat_s (hs : Yb w A n ls) (hB : Pv ls = true) : Calls Tryz.prog 88 #[.slice A n c] w (K5 w (fun _ : Unit => .tuple #[K3 (N9 ls), .int .i64 0]) fun _ _ => True) := by
 have hln := hs.1
 obtain ⟨hgood, hsmall⟩ := good_path hB
 refine K0.enter Tryz.func88 rfl ?_
 refine ZR ?_
 refine ZC (fun w1 hw h => Uk (c := c) (hs.below hw) Zo hB) fun u => ?_
 refine ZI false ?_
 refine K0.loop (ι := {q : Nat // q ≤ n}) 66 (fun q => ⟨[(0, .v (.slice A n c)), (4, .v (.string ⟨#[77, 76, 81, 67, 90]⟩)), (5, .v (K3 (N9 (ls.take q.1)))), (6, .v (.int .i64 q.1))], []⟩) (fun q u => True) (fun q => n - q.1) (⟨0, Nat.zero_le _⟩) Zk (fun _ => by kernel_rfl) ⟨Zk, Zk, Zk⟩ (fun u h => trivial) ?_
 rintro ⟨k, hk⟩ gg
 have hk : k ≤ n := hk
 by_cases hlt : k < n
 case neg =>
  obtain rfl : k = n := by omega
  have hfull : ls.take k = ls := List.take_of_length_le Zo
  refine ZR ?_
  refine ZJ (decide ((k : Int) < (k : Int))) false Zs ?_
  refine K0.leave Zk ?_
  refine ZR ?_
  exact ZX (.tuple #[K3 (N9 (ls.take k)), .int .i64 0]) (by rw [hfull])
 obtain ⟨s, hsk⟩ : ∃ s, ls[k]? = some s := ⟨_, List.getElem?_eq_getElem Zo⟩
 obtain ⟨ad, hA, hc⟩ := hs.2 k s hsk
 have hgs := hgood s (List.mem_of_getElem? hsk)
 have hnext := wordsP_snoc hsk
 have hpn : Nz (ls.take k) = [] ↔ k = 0 := by
  rw [wordsP_nil]
  constructor
  ·intro h; have := congrArg List.length h; rw [List.length_take, List.length_nil] at this; omega
  ·rintro rfl; rfl
 have hfk := fmtP_len (mem_take (k := k) hgood)
 have hkl : (ls.take k).length ≤ 256 := by rw [List.length_take]; omega
 have htri := @tri_rng s
 obtain ⟨v, ax, ay, bx, by_, cx, cy⟩ := s
 obtain ⟨hv, hfit⟩ := hgs
 replace htri := fun j q => @htri j q hfit
 have hv : v = 1 ∨ v = 2 ∨ v = 3 ∨ v = 4 ∨ v = 5 := hv
 obtain ⟨r, hr, hr3⟩ := named_good hv
 have hpts : segW ⟨v, ax, ay, bx, by_, cx, cy⟩ = [On v] :: ((V9 ⟨v, ax, ay, bx, by_, cx, cy⟩).take r).flatMap Oa := by
  unfold segW ptsS; rw [show (Sg.mk v ax ay bx by_ cx cy).v = v from rfl, hr]; rfl
 have hpt := fun w => @rpoints_m w v ax ay bx by_ cx cy r hv hr
 have hldv := hc 0 _ rfl
 have hldS := fun (w1 : World) (hw : Below w.heap.size w w1) => X0 (w := w1) (s := ⟨v, ax, ay, bx, by_, cx, cy⟩) (ad := ad.add (k * 7)) fun j u hj => Ky hw (hc j u hj)
 obtain ⟨T, hT⟩ : ∃ T, T = (V9 ⟨v, ax, ay, bx, by_, cx, cy⟩).take r := ⟨_, rfl⟩
 have hTl : T.length = r := by rw [hT, List.length_take]; simp [V9]; omega
 have hTr : ∀ (j : Nat) (q : Int × Int), T[j]? = some q → -1048576 ≤ q.1 ∧ q.1 ≤ 1048576 ∧ -1048576 ≤ q.2 ∧ q.2 ≤ 1048576 := fun j q hq => by
  rw [hT, List.getElem?_take] at hq
  split at hq
  ·exact htri j q hq
  ·cases hq
 rw [← hT] at hpts hpt
 rw [hpts] at hnext
 have hfmt : N9 (ls.take (k + 1)) = N9 (ls.take k) ++ Q2 k ++ [On v] ++ Rh (T.flatMap Oa) := by
  unfold N9; rw [hnext]; exact fmtP_snoc hpn
 obtain ⟨F, hF⟩ : ∃ F, F = N9 (ls.take k) := ⟨_, rfl⟩
 rw [← hF] at hfmt hfk
 have hld0 : ∀ w1 : World, Below w.heap.size w w1 → (L7 3 ((ad.add (k * 7)).add 0)).run Tryz.prog w1 = .ok (.value (.int .i64 v)) w1 := fun w1 hw => K9 Zk (Ky hw hldv)
 refine ZR ?_
 refine K0.slot 5 (K3 (N9 (ls.take k))) (K3 F) Zk (by rw [hF]) ?_
 refine ZJ (decide ((k : Int) < (n : Int))) true Zp ?_
 rcases k with _ | k
 ·have hs0 : F = F ++ Q2 0 := by simp [Q2]
  refine ZJ (decide (((0 : Nat) : Int) > 0)) false Zs ?_
  refine K0.slot 22 (K3 F) (K3 (F ++ Q2 0)) Zk (by rw [← hs0]) ?_
  refine K0.askAt 4 (Ke 39 (.slice A n c) (0 : Nat)) (.pointer (some (ad.add (0 * 7)))) Zk (fun w1 hw h => Pf hA hlt) ?_
  refine ZS 5 ?_
  refine ZB 5 (Pr 179 (ad.add (0 * 7)) 0) (.pointer (some ((ad.add (0 * 7)).add 0))) (fun w1 hw h => L5 (d := 0) Zk) ?_
  refine ZB 6 (L7 3 ((ad.add (0 * 7)).add 0)) (.int .i64 v) (fun w1 hw h => hld0 w1 hw) ?_
  refine K0.askAt 10 (Ke 39 (.slice A n c) (0 : Nat)) (.pointer (some (ad.add (0 * 7)))) Zk (fun w1 hw h => Pf hA hlt) ?_
  refine ZS 11 ?_
  refine ZB 11 (Pr 179 (ad.add (0 * 7)) 0) (.pointer (some ((ad.add (0 * 7)).add 0))) (fun w1 hw h => L5 (d := 0) Zk) ?_
  refine K0.askAt 12 (L7 3 ((ad.add (0 * 7)).add 0)) (.int .i64 v) Zk (fun w1 hw h => hld0 w1 hw) ?_
  refine ZS 13 ?_
  refine K0.ask (slC 9 (K3 [77, 76, 81, 67, 90]) .i64 (IntKind.i64.wrap (v - 1)) v) (K3 [On v]) Zk (fun w1 hw h => run_let2 hv) ?_
  refine ZS 14 ?_
  refine ZA (S3 .add 9 (.tmp 22) (.tmp 35) (K3 (F ++ Q2 0)) (K3 [On v])) (K3 (F ++ Q2 0 ++ [On v])) (fun w1 hw h => Ld (by simp [Q2] <;> omega)) ?_
  refine ZA (Ke 39 (.slice A n c) (0 : Nat)) (.pointer (some (ad.add (0 * 7)))) (fun w1 hw h => Pf hA hlt) ?_
  refine ZA (L7 179 (ad.add (0 * 7))) (Sg.val ⟨v, ax, ay, bx, by_, cx, cy⟩) (fun w1 hw h => hldS w1 hw) ?_
  refine ZC (fun w1 hw h => hpt w1) fun y0 => ?_
  obtain ⟨y, hy⟩ := y0
  refine K0.slot 5 (K3 (F ++ Q2 0 ++ [On v])) (K3 (F ++ Q2 0 ++ [On v] ++ Rh ((T.take 0).flatMap Oa))) Zk (by simp [Rh]) ?_
  refine K0.loop (ι := {j : Nat // j ≤ r}) 66 (fun q => ⟨[(0, .v (.slice A n c)), (4, .v (.string ⟨#[77, 76, 81, 67, 90]⟩)), (5, .v (K3 (F ++ Q2 0 ++ [On v] ++ Rh ((T.take q.1).flatMap Oa)))), (6, .v (.int .i64 (0 : Nat))), (7, .v (.slice y r r)), (8, .v (.int .i64 q.1))], []⟩) (fun q u => Zj u y T) (fun q => r - q.1) (⟨0, Nat.zero_le _⟩) Zk (fun _ => by kernel_rfl) ⟨Zk, Zk, Zk⟩ (fun u h => h.2) ?_
  rintro ⟨j, hj⟩ gg2
  have hj : j ≤ r := hj
  by_cases hlt2 : j < r
  case neg =>
   obtain rfl : j = r := by omega
   have hfullT : T.take j = T := List.take_of_length_le Zo
   refine ZR ?_
   refine ZJ (decide ((j : Int) < (j : Int))) false Zs ?_
   refine K0.leave Zk ?_
   refine ZR ?_
   refine K0.slot 6 (.int .i64 (IntKind.i64.wrap (((0 : Nat) : Int) + 1))) (.int .i64 ((0 + 1 : Nat) : Int)) Zk (by rw [Kc hlt Zo]) ?_
   refine K0.slot 5 (K3 (F ++ Q2 0 ++ [On v] ++ Rh ((T.take j).flatMap Oa))) (K3 (N9 (ls.take (0 + 1)))) Zk (by rw [hfmt, hfullT]) ?_
   refine K0.next (⟨0 + 1, by omega⟩) Zk (by show n - (0 + 1) < n - 0; omega) ⟨Zk, Zk, Zk⟩ (fun u h => trivial)
  obtain ⟨q, hq⟩ : ∃ q, T[j]? = some q := ⟨_, List.getElem?_eq_getElem Zo⟩
  have hstep : (T.take (j + 1)).flatMap Oa = (T.take j).flatMap Oa ++ [K6 q.1, K6 q.2] := by rw [List.take_add_one, hq]; simp [Oa]
  have hrng := hTr j q hq
  have hG := glue_len (l := T.take j) fun x hx => by obtain ⟨i, hi⟩ := List.mem_iff_getElem?.1 (List.mem_of_mem_take hx); exact hTr i x hi
  have hGl : (T.take j).length ≤ 3 := by rw [List.length_take]; omega
  have f1 := My (x := q.1) ⟨hrng.1, hrng.2.1⟩
  have f2 := My (x := q.2) ⟨hrng.2.2.1, hrng.2.2.2⟩
  obtain ⟨E, hE⟩ : ∃ E, E = F ++ Q2 0 ++ [On v] ++ Rh ((T.take j).flatMap Oa) := ⟨_, rfl⟩
  have hEl : E.length ≤ 50000 := by rw [hE]; simp only [List.length_append, List.length_cons, List.length_nil, Q2]; simp; omega
  have hE2 : F ++ Q2 0 ++ [On v] ++ Rh ((T.take (j + 1)).flatMap Oa) = E ++ ([32] ++ K6 q.1 ++ [32] ++ K6 q.2) := by rw [hstep, glue_app, ← List.append_assoc, ← hE]; simp [Rh]
  have hcp : ∀ u : World, Zj u y T → ∃ pa, y = some pa ∧ u.cell? ((pa.add (j * 2)).add 0) = some (.int .i64 q.1) ∧ u.cell? ((pa.add (j * 2)).add 1) = some (.int .i64 q.2) := fun u hu => hu j q hq
  obtain ⟨pa, hpa⟩ := hy Zo
  have hld1 : ∀ u : World, Zj u y T → (L7 3 ((pa.add (j * 2)).add 0)).run Tryz.prog u = .ok (.value (.int .i64 q.1)) u := fun u hu => by
   obtain ⟨pb, h1, h2, h3⟩ := hcp u hu
   obtain rfl : pb = pa := by rw [hpa] at h1; injection h1 with h1; exact h1.symm
   exact K9 Zk h2
  have hld2 : ∀ u : World, Zj u y T → (L7 3 ((pa.add (j * 2)).add 1)).run Tryz.prog u = .ok (.value (.int .i64 q.2)) u := fun u hu => by
   obtain ⟨pb, h1, h2, h3⟩ := hcp u hu
   obtain rfl : pb = pa := by rw [hpa] at h1; injection h1 with h1; exact h1.symm
   exact K9 Zk h3
  refine ZR ?_
  refine ZJ (decide ((j : Int) < (r : Int))) true Zp ?_
  refine K0.slot 48 (K3 (F ++ Q2 0 ++ [On v] ++ Rh ((T.take j).flatMap Oa))) (K3 E) Zk (by rw [hE]) ?_
  refine K0.askAt 3 (Ke 180 (.slice y r r) j) (.pointer (some (pa.add (j * 2)))) Zk (fun w1 hw h => pt_idx hpa hlt2) ?_
  refine ZS 4 ?_
  refine ZB 4 (Pr 53 (pa.add (j * 2)) 0) (.pointer (some ((pa.add (j * 2)).add 0))) (fun w1 hw h => L5 (d := 0) Zk) ?_
  refine ZB 5 (L7 3 ((pa.add (j * 2)).add 0)) (.int .i64 q.1) (fun w1 hw h => hld1 w1 h) ?_
  refine K0.askAt 11 (Ke 180 (.slice y r r) j) (.pointer (some (pa.add (j * 2)))) Zk (fun w1 hw h => pt_idx hpa hlt2) ?_
  refine ZS 12 ?_
  refine ZB 12 (Pr 53 (pa.add (j * 2)) 1) (.pointer (some ((pa.add (j * 2)).add 1))) (fun w1 hw h => L5 (d := 1) Zk) ?_
  refine ZB 13 (L7 3 ((pa.add (j * 2)).add 1)) (.int .i64 q.2) (fun w1 hw h => hld2 w1 h) ?_
  refine ZD 7 (fun w1 hw h => L6 (n := q.1) Zo Zo) fun u1 => ?_
  refine K0.askAt 7 (S3 .add 9 (.const (.string ⟨#[32]⟩)) (.tmp 54) (K3 [32]) (K3 (K6 q.1))) (K3 ([32] ++ K6 q.1)) Zk (fun w1 hw h => Ld Zp) ?_
  refine ZS 8 ?_
  refine K0.askAt 8 (S3 .add 9 (.tmp 55) (.const (.string ⟨#[32]⟩)) (K3 ([32] ++ K6 q.1)) (K3 [32])) (K3 ([32] ++ K6 q.1 ++ [32])) Zk (fun w1 hw h => Ld Zp) ?_
  refine ZS 9 ?_
  refine ZD 15 (fun w1 hw h => L6 (n := q.2) Zo Zo) fun u2 => ?_
  refine K0.ask (S3 .add 9 (.tmp 56) (.tmp 62) (K3 ([32] ++ K6 q.1 ++ [32])) (K3 (K6 q.2))) (K3 ([32] ++ K6 q.1 ++ [32] ++ K6 q.2)) Zk (fun w1 hw h => Ld Zp) ?_
  refine ZS 16 ?_
  refine ZA (S3 .add 9 (.tmp 48) (.tmp 63) (K3 E) (K3 ([32] ++ K6 q.1 ++ [32] ++ K6 q.2))) (K3 (E ++ ([32] ++ K6 q.1 ++ [32] ++ K6 q.2))) (fun w1 hw h => Ld Zp) ?_
  refine K0.slot 8 (.int .i64 (IntKind.i64.wrap ((j : Int) + 1))) (.int .i64 ((j + 1 : Nat) : Int)) Zk (by rw [Kc hlt2 Zo]) ?_
  refine K0.slot 5 (K3 (E ++ ([32] ++ K6 q.1 ++ [32] ++ K6 q.2))) (K3 (F ++ Q2 0 ++ [On v] ++ Rh ((T.take (j + 1)).flatMap Oa))) Zk (by rw [hE2]) ?_
  refine K0.next (⟨j + 1, by omega⟩) Zk (by show r - (j + 1) < r - j; omega) ⟨Zk, Zk, Zk⟩ (fun u h => h.1.1)
 ·have hs0 : F ++ [32] = F ++ Q2 (k + 1) := by simp [Q2]
  refine K0.condr (decide (((k + 1 : Nat) : Int) > 0)) true Zk Zs ?_
  refine ZS 1 ?_
  refine ZA (S3 .add 9 (.tmp 20) (.const (.string ⟨#[32]⟩)) (K3 F) (K3 [32])) (K3 (F ++ [32])) (fun w1 hw h => Ld Zp) ?_
  refine K0.slot 22 (K3 (F ++ [32])) (K3 (F ++ Q2 (k + 1))) Zk (by rw [hs0]) ?_
  refine K0.askAt 4 (Ke 39 (.slice A n c) (k + 1 : Nat)) (.pointer (some (ad.add ((k + 1) * 7)))) Zk (fun w1 hw h => Pf hA hlt) ?_
  refine ZS 5 ?_
  refine ZB 5 (Pr 179 (ad.add ((k + 1) * 7)) 0) (.pointer (some ((ad.add ((k + 1) * 7)).add 0))) (fun w1 hw h => L5 (d := 0) Zk) ?_
  refine ZB 6 (L7 3 ((ad.add ((k + 1) * 7)).add 0)) (.int .i64 v) (fun w1 hw h => hld0 w1 hw) ?_
  refine K0.askAt 10 (Ke 39 (.slice A n c) (k + 1 : Nat)) (.pointer (some (ad.add ((k + 1) * 7)))) Zk (fun w1 hw h => Pf hA hlt) ?_
  refine ZS 11 ?_
  refine ZB 11 (Pr 179 (ad.add ((k + 1) * 7)) 0) (.pointer (some ((ad.add ((k + 1) * 7)).add 0))) (fun w1 hw h => L5 (d := 0) Zk) ?_
  refine K0.askAt 12 (L7 3 ((ad.add ((k + 1) * 7)).add 0)) (.int .i64 v) Zk (fun w1 hw h => hld0 w1 hw) ?_
  refine ZS 13 ?_
  refine K0.ask (slC 9 (K3 [77, 76, 81, 67, 90]) .i64 (IntKind.i64.wrap (v - 1)) v) (K3 [On v]) Zk (fun w1 hw h => run_let2 hv) ?_
  refine ZS 14 ?_
  refine ZA (S3 .add 9 (.tmp 22) (.tmp 35) (K3 (F ++ Q2 (k + 1))) (K3 [On v])) (K3 (F ++ Q2 (k + 1) ++ [On v])) (fun w1 hw h => Ld (by simp [Q2] <;> omega)) ?_
  refine ZA (Ke 39 (.slice A n c) (k + 1 : Nat)) (.pointer (some (ad.add ((k + 1) * 7)))) (fun w1 hw h => Pf hA hlt) ?_
  refine ZA (L7 179 (ad.add ((k + 1) * 7))) (Sg.val ⟨v, ax, ay, bx, by_, cx, cy⟩) (fun w1 hw h => hldS w1 hw) ?_
  refine ZC (fun w1 hw h => hpt w1) fun y0 => ?_
  obtain ⟨y, hy⟩ := y0
  refine K0.slot 5 (K3 (F ++ Q2 (k + 1) ++ [On v])) (K3 (F ++ Q2 (k + 1) ++ [On v] ++ Rh ((T.take 0).flatMap Oa))) Zk (by simp [Rh]) ?_
  refine K0.loop (ι := {j : Nat // j ≤ r}) 66 (fun q => ⟨[(0, .v (.slice A n c)), (4, .v (.string ⟨#[77, 76, 81, 67, 90]⟩)), (5, .v (K3 (F ++ Q2 (k + 1) ++ [On v] ++ Rh ((T.take q.1).flatMap Oa)))), (6, .v (.int .i64 (k + 1 : Nat))), (7, .v (.slice y r r)), (8, .v (.int .i64 q.1))], []⟩) (fun q u => Zj u y T) (fun q => r - q.1) (⟨0, Nat.zero_le _⟩) Zk (fun _ => by kernel_rfl) ⟨Zk, Zk, Zk⟩ (fun u h => h.2) ?_
  rintro ⟨j, hj⟩ gg2
  have hj : j ≤ r := hj
  by_cases hlt2 : j < r
  case neg =>
   obtain rfl : j = r := by omega
   have hfullT : T.take j = T := List.take_of_length_le Zo
   refine ZR ?_
   refine ZJ (decide ((j : Int) < (j : Int))) false Zs ?_
   refine K0.leave Zk ?_
   refine ZR ?_
   refine K0.slot 6 (.int .i64 (IntKind.i64.wrap (((k + 1 : Nat) : Int) + 1))) (.int .i64 ((k + 1 + 1 : Nat) : Int)) Zk (by rw [Kc hlt Zo]) ?_
   refine K0.slot 5 (K3 (F ++ Q2 (k + 1) ++ [On v] ++ Rh ((T.take j).flatMap Oa))) (K3 (N9 (ls.take (k + 1 + 1)))) Zk (by rw [hfmt, hfullT]) ?_
   refine K0.next (⟨k + 1 + 1, by omega⟩) Zk (by show n - (k + 1 + 1) < n - (k + 1); omega) ⟨Zk, Zk, Zk⟩ (fun u h => trivial)
  obtain ⟨q, hq⟩ : ∃ q, T[j]? = some q := ⟨_, List.getElem?_eq_getElem Zo⟩
  have hstep : (T.take (j + 1)).flatMap Oa = (T.take j).flatMap Oa ++ [K6 q.1, K6 q.2] := by rw [List.take_add_one, hq]; simp [Oa]
  have hrng := hTr j q hq
  have hG := glue_len (l := T.take j) fun x hx => by obtain ⟨i, hi⟩ := List.mem_iff_getElem?.1 (List.mem_of_mem_take hx); exact hTr i x hi
  have hGl : (T.take j).length ≤ 3 := by rw [List.length_take]; omega
  have f1 := My (x := q.1) ⟨hrng.1, hrng.2.1⟩
  have f2 := My (x := q.2) ⟨hrng.2.2.1, hrng.2.2.2⟩
  obtain ⟨E, hE⟩ : ∃ E, E = F ++ Q2 (k + 1) ++ [On v] ++ Rh ((T.take j).flatMap Oa) := ⟨_, rfl⟩
  have hEl : E.length ≤ 50000 := by rw [hE]; simp only [List.length_append, List.length_cons, List.length_nil, Q2]; simp; omega
  have hE2 : F ++ Q2 (k + 1) ++ [On v] ++ Rh ((T.take (j + 1)).flatMap Oa) = E ++ ([32] ++ K6 q.1 ++ [32] ++ K6 q.2) := by rw [hstep, glue_app, ← List.append_assoc, ← hE]; simp [Rh]
  have hcp : ∀ u : World, Zj u y T → ∃ pa, y = some pa ∧ u.cell? ((pa.add (j * 2)).add 0) = some (.int .i64 q.1) ∧ u.cell? ((pa.add (j * 2)).add 1) = some (.int .i64 q.2) := fun u hu => hu j q hq
  obtain ⟨pa, hpa⟩ := hy Zo
  have hld1 : ∀ u : World, Zj u y T → (L7 3 ((pa.add (j * 2)).add 0)).run Tryz.prog u = .ok (.value (.int .i64 q.1)) u := fun u hu => by
   obtain ⟨pb, h1, h2, h3⟩ := hcp u hu
   obtain rfl : pb = pa := by rw [hpa] at h1; injection h1 with h1; exact h1.symm
   exact K9 Zk h2
  have hld2 : ∀ u : World, Zj u y T → (L7 3 ((pa.add (j * 2)).add 1)).run Tryz.prog u = .ok (.value (.int .i64 q.2)) u := fun u hu => by
   obtain ⟨pb, h1, h2, h3⟩ := hcp u hu
   obtain rfl : pb = pa := by rw [hpa] at h1; injection h1 with h1; exact h1.symm
   exact K9 Zk h3
  refine ZR ?_
  refine ZJ (decide ((j : Int) < (r : Int))) true Zp ?_
  refine K0.slot 48 (K3 (F ++ Q2 (k + 1) ++ [On v] ++ Rh ((T.take j).flatMap Oa))) (K3 E) Zk (by rw [hE]) ?_
  refine K0.askAt 3 (Ke 180 (.slice y r r) j) (.pointer (some (pa.add (j * 2)))) Zk (fun w1 hw h => pt_idx hpa hlt2) ?_
  refine ZS 4 ?_
  refine ZB 4 (Pr 53 (pa.add (j * 2)) 0) (.pointer (some ((pa.add (j * 2)).add 0))) (fun w1 hw h => L5 (d := 0) Zk) ?_
  refine ZB 5 (L7 3 ((pa.add (j * 2)).add 0)) (.int .i64 q.1) (fun w1 hw h => hld1 w1 h) ?_
  refine K0.askAt 11 (Ke 180 (.slice y r r) j) (.pointer (some (pa.add (j * 2)))) Zk (fun w1 hw h => pt_idx hpa hlt2) ?_
  refine ZS 12 ?_
  refine ZB 12 (Pr 53 (pa.add (j * 2)) 1) (.pointer (some ((pa.add (j * 2)).add 1))) (fun w1 hw h => L5 (d := 1) Zk) ?_
  refine ZB 13 (L7 3 ((pa.add (j * 2)).add 1)) (.int .i64 q.2) (fun w1 hw h => hld2 w1 h) ?_
  refine ZD 7 (fun w1 hw h => L6 (n := q.1) Zo Zo) fun u1 => ?_
  refine K0.askAt 7 (S3 .add 9 (.const (.string ⟨#[32]⟩)) (.tmp 54) (K3 [32]) (K3 (K6 q.1))) (K3 ([32] ++ K6 q.1)) Zk (fun w1 hw h => Ld Zp) ?_
  refine ZS 8 ?_
  refine K0.askAt 8 (S3 .add 9 (.tmp 55) (.const (.string ⟨#[32]⟩)) (K3 ([32] ++ K6 q.1)) (K3 [32])) (K3 ([32] ++ K6 q.1 ++ [32])) Zk (fun w1 hw h => Ld Zp) ?_
  refine ZS 9 ?_
  refine ZD 15 (fun w1 hw h => L6 (n := q.2) Zo Zo) fun u2 => ?_
  refine K0.ask (S3 .add 9 (.tmp 56) (.tmp 62) (K3 ([32] ++ K6 q.1 ++ [32])) (K3 (K6 q.2))) (K3 ([32] ++ K6 q.1 ++ [32] ++ K6 q.2)) Zk (fun w1 hw h => Ld Zp) ?_
  refine ZS 16 ?_
  refine ZA (S3 .add 9 (.tmp 48) (.tmp 63) (K3 E) (K3 ([32] ++ K6 q.1 ++ [32] ++ K6 q.2))) (K3 (E ++ ([32] ++ K6 q.1 ++ [32] ++ K6 q.2))) (fun w1 hw h => Ld Zp) ?_
  refine K0.slot 8 (.int .i64 (IntKind.i64.wrap ((j : Int) + 1))) (.int .i64 ((j + 1 : Nat) : Int)) Zk (by rw [Kc hlt2 Zo]) ?_
  refine K0.slot 5 (K3 (E ++ ([32] ++ K6 q.1 ++ [32] ++ K6 q.2))) (K3 (F ++ Q2 (k + 1) ++ [On v] ++ Rh ((T.take (j + 1)).flatMap Oa))) Zk (by rw [hE2]) ?_
  refine K0.next (⟨j + 1, by omega⟩) Zk (by show r - (j + 1) < r - j; omega) ⟨Zk, Zk, Zk⟩ (fun u h => h.1.1)
end
end Go.Proofs.YtdeepdckmhpldaaGreatDoor
