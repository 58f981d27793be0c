/-
  Paths as text: segments, checks, formatting.
-/
import Derived.Test.YtlpnjoenkohadaaDoorZB
namespace Go.Proofs.YtlpnjoenkohadaaDoor
set_option linter.unusedVariables false
set_option linter.unusedSimpArgs false
open Go.RowKit

/-- A segment: a verb and three points. -/
structure Sg where
  v : Int
  ax : Int
  ay : Int
  bx : Int
  by_ : Int
  cx : Int
  cy : Int
def iv (z : Int) : Value := .int .i64 z
@[reducible] def Sg.cl (s : Sg) : List Value := [.int .i64 s.v, .int .i64 s.ax, .int .i64 s.ay, .int .i64 s.bx, .int .i64 s.by_, .int .i64 s.cx, .int .i64 s.cy]
@[reducible] def Sg.val (s : Sg) : Value := .agg #[.int .i64 s.v, .int .i64 s.ax, .int .i64 s.ay, .int .i64 s.bx, .int .i64 s.by_, .int .i64 s.cx, .int .i64 s.cy]
def Sg.beq (a b : Sg) : Bool := a.v == b.v && (a.ax == b.ax && a.ay == b.ay) && (a.bx == b.bx && a.by_ == b.by_) && (a.cx == b.cx && a.cy == b.cy)
theorem Sg.beq_iff {a b : Sg} : a.beq b = true ↔ a = b := by
  cases a; cases b
  simp [Sg.beq, and_assoc]
def neP (t : TypeId) (x y : Operand) (u v : Value) : Sem Next := (do eqGuard .neq t x y u v; binOp .neq t u v) >>= fun v => pure (.value v)
theorem run_neP {x y : Operand} {a b c d : Int} {w : World} : (neP 39 x y (pt a b) (pt c d)).run Tryd.prog w = .ok (.value (.bool (!(a == c && b == d)))) w := by
  have h3 : Tryd.prog.eqGuardType Tryd.prog.depth 39 = false := by kernel_rfl
  have he := run_eqP (x := x) (y := y) (a := a) (b := b) (c := c) (d := d) (w := w)
  simp only [eqP, pt, Sem.run_bind, run_eqGuard_agg w .eql _ x y _ _ h3, Result.andThen_ok, run_eql_struct, Sem.run_pure] at he
  simp only [neP, pt, Sem.run_bind, run_eqGuard_agg w .neq _ x y _ _ h3, Result.andThen_ok, run_neq_struct, Sem.run_pure]
  generalize (Op.equalIn 10000 39 (.agg #[.int .i64 a, .int .i64 b]) (.agg #[.int .i64 c, .int .i64 d])).run Tryd.prog w = r at he ⊢
  cases r with
  | ok x w' => simp only [Result.andThen_ok, Sem.run_pure, Result.ok.injEq, Next.value.injEq, Value.bool.injEq] at he ⊢; exact ⟨by rw [he.1], he.2⟩
  | _ => cases he
section
variable {w : World}
theorem eq_point (k : Nat) (a b c d : Int) : (Op.equalIn (k + 2) 39 (.agg #[.int .i64 a, .int .i64 b]) (.agg #[.int .i64 c, .int .i64 d])).run Tryd.prog w = .ok (a == c && b == d) w := by
  have h1 : Tryd.prog.underlying 39 = some (.struct (Tryd.prog.fieldsOf 39)) := by kernel_rfl
  have h2 : Tryd.prog.stoodInHeld 39 = false := by kernel_rfl
  have hm : (Tryd.prog.fieldsOf 39).toList.map (fun f => (f.name, f.offset, f.type)) = [("X", 0, 3), ("Y", 1, 3)] := by kernel_rfl
  have hu : Tryd.prog.underlying 3 = some (.int .i64) := by kernel_rfl
  obtain ⟨f0, r0, hf, k0, hm⟩ := List.map_eq_cons_iff.1 hm
  obtain ⟨f1, r1, hf1, k1, hm⟩ := List.map_eq_cons_iff.1 hm
  obtain rfl : r1 = [] := List.map_eq_nil_iff.1 hm
  subst hf1
  simp only [Prod.mk.injEq] at k0 k1
  obtain ⟨n0, o0, t0⟩ := k0
  obtain ⟨n1, o1, t1⟩ := k1
  have hp : ∀ (xs : Array Value) (off : Nat) (v : Value), xs[off]? = some v → (part 3 xs off).run Tryd.prog w = .ok v w := by
    intro xs off v hv
    have hag : (isAgg 3).run Tryd.prog w = .ok false w := by unfold isAgg; rw [Sem.run_bind, run_underlying hu w]; rfl
    simp only [part, Sem.run_bind, hag, Result.andThen_ok, Bool.false_eq_true, if_false, hv, Sem.run_pure]
  have e0 : ∀ a b : Int, (Op.equalIn (k + 1) 3 (.int .i64 a) (.int .i64 b)).run Tryd.prog w = .ok (a == b) w := fun a b => run_equalIn_int w k _ .i64 .i64 a b hu
  have p0 : (part 3 #[.int .i64 a, .int .i64 b] 0).run Tryd.prog w = .ok (.int .i64 a) w := hp _ 0 _ rfl
  have p1 : (part 3 #[.int .i64 a, .int .i64 b] 1).run Tryd.prog w = .ok (.int .i64 b) w := hp _ 1 _ rfl
  have q0 : (part 3 #[.int .i64 c, .int .i64 d] 0).run Tryd.prog w = .ok (.int .i64 c) w := hp _ 0 _ rfl
  have q1 : (part 3 #[.int .i64 c, .int .i64 d] 1).run Tryd.prog w = .ok (.int .i64 d) w := hp _ 1 _ rfl
  have hfld : (Op.eqFields (k + 1) #[.int .i64 a, .int .i64 b] #[.int .i64 c, .int .i64 d] [f0, f1]).run Tryd.prog w = .ok (a == c && b == d) w := by
    have x0 : ("X" : String) ≠ "_" := by decide
    have x1 : ("Y" : String) ≠ "_" := by decide
    simp only [Op.eqFields, n0, n1, o0, o1, t0, t1, Sem.run_bind, p0, q0, p1, q1, Result.andThen_ok, e0, x0, x1, ne_eq, not_false_eq_true, if_true]
    cases h : a == c
    · simp [e0, h]
    · cases h' : b == d <;> simp [e0, h, p1, q1, h']
  rw [run_equalIn_struct w (k + 1) _ _ _ h1 h2, hf]; exact hfld
theorem eq_sg (a b : Sg) : (Op.equalIn 10000 41 a.val b.val).run Tryd.prog w = .ok (a.beq b) w := by
  have h1 : Tryd.prog.underlying 41 = some (.struct (Tryd.prog.fieldsOf 41)) := by kernel_rfl
  have h2 : Tryd.prog.stoodInHeld 41 = false := by kernel_rfl
  have hm : (Tryd.prog.fieldsOf 41).toList.map (fun f => (f.name, f.offset, f.type)) = [("Verb", 0, 3), ("A", 1, 39), ("B", 3, 39), ("C", 5, 39)] := by kernel_rfl
  have hu : Tryd.prog.underlying 3 = some (.int .i64) := by kernel_rfl
  have hup : Tryd.prog.underlying 39 = some (.struct (Tryd.prog.fieldsOf 39)) := by kernel_rfl
  have hzp : sizeT Tryd.prog 39 = some 2 := by kernel_rfl
  obtain ⟨f0, r0, hf, k0, hm⟩ := List.map_eq_cons_iff.1 hm
  obtain ⟨f1, r1, hf1, k1, hm⟩ := List.map_eq_cons_iff.1 hm
  obtain ⟨f2, r2, hf2, k2, hm⟩ := List.map_eq_cons_iff.1 hm
  obtain ⟨f3, r3, hf3, k3, hm⟩ := List.map_eq_cons_iff.1 hm
  obtain rfl : r3 = [] := List.map_eq_nil_iff.1 hm
  subst hf3; subst hf2; subst hf1
  simp only [Prod.mk.injEq] at k0 k1 k2 k3
  obtain ⟨n0, o0, t0⟩ := k0
  obtain ⟨n1, o1, t1⟩ := k1
  obtain ⟨n2, o2, t2⟩ := k2
  obtain ⟨n3, o3, t3⟩ := k3
  have hagi : (isAgg 3).run Tryd.prog w = .ok false w := by unfold isAgg; rw [Sem.run_bind, run_underlying hu w]; rfl
  have hagp : (isAgg 39).run Tryd.prog w = .ok true w := by unfold isAgg; rw [Sem.run_bind, run_underlying hup w]; rfl
  have e0 : ∀ a b : Int, (Op.equalIn 9999 3 (.int .i64 a) (.int .i64 b)).run Tryd.prog w = .ok (a == b) w := fun a b => run_equalIn_int w 9998 _ .i64 .i64 a b hu
  have eP : ∀ a b c d : Int, (Op.equalIn 9999 39 (.agg #[.int .i64 a, .int .i64 b]) (.agg #[.int .i64 c, .int .i64 d])).run Tryd.prog w = .ok (a == c && b == d) w := fun a b c d => eq_point 9997 a b c d
  have p0 : ∀ s : Sg, (part 3 s.cl.toArray 0).run Tryd.prog w = .ok (.int .i64 s.v) w := fun s => by
    simp only [part, Sem.run_bind, hagi, Result.andThen_ok, Bool.false_eq_true, if_false]; rfl
  have p1 : ∀ s : Sg, (part 39 s.cl.toArray 1).run Tryd.prog w = .ok (.agg #[.int .i64 s.ax, .int .i64 s.ay]) w := fun s => by
    simp only [part, Sem.run_bind, hagp, run_sizeT hzp, Result.andThen_ok, if_true]; rfl
  have p2 : ∀ s : Sg, (part 39 s.cl.toArray 3).run Tryd.prog w = .ok (.agg #[.int .i64 s.bx, .int .i64 s.by_]) w := fun s => by
    simp only [part, Sem.run_bind, hagp, run_sizeT hzp, Result.andThen_ok, if_true]; rfl
  have p3 : ∀ s : Sg, (part 39 s.cl.toArray 5).run Tryd.prog w = .ok (.agg #[.int .i64 s.cx, .int .i64 s.cy]) w := fun s => by
    simp only [part, Sem.run_bind, hagp, run_sizeT hzp, Result.andThen_ok, if_true]; rfl
  have hfld : (Op.eqFields 9999 a.cl.toArray b.cl.toArray [f0, f1, f2, f3]).run Tryd.prog w = .ok (a.beq b) w := by
    have x0 : ("Verb" : String) ≠ "_" := by decide
    have x1 : ("A" : String) ≠ "_" := by decide
    have x2 : ("B" : String) ≠ "_" := by decide
    have x3 : ("C" : String) ≠ "_" := by decide
    simp only [Op.eqFields, n0, n1, n2, n3, o0, o1, o2, o3, t0, t1, t2, t3, Sem.run_bind, p0, p1, p2, p3, Result.andThen_ok, e0, eP, x0, x1, x2, x3, ne_eq, not_false_eq_true, if_true, Sg.beq]
    cases h0 : a.v == b.v
    · simp
    · cases h1 : (a.ax == b.ax && a.ay == b.ay)
      · simp [Sem.run_bind, p1, eP, h1]
      · cases h2 : (a.bx == b.bx && a.by_ == b.by_)
        · simp [Sem.run_bind, p1, p2, eP, h1, h2]
        · cases h3 : (a.cx == b.cx && a.cy == b.cy) <;> simp [Sem.run_bind, p1, p2, p3, eP, h1, h2, h3]
  show (Op.equalIn (9999 + 1) 41 (.agg a.cl.toArray) (.agg b.cl.toArray)).run Tryd.prog w = _
  rw [run_equalIn_struct w 9999 _ _ _ h1 h2, hf]; exact hfld
theorem run_neS_sg {x y : Operand} {a b : Sg} : (neP 41 x y a.val b.val).run Tryd.prog w = .ok (.value (.bool (!(a.beq b)))) w := by
  have h3 : Tryd.prog.eqGuardType Tryd.prog.depth 41 = false := by kernel_rfl
  have he := eq_sg (w := w) a b
  simp only [neP, Sg.val, Sem.run_bind, run_eqGuard_agg w .neq _ x y _ _ h3, Result.andThen_ok, run_neq_struct, Sem.run_pure] at he ⊢
  rw [he]
  rfl
end

def namedI (v : Int) : Int := if v = 1 ∨ v = 2 then 1 else if v = 3 then 2 else if v = 4 then 3 else if v = 5 then 0 else -1
theorem named_cases (v : Int) : v = 1 ∨ v = 2 ∨ v = 3 ∨ v = 4 ∨ v = 5 ∨ (v ≠ 1 ∧ v ≠ 2 ∧ v ≠ 3 ∧ v ≠ 4 ∧ v ≠ 5) := by omega
theorem named_other {v : Int} (h : v ≠ 1 ∧ v ≠ 2 ∧ v ≠ 3 ∧ v ≠ 4 ∧ v ≠ 5) : namedI v = -1 := by
  unfold namedI
  rw [if_neg (by omega), if_neg (by omega), if_neg (by omega), if_neg (by omega)]
def okP (i n x y : Int) : Bool := validP x y && (decide (i < n) || (x == 0 && y == 0))
def fitsB (s : Sg) : Bool := okP 0 (namedI s.v) s.ax s.ay && okP 1 (namedI s.v) s.bx s.by_ && okP 2 (namedI s.v) s.cx s.cy
def standB (last v : Int) : Bool := v == 1 || (last != 5 && (v != 5 || last != 1))
def chkS (last : Int) (s : Sg) : Int := if namedI s.v < 0 then 2 else if standB last s.v = false then 10 else if fitsB s = false then 6 else 0
def chkL : Int → Nat → List Sg → Int × Nat
  | _, _, [] => (0, 0)
  | last, i, s :: l => if chkS last s = 0 then chkL s.v (i + 1) l else (chkS last s, i)
def chk (l : List Sg) : Int × Nat := if 256 < l.length then (5, 256) else chkL 5 0 l
def SgAt (w : World) (A : Option Addr) (n : Nat) (ls : List Sg) : Prop := ls.length = n ∧ ∀ (k : Nat) (s : Sg), ls[k]? = some s → ∃ ad, A = some ad ∧ ∀ (j : Nat) (v : Value), s.cl[j]? = some v → w.cell? ((ad.add (k * 7)).add j) = some v
theorem SgAt.below {w w1 : World} {A : Option Addr} {n : Nat} {ls : List Sg} (h : SgAt w A n ls) (hw : Below w.heap.size w w1) : SgAt w1 A n ls :=
  ⟨h.1, fun k s hk => by obtain ⟨ad, h1, h2⟩ := h.2 k s hk; exact ⟨ad, h1, fun j v hj => keepc hw (h2 j v hj)⟩⟩
section
variable {w : World} {A A2 : Option Addr} {n n2 c c2 : Nat} {ls ms : List Sg} {X Y : Int}
theorem sg_idx {k : Nat} {ad : Addr} (hA : A = some ad) (hk : k < n) : (idxS 22 (.slice A n c) k).run Tryd.prog w = .ok (.value (.pointer (some (ad.add (k * 7))))) w := by
  rw [hA]; exact run_idxA (elem := 41) (by kernel_rfl) (by kernel_rfl) hk
theorem sg_ld {ad : Addr} {s : Sg} (h : ∀ (j : Nat) (v : Value), s.cl[j]? = some v → w.cell? (ad.add j) = some v) : (ldS 41 ad).run Tryd.prog w = .ok (.value s.val) w :=
  run_ldA (vs := s.cl) (by kernel_rfl) (by kernel_rfl) h
theorem valid_v {B : Bool} (h : validP X Y = B) : Calls Tryd.prog 61 #[pt X Y] w (CallPost w (fun _ : Unit => .bool B) fun _ _ => True) := h ▸ valid_m
theorem rvalid_v {B : Bool} (h : validP X Y = B) : Calls Tryd.prog 67 #[pt X Y] w (CallPost w (fun _ : Unit => .bool B) fun _ _ => True) := h ▸ rvalid_m
set_option maxRecDepth 100000 in
set_option maxHeartbeats 1000000 in
theorem named_m {v r : Int} (h : namedI v = r) : Calls Tryd.prog 42 #[.int .i64 v] w (CallPost w (fun _ : Unit => .int .i64 r) fun _ _ => True) := by
  rcases named_cases v with rfl | rfl | rfl | rfl | rfl | hv
  · obtain rfl : r = 1 := h.symm
    refine Good.enter Tryd.func42 rfl ?_
    refine Good.runC (by kernel_rfl) (stop := 1000) 6000 _ ?_
    refine Good.ret (v := .int .i64 1) (by kernel_rfl) (fun w1 hw h => ⟨(), rfl, hw, fun _ _ _ => trivial⟩)
  · obtain rfl : r = 1 := h.symm
    refine Good.enter Tryd.func42 rfl ?_
    refine Good.runC (by kernel_rfl) (stop := 1000) 6000 _ ?_
    refine Good.ret (v := .int .i64 1) (by kernel_rfl) (fun w1 hw h => ⟨(), rfl, hw, fun _ _ _ => trivial⟩)
  · obtain rfl : r = 2 := h.symm
    refine Good.enter Tryd.func42 rfl ?_
    refine Good.runC (by kernel_rfl) (stop := 1000) 6000 _ ?_
    refine Good.ret (v := .int .i64 2) (by kernel_rfl) (fun w1 hw h => ⟨(), rfl, hw, fun _ _ _ => trivial⟩)
  · obtain rfl : r = 3 := h.symm
    refine Good.enter Tryd.func42 rfl ?_
    refine Good.runC (by kernel_rfl) (stop := 1000) 6000 _ ?_
    refine Good.ret (v := .int .i64 3) (by kernel_rfl) (fun w1 hw h => ⟨(), rfl, hw, fun _ _ _ => trivial⟩)
  · obtain rfl : r = 0 := h.symm
    refine Good.enter Tryd.func42 rfl ?_
    refine Good.runC (by kernel_rfl) (stop := 1000) 6000 _ ?_
    refine Good.ret (v := .int .i64 0) (by kernel_rfl) (fun w1 hw h => ⟨(), rfl, hw, fun _ _ _ => trivial⟩)
  · obtain rfl : r = -1 := h.symm.trans (named_other hv)
    refine Good.enter Tryd.func42 rfl ?_
    refine Good.run (by kernel_rfl) (stop := 1000) 1000 _ ?_
    refine Good.condr ((v == 4)) false (by kernel_rfl) (by simp; omega) ?_
    refine Good.run (by kernel_rfl) (stop := 1000) 1000 _ ?_
    refine Good.condr ((v == 3)) false (by kernel_rfl) (by simp; omega) ?_
    refine Good.run (by kernel_rfl) (stop := 1000) 1000 _ ?_
    refine Good.condr ((v == 1)) false (by kernel_rfl) (by simp; omega) ?_
    refine Good.run (by kernel_rfl) (stop := 1000) 1000 _ ?_
    refine Good.condr ((v == 2)) false (by kernel_rfl) (by simp; omega) ?_
    refine Good.run (by kernel_rfl) (stop := 1000) 1000 _ ?_
    refine Good.condr ((v == 5)) false (by kernel_rfl) (by simp; omega) ?_
    refine Good.run (by kernel_rfl) (stop := 1000) 1000 _ ?_
    refine Good.ret (v := .int .i64 (-1)) (by kernel_rfl) (fun w1 hw h => ⟨(), rfl, hw, fun _ _ _ => trivial⟩)
set_option maxRecDepth 100000 in
set_option maxHeartbeats 1000000 in
theorem rnamed_m {v r : Int} (h : namedI v = r) : Calls Tryd.prog 64 #[.int .i64 v] w (CallPost w (fun _ : Unit => .int .i64 r) fun _ _ => True) := by
  rcases named_cases v with rfl | rfl | rfl | rfl | rfl | hv
  · obtain rfl : r = 1 := h.symm
    refine Good.enter Tryd.func64 rfl ?_
    refine Good.runC (by kernel_rfl) (stop := 1000) 6000 _ ?_
    refine Good.ret (v := .int .i64 1) (by kernel_rfl) (fun w1 hw h => ⟨(), rfl, hw, fun _ _ _ => trivial⟩)
  · obtain rfl : r = 1 := h.symm
    refine Good.enter Tryd.func64 rfl ?_
    refine Good.runC (by kernel_rfl) (stop := 1000) 6000 _ ?_
    refine Good.ret (v := .int .i64 1) (by kernel_rfl) (fun w1 hw h => ⟨(), rfl, hw, fun _ _ _ => trivial⟩)
  · obtain rfl : r = 2 := h.symm
    refine Good.enter Tryd.func64 rfl ?_
    refine Good.runC (by kernel_rfl) (stop := 1000) 6000 _ ?_
    refine Good.ret (v := .int .i64 2) (by kernel_rfl) (fun w1 hw h => ⟨(), rfl, hw, fun _ _ _ => trivial⟩)
  · obtain rfl : r = 3 := h.symm
    refine Good.enter Tryd.func64 rfl ?_
    refine Good.runC (by kernel_rfl) (stop := 1000) 6000 _ ?_
    refine Good.ret (v := .int .i64 3) (by kernel_rfl) (fun w1 hw h => ⟨(), rfl, hw, fun _ _ _ => trivial⟩)
  · obtain rfl : r = 0 := h.symm
    refine Good.enter Tryd.func64 rfl ?_
    refine Good.runC (by kernel_rfl) (stop := 1000) 6000 _ ?_
    refine Good.ret (v := .int .i64 0) (by kernel_rfl) (fun w1 hw h => ⟨(), rfl, hw, fun _ _ _ => trivial⟩)
  · obtain rfl : r = -1 := h.symm.trans (named_other hv)
    refine Good.enter Tryd.func64 rfl ?_
    refine Good.run (by kernel_rfl) (stop := 1000) 1000 _ ?_
    refine Good.condr ((v == 1)) false (by kernel_rfl) (by simp; omega) ?_
    refine Good.run (by kernel_rfl) (stop := 1000) 1000 _ ?_
    refine Good.condr ((v == 2)) false (by kernel_rfl) (by simp; omega) ?_
    refine Good.run (by kernel_rfl) (stop := 1000) 1000 _ ?_
    refine Good.condr ((v == 3)) false (by kernel_rfl) (by simp; omega) ?_
    refine Good.run (by kernel_rfl) (stop := 1000) 1000 _ ?_
    refine Good.condr ((v == 4)) false (by kernel_rfl) (by simp; omega) ?_
    refine Good.run (by kernel_rfl) (stop := 1000) 1000 _ ?_
    refine Good.condr ((v == 5)) false (by kernel_rfl) (by simp; omega) ?_
    refine Good.run (by kernel_rfl) (stop := 1000) 1000 _ ?_
    refine Good.ret (v := .int .i64 (-1)) (by kernel_rfl) (fun w1 hw h => ⟨(), rfl, hw, fun _ _ _ => trivial⟩)
theorem lit_ld {g off : Nat} {cells : Array Value} {x y : Int} (h : litG 39 cells g w) (hc : ∀ (j : Nat) (v : Value), ([.int .i64 x, .int .i64 y] : List Value)[j]? = some v → cells[off + j]? = some v) : (ldS 39 ⟨g, off, none⟩).run Tryd.prog w = .ok (.value (pt x y)) w :=
  run_ldN (vs := [.int .i64 x, .int .i64 y]) (by kernel_rfl) (by kernel_rfl) (fun j v hj => by
    have h1 : w.heap[g]? = some (.cells cells 39 (0, 0)) := h
    simp only [World.cell?, h1, Option.isSome_none, Bool.false_eq_true, if_false]
    exact hc j v hj)
theorem okP_in {i n x y : Int} (h : i < n) : okP i n x y = validP x y := by unfold okP; rw [decide_eq_true h]; simp
theorem okP_out {i n x y : Int} (h : ¬ i < n) : okP i n x y = (validP x y && (x == 0 && y == 0)) := by unfold okP; rw [decide_eq_false h]; simp
set_option maxRecDepth 100000 in
set_option maxHeartbeats 1000000 in
theorem fits_0 {s : Sg} {B : Bool} (hn : namedI s.v = 0) (h : fitsB s = B) : Calls Tryd.prog 43 #[s.val] w (CallPost w (fun _ : Unit => .bool B) fun _ _ => True) := by
  unfold fitsB at h
  rw [hn, okP_out (show ¬ ((0 : Int) < 0) by decide), okP_out (show ¬ ((1 : Int) < 0) by decide), okP_out (show ¬ ((2 : Int) < 0) by decide)] at h
  refine Good.enter Tryd.func43 rfl ?_
  refine Good.run (by kernel_rfl) (stop := 1000) 1000 _ ?_
  refine Good.make (litS (36) 3 #[(0, pt s.ax s.ay), (1, pt s.bx s.by_), (2, pt s.cx s.cy)]) (litV 3) (litG 39 #[.int .i64 s.ax, .int .i64 s.ay, .int .i64 s.bx, .int .i64 s.by_, .int .i64 s.cx, .int .i64 s.cy]) (by kernel_rfl) (fun w1 hw h => make_lit (by kernel_rfl)) (fun g => ?_)
  refine Good.run (by kernel_rfl) (stop := 1000) 1000 _ ?_
  refine Good.un (by kernel_rfl) ?_
  refine Good.run (by kernel_rfl) (stop := 1000) 1000 _ ?_
  refine Good.drop 4 (by kernel_rfl) (fun _ => ?_)
  refine Good.cond true (by kernel_rfl) ?_
  refine Good.run (by kernel_rfl) (stop := 1000) 1000 _ ?_
  refine Good.ask (idxS 36 (litV 3 g) (0 : Nat)) (.pointer (some ⟨g, 0 * 2, none⟩)) (by kernel_rfl) (fun w1 hw h => run_idxN (elem := 39) (by kernel_rfl) (by kernel_rfl) (by decide)) ?_
  refine Good.run (by kernel_rfl) (stop := 1000) 1000 _ ?_
  refine Good.ask (ldS 39 ⟨g, 0 * 2, none⟩) (pt s.ax s.ay) (by kernel_rfl) (fun w1 hw h => lit_ld h.2 (fun j v hj => by rcases j with _ | _ | j <;> simp at hj ⊢ <;> exact hj)) ?_
  refine Good.run (by kernel_rfl) (stop := 1000) 1000 _ ?_
  cases hv0 : validP s.ax s.ay with
  | false =>
    obtain rfl : B = false := by rw [← h, hv0]; simp
    refine Good.callv (fun w1 hw h => valid_v hv0) (by kernel_rfl) (fun u => ?_)
    refine Good.run (by kernel_rfl) (stop := 1000) 1000 _ ?_
    refine Good.cond true (by kernel_rfl) ?_
    refine Good.run (by kernel_rfl) (stop := 1000) 1000 _ ?_
    refine Good.ret (v := .bool false) (by kernel_rfl) (fun w1 hw h => ⟨(), rfl, hw, fun _ _ _ => trivial⟩)
  | true =>
  rw [hv0] at h
  refine Good.callv (fun w1 hw h => valid_v hv0) (by kernel_rfl) (fun u => ?_)
  refine Good.run (by kernel_rfl) (stop := 1000) 1000 _ ?_
  refine Good.callv (fun w1 hw h => named_m hn) (by kernel_rfl) (fun u => ?_)
  refine Good.run (by kernel_rfl) (stop := 12) 1000 _ ?_
  cases hz0 : (s.ax == 0 && s.ay == 0) with
  | false =>
    obtain rfl : B = false := by rw [← h, hz0]; simp
    refine Good.ask (neP 39 (.tmp 28) (.tmp 29) (pt s.ax s.ay) (pt 0 0)) (.bool true) (by kernel_rfl) (fun w1 hw h => by rw [run_neP, hz0]; rfl) ?_
    refine Good.run (by kernel_rfl) (stop := 1000) 1000 _ ?_
    refine Good.cond true (by kernel_rfl) ?_
    refine Good.run (by kernel_rfl) (stop := 1000) 1000 _ ?_
    refine Good.ret (v := .bool false) (by kernel_rfl) (fun w1 hw h => ⟨(), rfl, hw, fun _ _ _ => trivial⟩)
  | true =>
  rw [hz0] at h
  refine Good.ask (neP 39 (.tmp 28) (.tmp 29) (pt s.ax s.ay) (pt 0 0)) (.bool false) (by kernel_rfl) (fun w1 hw h => by rw [run_neP, hz0]; rfl) ?_
  refine Good.run (by kernel_rfl) (stop := 1000) 1000 _ ?_
  refine Good.cond false (by kernel_rfl) ?_
  refine Good.run (by kernel_rfl) (stop := 1000) 1000 _ ?_
  refine Good.drop 4 (by kernel_rfl) (fun _ => ?_)
  refine Good.cond true (by kernel_rfl) ?_
  refine Good.run (by kernel_rfl) (stop := 1000) 1000 _ ?_
  refine Good.ask (idxS 36 (litV 3 g) (1 : Nat)) (.pointer (some ⟨g, 1 * 2, none⟩)) (by kernel_rfl) (fun w1 hw h => run_idxN (elem := 39) (by kernel_rfl) (by kernel_rfl) (by decide)) ?_
  refine Good.run (by kernel_rfl) (stop := 1000) 1000 _ ?_
  refine Good.ask (ldS 39 ⟨g, 1 * 2, none⟩) (pt s.bx s.by_) (by kernel_rfl) (fun w1 hw h => lit_ld h.1.1.2 (fun j v hj => by rcases j with _ | _ | j <;> simp at hj ⊢ <;> exact hj)) ?_
  refine Good.run (by kernel_rfl) (stop := 1000) 1000 _ ?_
  cases hv1 : validP s.bx s.by_ with
  | false =>
    obtain rfl : B = false := by rw [← h, hv1]; simp
    refine Good.callv (fun w1 hw h => valid_v hv1) (by kernel_rfl) (fun u => ?_)
    refine Good.run (by kernel_rfl) (stop := 1000) 1000 _ ?_
    refine Good.cond true (by kernel_rfl) ?_
    refine Good.run (by kernel_rfl) (stop := 1000) 1000 _ ?_
    refine Good.ret (v := .bool false) (by kernel_rfl) (fun w1 hw h => ⟨(), rfl, hw, fun _ _ _ => trivial⟩)
  | true =>
  rw [hv1] at h
  refine Good.callv (fun w1 hw h => valid_v hv1) (by kernel_rfl) (fun u => ?_)
  refine Good.run (by kernel_rfl) (stop := 1000) 1000 _ ?_
  refine Good.callv (fun w1 hw h => named_m hn) (by kernel_rfl) (fun u => ?_)
  refine Good.run (by kernel_rfl) (stop := 12) 1000 _ ?_
  cases hz1 : (s.bx == 0 && s.by_ == 0) with
  | false =>
    obtain rfl : B = false := by rw [← h, hz1]; simp
    refine Good.ask (neP 39 (.tmp 28) (.tmp 29) (pt s.bx s.by_) (pt 0 0)) (.bool true) (by kernel_rfl) (fun w1 hw h => by rw [run_neP, hz1]; rfl) ?_
    refine Good.run (by kernel_rfl) (stop := 1000) 1000 _ ?_
    refine Good.cond true (by kernel_rfl) ?_
    refine Good.run (by kernel_rfl) (stop := 1000) 1000 _ ?_
    refine Good.ret (v := .bool false) (by kernel_rfl) (fun w1 hw h => ⟨(), rfl, hw, fun _ _ _ => trivial⟩)
  | true =>
  rw [hz1] at h
  refine Good.ask (neP 39 (.tmp 28) (.tmp 29) (pt s.bx s.by_) (pt 0 0)) (.bool false) (by kernel_rfl) (fun w1 hw h => by rw [run_neP, hz1]; rfl) ?_
  refine Good.run (by kernel_rfl) (stop := 1000) 1000 _ ?_
  refine Good.cond false (by kernel_rfl) ?_
  refine Good.run (by kernel_rfl) (stop := 1000) 1000 _ ?_
  refine Good.drop 4 (by kernel_rfl) (fun _ => ?_)
  refine Good.cond true (by kernel_rfl) ?_
  refine Good.run (by kernel_rfl) (stop := 1000) 1000 _ ?_
  refine Good.ask (idxS 36 (litV 3 g) (2 : Nat)) (.pointer (some ⟨g, 2 * 2, none⟩)) (by kernel_rfl) (fun w1 hw h => run_idxN (elem := 39) (by kernel_rfl) (by kernel_rfl) (by decide)) ?_
  refine Good.run (by kernel_rfl) (stop := 1000) 1000 _ ?_
  refine Good.ask (ldS 39 ⟨g, 2 * 2, none⟩) (pt s.cx s.cy) (by kernel_rfl) (fun w1 hw h => lit_ld h.1.1.1.1.2 (fun j v hj => by rcases j with _ | _ | j <;> simp at hj ⊢ <;> exact hj)) ?_
  refine Good.run (by kernel_rfl) (stop := 1000) 1000 _ ?_
  cases hv2 : validP s.cx s.cy with
  | false =>
    obtain rfl : B = false := by rw [← h, hv2]; simp
    refine Good.callv (fun w1 hw h => valid_v hv2) (by kernel_rfl) (fun u => ?_)
    refine Good.run (by kernel_rfl) (stop := 1000) 1000 _ ?_
    refine Good.cond true (by kernel_rfl) ?_
    refine Good.run (by kernel_rfl) (stop := 1000) 1000 _ ?_
    refine Good.ret (v := .bool false) (by kernel_rfl) (fun w1 hw h => ⟨(), rfl, hw, fun _ _ _ => trivial⟩)
  | true =>
  rw [hv2] at h
  refine Good.callv (fun w1 hw h => valid_v hv2) (by kernel_rfl) (fun u => ?_)
  refine Good.run (by kernel_rfl) (stop := 1000) 1000 _ ?_
  refine Good.callv (fun w1 hw h => named_m hn) (by kernel_rfl) (fun u => ?_)
  refine Good.run (by kernel_rfl) (stop := 12) 1000 _ ?_
  cases hz2 : (s.cx == 0 && s.cy == 0) with
  | false =>
    obtain rfl : B = false := by rw [← h, hz2]; simp
    refine Good.ask (neP 39 (.tmp 28) (.tmp 29) (pt s.cx s.cy) (pt 0 0)) (.bool true) (by kernel_rfl) (fun w1 hw h => by rw [run_neP, hz2]; rfl) ?_
    refine Good.run (by kernel_rfl) (stop := 1000) 1000 _ ?_
    refine Good.cond true (by kernel_rfl) ?_
    refine Good.run (by kernel_rfl) (stop := 1000) 1000 _ ?_
    refine Good.ret (v := .bool false) (by kernel_rfl) (fun w1 hw h => ⟨(), rfl, hw, fun _ _ _ => trivial⟩)
  | true =>
  rw [hz2] at h
  refine Good.ask (neP 39 (.tmp 28) (.tmp 29) (pt s.cx s.cy) (pt 0 0)) (.bool false) (by kernel_rfl) (fun w1 hw h => by rw [run_neP, hz2]; rfl) ?_
  refine Good.run (by kernel_rfl) (stop := 1000) 1000 _ ?_
  refine Good.cond false (by kernel_rfl) ?_
  refine Good.run (by kernel_rfl) (stop := 1000) 1000 _ ?_
  obtain rfl : B = true := by rw [← h]; rfl
  refine Good.cond false (by kernel_rfl) ?_
  refine Good.run (by kernel_rfl) (stop := 1000) 1000 _ ?_
  refine Good.ret (v := .bool true) (by kernel_rfl) (fun w1 hw h => ⟨(), rfl, hw, fun _ _ _ => trivial⟩)
set_option maxRecDepth 100000 in
set_option maxHeartbeats 1000000 in
theorem fits_1 {s : Sg} {B : Bool} (hn : namedI s.v = 1) (h : fitsB s = B) : Calls Tryd.prog 43 #[s.val] w (CallPost w (fun _ : Unit => .bool B) fun _ _ => True) := by
  unfold fitsB at h
  rw [hn, okP_in (show (0 : Int) < 1 by decide), okP_out (show ¬ ((1 : Int) < 1) by decide), okP_out (show ¬ ((2 : Int) < 1) by decide)] at h
  refine Good.enter Tryd.func43 rfl ?_
  refine Good.run (by kernel_rfl) (stop := 1000) 1000 _ ?_
  refine Good.make (litS (36) 3 #[(0, pt s.ax s.ay), (1, pt s.bx s.by_), (2, pt s.cx s.cy)]) (litV 3) (litG 39 #[.int .i64 s.ax, .int .i64 s.ay, .int .i64 s.bx, .int .i64 s.by_, .int .i64 s.cx, .int .i64 s.cy]) (by kernel_rfl) (fun w1 hw h => make_lit (by kernel_rfl)) (fun g => ?_)
  refine Good.run (by kernel_rfl) (stop := 1000) 1000 _ ?_
  refine Good.un (by kernel_rfl) ?_
  refine Good.run (by kernel_rfl) (stop := 1000) 1000 _ ?_
  refine Good.drop 4 (by kernel_rfl) (fun _ => ?_)
  refine Good.cond true (by kernel_rfl) ?_
  refine Good.run (by kernel_rfl) (stop := 1000) 1000 _ ?_
  refine Good.ask (idxS 36 (litV 3 g) (0 : Nat)) (.pointer (some ⟨g, 0 * 2, none⟩)) (by kernel_rfl) (fun w1 hw h => run_idxN (elem := 39) (by kernel_rfl) (by kernel_rfl) (by decide)) ?_
  refine Good.run (by kernel_rfl) (stop := 1000) 1000 _ ?_
  refine Good.ask (ldS 39 ⟨g, 0 * 2, none⟩) (pt s.ax s.ay) (by kernel_rfl) (fun w1 hw h => lit_ld h.2 (fun j v hj => by rcases j with _ | _ | j <;> simp at hj ⊢ <;> exact hj)) ?_
  refine Good.run (by kernel_rfl) (stop := 1000) 1000 _ ?_
  cases hv0 : validP s.ax s.ay with
  | false =>
    obtain rfl : B = false := by rw [← h, hv0]; simp
    refine Good.callv (fun w1 hw h => valid_v hv0) (by kernel_rfl) (fun u => ?_)
    refine Good.run (by kernel_rfl) (stop := 1000) 1000 _ ?_
    refine Good.cond true (by kernel_rfl) ?_
    refine Good.run (by kernel_rfl) (stop := 1000) 1000 _ ?_
    refine Good.ret (v := .bool false) (by kernel_rfl) (fun w1 hw h => ⟨(), rfl, hw, fun _ _ _ => trivial⟩)
  | true =>
  rw [hv0] at h
  refine Good.callv (fun w1 hw h => valid_v hv0) (by kernel_rfl) (fun u => ?_)
  refine Good.run (by kernel_rfl) (stop := 1000) 1000 _ ?_
  refine Good.callv (fun w1 hw h => named_m hn) (by kernel_rfl) (fun u => ?_)
  refine Good.run (by kernel_rfl) (stop := 1000) 1000 _ ?_
  refine Good.cond false (by kernel_rfl) ?_
  refine Good.run (by kernel_rfl) (stop := 1000) 1000 _ ?_
  refine Good.drop 4 (by kernel_rfl) (fun _ => ?_)
  refine Good.cond true (by kernel_rfl) ?_
  refine Good.run (by kernel_rfl) (stop := 1000) 1000 _ ?_
  refine Good.ask (idxS 36 (litV 3 g) (1 : Nat)) (.pointer (some ⟨g, 1 * 2, none⟩)) (by kernel_rfl) (fun w1 hw h => run_idxN (elem := 39) (by kernel_rfl) (by kernel_rfl) (by decide)) ?_
  refine Good.run (by kernel_rfl) (stop := 1000) 1000 _ ?_
  refine Good.ask (ldS 39 ⟨g, 1 * 2, none⟩) (pt s.bx s.by_) (by kernel_rfl) (fun w1 hw h => lit_ld h.1.1.2 (fun j v hj => by rcases j with _ | _ | j <;> simp at hj ⊢ <;> exact hj)) ?_
  refine Good.run (by kernel_rfl) (stop := 1000) 1000 _ ?_
  cases hv1 : validP s.bx s.by_ with
  | false =>
    obtain rfl : B = false := by rw [← h, hv1]; simp
    refine Good.callv (fun w1 hw h => valid_v hv1) (by kernel_rfl) (fun u => ?_)
    refine Good.run (by kernel_rfl) (stop := 1000) 1000 _ ?_
    refine Good.cond true (by kernel_rfl) ?_
    refine Good.run (by kernel_rfl) (stop := 1000) 1000 _ ?_
    refine Good.ret (v := .bool false) (by kernel_rfl) (fun w1 hw h => ⟨(), rfl, hw, fun _ _ _ => trivial⟩)
  | true =>
  rw [hv1] at h
  refine Good.callv (fun w1 hw h => valid_v hv1) (by kernel_rfl) (fun u => ?_)
  refine Good.run (by kernel_rfl) (stop := 1000) 1000 _ ?_
  refine Good.callv (fun w1 hw h => named_m hn) (by kernel_rfl) (fun u => ?_)
  refine Good.run (by kernel_rfl) (stop := 12) 1000 _ ?_
  cases hz1 : (s.bx == 0 && s.by_ == 0) with
  | false =>
    obtain rfl : B = false := by rw [← h, hz1]; simp
    refine Good.ask (neP 39 (.tmp 28) (.tmp 29) (pt s.bx s.by_) (pt 0 0)) (.bool true) (by kernel_rfl) (fun w1 hw h => by rw [run_neP, hz1]; rfl) ?_
    refine Good.run (by kernel_rfl) (stop := 1000) 1000 _ ?_
    refine Good.cond true (by kernel_rfl) ?_
    refine Good.run (by kernel_rfl) (stop := 1000) 1000 _ ?_
    refine Good.ret (v := .bool false) (by kernel_rfl) (fun w1 hw h => ⟨(), rfl, hw, fun _ _ _ => trivial⟩)
  | true =>
  rw [hz1] at h
  refine Good.ask (neP 39 (.tmp 28) (.tmp 29) (pt s.bx s.by_) (pt 0 0)) (.bool false) (by kernel_rfl) (fun w1 hw h => by rw [run_neP, hz1]; rfl) ?_
  refine Good.run (by kernel_rfl) (stop := 1000) 1000 _ ?_
  refine Good.cond false (by kernel_rfl) ?_
  refine Good.run (by kernel_rfl) (stop := 1000) 1000 _ ?_
  refine Good.drop 4 (by kernel_rfl) (fun _ => ?_)
  refine Good.cond true (by kernel_rfl) ?_
  refine Good.run (by kernel_rfl) (stop := 1000) 1000 _ ?_
  refine Good.ask (idxS 36 (litV 3 g) (2 : Nat)) (.pointer (some ⟨g, 2 * 2, none⟩)) (by kernel_rfl) (fun w1 hw h => run_idxN (elem := 39) (by kernel_rfl) (by kernel_rfl) (by decide)) ?_
  refine Good.run (by kernel_rfl) (stop := 1000) 1000 _ ?_
  refine Good.ask (ldS 39 ⟨g, 2 * 2, none⟩) (pt s.cx s.cy) (by kernel_rfl) (fun w1 hw h => lit_ld h.1.1.1.1.2 (fun j v hj => by rcases j with _ | _ | j <;> simp at hj ⊢ <;> exact hj)) ?_
  refine Good.run (by kernel_rfl) (stop := 1000) 1000 _ ?_
  cases hv2 : validP s.cx s.cy with
  | false =>
    obtain rfl : B = false := by rw [← h, hv2]; simp
    refine Good.callv (fun w1 hw h => valid_v hv2) (by kernel_rfl) (fun u => ?_)
    refine Good.run (by kernel_rfl) (stop := 1000) 1000 _ ?_
    refine Good.cond true (by kernel_rfl) ?_
    refine Good.run (by kernel_rfl) (stop := 1000) 1000 _ ?_
    refine Good.ret (v := .bool false) (by kernel_rfl) (fun w1 hw h => ⟨(), rfl, hw, fun _ _ _ => trivial⟩)
  | true =>
  rw [hv2] at h
  refine Good.callv (fun w1 hw h => valid_v hv2) (by kernel_rfl) (fun u => ?_)
  refine Good.run (by kernel_rfl) (stop := 1000) 1000 _ ?_
  refine Good.callv (fun w1 hw h => named_m hn) (by kernel_rfl) (fun u => ?_)
  refine Good.run (by kernel_rfl) (stop := 12) 1000 _ ?_
  cases hz2 : (s.cx == 0 && s.cy == 0) with
  | false =>
    obtain rfl : B = false := by rw [← h, hz2]; simp
    refine Good.ask (neP 39 (.tmp 28) (.tmp 29) (pt s.cx s.cy) (pt 0 0)) (.bool true) (by kernel_rfl) (fun w1 hw h => by rw [run_neP, hz2]; rfl) ?_
    refine Good.run (by kernel_rfl) (stop := 1000) 1000 _ ?_
    refine Good.cond true (by kernel_rfl) ?_
    refine Good.run (by kernel_rfl) (stop := 1000) 1000 _ ?_
    refine Good.ret (v := .bool false) (by kernel_rfl) (fun w1 hw h => ⟨(), rfl, hw, fun _ _ _ => trivial⟩)
  | true =>
  rw [hz2] at h
  refine Good.ask (neP 39 (.tmp 28) (.tmp 29) (pt s.cx s.cy) (pt 0 0)) (.bool false) (by kernel_rfl) (fun w1 hw h => by rw [run_neP, hz2]; rfl) ?_
  refine Good.run (by kernel_rfl) (stop := 1000) 1000 _ ?_
  refine Good.cond false (by kernel_rfl) ?_
  refine Good.run (by kernel_rfl) (stop := 1000) 1000 _ ?_
  obtain rfl : B = true := by rw [← h]; rfl
  refine Good.cond false (by kernel_rfl) ?_
  refine Good.run (by kernel_rfl) (stop := 1000) 1000 _ ?_
  refine Good.ret (v := .bool true) (by kernel_rfl) (fun w1 hw h => ⟨(), rfl, hw, fun _ _ _ => trivial⟩)
set_option maxRecDepth 100000 in
set_option maxHeartbeats 1000000 in
theorem fits_2 {s : Sg} {B : Bool} (hn : namedI s.v = 2) (h : fitsB s = B) : Calls Tryd.prog 43 #[s.val] w (CallPost w (fun _ : Unit => .bool B) fun _ _ => True) := by
  unfold fitsB at h
  rw [hn, okP_in (show (0 : Int) < 2 by decide), okP_in (show (1 : Int) < 2 by decide), okP_out (show ¬ ((2 : Int) < 2) by decide)] at h
  refine Good.enter Tryd.func43 rfl ?_
  refine Good.run (by kernel_rfl) (stop := 1000) 1000 _ ?_
  refine Good.make (litS (36) 3 #[(0, pt s.ax s.ay), (1, pt s.bx s.by_), (2, pt s.cx s.cy)]) (litV 3) (litG 39 #[.int .i64 s.ax, .int .i64 s.ay, .int .i64 s.bx, .int .i64 s.by_, .int .i64 s.cx, .int .i64 s.cy]) (by kernel_rfl) (fun w1 hw h => make_lit (by kernel_rfl)) (fun g => ?_)
  refine Good.run (by kernel_rfl) (stop := 1000) 1000 _ ?_
  refine Good.un (by kernel_rfl) ?_
  refine Good.run (by kernel_rfl) (stop := 1000) 1000 _ ?_
  refine Good.drop 4 (by kernel_rfl) (fun _ => ?_)
  refine Good.cond true (by kernel_rfl) ?_
  refine Good.run (by kernel_rfl) (stop := 1000) 1000 _ ?_
  refine Good.ask (idxS 36 (litV 3 g) (0 : Nat)) (.pointer (some ⟨g, 0 * 2, none⟩)) (by kernel_rfl) (fun w1 hw h => run_idxN (elem := 39) (by kernel_rfl) (by kernel_rfl) (by decide)) ?_
  refine Good.run (by kernel_rfl) (stop := 1000) 1000 _ ?_
  refine Good.ask (ldS 39 ⟨g, 0 * 2, none⟩) (pt s.ax s.ay) (by kernel_rfl) (fun w1 hw h => lit_ld h.2 (fun j v hj => by rcases j with _ | _ | j <;> simp at hj ⊢ <;> exact hj)) ?_
  refine Good.run (by kernel_rfl) (stop := 1000) 1000 _ ?_
  cases hv0 : validP s.ax s.ay with
  | false =>
    obtain rfl : B = false := by rw [← h, hv0]; simp
    refine Good.callv (fun w1 hw h => valid_v hv0) (by kernel_rfl) (fun u => ?_)
    refine Good.run (by kernel_rfl) (stop := 1000) 1000 _ ?_
    refine Good.cond true (by kernel_rfl) ?_
    refine Good.run (by kernel_rfl) (stop := 1000) 1000 _ ?_
    refine Good.ret (v := .bool false) (by kernel_rfl) (fun w1 hw h => ⟨(), rfl, hw, fun _ _ _ => trivial⟩)
  | true =>
  rw [hv0] at h
  refine Good.callv (fun w1 hw h => valid_v hv0) (by kernel_rfl) (fun u => ?_)
  refine Good.run (by kernel_rfl) (stop := 1000) 1000 _ ?_
  refine Good.callv (fun w1 hw h => named_m hn) (by kernel_rfl) (fun u => ?_)
  refine Good.run (by kernel_rfl) (stop := 1000) 1000 _ ?_
  refine Good.cond false (by kernel_rfl) ?_
  refine Good.run (by kernel_rfl) (stop := 1000) 1000 _ ?_
  refine Good.drop 4 (by kernel_rfl) (fun _ => ?_)
  refine Good.cond true (by kernel_rfl) ?_
  refine Good.run (by kernel_rfl) (stop := 1000) 1000 _ ?_
  refine Good.ask (idxS 36 (litV 3 g) (1 : Nat)) (.pointer (some ⟨g, 1 * 2, none⟩)) (by kernel_rfl) (fun w1 hw h => run_idxN (elem := 39) (by kernel_rfl) (by kernel_rfl) (by decide)) ?_
  refine Good.run (by kernel_rfl) (stop := 1000) 1000 _ ?_
  refine Good.ask (ldS 39 ⟨g, 1 * 2, none⟩) (pt s.bx s.by_) (by kernel_rfl) (fun w1 hw h => lit_ld h.1.1.2 (fun j v hj => by rcases j with _ | _ | j <;> simp at hj ⊢ <;> exact hj)) ?_
  refine Good.run (by kernel_rfl) (stop := 1000) 1000 _ ?_
  cases hv1 : validP s.bx s.by_ with
  | false =>
    obtain rfl : B = false := by rw [← h, hv1]; simp
    refine Good.callv (fun w1 hw h => valid_v hv1) (by kernel_rfl) (fun u => ?_)
    refine Good.run (by kernel_rfl) (stop := 1000) 1000 _ ?_
    refine Good.cond true (by kernel_rfl) ?_
    refine Good.run (by kernel_rfl) (stop := 1000) 1000 _ ?_
    refine Good.ret (v := .bool false) (by kernel_rfl) (fun w1 hw h => ⟨(), rfl, hw, fun _ _ _ => trivial⟩)
  | true =>
  rw [hv1] at h
  refine Good.callv (fun w1 hw h => valid_v hv1) (by kernel_rfl) (fun u => ?_)
  refine Good.run (by kernel_rfl) (stop := 1000) 1000 _ ?_
  refine Good.callv (fun w1 hw h => named_m hn) (by kernel_rfl) (fun u => ?_)
  refine Good.run (by kernel_rfl) (stop := 1000) 1000 _ ?_
  refine Good.cond false (by kernel_rfl) ?_
  refine Good.run (by kernel_rfl) (stop := 1000) 1000 _ ?_
  refine Good.drop 4 (by kernel_rfl) (fun _ => ?_)
  refine Good.cond true (by kernel_rfl) ?_
  refine Good.run (by kernel_rfl) (stop := 1000) 1000 _ ?_
  refine Good.ask (idxS 36 (litV 3 g) (2 : Nat)) (.pointer (some ⟨g, 2 * 2, none⟩)) (by kernel_rfl) (fun w1 hw h => run_idxN (elem := 39) (by kernel_rfl) (by kernel_rfl) (by decide)) ?_
  refine Good.run (by kernel_rfl) (stop := 1000) 1000 _ ?_
  refine Good.ask (ldS 39 ⟨g, 2 * 2, none⟩) (pt s.cx s.cy) (by kernel_rfl) (fun w1 hw h => lit_ld h.1.1.1.1.2 (fun j v hj => by rcases j with _ | _ | j <;> simp at hj ⊢ <;> exact hj)) ?_
  refine Good.run (by kernel_rfl) (stop := 1000) 1000 _ ?_
  cases hv2 : validP s.cx s.cy with
  | false =>
    obtain rfl : B = false := by rw [← h, hv2]; simp
    refine Good.callv (fun w1 hw h => valid_v hv2) (by kernel_rfl) (fun u => ?_)
    refine Good.run (by kernel_rfl) (stop := 1000) 1000 _ ?_
    refine Good.cond true (by kernel_rfl) ?_
    refine Good.run (by kernel_rfl) (stop := 1000) 1000 _ ?_
    refine Good.ret (v := .bool false) (by kernel_rfl) (fun w1 hw h => ⟨(), rfl, hw, fun _ _ _ => trivial⟩)
  | true =>
  rw [hv2] at h
  refine Good.callv (fun w1 hw h => valid_v hv2) (by kernel_rfl) (fun u => ?_)
  refine Good.run (by kernel_rfl) (stop := 1000) 1000 _ ?_
  refine Good.callv (fun w1 hw h => named_m hn) (by kernel_rfl) (fun u => ?_)
  refine Good.run (by kernel_rfl) (stop := 12) 1000 _ ?_
  cases hz2 : (s.cx == 0 && s.cy == 0) with
  | false =>
    obtain rfl : B = false := by rw [← h, hz2]; simp
    refine Good.ask (neP 39 (.tmp 28) (.tmp 29) (pt s.cx s.cy) (pt 0 0)) (.bool true) (by kernel_rfl) (fun w1 hw h => by rw [run_neP, hz2]; rfl) ?_
    refine Good.run (by kernel_rfl) (stop := 1000) 1000 _ ?_
    refine Good.cond true (by kernel_rfl) ?_
    refine Good.run (by kernel_rfl) (stop := 1000) 1000 _ ?_
    refine Good.ret (v := .bool false) (by kernel_rfl) (fun w1 hw h => ⟨(), rfl, hw, fun _ _ _ => trivial⟩)
  | true =>
  rw [hz2] at h
  refine Good.ask (neP 39 (.tmp 28) (.tmp 29) (pt s.cx s.cy) (pt 0 0)) (.bool false) (by kernel_rfl) (fun w1 hw h => by rw [run_neP, hz2]; rfl) ?_
  refine Good.run (by kernel_rfl) (stop := 1000) 1000 _ ?_
  refine Good.cond false (by kernel_rfl) ?_
  refine Good.run (by kernel_rfl) (stop := 1000) 1000 _ ?_
  obtain rfl : B = true := by rw [← h]; rfl
  refine Good.cond false (by kernel_rfl) ?_
  refine Good.run (by kernel_rfl) (stop := 1000) 1000 _ ?_
  refine Good.ret (v := .bool true) (by kernel_rfl) (fun w1 hw h => ⟨(), rfl, hw, fun _ _ _ => trivial⟩)
set_option maxRecDepth 100000 in
set_option maxHeartbeats 1000000 in
theorem fits_3 {s : Sg} {B : Bool} (hn : namedI s.v = 3) (h : fitsB s = B) : Calls Tryd.prog 43 #[s.val] w (CallPost w (fun _ : Unit => .bool B) fun _ _ => True) := by
  unfold fitsB at h
  rw [hn, okP_in (show (0 : Int) < 3 by decide), okP_in (show (1 : Int) < 3 by decide), okP_in (show (2 : Int) < 3 by decide)] at h
  refine Good.enter Tryd.func43 rfl ?_
  refine Good.run (by kernel_rfl) (stop := 1000) 1000 _ ?_
  refine Good.make (litS (36) 3 #[(0, pt s.ax s.ay), (1, pt s.bx s.by_), (2, pt s.cx s.cy)]) (litV 3) (litG 39 #[.int .i64 s.ax, .int .i64 s.ay, .int .i64 s.bx, .int .i64 s.by_, .int .i64 s.cx, .int .i64 s.cy]) (by kernel_rfl) (fun w1 hw h => make_lit (by kernel_rfl)) (fun g => ?_)
  refine Good.run (by kernel_rfl) (stop := 1000) 1000 _ ?_
  refine Good.un (by kernel_rfl) ?_
  refine Good.run (by kernel_rfl) (stop := 1000) 1000 _ ?_
  refine Good.drop 4 (by kernel_rfl) (fun _ => ?_)
  refine Good.cond true (by kernel_rfl) ?_
  refine Good.run (by kernel_rfl) (stop := 1000) 1000 _ ?_
  refine Good.ask (idxS 36 (litV 3 g) (0 : Nat)) (.pointer (some ⟨g, 0 * 2, none⟩)) (by kernel_rfl) (fun w1 hw h => run_idxN (elem := 39) (by kernel_rfl) (by kernel_rfl) (by decide)) ?_
  refine Good.run (by kernel_rfl) (stop := 1000) 1000 _ ?_
  refine Good.ask (ldS 39 ⟨g, 0 * 2, none⟩) (pt s.ax s.ay) (by kernel_rfl) (fun w1 hw h => lit_ld h.2 (fun j v hj => by rcases j with _ | _ | j <;> simp at hj ⊢ <;> exact hj)) ?_
  refine Good.run (by kernel_rfl) (stop := 1000) 1000 _ ?_
  cases hv0 : validP s.ax s.ay with
  | false =>
    obtain rfl : B = false := by rw [← h, hv0]; simp
    refine Good.callv (fun w1 hw h => valid_v hv0) (by kernel_rfl) (fun u => ?_)
    refine Good.run (by kernel_rfl) (stop := 1000) 1000 _ ?_
    refine Good.cond true (by kernel_rfl) ?_
    refine Good.run (by kernel_rfl) (stop := 1000) 1000 _ ?_
    refine Good.ret (v := .bool false) (by kernel_rfl) (fun w1 hw h => ⟨(), rfl, hw, fun _ _ _ => trivial⟩)
  | true =>
  rw [hv0] at h
  refine Good.callv (fun w1 hw h => valid_v hv0) (by kernel_rfl) (fun u => ?_)
  refine Good.run (by kernel_rfl) (stop := 1000) 1000 _ ?_
  refine Good.callv (fun w1 hw h => named_m hn) (by kernel_rfl) (fun u => ?_)
  refine Good.run (by kernel_rfl) (stop := 1000) 1000 _ ?_
  refine Good.cond false (by kernel_rfl) ?_
  refine Good.run (by kernel_rfl) (stop := 1000) 1000 _ ?_
  refine Good.drop 4 (by kernel_rfl) (fun _ => ?_)
  refine Good.cond true (by kernel_rfl) ?_
  refine Good.run (by kernel_rfl) (stop := 1000) 1000 _ ?_
  refine Good.ask (idxS 36 (litV 3 g) (1 : Nat)) (.pointer (some ⟨g, 1 * 2, none⟩)) (by kernel_rfl) (fun w1 hw h => run_idxN (elem := 39) (by kernel_rfl) (by kernel_rfl) (by decide)) ?_
  refine Good.run (by kernel_rfl) (stop := 1000) 1000 _ ?_
  refine Good.ask (ldS 39 ⟨g, 1 * 2, none⟩) (pt s.bx s.by_) (by kernel_rfl) (fun w1 hw h => lit_ld h.1.1.2 (fun j v hj => by rcases j with _ | _ | j <;> simp at hj ⊢ <;> exact hj)) ?_
  refine Good.run (by kernel_rfl) (stop := 1000) 1000 _ ?_
  cases hv1 : validP s.bx s.by_ with
  | false =>
    obtain rfl : B = false := by rw [← h, hv1]; simp
    refine Good.callv (fun w1 hw h => valid_v hv1) (by kernel_rfl) (fun u => ?_)
    refine Good.run (by kernel_rfl) (stop := 1000) 1000 _ ?_
    refine Good.cond true (by kernel_rfl) ?_
    refine Good.run (by kernel_rfl) (stop := 1000) 1000 _ ?_
    refine Good.ret (v := .bool false) (by kernel_rfl) (fun w1 hw h => ⟨(), rfl, hw, fun _ _ _ => trivial⟩)
  | true =>
  rw [hv1] at h
  refine Good.callv (fun w1 hw h => valid_v hv1) (by kernel_rfl) (fun u => ?_)
  refine Good.run (by kernel_rfl) (stop := 1000) 1000 _ ?_
  refine Good.callv (fun w1 hw h => named_m hn) (by kernel_rfl) (fun u => ?_)
  refine Good.run (by kernel_rfl) (stop := 1000) 1000 _ ?_
  refine Good.cond false (by kernel_rfl) ?_
  refine Good.run (by kernel_rfl) (stop := 1000) 1000 _ ?_
  refine Good.drop 4 (by kernel_rfl) (fun _ => ?_)
  refine Good.cond true (by kernel_rfl) ?_
  refine Good.run (by kernel_rfl) (stop := 1000) 1000 _ ?_
  refine Good.ask (idxS 36 (litV 3 g) (2 : Nat)) (.pointer (some ⟨g, 2 * 2, none⟩)) (by kernel_rfl) (fun w1 hw h => run_idxN (elem := 39) (by kernel_rfl) (by kernel_rfl) (by decide)) ?_
  refine Good.run (by kernel_rfl) (stop := 1000) 1000 _ ?_
  refine Good.ask (ldS 39 ⟨g, 2 * 2, none⟩) (pt s.cx s.cy) (by kernel_rfl) (fun w1 hw h => lit_ld h.1.1.1.1.2 (fun j v hj => by rcases j with _ | _ | j <;> simp at hj ⊢ <;> exact hj)) ?_
  refine Good.run (by kernel_rfl) (stop := 1000) 1000 _ ?_
  cases hv2 : validP s.cx s.cy with
  | false =>
    obtain rfl : B = false := by rw [← h, hv2]; simp
    refine Good.callv (fun w1 hw h => valid_v hv2) (by kernel_rfl) (fun u => ?_)
    refine Good.run (by kernel_rfl) (stop := 1000) 1000 _ ?_
    refine Good.cond true (by kernel_rfl) ?_
    refine Good.run (by kernel_rfl) (stop := 1000) 1000 _ ?_
    refine Good.ret (v := .bool false) (by kernel_rfl) (fun w1 hw h => ⟨(), rfl, hw, fun _ _ _ => trivial⟩)
  | true =>
  rw [hv2] at h
  refine Good.callv (fun w1 hw h => valid_v hv2) (by kernel_rfl) (fun u => ?_)
  refine Good.run (by kernel_rfl) (stop := 1000) 1000 _ ?_
  refine Good.callv (fun w1 hw h => named_m hn) (by kernel_rfl) (fun u => ?_)
  refine Good.run (by kernel_rfl) (stop := 1000) 1000 _ ?_
  refine Good.cond false (by kernel_rfl) ?_
  refine Good.run (by kernel_rfl) (stop := 1000) 1000 _ ?_
  obtain rfl : B = true := by rw [← h]; rfl
  refine Good.cond false (by kernel_rfl) ?_
  refine Good.run (by kernel_rfl) (stop := 1000) 1000 _ ?_
  refine Good.ret (v := .bool true) (by kernel_rfl) (fun w1 hw h => ⟨(), rfl, hw, fun _ _ _ => trivial⟩)
end

section
variable {w : World} {A A2 : Option Addr} {n n2 c c2 : Nat} {ls ms : List Sg}
theorem chkL_ok {last : Int} {k : Nat} {s : Sg} {l : List Sg} (h : chkS last s = 0) : chkL last k (s :: l) = chkL s.v (k + 1) l := by rw [chkL, if_pos h]
theorem chkL_bad {last : Int} {k : Nat} {s : Sg} {l : List Sg} (h : chkS last s ≠ 0) : chkL last k (s :: l) = (chkS last s, k) := by rw [chkL, if_neg h]
theorem chkS_arg {last : Int} {s : Sg} (h : namedI s.v = -1) : chkS last s = 2 := by unfold chkS; rw [h, if_pos (by decide)]
theorem chkS_path {last m : Int} {s : Sg} (h : namedI s.v = m) (hm : 0 ≤ m) (h2 : standB last s.v = false) : chkS last s = 10 := by unfold chkS; rw [h, if_neg (by omega), if_pos h2]
theorem chkS_rng {last m : Int} {s : Sg} (h : namedI s.v = m) (hm : 0 ≤ m) (h2 : standB last s.v = true) (h3 : fitsB s = false) : chkS last s = 6 := by unfold chkS; rw [h, if_neg (by omega), h2, if_neg (by decide), if_pos h3]
theorem chkS_ok {last m : Int} {s : Sg} (h : namedI s.v = m) (hm : 0 ≤ m) (h2 : standB last s.v = true) (h3 : fitsB s = true) : chkS last s = 0 := by unfold chkS; rw [h, if_neg (by omega), h2, if_neg (by decide), h3, if_neg (by decide)]
theorem sg_drop {ls : List Sg} {k : Nat} {s : Sg} (h : ls[k]? = some s) : ls.drop k = s :: ls.drop (k + 1) := by
  obtain ⟨h1, h2⟩ := List.getElem?_eq_some_iff.1 h
  rw [List.drop_eq_getElem_cons h1, h2]
set_option maxRecDepth 100000 in
set_option maxHeartbeats 4000000 in
theorem check_m {e : Int} {i : Nat} (hs : SgAt w A n ls) (hn : n ≤ 1000000) (h : chk ls = (e, i)) : Calls Tryd.prog 26 #[.slice A n c] w (CallPost w (fun _ : Unit => .tuple #[.int .i64 e, .int .i64 i]) fun _ _ => True) := by
  have hln := hs.1
  by_cases hbig : 256 < ls.length
  · have hch : chk ls = (5, 256) := if_pos hbig
    rw [hch] at h
    obtain ⟨rfl, rfl⟩ := Prod.mk.inj h
    refine Good.enter Tryd.func26 rfl ?_
    refine Good.run (by kernel_rfl) (stop := 1000) 1000 _ ?_
    refine Good.condr (decide ((n : Int) > 256)) true (by kernel_rfl) (by simp; omega) ?_
    refine Good.run (by kernel_rfl) (stop := 1000) 1000 _ ?_
    refine Good.ret (v := .tuple #[.int .i64 5, .int .i64 256]) (by kernel_rfl) (fun w1 hw h => ⟨(), rfl, hw, fun _ _ _ => trivial⟩)
  have hch : chk ls = chkL 5 0 ls := if_neg hbig
  rw [hch] at h
  refine Good.enter Tryd.func26 rfl ?_
  refine Good.run (by kernel_rfl) (stop := 1000) 1000 _ ?_
  refine Good.condr (decide ((n : Int) > 256)) false (by kernel_rfl) (by simp; omega) ?_
  refine Good.run (by kernel_rfl) (stop := 1000) 1000 _ ?_
  refine Good.loop (ι := {q : Nat × Int // q.1 ≤ n ∧ chkL 5 0 ls = chkL q.2 q.1 (ls.drop q.1) ∧ (1 ≤ q.2 ∧ q.2 ≤ 5)}) 52 (fun q => ⟨[(4, .v (.int .i64 q.1.2)), (11, .v (.slice A n c)), (12, .v (.int .i64 n)), (13, .v (.int .i64 q.1.1))], []⟩) (fun _ _ => True) (fun q => n - q.1.1) (⟨(0, 5), Nat.zero_le _, rfl, by decide⟩) (by kernel_rfl) (fun _ => by kernel_rfl) ⟨by kernel_rfl, by kernel_rfl, by kernel_rfl⟩ (fun _ _ => trivial) ?_
  rintro ⟨⟨k, last⟩, hk⟩ g
  have hk1 : k ≤ n := hk.1
  have hk2 : chkL 5 0 ls = chkL last k (ls.drop k) := hk.2.1
  have hk3 : 1 ≤ last ∧ last ≤ 5 := hk.2.2
  by_cases hlt : k < n
  case neg =>
    rw [hk2, List.drop_of_length_le (by omega)] at h
    obtain ⟨rfl, rfl⟩ := Prod.mk.inj h
    refine Good.run (by kernel_rfl) (stop := 1000) 1000 _ ?_
    refine Good.condr (decide ((k : Int) < (n : Int))) false (by kernel_rfl) (by simp; omega) ?_
    refine Good.run (by kernel_rfl) (stop := 1000) 1000 _ ?_
    refine Good.leave (by kernel_rfl) ?_
    refine Good.run (by kernel_rfl) (stop := 1000) 1000 _ ?_
    refine Good.ret (v := .tuple #[.int .i64 0, .int .i64 0]) (by kernel_rfl) (fun w1 hw h => ⟨(), rfl, hw, fun _ _ _ => trivial⟩)
  obtain ⟨s, hsk⟩ : ∃ s, ls[k]? = some s := ⟨_, List.getElem?_eq_getElem (by omega)⟩
  obtain ⟨ad, hA, hc⟩ := hs.2 k s hsk
  rw [hk2, sg_drop hsk] at h
  rw [sg_drop hsk] at hk2
  refine Good.run (by kernel_rfl) (stop := 1000) 1000 _ ?_
  refine Good.condr (decide ((k : Int) < (n : Int))) true (by kernel_rfl) (by simp; omega) ?_
  refine Good.run (by kernel_rfl) (stop := 1000) 1000 _ ?_
  refine Good.ask (idxS 22 (.slice A n c) k) (.pointer (some (ad.add (k * 7)))) (by kernel_rfl) (fun w1 hw h => sg_idx hA hlt) ?_
  refine Good.run (by kernel_rfl) (stop := 1000) 1000 _ ?_
  obtain ⟨v, ax, ay, bx, by_, cx, cy⟩ := s
  rcases named_cases v with rfl | rfl | rfl | rfl | rfl | hv
  · have hst : standB last 1 = true := rfl
    refine Good.ask (ldS 41 (ad.add (k * 7))) (Sg.val ⟨1, ax, ay, bx, by_, cx, cy⟩) (by kernel_rfl) (fun w1 hw h => sg_ld fun j u hj => keepc hw (hc j u hj)) ?_
    refine Good.run (by kernel_rfl) (stop := 6) 1000 _ ?_
    refine Good.run (by kernel_rfl) (stop := 1000) 1000 _ ?_
    refine Good.callv (fun w1 hw h => named_m (v := 1) (r := 1) rfl) (by kernel_rfl) (fun u => ?_)
    refine Good.run (by kernel_rfl) (stop := 1000) 1000 _ ?_
    refine Good.cond false (by kernel_rfl) ?_
    refine Good.run (by kernel_rfl) (stop := 1000) 1000 _ ?_
    refine Good.cond false (by kernel_rfl) ?_
    refine Good.run (by kernel_rfl) (stop := 1000) 1000 _ ?_
    cases hf : fitsB ⟨1, ax, ay, bx, by_, cx, cy⟩ with
    | true =>
      have hz := chkS_ok (s := ⟨1, ax, ay, bx, by_, cx, cy⟩) (m := 1) rfl (by decide) hst hf
      rw [chkL_ok hz] at hk2
      refine Good.callv (fun w1 hw h => fits_1 (s := ⟨1, ax, ay, bx, by_, cx, cy⟩) rfl hf) (by kernel_rfl) (fun u => ?_)
      refine Good.run (by kernel_rfl) (stop := 1000) 1000 _ ?_
      refine Good.cond false (by kernel_rfl) ?_
      refine Good.run (by kernel_rfl) (stop := 1000) 1000 _ ?_
      refine Good.slot 13 (.int .i64 (IntKind.i64.wrap ((k : Int) + 1))) (.int .i64 ((k + 1 : Nat) : Int)) (by kernel_rfl) (by rw [wrap_succ hlt (by omega)]) ?_
      refine Good.next (⟨(k + 1, 1), by show k + 1 ≤ n; omega, hk2, by show (1 : Int) ≤ 1 ∧ ((1 : Int) ≤ 5); decide⟩) (by kernel_rfl) (by show n - (k + 1) < n - k; omega) ⟨by kernel_rfl, by kernel_rfl, by kernel_rfl⟩ (fun _ _ => trivial)
    | false =>
      have hz := chkS_rng (s := ⟨1, ax, ay, bx, by_, cx, cy⟩) (m := 1) rfl (by decide) hst hf
      rw [chkL_bad (by rw [hz]; decide), hz] at h
      obtain ⟨rfl, rfl⟩ := Prod.mk.inj h
      refine Good.callv (fun w1 hw h => fits_1 (s := ⟨1, ax, ay, bx, by_, cx, cy⟩) rfl hf) (by kernel_rfl) (fun u => ?_)
      refine Good.run (by kernel_rfl) (stop := 1000) 1000 _ ?_
      refine Good.cond true (by kernel_rfl) ?_
      refine Good.run (by kernel_rfl) (stop := 1000) 1000 _ ?_
      refine Good.leave (by kernel_rfl) ?_
      refine Good.run (by kernel_rfl) (stop := 1000) 1000 _ ?_
      refine Good.ret (v := .tuple #[.int .i64 6, .int .i64 k]) (by kernel_rfl) (fun w1 hw h => ⟨(), rfl, hw, fun _ _ _ => trivial⟩)
  ·
    refine Good.ask (ldS 41 (ad.add (k * 7))) (Sg.val ⟨2, ax, ay, bx, by_, cx, cy⟩) (by kernel_rfl) (fun w1 hw h => sg_ld fun j u hj => keepc hw (hc j u hj)) ?_
    refine Good.run (by kernel_rfl) (stop := 6) 1000 _ ?_
    by_cases hl : last = 5
    · have hst : standB last 2 = false := by rw [hl]; rfl
      refine Good.slot 23 (.bool (last != 5)) (.bool false) (by kernel_rfl) (by simp; omega) ?_
      refine Good.run (by kernel_rfl) (stop := 1000) 1000 _ ?_
      have hz := chkS_path (s := ⟨2, ax, ay, bx, by_, cx, cy⟩) (m := 1) rfl (by decide) hst
      rw [chkL_bad (by rw [hz]; decide), hz] at h
      obtain ⟨rfl, rfl⟩ := Prod.mk.inj h
      refine Good.callv (fun w1 hw h => named_m (v := 2) (r := 1) rfl) (by kernel_rfl) (fun u => ?_)
      refine Good.run (by kernel_rfl) (stop := 1000) 1000 _ ?_
      refine Good.cond false (by kernel_rfl) ?_
      refine Good.run (by kernel_rfl) (stop := 1000) 1000 _ ?_
      refine Good.cond true (by kernel_rfl) ?_
      refine Good.run (by kernel_rfl) (stop := 1000) 1000 _ ?_
      refine Good.leave (by kernel_rfl) ?_
      refine Good.run (by kernel_rfl) (stop := 1000) 1000 _ ?_
      refine Good.ret (v := .tuple #[.int .i64 10, .int .i64 k]) (by kernel_rfl) (fun w1 hw h => ⟨(), rfl, hw, fun _ _ _ => trivial⟩)
    · have hst : standB last 2 = true := by unfold standB; simp [hl]
      refine Good.slot 23 (.bool (last != 5)) (.bool true) (by kernel_rfl) (by simp; omega) ?_
      refine Good.run (by kernel_rfl) (stop := 1000) 1000 _ ?_
      refine Good.callv (fun w1 hw h => named_m (v := 2) (r := 1) rfl) (by kernel_rfl) (fun u => ?_)
      refine Good.run (by kernel_rfl) (stop := 1000) 1000 _ ?_
      refine Good.cond false (by kernel_rfl) ?_
      refine Good.run (by kernel_rfl) (stop := 1000) 1000 _ ?_
      refine Good.cond false (by kernel_rfl) ?_
      refine Good.run (by kernel_rfl) (stop := 1000) 1000 _ ?_
      cases hf : fitsB ⟨2, ax, ay, bx, by_, cx, cy⟩ with
      | true =>
        have hz := chkS_ok (s := ⟨2, ax, ay, bx, by_, cx, cy⟩) (m := 1) rfl (by decide) hst hf
        rw [chkL_ok hz] at hk2
        refine Good.callv (fun w1 hw h => fits_1 (s := ⟨2, ax, ay, bx, by_, cx, cy⟩) rfl hf) (by kernel_rfl) (fun u => ?_)
        refine Good.run (by kernel_rfl) (stop := 1000) 1000 _ ?_
        refine Good.cond false (by kernel_rfl) ?_
        refine Good.run (by kernel_rfl) (stop := 1000) 1000 _ ?_
        refine Good.slot 13 (.int .i64 (IntKind.i64.wrap ((k : Int) + 1))) (.int .i64 ((k + 1 : Nat) : Int)) (by kernel_rfl) (by rw [wrap_succ hlt (by omega)]) ?_
        refine Good.next (⟨(k + 1, 2), by show k + 1 ≤ n; omega, hk2, by show (1 : Int) ≤ 2 ∧ ((2 : Int) ≤ 5); decide⟩) (by kernel_rfl) (by show n - (k + 1) < n - k; omega) ⟨by kernel_rfl, by kernel_rfl, by kernel_rfl⟩ (fun _ _ => trivial)
      | false =>
        have hz := chkS_rng (s := ⟨2, ax, ay, bx, by_, cx, cy⟩) (m := 1) rfl (by decide) hst hf
        rw [chkL_bad (by rw [hz]; decide), hz] at h
        obtain ⟨rfl, rfl⟩ := Prod.mk.inj h
        refine Good.callv (fun w1 hw h => fits_1 (s := ⟨2, ax, ay, bx, by_, cx, cy⟩) rfl hf) (by kernel_rfl) (fun u => ?_)
        refine Good.run (by kernel_rfl) (stop := 1000) 1000 _ ?_
        refine Good.cond true (by kernel_rfl) ?_
        refine Good.run (by kernel_rfl) (stop := 1000) 1000 _ ?_
        refine Good.leave (by kernel_rfl) ?_
        refine Good.run (by kernel_rfl) (stop := 1000) 1000 _ ?_
        refine Good.ret (v := .tuple #[.int .i64 6, .int .i64 k]) (by kernel_rfl) (fun w1 hw h => ⟨(), rfl, hw, fun _ _ _ => trivial⟩)
  ·
    refine Good.ask (ldS 41 (ad.add (k * 7))) (Sg.val ⟨3, ax, ay, bx, by_, cx, cy⟩) (by kernel_rfl) (fun w1 hw h => sg_ld fun j u hj => keepc hw (hc j u hj)) ?_
    refine Good.run (by kernel_rfl) (stop := 6) 1000 _ ?_
    by_cases hl : last = 5
    · have hst : standB last 3 = false := by rw [hl]; rfl
      refine Good.slot 23 (.bool (last != 5)) (.bool false) (by kernel_rfl) (by simp; omega) ?_
      refine Good.run (by kernel_rfl) (stop := 1000) 1000 _ ?_
      have hz := chkS_path (s := ⟨3, ax, ay, bx, by_, cx, cy⟩) (m := 2) rfl (by decide) hst
      rw [chkL_bad (by rw [hz]; decide), hz] at h
      obtain ⟨rfl, rfl⟩ := Prod.mk.inj h
      refine Good.callv (fun w1 hw h => named_m (v := 3) (r := 2) rfl) (by kernel_rfl) (fun u => ?_)
      refine Good.run (by kernel_rfl) (stop := 1000) 1000 _ ?_
      refine Good.cond false (by kernel_rfl) ?_
      refine Good.run (by kernel_rfl) (stop := 1000) 1000 _ ?_
      refine Good.cond true (by kernel_rfl) ?_
      refine Good.run (by kernel_rfl) (stop := 1000) 1000 _ ?_
      refine Good.leave (by kernel_rfl) ?_
      refine Good.run (by kernel_rfl) (stop := 1000) 1000 _ ?_
      refine Good.ret (v := .tuple #[.int .i64 10, .int .i64 k]) (by kernel_rfl) (fun w1 hw h => ⟨(), rfl, hw, fun _ _ _ => trivial⟩)
    · have hst : standB last 3 = true := by unfold standB; simp [hl]
      refine Good.slot 23 (.bool (last != 5)) (.bool true) (by kernel_rfl) (by simp; omega) ?_
      refine Good.run (by kernel_rfl) (stop := 1000) 1000 _ ?_
      refine Good.callv (fun w1 hw h => named_m (v := 3) (r := 2) rfl) (by kernel_rfl) (fun u => ?_)
      refine Good.run (by kernel_rfl) (stop := 1000) 1000 _ ?_
      refine Good.cond false (by kernel_rfl) ?_
      refine Good.run (by kernel_rfl) (stop := 1000) 1000 _ ?_
      refine Good.cond false (by kernel_rfl) ?_
      refine Good.run (by kernel_rfl) (stop := 1000) 1000 _ ?_
      cases hf : fitsB ⟨3, ax, ay, bx, by_, cx, cy⟩ with
      | true =>
        have hz := chkS_ok (s := ⟨3, ax, ay, bx, by_, cx, cy⟩) (m := 2) rfl (by decide) hst hf
        rw [chkL_ok hz] at hk2
        refine Good.callv (fun w1 hw h => fits_2 (s := ⟨3, ax, ay, bx, by_, cx, cy⟩) rfl hf) (by kernel_rfl) (fun u => ?_)
        refine Good.run (by kernel_rfl) (stop := 1000) 1000 _ ?_
        refine Good.cond false (by kernel_rfl) ?_
        refine Good.run (by kernel_rfl) (stop := 1000) 1000 _ ?_
        refine Good.slot 13 (.int .i64 (IntKind.i64.wrap ((k : Int) + 1))) (.int .i64 ((k + 1 : Nat) : Int)) (by kernel_rfl) (by rw [wrap_succ hlt (by omega)]) ?_
        refine Good.next (⟨(k + 1, 3), by show k + 1 ≤ n; omega, hk2, by show (1 : Int) ≤ 3 ∧ ((3 : Int) ≤ 5); decide⟩) (by kernel_rfl) (by show n - (k + 1) < n - k; omega) ⟨by kernel_rfl, by kernel_rfl, by kernel_rfl⟩ (fun _ _ => trivial)
      | false =>
        have hz := chkS_rng (s := ⟨3, ax, ay, bx, by_, cx, cy⟩) (m := 2) rfl (by decide) hst hf
        rw [chkL_bad (by rw [hz]; decide), hz] at h
        obtain ⟨rfl, rfl⟩ := Prod.mk.inj h
        refine Good.callv (fun w1 hw h => fits_2 (s := ⟨3, ax, ay, bx, by_, cx, cy⟩) rfl hf) (by kernel_rfl) (fun u => ?_)
        refine Good.run (by kernel_rfl) (stop := 1000) 1000 _ ?_
        refine Good.cond true (by kernel_rfl) ?_
        refine Good.run (by kernel_rfl) (stop := 1000) 1000 _ ?_
        refine Good.leave (by kernel_rfl) ?_
        refine Good.run (by kernel_rfl) (stop := 1000) 1000 _ ?_
        refine Good.ret (v := .tuple #[.int .i64 6, .int .i64 k]) (by kernel_rfl) (fun w1 hw h => ⟨(), rfl, hw, fun _ _ _ => trivial⟩)
  ·
    refine Good.ask (ldS 41 (ad.add (k * 7))) (Sg.val ⟨4, ax, ay, bx, by_, cx, cy⟩) (by kernel_rfl) (fun w1 hw h => sg_ld fun j u hj => keepc hw (hc j u hj)) ?_
    refine Good.run (by kernel_rfl) (stop := 6) 1000 _ ?_
    by_cases hl : last = 5
    · have hst : standB last 4 = false := by rw [hl]; rfl
      refine Good.slot 23 (.bool (last != 5)) (.bool false) (by kernel_rfl) (by simp; omega) ?_
      refine Good.run (by kernel_rfl) (stop := 1000) 1000 _ ?_
      have hz := chkS_path (s := ⟨4, ax, ay, bx, by_, cx, cy⟩) (m := 3) rfl (by decide) hst
      rw [chkL_bad (by rw [hz]; decide), hz] at h
      obtain ⟨rfl, rfl⟩ := Prod.mk.inj h
      refine Good.callv (fun w1 hw h => named_m (v := 4) (r := 3) rfl) (by kernel_rfl) (fun u => ?_)
      refine Good.run (by kernel_rfl) (stop := 1000) 1000 _ ?_
      refine Good.cond false (by kernel_rfl) ?_
      refine Good.run (by kernel_rfl) (stop := 1000) 1000 _ ?_
      refine Good.cond true (by kernel_rfl) ?_
      refine Good.run (by kernel_rfl) (stop := 1000) 1000 _ ?_
      refine Good.leave (by kernel_rfl) ?_
      refine Good.run (by kernel_rfl) (stop := 1000) 1000 _ ?_
      refine Good.ret (v := .tuple #[.int .i64 10, .int .i64 k]) (by kernel_rfl) (fun w1 hw h => ⟨(), rfl, hw, fun _ _ _ => trivial⟩)
    · have hst : standB last 4 = true := by unfold standB; simp [hl]
      refine Good.slot 23 (.bool (last != 5)) (.bool true) (by kernel_rfl) (by simp; omega) ?_
      refine Good.run (by kernel_rfl) (stop := 1000) 1000 _ ?_
      refine Good.callv (fun w1 hw h => named_m (v := 4) (r := 3) rfl) (by kernel_rfl) (fun u => ?_)
      refine Good.run (by kernel_rfl) (stop := 1000) 1000 _ ?_
      refine Good.cond false (by kernel_rfl) ?_
      refine Good.run (by kernel_rfl) (stop := 1000) 1000 _ ?_
      refine Good.cond false (by kernel_rfl) ?_
      refine Good.run (by kernel_rfl) (stop := 1000) 1000 _ ?_
      cases hf : fitsB ⟨4, ax, ay, bx, by_, cx, cy⟩ with
      | true =>
        have hz := chkS_ok (s := ⟨4, ax, ay, bx, by_, cx, cy⟩) (m := 3) rfl (by decide) hst hf
        rw [chkL_ok hz] at hk2
        refine Good.callv (fun w1 hw h => fits_3 (s := ⟨4, ax, ay, bx, by_, cx, cy⟩) rfl hf) (by kernel_rfl) (fun u => ?_)
        refine Good.run (by kernel_rfl) (stop := 1000) 1000 _ ?_
        refine Good.cond false (by kernel_rfl) ?_
        refine Good.run (by kernel_rfl) (stop := 1000) 1000 _ ?_
        refine Good.slot 13 (.int .i64 (IntKind.i64.wrap ((k : Int) + 1))) (.int .i64 ((k + 1 : Nat) : Int)) (by kernel_rfl) (by rw [wrap_succ hlt (by omega)]) ?_
        refine Good.next (⟨(k + 1, 4), by show k + 1 ≤ n; omega, hk2, by show (1 : Int) ≤ 4 ∧ ((4 : Int) ≤ 5); decide⟩) (by kernel_rfl) (by show n - (k + 1) < n - k; omega) ⟨by kernel_rfl, by kernel_rfl, by kernel_rfl⟩ (fun _ _ => trivial)
      | false =>
        have hz := chkS_rng (s := ⟨4, ax, ay, bx, by_, cx, cy⟩) (m := 3) rfl (by decide) hst hf
        rw [chkL_bad (by rw [hz]; decide), hz] at h
        obtain ⟨rfl, rfl⟩ := Prod.mk.inj h
        refine Good.callv (fun w1 hw h => fits_3 (s := ⟨4, ax, ay, bx, by_, cx, cy⟩) rfl hf) (by kernel_rfl) (fun u => ?_)
        refine Good.run (by kernel_rfl) (stop := 1000) 1000 _ ?_
        refine Good.cond true (by kernel_rfl) ?_
        refine Good.run (by kernel_rfl) (stop := 1000) 1000 _ ?_
        refine Good.leave (by kernel_rfl) ?_
        refine Good.run (by kernel_rfl) (stop := 1000) 1000 _ ?_
        refine Good.ret (v := .tuple #[.int .i64 6, .int .i64 k]) (by kernel_rfl) (fun w1 hw h => ⟨(), rfl, hw, fun _ _ _ => trivial⟩)
  ·
    refine Good.ask (ldS 41 (ad.add (k * 7))) (Sg.val ⟨5, ax, ay, bx, by_, cx, cy⟩) (by kernel_rfl) (fun w1 hw h => sg_ld fun j u hj => keepc hw (hc j u hj)) ?_
    refine Good.run (by kernel_rfl) (stop := 6) 1000 _ ?_
    by_cases hl : last = 5
    · have hst : standB last 5 = false := by rw [hl]; rfl
      refine Good.slot 23 (.bool (last != 5)) (.bool false) (by kernel_rfl) (by simp; omega) ?_
      refine Good.run (by kernel_rfl) (stop := 1000) 1000 _ ?_
      have hz := chkS_path (s := ⟨5, ax, ay, bx, by_, cx, cy⟩) (m := 0) rfl (by decide) hst
      rw [chkL_bad (by rw [hz]; decide), hz] at h
      obtain ⟨rfl, rfl⟩ := Prod.mk.inj h
      refine Good.callv (fun w1 hw h => named_m (v := 5) (r := 0) rfl) (by kernel_rfl) (fun u => ?_)
      refine Good.run (by kernel_rfl) (stop := 1000) 1000 _ ?_
      refine Good.cond false (by kernel_rfl) ?_
      refine Good.run (by kernel_rfl) (stop := 1000) 1000 _ ?_
      refine Good.cond true (by kernel_rfl) ?_
      refine Good.run (by kernel_rfl) (stop := 1000) 1000 _ ?_
      refine Good.leave (by kernel_rfl) ?_
      refine Good.run (by kernel_rfl) (stop := 1000) 1000 _ ?_
      refine Good.ret (v := .tuple #[.int .i64 10, .int .i64 k]) (by kernel_rfl) (fun w1 hw h => ⟨(), rfl, hw, fun _ _ _ => trivial⟩)
    ·
      refine Good.slot 23 (.bool (last != 5)) (.bool true) (by kernel_rfl) (by simp; omega) ?_
      refine Good.run (by kernel_rfl) (stop := 13) 1000 _ ?_
      by_cases hl1 : last = 1
      · have hst : standB last 5 = false := by rw [hl1]; rfl
        refine Good.slot 30 (.bool (last != 1)) (.bool false) (by kernel_rfl) (by simp; omega) ?_
        refine Good.run (by kernel_rfl) (stop := 1000) 1000 _ ?_
        have hz := chkS_path (s := ⟨5, ax, ay, bx, by_, cx, cy⟩) (m := 0) rfl (by decide) hst
        rw [chkL_bad (by rw [hz]; decide), hz] at h
        obtain ⟨rfl, rfl⟩ := Prod.mk.inj h
        refine Good.callv (fun w1 hw h => named_m (v := 5) (r := 0) rfl) (by kernel_rfl) (fun u => ?_)
        refine Good.run (by kernel_rfl) (stop := 1000) 1000 _ ?_
        refine Good.cond false (by kernel_rfl) ?_
        refine Good.run (by kernel_rfl) (stop := 1000) 1000 _ ?_
        refine Good.cond true (by kernel_rfl) ?_
        refine Good.run (by kernel_rfl) (stop := 1000) 1000 _ ?_
        refine Good.leave (by kernel_rfl) ?_
        refine Good.run (by kernel_rfl) (stop := 1000) 1000 _ ?_
        refine Good.ret (v := .tuple #[.int .i64 10, .int .i64 k]) (by kernel_rfl) (fun w1 hw h => ⟨(), rfl, hw, fun _ _ _ => trivial⟩)
      · have hst : standB last 5 = true := by unfold standB; simp [hl, hl1]
        refine Good.slot 30 (.bool (last != 1)) (.bool true) (by kernel_rfl) (by simp; omega) ?_
        refine Good.run (by kernel_rfl) (stop := 1000) 1000 _ ?_
        refine Good.callv (fun w1 hw h => named_m (v := 5) (r := 0) rfl) (by kernel_rfl) (fun u => ?_)
        refine Good.run (by kernel_rfl) (stop := 1000) 1000 _ ?_
        refine Good.cond false (by kernel_rfl) ?_
        refine Good.run (by kernel_rfl) (stop := 1000) 1000 _ ?_
        refine Good.cond false (by kernel_rfl) ?_
        refine Good.run (by kernel_rfl) (stop := 1000) 1000 _ ?_
        cases hf : fitsB ⟨5, ax, ay, bx, by_, cx, cy⟩ with
        | true =>
          have hz := chkS_ok (s := ⟨5, ax, ay, bx, by_, cx, cy⟩) (m := 0) rfl (by decide) hst hf
          rw [chkL_ok hz] at hk2
          refine Good.callv (fun w1 hw h => fits_0 (s := ⟨5, ax, ay, bx, by_, cx, cy⟩) rfl hf) (by kernel_rfl) (fun u => ?_)
          refine Good.run (by kernel_rfl) (stop := 1000) 1000 _ ?_
          refine Good.cond false (by kernel_rfl) ?_
          refine Good.run (by kernel_rfl) (stop := 1000) 1000 _ ?_
          refine Good.slot 13 (.int .i64 (IntKind.i64.wrap ((k : Int) + 1))) (.int .i64 ((k + 1 : Nat) : Int)) (by kernel_rfl) (by rw [wrap_succ hlt (by omega)]) ?_
          refine Good.next (⟨(k + 1, 5), by show k + 1 ≤ n; omega, hk2, by show (1 : Int) ≤ 5 ∧ ((5 : Int) ≤ 5); decide⟩) (by kernel_rfl) (by show n - (k + 1) < n - k; omega) ⟨by kernel_rfl, by kernel_rfl, by kernel_rfl⟩ (fun _ _ => trivial)
        | false =>
          have hz := chkS_rng (s := ⟨5, ax, ay, bx, by_, cx, cy⟩) (m := 0) rfl (by decide) hst hf
          rw [chkL_bad (by rw [hz]; decide), hz] at h
          obtain ⟨rfl, rfl⟩ := Prod.mk.inj h
          refine Good.callv (fun w1 hw h => fits_0 (s := ⟨5, ax, ay, bx, by_, cx, cy⟩) rfl hf) (by kernel_rfl) (fun u => ?_)
          refine Good.run (by kernel_rfl) (stop := 1000) 1000 _ ?_
          refine Good.cond true (by kernel_rfl) ?_
          refine Good.run (by kernel_rfl) (stop := 1000) 1000 _ ?_
          refine Good.leave (by kernel_rfl) ?_
          refine Good.run (by kernel_rfl) (stop := 1000) 1000 _ ?_
          refine Good.ret (v := .tuple #[.int .i64 6, .int .i64 k]) (by kernel_rfl) (fun w1 hw h => ⟨(), rfl, hw, fun _ _ _ => trivial⟩)
  · have hz := chkS_arg (last := last) (s := ⟨v, ax, ay, bx, by_, cx, cy⟩) (named_other hv)
    rw [chkL_bad (by rw [hz]; decide), hz] at h
    obtain ⟨rfl, rfl⟩ := Prod.mk.inj h
    refine Good.ask (ldS 41 (ad.add (k * 7))) (Sg.val ⟨v, ax, ay, bx, by_, cx, cy⟩) (by kernel_rfl) (fun w1 hw h => sg_ld fun j u hj => keepc hw (hc j u hj)) ?_
    refine Good.run (by kernel_rfl) (stop := 3) 1000 _ ?_
    refine Good.run (by kernel_rfl) (stop := 1000) 3 _ ?_
    refine Good.run (by kernel_rfl) (stop := 3) 1000 _ ?_
    refine Good.slot 20 (.bool (v == 1)) (.bool false) (by kernel_rfl) (by simp; omega) ?_
    refine Good.run (by kernel_rfl) (stop := 6) 1000 _ ?_
    by_cases hl : last = 5
    ·
      refine Good.slot 23 (.bool (last != 5)) (.bool false) (by kernel_rfl) (by simp; omega) ?_
      refine Good.run (by kernel_rfl) (stop := 1000) 1000 _ ?_
      refine Good.callv (fun w1 hw h => named_m (v := v) (r := -1) (named_other hv)) (by kernel_rfl) (fun u => ?_)
      refine Good.run (by kernel_rfl) (stop := 1000) 1000 _ ?_
      refine Good.cond true (by kernel_rfl) ?_
      refine Good.run (by kernel_rfl) (stop := 1000) 1000 _ ?_
      refine Good.leave (by kernel_rfl) ?_
      refine Good.run (by kernel_rfl) (stop := 1000) 1000 _ ?_
      refine Good.ret (v := .tuple #[.int .i64 2, .int .i64 k]) (by kernel_rfl) (fun w1 hw h => ⟨(), rfl, hw, fun _ _ _ => trivial⟩)
    ·
      refine Good.slot 23 (.bool (last != 5)) (.bool true) (by kernel_rfl) (by simp; omega) ?_
      refine Good.run (by kernel_rfl) (stop := 10) 1000 _ ?_
      refine Good.slot 27 (.bool (v != 5)) (.bool true) (by kernel_rfl) (by simp; omega) ?_
      refine Good.run (by kernel_rfl) (stop := 1000) 1000 _ ?_
      refine Good.callv (fun w1 hw h => named_m (v := v) (r := -1) (named_other hv)) (by kernel_rfl) (fun u => ?_)
      refine Good.run (by kernel_rfl) (stop := 1000) 1000 _ ?_
      refine Good.cond true (by kernel_rfl) ?_
      refine Good.run (by kernel_rfl) (stop := 1000) 1000 _ ?_
      refine Good.leave (by kernel_rfl) ?_
      refine Good.run (by kernel_rfl) (stop := 1000) 1000 _ ?_
      refine Good.ret (v := .tuple #[.int .i64 2, .int .i64 k]) (by kernel_rfl) (fun w1 hw h => ⟨(), rfl, hw, fun _ _ _ => trivial⟩)
set_option maxRecDepth 100000 in
set_option maxHeartbeats 1000000 in
theorem validL_m {B : Bool} (hs : SgAt w A n ls) (hn : n ≤ 1000000) (hB : decide ((chk ls).1 = 0) = B) : Calls Tryd.prog 16 #[.slice A n c] w (CallPost w (fun _ : Unit => .bool B) fun _ _ => True) := by
  obtain ⟨e, i, he⟩ : ∃ e i, chk ls = (e, i) := ⟨_, _, rfl⟩
  rw [he] at hB
  refine Good.enter Tryd.func16 rfl ?_
  refine Good.run (by kernel_rfl) (stop := 1000) 1000 _ ?_
  refine Good.callv (fun w1 hw h => check_m (c := c) (hs.below hw) hn he) (by kernel_rfl) (fun u => ?_)
  refine Good.run (by kernel_rfl) (stop := 1000) 1000 _ ?_
  refine Good.ret (v := .bool (e == 0)) (by kernel_rfl) (fun w1 hw h => ⟨(), by rw [← hB]; rfl, hw, fun _ _ _ => trivial⟩)
end

def fldS (t : TypeId) (p : Addr) (f : Nat) : Sem Next := Instr.fieldAt t (.pointer (some p)) f >>= fun v => pure (.value v)
theorem run_fldA {P : Program} {t : TypeId} {p : Addr} {f d : Nat} {w : World} (h : effField P t f 0 0 = some ⟨.p 0 (0 + d), none⟩) : (fldS t p f).run P w = .ok (.value (.pointer (some (p.add d)))) w := by
  unfold effField at h
  split at h
  · rename_i fs hu
    split at h
    · rename_i fd hf
      split at h
      · rename_i n hn
        injection h with h
        injection h with h _
        injection h with _ h
        rw [Nat.zero_add, Nat.zero_add] at h
        have hrun : (Instr.fieldAt t (.pointer (some p)) f).run P w = .ok (.pointer (some (p.add fd.offset))) w := by
          simp only [Instr.fieldAt, Sem.run_bind, run_underlying hu, Result.andThen_ok, hf, Instr.sureAddr, Sem.run_pure, fieldPlace, run_sizeT hn, Nat.add_one_ne_zero, if_false]
        simp only [fldS, Sem.run_bind, hrun, Result.andThen_ok, Sem.run_pure, h]
      · cases h
    · cases h
  · cases h
/-- The verb ahead of place k. -/
def lastAt (ls : List Sg) : Nat → Int
  | 0 => 5
  | k + 1 => (ls[k]?.map (·.v)).getD 5
theorem lastAt_succ {ls : List Sg} {k : Nat} {p : Sg} (h : ls[k]? = some p) : lastAt ls (k + 1) = p.v := by simp [lastAt, h]
section
variable {w : World} {A A2 : Option Addr} {n n2 c c2 k : Nat} {ls ms : List Sg} {s : Sg}
theorem stand5 (v : Int) : standB 5 v = (v == 1) := by unfold standB; simp
theorem stand_no {last v : Int} (h : last ≠ 5) (h2 : v ≠ 5) : standB last v = true := by unfold standB; simp [h, h2]
theorem stand_end {last : Int} (h : last ≠ 5) : standB last 5 = (last != 1) := by unfold standB; simp [h]
set_option maxRecDepth 100000 in
set_option maxHeartbeats 1000000 in
theorem rstands_m {B : Bool} (hs : SgAt w A n ls) (hn : n ≤ 1000000) (hsk : ls[k]? = some s) (hB : standB (lastAt ls k) s.v = B) : Calls Tryd.prog 65 #[.slice A n c, .int .i64 k] w (CallPost w (fun _ : Unit => .bool B) fun _ _ => True) := by
  have hln := hs.1
  have hlt := (List.getElem?_eq_some_iff.1 hsk).1
  obtain ⟨ad, hA, hc⟩ := hs.2 k s hsk
  cases k with
  | zero =>
    rw [show lastAt ls 0 = 5 from rfl, stand5] at hB
    refine Good.enter Tryd.func65 rfl ?_
    refine Good.run (by kernel_rfl) (stop := 1000) 1000 _ ?_
    refine Good.cond true (by kernel_rfl) ?_
    refine Good.run (by kernel_rfl) (stop := 1000) 1000 _ ?_
    refine Good.ask (idxS 22 (.slice A n c) (0 : Nat)) (.pointer (some (ad.add ((0 : Nat) * 7)))) (by kernel_rfl) (fun w1 hw h => sg_idx hA (by omega)) ?_
    refine Good.run (by kernel_rfl) (stop := 3) 1000 _ ?_
    refine Good.ask (fldS 41 (ad.add ((0 : Nat) * 7)) 0) (.pointer (some ((ad.add ((0 : Nat) * 7)).add 0))) (by kernel_rfl) (fun w1 hw h => run_fldA (d := 0) (by kernel_rfl)) ?_
    refine Good.run (by kernel_rfl) (stop := 1000) 1000 _ ?_
    refine Good.ask (ldS 3 ((ad.add ((0 : Nat) * 7)).add 0)) (.int .i64 s.v) (by kernel_rfl) (fun w1 hw h => run_ldS (by kernel_rfl) (keepc hw (hc 0 _ rfl))) ?_
    refine Good.run (by kernel_rfl) (stop := 1000) 1000 _ ?_
    refine Good.ret (v := .bool (s.v == 1)) (by kernel_rfl) (fun w1 hw h => ⟨(), by rw [hB], hw, fun _ _ _ => trivial⟩)
  | succ k =>
    obtain ⟨p, hp⟩ : ∃ p, ls[k]? = some p := ⟨_, List.getElem?_eq_getElem (by omega)⟩
    obtain ⟨ap, hAp, hcp⟩ := hs.2 k p hp
    rw [lastAt_succ hp] at hB
    refine Good.enter Tryd.func65 rfl ?_
    refine Good.run (by kernel_rfl) (stop := 2) 1000 _ ?_
    refine Good.slot 6 (.bool (((k + 1 : Nat) : Int) == 0)) (.bool false) (by kernel_rfl) (by simp; omega) ?_
    refine Good.run (by kernel_rfl) (stop := 6) 1000 _ ?_
    refine Good.slot 10 (.int .i64 (IntKind.i64.wrap (((k + 1 : Nat) : Int) - 1))) (.int .i64 (k : Nat)) (by kernel_rfl) (by rw [IntWalk.i64_in _ (by omega)]; congr 1; omega) ?_
    refine Good.ask (idxS 22 (.slice A n c) k) (.pointer (some (ap.add (k * 7)))) (by kernel_rfl) (fun w1 hw h => sg_idx hAp (by omega)) ?_
    refine Good.run (by kernel_rfl) (stop := 7) 1000 _ ?_
    refine Good.ask (fldS 41 (ap.add (k * 7)) 0) (.pointer (some ((ap.add (k * 7)).add 0))) (by kernel_rfl) (fun w1 hw h => run_fldA (d := 0) (by kernel_rfl)) ?_
    refine Good.run (by kernel_rfl) (stop := 1000) 1000 _ ?_
    refine Good.ask (ldS 3 ((ap.add (k * 7)).add 0)) (.int .i64 p.v) (by kernel_rfl) (fun w1 hw h => run_ldS (by kernel_rfl) (keepc hw (hcp 0 _ rfl))) ?_
    refine Good.run (by kernel_rfl) (stop := 1000) 1000 _ ?_
    by_cases h5 : p.v = 5
    · rw [h5, stand5] at hB
      refine Good.condr ((p.v == 5)) true (by kernel_rfl) (by simp [h5]) ?_
      refine Good.run (by kernel_rfl) (stop := 1000) 1000 _ ?_
      refine Good.ask (idxS 22 (.slice A n c) (k + 1 : Nat)) (.pointer (some (ad.add ((k + 1 : Nat) * 7)))) (by kernel_rfl) (fun w1 hw h => sg_idx hA (by omega)) ?_
      refine Good.run (by kernel_rfl) (stop := 3) 1000 _ ?_
      refine Good.ask (fldS 41 (ad.add ((k + 1 : Nat) * 7)) 0) (.pointer (some ((ad.add ((k + 1 : Nat) * 7)).add 0))) (by kernel_rfl) (fun w1 hw h => run_fldA (d := 0) (by kernel_rfl)) ?_
      refine Good.run (by kernel_rfl) (stop := 1000) 1000 _ ?_
      refine Good.ask (ldS 3 ((ad.add ((k + 1 : Nat) * 7)).add 0)) (.int .i64 s.v) (by kernel_rfl) (fun w1 hw h => run_ldS (by kernel_rfl) (keepc hw (hc 0 _ rfl))) ?_
      refine Good.run (by kernel_rfl) (stop := 1000) 1000 _ ?_
      refine Good.ret (v := .bool (s.v == 1)) (by kernel_rfl) (fun w1 hw h => ⟨(), by rw [hB], hw, fun _ _ _ => trivial⟩)
    ·
      refine Good.condr ((p.v == 5)) false (by kernel_rfl) (by simp [h5]) ?_
      refine Good.run (by kernel_rfl) (stop := 1000) 1000 _ ?_
      refine Good.ask (idxS 22 (.slice A n c) (k + 1 : Nat)) (.pointer (some (ad.add ((k + 1 : Nat) * 7)))) (by kernel_rfl) (fun w1 hw h => sg_idx hA (by omega)) ?_
      refine Good.run (by kernel_rfl) (stop := 3) 1000 _ ?_
      refine Good.ask (fldS 41 (ad.add ((k + 1 : Nat) * 7)) 0) (.pointer (some ((ad.add ((k + 1 : Nat) * 7)).add 0))) (by kernel_rfl) (fun w1 hw h => run_fldA (d := 0) (by kernel_rfl)) ?_
      refine Good.run (by kernel_rfl) (stop := 1000) 1000 _ ?_
      refine Good.ask (ldS 3 ((ad.add ((k + 1 : Nat) * 7)).add 0)) (.int .i64 s.v) (by kernel_rfl) (fun w1 hw h => run_ldS (by kernel_rfl) (keepc hw (hc 0 _ rfl))) ?_
      refine Good.run (by kernel_rfl) (stop := 6) 1000 _ ?_
      by_cases h6 : s.v = 5
      · rw [h6, stand_end h5] at hB
        refine Good.slot 27 (.bool (s.v != 5)) (.bool false) (by kernel_rfl) (by simp [h6]) ?_
        refine Good.run (by kernel_rfl) (stop := 10) 1000 _ ?_
        refine Good.slot 31 (.int .i64 (IntKind.i64.wrap (((k + 1 : Nat) : Int) - 1))) (.int .i64 (k : Nat)) (by kernel_rfl) (by rw [IntWalk.i64_in _ (by omega)]; congr 1; omega) ?_
        refine Good.ask (idxS 22 (.slice A n c) k) (.pointer (some (ap.add (k * 7)))) (by kernel_rfl) (fun w1 hw h => sg_idx hAp (by omega)) ?_
        refine Good.run (by kernel_rfl) (stop := 11) 1000 _ ?_
        refine Good.ask (fldS 41 (ap.add (k * 7)) 0) (.pointer (some ((ap.add (k * 7)).add 0))) (by kernel_rfl) (fun w1 hw h => run_fldA (d := 0) (by kernel_rfl)) ?_
        refine Good.run (by kernel_rfl) (stop := 1000) 1000 _ ?_
        refine Good.ask (ldS 3 ((ap.add (k * 7)).add 0)) (.int .i64 p.v) (by kernel_rfl) (fun w1 hw h => run_ldS (by kernel_rfl) (keepc hw (hcp 0 _ rfl))) ?_
        refine Good.run (by kernel_rfl) (stop := 1000) 1000 _ ?_
        refine Good.ret (v := .bool (p.v != 1)) (by kernel_rfl) (fun w1 hw h => ⟨(), by rw [hB], hw, fun _ _ _ => trivial⟩)
      · rw [stand_no h5 h6] at hB
        subst hB
        refine Good.slot 27 (.bool (s.v != 5)) (.bool true) (by kernel_rfl) (by simp [h6]) ?_
        refine Good.run (by kernel_rfl) (stop := 1000) 1000 _ ?_
        refine Good.ret (v := .bool true) (by kernel_rfl) (fun w1 hw h => ⟨(), rfl, hw, fun _ _ _ => trivial⟩)
set_option maxRecDepth 100000 in
set_option maxHeartbeats 1000000 in
theorem three_m : Calls Tryd.prog 66 #[s.val] w (CallPost w (fun _ : Unit => .agg #[.int .i64 s.ax, .int .i64 s.ay, .int .i64 s.bx, .int .i64 s.by_, .int .i64 s.cx, .int .i64 s.cy]) fun _ _ => True) := by
  refine Good.enter Tryd.func66 rfl ?_
  refine Good.run (by kernel_rfl) (stop := 1000) 1000 _ ?_
  refine Good.ret (v := .agg #[.int .i64 s.ax, .int .i64 s.ay, .int .i64 s.bx, .int .i64 s.by_, .int .i64 s.cx, .int .i64 s.cy]) (by kernel_rfl) (fun w1 hw h => ⟨(), rfl, hw, fun _ _ _ => trivial⟩)
theorem valid_zero {x y : Int} (h : (x == 0 && y == 0) = true) : validP x y = true := by
  simp at h; obtain ⟨rfl, rfl⟩ := h; rfl
theorem named_rng (v : Int) : namedI v = -1 ∨ namedI v = 0 ∨ namedI v = 1 ∨ namedI v = 2 ∨ namedI v = 3 := by
  unfold namedI; split; omega; split; omega; split; omega; split; omega; omega
set_option maxRecDepth 100000 in
set_option maxHeartbeats 4000000 in
theorem wrong_m {e : Int} (hs : SgAt w A n ls) (hn : n ≤ 1000000) (hsk : ls[k]? = some s) (he : chkS (lastAt ls k) s = e) : Calls Tryd.prog 45 #[.slice A n c, .int .i64 k] w (CallPost w (fun _ : Unit => .int .i64 e) fun _ _ => True) := by
  have hln := hs.1
  have hlt := (List.getElem?_eq_some_iff.1 hsk).1
  obtain ⟨ad, hA, hc⟩ := hs.2 k s hsk
  refine Good.enter Tryd.func45 rfl ?_
  refine Good.run (by kernel_rfl) (stop := 1000) 1000 _ ?_
  refine Good.ask (idxS 22 (.slice A n c) k) (.pointer (some (ad.add (k * 7)))) (by kernel_rfl) (fun w1 hw h => sg_idx hA (by omega)) ?_
  refine Good.run (by kernel_rfl) (stop := 3) 1000 _ ?_
  refine Good.ask (fldS 41 (ad.add (k * 7)) 0) (.pointer (some ((ad.add (k * 7)).add 0))) (by kernel_rfl) (fun w1 hw h => run_fldA (d := 0) (by kernel_rfl)) ?_
  refine Good.run (by kernel_rfl) (stop := 1000) 1000 _ ?_
  refine Good.ask (ldS 3 ((ad.add (k * 7)).add 0)) (.int .i64 s.v) (by kernel_rfl) (fun w1 hw h => run_ldS (by kernel_rfl) (keepc hw (hc 0 _ rfl))) ?_
  refine Good.run (by kernel_rfl) (stop := 1000) 1000 _ ?_
  rcases named_rng s.v with hr | hr | hr | hr | hr
  · obtain rfl : e = 2 := he.symm.trans (chkS_arg hr)
    refine Good.callv (fun w1 hw h => rnamed_m hr) (by kernel_rfl) (fun u => ?_)
    refine Good.run (by kernel_rfl) (stop := 1000) 1000 _ ?_
    refine Good.cond true (by kernel_rfl) ?_
    refine Good.run (by kernel_rfl) (stop := 1000) 1000 _ ?_
    refine Good.ret (v := .int .i64 2) (by kernel_rfl) (fun w1 hw h => ⟨(), rfl, hw, fun _ _ _ => trivial⟩)
  · cases hst : standB (lastAt ls k) s.v with
    | false =>
      obtain rfl : e = 10 := he.symm.trans (chkS_path hr (by decide) hst)
      refine Good.callv (fun w1 hw h => rnamed_m hr) (by kernel_rfl) (fun u => ?_)
      refine Good.run (by kernel_rfl) (stop := 1000) 1000 _ ?_
      refine Good.cond false (by kernel_rfl) ?_
      refine Good.run (by kernel_rfl) (stop := 1000) 1000 _ ?_
      refine Good.callv (fun w1 hw h => rstands_m (c := c) (hs.below hw) hn hsk hst) (by kernel_rfl) (fun u => ?_)
      refine Good.run (by kernel_rfl) (stop := 1000) 1000 _ ?_
      refine Good.cond true (by kernel_rfl) ?_
      refine Good.run (by kernel_rfl) (stop := 1000) 1000 _ ?_
      refine Good.ret (v := .int .i64 10) (by kernel_rfl) (fun w1 hw h => ⟨(), rfl, hw, fun _ _ _ => trivial⟩)
    | true =>
      refine Good.callv (fun w1 hw h => rnamed_m hr) (by kernel_rfl) (fun u => ?_)
      refine Good.run (by kernel_rfl) (stop := 1000) 1000 _ ?_
      refine Good.cond false (by kernel_rfl) ?_
      refine Good.run (by kernel_rfl) (stop := 1000) 1000 _ ?_
      refine Good.callv (fun w1 hw h => rstands_m (c := c) (hs.below hw) hn hsk hst) (by kernel_rfl) (fun u => ?_)
      refine Good.run (by kernel_rfl) (stop := 1000) 1000 _ ?_
      refine Good.cond false (by kernel_rfl) ?_
      refine Good.run (by kernel_rfl) (stop := 1000) 1000 _ ?_
      refine Good.ask (idxS 22 (.slice A n c) k) (.pointer (some (ad.add (k * 7)))) (by kernel_rfl) (fun w1 hw h => sg_idx hA (by omega)) ?_
      refine Good.run (by kernel_rfl) (stop := 1000) 1000 _ ?_
      refine Good.ask (ldS 41 (ad.add (k * 7))) (s.val) (by kernel_rfl) (fun w1 hw h => sg_ld fun j u hj => keepc hw (hc j u hj)) ?_
      refine Good.run (by kernel_rfl) (stop := 1000) 1000 _ ?_
      refine Good.callv (fun w1 hw h => three_m (s := s)) (by kernel_rfl) (fun u => ?_)
      refine Good.run (by kernel_rfl) (stop := 1000) 1000 _ ?_
      cases hf : fitsB s with
      | false =>
        obtain rfl : e = 6 := he.symm.trans (chkS_rng hr (by decide) hst hf)
        unfold fitsB at hf
        rw [hr, okP_out (show ¬ ((0 : Int) < 0) by decide), okP_out (show ¬ ((1 : Int) < 0) by decide), okP_out (show ¬ ((2 : Int) < 0) by decide)] at hf
        refine Good.un (by kernel_rfl) ?_
        refine Good.run (by kernel_rfl) (stop := 1000) 1000 _ ?_
        refine Good.cond true (by kernel_rfl) ?_
        refine Good.run (by kernel_rfl) (stop := 19) 1000 _ ?_
        cases hz0 : (s.ax == 0 && s.ay == 0) with
        | false =>
          refine Good.ask (neP 39 (.tmp 46) (.tmp 47) (pt s.ax s.ay) (pt 0 0)) (.bool true) (by kernel_rfl) (fun w1 hw h => by rw [run_neP, hz0]; rfl) ?_
          refine Good.run (by kernel_rfl) (stop := 1000) 1000 _ ?_
          refine Good.cond true (by kernel_rfl) ?_
          refine Good.run (by kernel_rfl) (stop := 1000) 1000 _ ?_
          refine Good.ret (v := .int .i64 6) (by kernel_rfl) (fun w1 hw h => ⟨(), rfl, hw, fun _ _ _ => trivial⟩)
        | true =>
        have hv0 := valid_zero hz0
        rw [hz0, hv0] at hf
        refine Good.ask (neP 39 (.tmp 46) (.tmp 47) (pt s.ax s.ay) (pt 0 0)) (.bool false) (by kernel_rfl) (fun w1 hw h => by rw [run_neP, hz0]; rfl) ?_
        refine Good.run (by kernel_rfl) (stop := 1000) 1000 _ ?_
        refine Good.cond false (by kernel_rfl) ?_
        refine Good.run (by kernel_rfl) (stop := 1000) 1000 _ ?_
        refine Good.cond true (by kernel_rfl) ?_
        refine Good.run (by kernel_rfl) (stop := 19) 1000 _ ?_
        cases hz1 : (s.bx == 0 && s.by_ == 0) with
        | false =>
          refine Good.ask (neP 39 (.tmp 46) (.tmp 47) (pt s.bx s.by_) (pt 0 0)) (.bool true) (by kernel_rfl) (fun w1 hw h => by rw [run_neP, hz1]; rfl) ?_
          refine Good.run (by kernel_rfl) (stop := 1000) 1000 _ ?_
          refine Good.cond true (by kernel_rfl) ?_
          refine Good.run (by kernel_rfl) (stop := 1000) 1000 _ ?_
          refine Good.ret (v := .int .i64 6) (by kernel_rfl) (fun w1 hw h => ⟨(), rfl, hw, fun _ _ _ => trivial⟩)
        | true =>
        have hv1 := valid_zero hz1
        rw [hz1, hv1] at hf
        refine Good.ask (neP 39 (.tmp 46) (.tmp 47) (pt s.bx s.by_) (pt 0 0)) (.bool false) (by kernel_rfl) (fun w1 hw h => by rw [run_neP, hz1]; rfl) ?_
        refine Good.run (by kernel_rfl) (stop := 1000) 1000 _ ?_
        refine Good.cond false (by kernel_rfl) ?_
        refine Good.run (by kernel_rfl) (stop := 1000) 1000 _ ?_
        refine Good.cond true (by kernel_rfl) ?_
        refine Good.run (by kernel_rfl) (stop := 19) 1000 _ ?_
        cases hz2 : (s.cx == 0 && s.cy == 0) with
        | false =>
          refine Good.ask (neP 39 (.tmp 46) (.tmp 47) (pt s.cx s.cy) (pt 0 0)) (.bool true) (by kernel_rfl) (fun w1 hw h => by rw [run_neP, hz2]; rfl) ?_
          refine Good.run (by kernel_rfl) (stop := 1000) 1000 _ ?_
          refine Good.cond true (by kernel_rfl) ?_
          refine Good.run (by kernel_rfl) (stop := 1000) 1000 _ ?_
          refine Good.ret (v := .int .i64 6) (by kernel_rfl) (fun w1 hw h => ⟨(), rfl, hw, fun _ _ _ => trivial⟩)
        | true =>
        have hv2 := valid_zero hz2
        rw [hz2, hv2] at hf
        refine Good.ask (neP 39 (.tmp 46) (.tmp 47) (pt s.cx s.cy) (pt 0 0)) (.bool false) (by kernel_rfl) (fun w1 hw h => by rw [run_neP, hz2]; rfl) ?_
        refine Good.run (by kernel_rfl) (stop := 1000) 1000 _ ?_
        refine Good.cond false (by kernel_rfl) ?_
        refine Good.run (by kernel_rfl) (stop := 1000) 1000 _ ?_
        simp at hf
      | true =>
        obtain rfl : e = 0 := he.symm.trans (chkS_ok hr (by decide) hst hf)
        unfold fitsB at hf
        rw [hr, okP_out (show ¬ ((0 : Int) < 0) by decide), okP_out (show ¬ ((1 : Int) < 0) by decide), okP_out (show ¬ ((2 : Int) < 0) by decide)] at hf
        refine Good.un (by kernel_rfl) ?_
        refine Good.run (by kernel_rfl) (stop := 1000) 1000 _ ?_
        refine Good.cond true (by kernel_rfl) ?_
        refine Good.run (by kernel_rfl) (stop := 19) 1000 _ ?_
        cases hz0 : (s.ax == 0 && s.ay == 0) with
        | false =>
          rw [hz0] at hf; simp at hf
        | true =>
        have hv0 := valid_zero hz0
        rw [hz0, hv0] at hf
        refine Good.ask (neP 39 (.tmp 46) (.tmp 47) (pt s.ax s.ay) (pt 0 0)) (.bool false) (by kernel_rfl) (fun w1 hw h => by rw [run_neP, hz0]; rfl) ?_
        refine Good.run (by kernel_rfl) (stop := 1000) 1000 _ ?_
        refine Good.cond false (by kernel_rfl) ?_
        refine Good.run (by kernel_rfl) (stop := 1000) 1000 _ ?_
        refine Good.cond true (by kernel_rfl) ?_
        refine Good.run (by kernel_rfl) (stop := 19) 1000 _ ?_
        cases hz1 : (s.bx == 0 && s.by_ == 0) with
        | false =>
          rw [hz1] at hf; simp at hf
        | true =>
        have hv1 := valid_zero hz1
        rw [hz1, hv1] at hf
        refine Good.ask (neP 39 (.tmp 46) (.tmp 47) (pt s.bx s.by_) (pt 0 0)) (.bool false) (by kernel_rfl) (fun w1 hw h => by rw [run_neP, hz1]; rfl) ?_
        refine Good.run (by kernel_rfl) (stop := 1000) 1000 _ ?_
        refine Good.cond false (by kernel_rfl) ?_
        refine Good.run (by kernel_rfl) (stop := 1000) 1000 _ ?_
        refine Good.cond true (by kernel_rfl) ?_
        refine Good.run (by kernel_rfl) (stop := 19) 1000 _ ?_
        cases hz2 : (s.cx == 0 && s.cy == 0) with
        | false =>
          rw [hz2] at hf; simp at hf
        | true =>
        have hv2 := valid_zero hz2
        rw [hz2, hv2] at hf
        refine Good.ask (neP 39 (.tmp 46) (.tmp 47) (pt s.cx s.cy) (pt 0 0)) (.bool false) (by kernel_rfl) (fun w1 hw h => by rw [run_neP, hz2]; rfl) ?_
        refine Good.run (by kernel_rfl) (stop := 1000) 1000 _ ?_
        refine Good.cond false (by kernel_rfl) ?_
        refine Good.run (by kernel_rfl) (stop := 1000) 1000 _ ?_
        refine Good.cond false (by kernel_rfl) ?_
        refine Good.run (by kernel_rfl) (stop := 1000) 1000 _ ?_
        refine Good.ret (v := .int .i64 0) (by kernel_rfl) (fun w1 hw h => ⟨(), rfl, hw, fun _ _ _ => trivial⟩)
  · cases hst : standB (lastAt ls k) s.v with
    | false =>
      obtain rfl : e = 10 := he.symm.trans (chkS_path hr (by decide) hst)
      refine Good.callv (fun w1 hw h => rnamed_m hr) (by kernel_rfl) (fun u => ?_)
      refine Good.run (by kernel_rfl) (stop := 1000) 1000 _ ?_
      refine Good.cond false (by kernel_rfl) ?_
      refine Good.run (by kernel_rfl) (stop := 1000) 1000 _ ?_
      refine Good.callv (fun w1 hw h => rstands_m (c := c) (hs.below hw) hn hsk hst) (by kernel_rfl) (fun u => ?_)
      refine Good.run (by kernel_rfl) (stop := 1000) 1000 _ ?_
      refine Good.cond true (by kernel_rfl) ?_
      refine Good.run (by kernel_rfl) (stop := 1000) 1000 _ ?_
      refine Good.ret (v := .int .i64 10) (by kernel_rfl) (fun w1 hw h => ⟨(), rfl, hw, fun _ _ _ => trivial⟩)
    | true =>
      refine Good.callv (fun w1 hw h => rnamed_m hr) (by kernel_rfl) (fun u => ?_)
      refine Good.run (by kernel_rfl) (stop := 1000) 1000 _ ?_
      refine Good.cond false (by kernel_rfl) ?_
      refine Good.run (by kernel_rfl) (stop := 1000) 1000 _ ?_
      refine Good.callv (fun w1 hw h => rstands_m (c := c) (hs.below hw) hn hsk hst) (by kernel_rfl) (fun u => ?_)
      refine Good.run (by kernel_rfl) (stop := 1000) 1000 _ ?_
      refine Good.cond false (by kernel_rfl) ?_
      refine Good.run (by kernel_rfl) (stop := 1000) 1000 _ ?_
      refine Good.ask (idxS 22 (.slice A n c) k) (.pointer (some (ad.add (k * 7)))) (by kernel_rfl) (fun w1 hw h => sg_idx hA (by omega)) ?_
      refine Good.run (by kernel_rfl) (stop := 1000) 1000 _ ?_
      refine Good.ask (ldS 41 (ad.add (k * 7))) (s.val) (by kernel_rfl) (fun w1 hw h => sg_ld fun j u hj => keepc hw (hc j u hj)) ?_
      refine Good.run (by kernel_rfl) (stop := 1000) 1000 _ ?_
      refine Good.callv (fun w1 hw h => three_m (s := s)) (by kernel_rfl) (fun u => ?_)
      refine Good.run (by kernel_rfl) (stop := 1000) 1000 _ ?_
      cases hf : fitsB s with
      | false =>
        obtain rfl : e = 6 := he.symm.trans (chkS_rng hr (by decide) hst hf)
        unfold fitsB at hf
        rw [hr, okP_in (show (0 : Int) < 1 by decide), okP_out (show ¬ ((1 : Int) < 1) by decide), okP_out (show ¬ ((2 : Int) < 1) by decide)] at hf
        refine Good.un (by kernel_rfl) ?_
        refine Good.run (by kernel_rfl) (stop := 1000) 1000 _ ?_
        refine Good.cond true (by kernel_rfl) ?_
        refine Good.run (by kernel_rfl) (stop := 1000) 1000 _ ?_
        cases hv0 : validP s.ax s.ay with
        | false =>
          refine Good.callv (fun w1 hw h => rvalid_v hv0) (by kernel_rfl) (fun u => ?_)
          refine Good.run (by kernel_rfl) (stop := 1000) 1000 _ ?_
          refine Good.cond true (by kernel_rfl) ?_
          refine Good.run (by kernel_rfl) (stop := 1000) 1000 _ ?_
          refine Good.ret (v := .int .i64 6) (by kernel_rfl) (fun w1 hw h => ⟨(), rfl, hw, fun _ _ _ => trivial⟩)
        | true =>
        rw [hv0] at hf
        refine Good.callv (fun w1 hw h => rvalid_v hv0) (by kernel_rfl) (fun u => ?_)
        refine Good.run (by kernel_rfl) (stop := 1000) 1000 _ ?_
        refine Good.cond false (by kernel_rfl) ?_
        refine Good.run (by kernel_rfl) (stop := 1000) 1000 _ ?_
        refine Good.cond true (by kernel_rfl) ?_
        refine Good.run (by kernel_rfl) (stop := 19) 1000 _ ?_
        cases hz1 : (s.bx == 0 && s.by_ == 0) with
        | false =>
          refine Good.ask (neP 39 (.tmp 46) (.tmp 47) (pt s.bx s.by_) (pt 0 0)) (.bool true) (by kernel_rfl) (fun w1 hw h => by rw [run_neP, hz1]; rfl) ?_
          refine Good.run (by kernel_rfl) (stop := 1000) 1000 _ ?_
          refine Good.cond true (by kernel_rfl) ?_
          refine Good.run (by kernel_rfl) (stop := 1000) 1000 _ ?_
          refine Good.ret (v := .int .i64 6) (by kernel_rfl) (fun w1 hw h => ⟨(), rfl, hw, fun _ _ _ => trivial⟩)
        | true =>
        have hv1 := valid_zero hz1
        rw [hz1, hv1] at hf
        refine Good.ask (neP 39 (.tmp 46) (.tmp 47) (pt s.bx s.by_) (pt 0 0)) (.bool false) (by kernel_rfl) (fun w1 hw h => by rw [run_neP, hz1]; rfl) ?_
        refine Good.run (by kernel_rfl) (stop := 1000) 1000 _ ?_
        refine Good.cond false (by kernel_rfl) ?_
        refine Good.run (by kernel_rfl) (stop := 1000) 1000 _ ?_
        refine Good.cond true (by kernel_rfl) ?_
        refine Good.run (by kernel_rfl) (stop := 19) 1000 _ ?_
        cases hz2 : (s.cx == 0 && s.cy == 0) with
        | false =>
          refine Good.ask (neP 39 (.tmp 46) (.tmp 47) (pt s.cx s.cy) (pt 0 0)) (.bool true) (by kernel_rfl) (fun w1 hw h => by rw [run_neP, hz2]; rfl) ?_
          refine Good.run (by kernel_rfl) (stop := 1000) 1000 _ ?_
          refine Good.cond true (by kernel_rfl) ?_
          refine Good.run (by kernel_rfl) (stop := 1000) 1000 _ ?_
          refine Good.ret (v := .int .i64 6) (by kernel_rfl) (fun w1 hw h => ⟨(), rfl, hw, fun _ _ _ => trivial⟩)
        | true =>
        have hv2 := valid_zero hz2
        rw [hz2, hv2] at hf
        refine Good.ask (neP 39 (.tmp 46) (.tmp 47) (pt s.cx s.cy) (pt 0 0)) (.bool false) (by kernel_rfl) (fun w1 hw h => by rw [run_neP, hz2]; rfl) ?_
        refine Good.run (by kernel_rfl) (stop := 1000) 1000 _ ?_
        refine Good.cond false (by kernel_rfl) ?_
        refine Good.run (by kernel_rfl) (stop := 1000) 1000 _ ?_
        simp at hf
      | true =>
        obtain rfl : e = 0 := he.symm.trans (chkS_ok hr (by decide) hst hf)
        unfold fitsB at hf
        rw [hr, okP_in (show (0 : Int) < 1 by decide), okP_out (show ¬ ((1 : Int) < 1) by decide), okP_out (show ¬ ((2 : Int) < 1) by decide)] at hf
        refine Good.un (by kernel_rfl) ?_
        refine Good.run (by kernel_rfl) (stop := 1000) 1000 _ ?_
        refine Good.cond true (by kernel_rfl) ?_
        refine Good.run (by kernel_rfl) (stop := 1000) 1000 _ ?_
        cases hv0 : validP s.ax s.ay with
        | false =>
          rw [hv0] at hf; simp at hf
        | true =>
        rw [hv0] at hf
        refine Good.callv (fun w1 hw h => rvalid_v hv0) (by kernel_rfl) (fun u => ?_)
        refine Good.run (by kernel_rfl) (stop := 1000) 1000 _ ?_
        refine Good.cond false (by kernel_rfl) ?_
        refine Good.run (by kernel_rfl) (stop := 1000) 1000 _ ?_
        refine Good.cond true (by kernel_rfl) ?_
        refine Good.run (by kernel_rfl) (stop := 19) 1000 _ ?_
        cases hz1 : (s.bx == 0 && s.by_ == 0) with
        | false =>
          rw [hz1] at hf; simp at hf
        | true =>
        have hv1 := valid_zero hz1
        rw [hz1, hv1] at hf
        refine Good.ask (neP 39 (.tmp 46) (.tmp 47) (pt s.bx s.by_) (pt 0 0)) (.bool false) (by kernel_rfl) (fun w1 hw h => by rw [run_neP, hz1]; rfl) ?_
        refine Good.run (by kernel_rfl) (stop := 1000) 1000 _ ?_
        refine Good.cond false (by kernel_rfl) ?_
        refine Good.run (by kernel_rfl) (stop := 1000) 1000 _ ?_
        refine Good.cond true (by kernel_rfl) ?_
        refine Good.run (by kernel_rfl) (stop := 19) 1000 _ ?_
        cases hz2 : (s.cx == 0 && s.cy == 0) with
        | false =>
          rw [hz2] at hf; simp at hf
        | true =>
        have hv2 := valid_zero hz2
        rw [hz2, hv2] at hf
        refine Good.ask (neP 39 (.tmp 46) (.tmp 47) (pt s.cx s.cy) (pt 0 0)) (.bool false) (by kernel_rfl) (fun w1 hw h => by rw [run_neP, hz2]; rfl) ?_
        refine Good.run (by kernel_rfl) (stop := 1000) 1000 _ ?_
        refine Good.cond false (by kernel_rfl) ?_
        refine Good.run (by kernel_rfl) (stop := 1000) 1000 _ ?_
        refine Good.cond false (by kernel_rfl) ?_
        refine Good.run (by kernel_rfl) (stop := 1000) 1000 _ ?_
        refine Good.ret (v := .int .i64 0) (by kernel_rfl) (fun w1 hw h => ⟨(), rfl, hw, fun _ _ _ => trivial⟩)
  · cases hst : standB (lastAt ls k) s.v with
    | false =>
      obtain rfl : e = 10 := he.symm.trans (chkS_path hr (by decide) hst)
      refine Good.callv (fun w1 hw h => rnamed_m hr) (by kernel_rfl) (fun u => ?_)
      refine Good.run (by kernel_rfl) (stop := 1000) 1000 _ ?_
      refine Good.cond false (by kernel_rfl) ?_
      refine Good.run (by kernel_rfl) (stop := 1000) 1000 _ ?_
      refine Good.callv (fun w1 hw h => rstands_m (c := c) (hs.below hw) hn hsk hst) (by kernel_rfl) (fun u => ?_)
      refine Good.run (by kernel_rfl) (stop := 1000) 1000 _ ?_
      refine Good.cond true (by kernel_rfl) ?_
      refine Good.run (by kernel_rfl) (stop := 1000) 1000 _ ?_
      refine Good.ret (v := .int .i64 10) (by kernel_rfl) (fun w1 hw h => ⟨(), rfl, hw, fun _ _ _ => trivial⟩)
    | true =>
      refine Good.callv (fun w1 hw h => rnamed_m hr) (by kernel_rfl) (fun u => ?_)
      refine Good.run (by kernel_rfl) (stop := 1000) 1000 _ ?_
      refine Good.cond false (by kernel_rfl) ?_
      refine Good.run (by kernel_rfl) (stop := 1000) 1000 _ ?_
      refine Good.callv (fun w1 hw h => rstands_m (c := c) (hs.below hw) hn hsk hst) (by kernel_rfl) (fun u => ?_)
      refine Good.run (by kernel_rfl) (stop := 1000) 1000 _ ?_
      refine Good.cond false (by kernel_rfl) ?_
      refine Good.run (by kernel_rfl) (stop := 1000) 1000 _ ?_
      refine Good.ask (idxS 22 (.slice A n c) k) (.pointer (some (ad.add (k * 7)))) (by kernel_rfl) (fun w1 hw h => sg_idx hA (by omega)) ?_
      refine Good.run (by kernel_rfl) (stop := 1000) 1000 _ ?_
      refine Good.ask (ldS 41 (ad.add (k * 7))) (s.val) (by kernel_rfl) (fun w1 hw h => sg_ld fun j u hj => keepc hw (hc j u hj)) ?_
      refine Good.run (by kernel_rfl) (stop := 1000) 1000 _ ?_
      refine Good.callv (fun w1 hw h => three_m (s := s)) (by kernel_rfl) (fun u => ?_)
      refine Good.run (by kernel_rfl) (stop := 1000) 1000 _ ?_
      cases hf : fitsB s with
      | false =>
        obtain rfl : e = 6 := he.symm.trans (chkS_rng hr (by decide) hst hf)
        unfold fitsB at hf
        rw [hr, okP_in (show (0 : Int) < 2 by decide), okP_in (show (1 : Int) < 2 by decide), okP_out (show ¬ ((2 : Int) < 2) by decide)] at hf
        refine Good.un (by kernel_rfl) ?_
        refine Good.run (by kernel_rfl) (stop := 1000) 1000 _ ?_
        refine Good.cond true (by kernel_rfl) ?_
        refine Good.run (by kernel_rfl) (stop := 1000) 1000 _ ?_
        cases hv0 : validP s.ax s.ay with
        | false =>
          refine Good.callv (fun w1 hw h => rvalid_v hv0) (by kernel_rfl) (fun u => ?_)
          refine Good.run (by kernel_rfl) (stop := 1000) 1000 _ ?_
          refine Good.cond true (by kernel_rfl) ?_
          refine Good.run (by kernel_rfl) (stop := 1000) 1000 _ ?_
          refine Good.ret (v := .int .i64 6) (by kernel_rfl) (fun w1 hw h => ⟨(), rfl, hw, fun _ _ _ => trivial⟩)
        | true =>
        rw [hv0] at hf
        refine Good.callv (fun w1 hw h => rvalid_v hv0) (by kernel_rfl) (fun u => ?_)
        refine Good.run (by kernel_rfl) (stop := 1000) 1000 _ ?_
        refine Good.cond false (by kernel_rfl) ?_
        refine Good.run (by kernel_rfl) (stop := 1000) 1000 _ ?_
        refine Good.cond true (by kernel_rfl) ?_
        refine Good.run (by kernel_rfl) (stop := 1000) 1000 _ ?_
        cases hv1 : validP s.bx s.by_ with
        | false =>
          refine Good.callv (fun w1 hw h => rvalid_v hv1) (by kernel_rfl) (fun u => ?_)
          refine Good.run (by kernel_rfl) (stop := 1000) 1000 _ ?_
          refine Good.cond true (by kernel_rfl) ?_
          refine Good.run (by kernel_rfl) (stop := 1000) 1000 _ ?_
          refine Good.ret (v := .int .i64 6) (by kernel_rfl) (fun w1 hw h => ⟨(), rfl, hw, fun _ _ _ => trivial⟩)
        | true =>
        rw [hv1] at hf
        refine Good.callv (fun w1 hw h => rvalid_v hv1) (by kernel_rfl) (fun u => ?_)
        refine Good.run (by kernel_rfl) (stop := 1000) 1000 _ ?_
        refine Good.cond false (by kernel_rfl) ?_
        refine Good.run (by kernel_rfl) (stop := 1000) 1000 _ ?_
        refine Good.cond true (by kernel_rfl) ?_
        refine Good.run (by kernel_rfl) (stop := 19) 1000 _ ?_
        cases hz2 : (s.cx == 0 && s.cy == 0) with
        | false =>
          refine Good.ask (neP 39 (.tmp 46) (.tmp 47) (pt s.cx s.cy) (pt 0 0)) (.bool true) (by kernel_rfl) (fun w1 hw h => by rw [run_neP, hz2]; rfl) ?_
          refine Good.run (by kernel_rfl) (stop := 1000) 1000 _ ?_
          refine Good.cond true (by kernel_rfl) ?_
          refine Good.run (by kernel_rfl) (stop := 1000) 1000 _ ?_
          refine Good.ret (v := .int .i64 6) (by kernel_rfl) (fun w1 hw h => ⟨(), rfl, hw, fun _ _ _ => trivial⟩)
        | true =>
        have hv2 := valid_zero hz2
        rw [hz2, hv2] at hf
        refine Good.ask (neP 39 (.tmp 46) (.tmp 47) (pt s.cx s.cy) (pt 0 0)) (.bool false) (by kernel_rfl) (fun w1 hw h => by rw [run_neP, hz2]; rfl) ?_
        refine Good.run (by kernel_rfl) (stop := 1000) 1000 _ ?_
        refine Good.cond false (by kernel_rfl) ?_
        refine Good.run (by kernel_rfl) (stop := 1000) 1000 _ ?_
        simp at hf
      | true =>
        obtain rfl : e = 0 := he.symm.trans (chkS_ok hr (by decide) hst hf)
        unfold fitsB at hf
        rw [hr, okP_in (show (0 : Int) < 2 by decide), okP_in (show (1 : Int) < 2 by decide), okP_out (show ¬ ((2 : Int) < 2) by decide)] at hf
        refine Good.un (by kernel_rfl) ?_
        refine Good.run (by kernel_rfl) (stop := 1000) 1000 _ ?_
        refine Good.cond true (by kernel_rfl) ?_
        refine Good.run (by kernel_rfl) (stop := 1000) 1000 _ ?_
        cases hv0 : validP s.ax s.ay with
        | false =>
          rw [hv0] at hf; simp at hf
        | true =>
        rw [hv0] at hf
        refine Good.callv (fun w1 hw h => rvalid_v hv0) (by kernel_rfl) (fun u => ?_)
        refine Good.run (by kernel_rfl) (stop := 1000) 1000 _ ?_
        refine Good.cond false (by kernel_rfl) ?_
        refine Good.run (by kernel_rfl) (stop := 1000) 1000 _ ?_
        refine Good.cond true (by kernel_rfl) ?_
        refine Good.run (by kernel_rfl) (stop := 1000) 1000 _ ?_
        cases hv1 : validP s.bx s.by_ with
        | false =>
          rw [hv1] at hf; simp at hf
        | true =>
        rw [hv1] at hf
        refine Good.callv (fun w1 hw h => rvalid_v hv1) (by kernel_rfl) (fun u => ?_)
        refine Good.run (by kernel_rfl) (stop := 1000) 1000 _ ?_
        refine Good.cond false (by kernel_rfl) ?_
        refine Good.run (by kernel_rfl) (stop := 1000) 1000 _ ?_
        refine Good.cond true (by kernel_rfl) ?_
        refine Good.run (by kernel_rfl) (stop := 19) 1000 _ ?_
        cases hz2 : (s.cx == 0 && s.cy == 0) with
        | false =>
          rw [hz2] at hf; simp at hf
        | true =>
        have hv2 := valid_zero hz2
        rw [hz2, hv2] at hf
        refine Good.ask (neP 39 (.tmp 46) (.tmp 47) (pt s.cx s.cy) (pt 0 0)) (.bool false) (by kernel_rfl) (fun w1 hw h => by rw [run_neP, hz2]; rfl) ?_
        refine Good.run (by kernel_rfl) (stop := 1000) 1000 _ ?_
        refine Good.cond false (by kernel_rfl) ?_
        refine Good.run (by kernel_rfl) (stop := 1000) 1000 _ ?_
        refine Good.cond false (by kernel_rfl) ?_
        refine Good.run (by kernel_rfl) (stop := 1000) 1000 _ ?_
        refine Good.ret (v := .int .i64 0) (by kernel_rfl) (fun w1 hw h => ⟨(), rfl, hw, fun _ _ _ => trivial⟩)
  · cases hst : standB (lastAt ls k) s.v with
    | false =>
      obtain rfl : e = 10 := he.symm.trans (chkS_path hr (by decide) hst)
      refine Good.callv (fun w1 hw h => rnamed_m hr) (by kernel_rfl) (fun u => ?_)
      refine Good.run (by kernel_rfl) (stop := 1000) 1000 _ ?_
      refine Good.cond false (by kernel_rfl) ?_
      refine Good.run (by kernel_rfl) (stop := 1000) 1000 _ ?_
      refine Good.callv (fun w1 hw h => rstands_m (c := c) (hs.below hw) hn hsk hst) (by kernel_rfl) (fun u => ?_)
      refine Good.run (by kernel_rfl) (stop := 1000) 1000 _ ?_
      refine Good.cond true (by kernel_rfl) ?_
      refine Good.run (by kernel_rfl) (stop := 1000) 1000 _ ?_
      refine Good.ret (v := .int .i64 10) (by kernel_rfl) (fun w1 hw h => ⟨(), rfl, hw, fun _ _ _ => trivial⟩)
    | true =>
      refine Good.callv (fun w1 hw h => rnamed_m hr) (by kernel_rfl) (fun u => ?_)
      refine Good.run (by kernel_rfl) (stop := 1000) 1000 _ ?_
      refine Good.cond false (by kernel_rfl) ?_
      refine Good.run (by kernel_rfl) (stop := 1000) 1000 _ ?_
      refine Good.callv (fun w1 hw h => rstands_m (c := c) (hs.below hw) hn hsk hst) (by kernel_rfl) (fun u => ?_)
      refine Good.run (by kernel_rfl) (stop := 1000) 1000 _ ?_
      refine Good.cond false (by kernel_rfl) ?_
      refine Good.run (by kernel_rfl) (stop := 1000) 1000 _ ?_
      refine Good.ask (idxS 22 (.slice A n c) k) (.pointer (some (ad.add (k * 7)))) (by kernel_rfl) (fun w1 hw h => sg_idx hA (by omega)) ?_
      refine Good.run (by kernel_rfl) (stop := 1000) 1000 _ ?_
      refine Good.ask (ldS 41 (ad.add (k * 7))) (s.val) (by kernel_rfl) (fun w1 hw h => sg_ld fun j u hj => keepc hw (hc j u hj)) ?_
      refine Good.run (by kernel_rfl) (stop := 1000) 1000 _ ?_
      refine Good.callv (fun w1 hw h => three_m (s := s)) (by kernel_rfl) (fun u => ?_)
      refine Good.run (by kernel_rfl) (stop := 1000) 1000 _ ?_
      cases hf : fitsB s with
      | false =>
        obtain rfl : e = 6 := he.symm.trans (chkS_rng hr (by decide) hst hf)
        unfold fitsB at hf
        rw [hr, okP_in (show (0 : Int) < 3 by decide), okP_in (show (1 : Int) < 3 by decide), okP_in (show (2 : Int) < 3 by decide)] at hf
        refine Good.un (by kernel_rfl) ?_
        refine Good.run (by kernel_rfl) (stop := 1000) 1000 _ ?_
        refine Good.cond true (by kernel_rfl) ?_
        refine Good.run (by kernel_rfl) (stop := 1000) 1000 _ ?_
        cases hv0 : validP s.ax s.ay with
        | false =>
          refine Good.callv (fun w1 hw h => rvalid_v hv0) (by kernel_rfl) (fun u => ?_)
          refine Good.run (by kernel_rfl) (stop := 1000) 1000 _ ?_
          refine Good.cond true (by kernel_rfl) ?_
          refine Good.run (by kernel_rfl) (stop := 1000) 1000 _ ?_
          refine Good.ret (v := .int .i64 6) (by kernel_rfl) (fun w1 hw h => ⟨(), rfl, hw, fun _ _ _ => trivial⟩)
        | true =>
        rw [hv0] at hf
        refine Good.callv (fun w1 hw h => rvalid_v hv0) (by kernel_rfl) (fun u => ?_)
        refine Good.run (by kernel_rfl) (stop := 1000) 1000 _ ?_
        refine Good.cond false (by kernel_rfl) ?_
        refine Good.run (by kernel_rfl) (stop := 1000) 1000 _ ?_
        refine Good.cond true (by kernel_rfl) ?_
        refine Good.run (by kernel_rfl) (stop := 1000) 1000 _ ?_
        cases hv1 : validP s.bx s.by_ with
        | false =>
          refine Good.callv (fun w1 hw h => rvalid_v hv1) (by kernel_rfl) (fun u => ?_)
          refine Good.run (by kernel_rfl) (stop := 1000) 1000 _ ?_
          refine Good.cond true (by kernel_rfl) ?_
          refine Good.run (by kernel_rfl) (stop := 1000) 1000 _ ?_
          refine Good.ret (v := .int .i64 6) (by kernel_rfl) (fun w1 hw h => ⟨(), rfl, hw, fun _ _ _ => trivial⟩)
        | true =>
        rw [hv1] at hf
        refine Good.callv (fun w1 hw h => rvalid_v hv1) (by kernel_rfl) (fun u => ?_)
        refine Good.run (by kernel_rfl) (stop := 1000) 1000 _ ?_
        refine Good.cond false (by kernel_rfl) ?_
        refine Good.run (by kernel_rfl) (stop := 1000) 1000 _ ?_
        refine Good.cond true (by kernel_rfl) ?_
        refine Good.run (by kernel_rfl) (stop := 1000) 1000 _ ?_
        cases hv2 : validP s.cx s.cy with
        | false =>
          refine Good.callv (fun w1 hw h => rvalid_v hv2) (by kernel_rfl) (fun u => ?_)
          refine Good.run (by kernel_rfl) (stop := 1000) 1000 _ ?_
          refine Good.cond true (by kernel_rfl) ?_
          refine Good.run (by kernel_rfl) (stop := 1000) 1000 _ ?_
          refine Good.ret (v := .int .i64 6) (by kernel_rfl) (fun w1 hw h => ⟨(), rfl, hw, fun _ _ _ => trivial⟩)
        | true =>
        rw [hv2] at hf
        refine Good.callv (fun w1 hw h => rvalid_v hv2) (by kernel_rfl) (fun u => ?_)
        refine Good.run (by kernel_rfl) (stop := 1000) 1000 _ ?_
        refine Good.cond false (by kernel_rfl) ?_
        refine Good.run (by kernel_rfl) (stop := 1000) 1000 _ ?_
        simp at hf
      | true =>
        obtain rfl : e = 0 := he.symm.trans (chkS_ok hr (by decide) hst hf)
        unfold fitsB at hf
        rw [hr, okP_in (show (0 : Int) < 3 by decide), okP_in (show (1 : Int) < 3 by decide), okP_in (show (2 : Int) < 3 by decide)] at hf
        refine Good.un (by kernel_rfl) ?_
        refine Good.run (by kernel_rfl) (stop := 1000) 1000 _ ?_
        refine Good.cond true (by kernel_rfl) ?_
        refine Good.run (by kernel_rfl) (stop := 1000) 1000 _ ?_
        cases hv0 : validP s.ax s.ay with
        | false =>
          rw [hv0] at hf; simp at hf
        | true =>
        rw [hv0] at hf
        refine Good.callv (fun w1 hw h => rvalid_v hv0) (by kernel_rfl) (fun u => ?_)
        refine Good.run (by kernel_rfl) (stop := 1000) 1000 _ ?_
        refine Good.cond false (by kernel_rfl) ?_
        refine Good.run (by kernel_rfl) (stop := 1000) 1000 _ ?_
        refine Good.cond true (by kernel_rfl) ?_
        refine Good.run (by kernel_rfl) (stop := 1000) 1000 _ ?_
        cases hv1 : validP s.bx s.by_ with
        | false =>
          rw [hv1] at hf; simp at hf
        | true =>
        rw [hv1] at hf
        refine Good.callv (fun w1 hw h => rvalid_v hv1) (by kernel_rfl) (fun u => ?_)
        refine Good.run (by kernel_rfl) (stop := 1000) 1000 _ ?_
        refine Good.cond false (by kernel_rfl) ?_
        refine Good.run (by kernel_rfl) (stop := 1000) 1000 _ ?_
        refine Good.cond true (by kernel_rfl) ?_
        refine Good.run (by kernel_rfl) (stop := 1000) 1000 _ ?_
        cases hv2 : validP s.cx s.cy with
        | false =>
          rw [hv2] at hf; simp at hf
        | true =>
        rw [hv2] at hf
        refine Good.callv (fun w1 hw h => rvalid_v hv2) (by kernel_rfl) (fun u => ?_)
        refine Good.run (by kernel_rfl) (stop := 1000) 1000 _ ?_
        refine Good.cond false (by kernel_rfl) ?_
        refine Good.run (by kernel_rfl) (stop := 1000) 1000 _ ?_
        refine Good.cond false (by kernel_rfl) ?_
        refine Good.run (by kernel_rfl) (stop := 1000) 1000 _ ?_
        refine Good.ret (v := .int .i64 0) (by kernel_rfl) (fun w1 hw h => ⟨(), rfl, hw, fun _ _ _ => trivial⟩)
set_option maxRecDepth 100000 in
set_option maxHeartbeats 1000000 in
theorem rcheck_m {e : Int} {i : Nat} (hs : SgAt w A n ls) (hn : n ≤ 1000000) (he : chk ls = (e, i)) : Calls Tryd.prog 30 #[.slice A n c] w (CallPost w (fun _ : Unit => .tuple #[.int .i64 e, .int .i64 i]) fun _ _ => True) := by
  have hln := hs.1
  by_cases hbig : 256 < ls.length
  · have hch : chk ls = (5, 256) := if_pos hbig
    rw [hch] at he
    obtain ⟨rfl, rfl⟩ := Prod.mk.inj he
    refine Good.enter Tryd.func30 rfl ?_
    refine Good.run (by kernel_rfl) (stop := 1000) 1000 _ ?_
    refine Good.condr (decide ((n : Int) > 256)) true (by kernel_rfl) (by simp; omega) ?_
    refine Good.run (by kernel_rfl) (stop := 1000) 1000 _ ?_
    refine Good.ret (v := .tuple #[.int .i64 5, .int .i64 256]) (by kernel_rfl) (fun w1 hw h => ⟨(), rfl, hw, fun _ _ _ => trivial⟩)
  have hch : chk ls = chkL 5 0 ls := if_neg hbig
  rw [hch] at he
  refine Good.enter Tryd.func30 rfl ?_
  refine Good.run (by kernel_rfl) (stop := 1000) 1000 _ ?_
  refine Good.condr (decide ((n : Int) > 256)) false (by kernel_rfl) (by simp; omega) ?_
  refine Good.run (by kernel_rfl) (stop := 1000) 1000 _ ?_
  refine Good.loop (ι := {k : Nat // k ≤ n ∧ chkL 5 0 ls = chkL (lastAt ls k) k (ls.drop k)}) 22 (fun q => ⟨[(0, .v (.slice A n c)), (4, .v (.int .i64 q.1))], []⟩) (fun _ _ => True) (fun q => n - q.1) (⟨0, Nat.zero_le _, rfl⟩) (by kernel_rfl) (fun _ => by kernel_rfl) ⟨by kernel_rfl, by kernel_rfl, by kernel_rfl⟩ (fun _ _ => trivial) ?_
  rintro ⟨k, hk1, hk2⟩ g
  by_cases hlt : k < n
  case neg =>
    rw [hk2, List.drop_of_length_le (by omega)] at he
    obtain ⟨rfl, rfl⟩ := Prod.mk.inj he
    refine Good.run (by kernel_rfl) (stop := 1000) 1000 _ ?_
    refine Good.condr (decide ((k : Int) < (n : Int))) false (by kernel_rfl) (by simp; omega) ?_
    refine Good.run (by kernel_rfl) (stop := 1000) 1000 _ ?_
    refine Good.leave (by kernel_rfl) ?_
    refine Good.run (by kernel_rfl) (stop := 1000) 1000 _ ?_
    refine Good.ret (v := .tuple #[.int .i64 0, .int .i64 0]) (by kernel_rfl) (fun w1 hw h => ⟨(), rfl, hw, fun _ _ _ => trivial⟩)
  obtain ⟨s, hsk⟩ : ∃ s, ls[k]? = some s := ⟨_, List.getElem?_eq_getElem (by omega)⟩
  rw [hk2, sg_drop hsk] at he
  rw [sg_drop hsk] at hk2
  refine Good.run (by kernel_rfl) (stop := 1000) 1000 _ ?_
  refine Good.condr (decide ((k : Int) < (n : Int))) true (by kernel_rfl) (by simp; omega) ?_
  refine Good.run (by kernel_rfl) (stop := 1000) 1000 _ ?_
  by_cases h0 : chkS (lastAt ls k) s = 0
  · rw [chkL_ok h0, ← lastAt_succ hsk] at hk2
    refine Good.callv (fun w1 hw h => wrong_m (c := c) (hs.below hw) hn hsk h0) (by kernel_rfl) (fun u => ?_)
    refine Good.run (by kernel_rfl) (stop := 1000) 1000 _ ?_
    refine Good.cond false (by kernel_rfl) ?_
    refine Good.run (by kernel_rfl) (stop := 1000) 1000 _ ?_
    refine Good.slot 4 (.int .i64 (IntKind.i64.wrap ((k : Int) + 1))) (.int .i64 ((k + 1 : Nat) : Int)) (by kernel_rfl) (by rw [wrap_succ hlt (by omega)]) ?_
    refine Good.next (⟨k + 1, by omega, hk2⟩) (by kernel_rfl) (by show n - (k + 1) < n - k; omega) ⟨by kernel_rfl, by kernel_rfl, by kernel_rfl⟩ (fun _ _ => trivial)
  · rw [chkL_bad h0] at he
    obtain ⟨he1, rfl⟩ := Prod.mk.inj he
    have he0 : e ≠ 0 := by rw [← he1]; exact h0
    refine Good.callv (fun w1 hw h => wrong_m (c := c) (hs.below hw) hn hsk he1) (by kernel_rfl) (fun u => ?_)
    refine Good.run (by kernel_rfl) (stop := 1000) 1000 _ ?_
    refine Good.condr ((e != 0)) true (by kernel_rfl) (by simpa using he0) ?_
    refine Good.run (by kernel_rfl) (stop := 1000) 1000 _ ?_
    refine Good.leave (by kernel_rfl) ?_
    refine Good.run (by kernel_rfl) (stop := 1000) 1000 _ ?_
    refine Good.ret (v := .tuple #[.int .i64 e, .int .i64 k]) (by kernel_rfl) (fun w1 hw h => ⟨(), rfl, hw, fun _ _ _ => trivial⟩)
set_option maxRecDepth 100000 in
set_option maxHeartbeats 1000000 in
theorem rvalidL_m {B : Bool} (hs : SgAt w A n ls) (hn : n ≤ 1000000) (hB : decide ((chk ls).1 = 0) = B) : Calls Tryd.prog 20 #[.slice A n c] w (CallPost w (fun _ : Unit => .bool B) fun _ _ => True) := by
  obtain ⟨e, i, he⟩ : ∃ e i, chk ls = (e, i) := ⟨_, _, rfl⟩
  rw [he] at hB
  refine Good.enter Tryd.func20 rfl ?_
  refine Good.run (by kernel_rfl) (stop := 1000) 1000 _ ?_
  refine Good.callv (fun w1 hw h => rcheck_m (c := c) (hs.below hw) hn he) (by kernel_rfl) (fun u => ?_)
  refine Good.run (by kernel_rfl) (stop := 1000) 1000 _ ?_
  refine Good.ret (v := .bool (e == 0)) (by kernel_rfl) (fun w1 hw h => ⟨(), by rw [← hB]; rfl, hw, fun _ _ _ => trivial⟩)
set_option maxRecDepth 100000 in
set_option maxHeartbeats 1000000 in
theorem requal_m {B : Bool} (ha : SgAt w A n ls) (hb : SgAt w A2 n2 ms) (hn : n ≤ 1000000) (hB : B = true ↔ ls = ms) : Calls Tryd.prog 11 #[.slice A n c, .slice A2 n2 c2] w (CallPost w (fun _ : Unit => .bool B) fun _ _ => True) := by
  have ha1 := ha.1
  have hb1 := hb.1
  by_cases hl : n = n2
  case neg =>
    obtain rfl : B = false := by cases B; rfl; exact absurd (by rw [← ha1, ← hb1, hB.1 rfl]) hl
    refine Good.enter Tryd.func11 rfl ?_
    refine Good.run (by kernel_rfl) (stop := 1000) 1000 _ ?_
    refine Good.condr (((n : Int) != (n2 : Int))) true (by kernel_rfl) (by simp; omega) ?_
    refine Good.run (by kernel_rfl) (stop := 1000) 1000 _ ?_
    refine Good.ret (v := .bool false) (by kernel_rfl) (fun w1 hw h => ⟨(), rfl, hw, fun _ _ _ => trivial⟩)
  refine Good.enter Tryd.func11 rfl ?_
  refine Good.run (by kernel_rfl) (stop := 1000) 1000 _ ?_
  refine Good.condr (((n : Int) != (n2 : Int))) false (by kernel_rfl) (by simp; omega) ?_
  refine Good.run (by kernel_rfl) (stop := 1000) 1000 _ ?_
  refine Good.loop (ι := {k : Nat // k ≤ n ∧ ls.take k = ms.take k}) 26 (fun q => ⟨[(0, .v (.slice A n c)), (1, .v (.slice A2 n2 c2)), (5, .v (.int .i64 q.1))], []⟩) (fun _ _ => True) (fun q => n - q.1) (⟨0, Nat.zero_le _, rfl⟩) (by kernel_rfl) (fun _ => by kernel_rfl) ⟨by kernel_rfl, by kernel_rfl, by kernel_rfl⟩ (fun _ _ => trivial) ?_
  rintro ⟨k, hk, hkd⟩ g
  by_cases hlt : k < n
  · obtain ⟨a, hak⟩ : ∃ a, ls[k]? = some a := ⟨_, List.getElem?_eq_getElem (by omega)⟩
    obtain ⟨b, hbk⟩ : ∃ b, ms[k]? = some b := ⟨_, List.getElem?_eq_getElem (by omega)⟩
    obtain ⟨ad, hA, hca⟩ := ha.2 k a hak
    obtain ⟨bd, hA2, hcb⟩ := hb.2 k b hbk
    refine Good.run (by kernel_rfl) (stop := 1000) 1000 _ ?_
    refine Good.condr (decide ((k : Int) < (n : Int))) true (by kernel_rfl) (by simp; omega) ?_
    refine Good.run (by kernel_rfl) (stop := 1000) 1000 _ ?_
    refine Good.askAt 2 (idxS 22 (.slice A n c) k) (.pointer (some (ad.add (k * 7)))) (by kernel_rfl) (fun w1 hw h => sg_idx hA hlt) ?_
    refine Good.run (by kernel_rfl) (stop := 1000) 1000 _ ?_
    refine Good.askAt 3 (ldS 41 (ad.add (k * 7))) (a.val) (by kernel_rfl) (fun w1 hw h => sg_ld fun j u hj => keepc hw (hca j u hj)) ?_
    refine Good.run (by kernel_rfl) (stop := 1000) 1000 _ ?_
    refine Good.askAt 6 (idxS 22 (.slice A2 n2 c2) k) (.pointer (some (bd.add (k * 7)))) (by kernel_rfl) (fun w1 hw h => sg_idx hA2 (by omega)) ?_
    refine Good.run (by kernel_rfl) (stop := 1000) 1000 _ ?_
    refine Good.askAt 7 (ldS 41 (bd.add (k * 7))) (b.val) (by kernel_rfl) (fun w1 hw h => sg_ld fun j u hj => keepc hw (hcb j u hj)) ?_
    refine Good.run (by kernel_rfl) (stop := 8) 1000 _ ?_
    cases he : a.beq b with
    | true =>
      have heq := Sg.beq_iff.1 he
      refine Good.askAt 8 (neP 41 (.tmp 20) (.tmp 24) a.val b.val) (.bool false) (by kernel_rfl) (fun w1 hw h => by rw [run_neS_sg, he]; rfl) ?_
      refine Good.run (by kernel_rfl) (stop := 1000) 1000 _ ?_
      refine Good.cond false (by kernel_rfl) ?_
      refine Good.run (by kernel_rfl) (stop := 1000) 1000 _ ?_
      refine Good.slot 5 (.int .i64 (IntKind.i64.wrap ((k : Int) + 1))) (.int .i64 ((k + 1 : Nat) : Int)) (by kernel_rfl) (by rw [wrap_succ hlt (by omega)]) ?_
      refine Good.next (⟨k + 1, by omega, by rw [List.take_add_one, List.take_add_one, hak, hbk, hkd, heq]⟩) (by kernel_rfl) (by show n - (k + 1) < n - k; omega) ⟨by kernel_rfl, by kernel_rfl, by kernel_rfl⟩ (fun _ _ => trivial)
    | false =>
      obtain rfl : B = false := by cases B; rfl; have h1 := hB.1 rfl; rw [h1, hbk] at hak; injection hak with hak; rw [hak, Sg.beq_iff.2 rfl] at he; cases he
      refine Good.askAt 8 (neP 41 (.tmp 20) (.tmp 24) a.val b.val) (.bool true) (by kernel_rfl) (fun w1 hw h => by rw [run_neS_sg, he]; rfl) ?_
      refine Good.run (by kernel_rfl) (stop := 1000) 1000 _ ?_
      refine Good.cond true (by kernel_rfl) ?_
      refine Good.run (by kernel_rfl) (stop := 1000) 1000 _ ?_
      refine Good.leave (by kernel_rfl) ?_
      refine Good.run (by kernel_rfl) (stop := 1000) 1000 _ ?_
      refine Good.ret (v := .bool false) (by kernel_rfl) (fun w1 hw h => ⟨(), rfl, hw, fun _ _ _ => trivial⟩)
  · obtain rfl : B = true := hB.2 (by rw [List.take_of_length_le (by omega), List.take_of_length_le (by omega)] at hkd; exact hkd)
    refine Good.run (by kernel_rfl) (stop := 1000) 1000 _ ?_
    refine Good.condr (decide ((k : Int) < (n : Int))) false (by kernel_rfl) (by simp; omega) ?_
    refine Good.run (by kernel_rfl) (stop := 1000) 1000 _ ?_
    refine Good.leave (by kernel_rfl) ?_
    refine Good.run (by kernel_rfl) (stop := 1000) 1000 _ ?_
    refine Good.ret (v := .bool true) (by kernel_rfl) (fun w1 hw h => ⟨(), rfl, hw, fun _ _ _ => trivial⟩)
end

section
variable {P : Program} {Δ : List Deferred} {W : World} {Q : Exit → Act → World → Prop} {Φ : World → Prop} {c : Cfg}
def twoReady (i j : Nat) (c : Cfg) : Bool := match c.foc with
  | .any ops (_ + 1) listed => match Region.ready .any ops listed with
    | [a, b] => Nat.beq a i && Nat.beq b j
    | _ => false
  | _ => false
/-- Operation i may be the next one. -/
def GoodAt (P : Program) (W : World) (Q : Exit → Act → World → Prop) (i : Nat) (Φ : World → Prop) (c : Cfg) (Δ : List Deferred) : Prop :=
  match c.foc with
  | .any ops (fuel + 1) listed => Ssa ops → AClosed ops listed → c.st.wf → i ∈ Region.ready .any ops listed → ∃ o, ops[i]? = some o ∧ AOp P W ops o (aAny P W ops (fun σ Φ => σ.wf → ∀ β a w, Rep Δ W β σ Φ a w → post P Q c.k .normal a w) fuel (listed.setIfInBounds i true)) c.st Φ
  | _ => True
theorem Good.two {i j : Nat} (h : twoReady i j c = true) (hi : GoodAt P W Q i Φ c Δ) (hj : GoodAt P W Q j Φ c Δ) : Good P Δ W Q Φ c := by
  obtain ⟨foc, k, σ⟩ := c
  refine ⟨?_⟩
  unfold twoReady at h
  simp only at h
  split at h
  · rename_i ops fuel listed
    split at h
    · rename_i a b hrd
      simp only [Bool.and_eq_true, Nat.beq_eq] at h
      obtain ⟨rfl, rfl⟩ := h
      intro hssa hcl hwf
      refine ⟨fun h0 => (by rw [h0] at hrd; cases hrd), fun x hx => ?_⟩
      have hx2 := hx
      rw [hrd] at hx2
      rcases List.mem_cons.1 hx2 with rfl | hx2
      · exact hi hssa hcl hwf hx
      · obtain rfl : x = b := by simpa using hx2
        exact hj hssa hcl hwf hx
    · cases h
  · cases h
def callAtV (P : Program) (i : Nat) (c : Cfg) : Option (FuncId × Array Value) :=
  match c.foc with
  | .any ops (_ + 1) _ => match ops[i]? with
    | some o => if wantedA ops o c.st then (match acall P o c.st with
      | some (g, xs) => match allV xs with
        | some vs => some (g, vs.toArray)
        | none => none
      | none => none) else none
    | none => none
  | _ => none
theorem GoodAt.callv {X : Type} {i : Nat} {g : FuncId} {args : Array Value} {val : X → Value} {G : X → World → Prop}
    (hs : ∀ w, Below W.heap.size W w → Φ w → Calls P g args w (CallPost w val G)) (hc : callAtV P i c = some (g, args))
    (h : ∀ x : X, Good P Δ W Q (fun w => Φ w ∧ G x w) (amPut i (val x) c)) : GoodAt P W Q i Φ c Δ := by
  obtain ⟨foc, k, σ⟩ := c
  replace h := fun x => (h x).get
  unfold callAtV at hc
  simp only at hc
  split at hc
  · rename_i ops fuel listed
    split at hc
    · rename_i o ho
      split at hc
      · rename_i hw
        split at hc
        · rename_i g' xs hn
          split at hc
          · rename_i vs hv
            injection hc with hc
            injection hc with h1 h2
            subst h1; subst h2
            intro hssa hcl hwf hr
            obtain ⟨_, o', ho', hall⟩ := mem_ready.1 hr
            obtain rfl : o = o' := by rw [ho] at ho'; injection ho'
            refine ⟨o, ho, .call g' xs val G hw hn (fun β w hb hΦ _ => by rw [allV_conc hv]; exact hs w hb hΦ) fun x => ?_⟩
            have := h x
            simp only [amPut, ho, Option.bind_some, Nat.add_one_sub_one] at this
            exact this hssa (hcl.set_ ho hall) (hwf.put _ (by intro k hk; simp [AV.ids] at hk))
          · cases hc
        · cases hc
      · cases hc
    · cases hc
  · cases hc
def semAt (i : Nat) (c : Cfg) : Option (Sem Next) :=
  match c.foc with
  | .any ops (_ + 1) _ => match ops[i]? with
    | some o => match o.op with
      | .select _ _ => none
      | _ => if wantedA ops o c.st && c.st.plain o.op then some (execOp c.st.rho o) else none
    | none => none
  | _ => none
theorem GoodAt.make {X : Type} {i : Nat} (s : Sem Next) (val : X → Value) (G : X → World → Prop) (hc : semAt i c = some s) (hs : ∀ w, Below W.heap.size W w → Φ w → MakePost P w val G s) (h : ∀ x, Good P Δ W Q (fun w => Φ w ∧ G x w) (amPut i (val x) c)) : GoodAt P W Q i Φ c Δ := by
  obtain ⟨foc, k, σ⟩ := c
  replace h := fun x => (h x).get
  unfold semAt at hc
  simp only at hc
  split at hc
  · rename_i ops fuel listed
    split at hc
    · rename_i o ho
      split at hc
      · cases hc
      · rename_i hns
        split at hc
        · rename_i hw
          simp only [Bool.and_eq_true] at hw
          injection hc with hc
          subst hc
          intro hssa hcl hwf hr
          obtain ⟨_, o', ho', hall⟩ := mem_ready.1 hr
          obtain rfl : o = o' := by rw [ho] at ho'; injection ho'
          refine ⟨o, ho, .make val G hw.1 hw.2 (fun cs b e => hns cs b e) hs fun x => ?_⟩
          have := h x
          simp only [amPut, ho, Option.bind_some, Nat.add_one_sub_one] at this
          exact this hssa (hcl.set_ ho hall) (hwf.put _ (by intro k hk; simp [AV.ids] at hk))
        · cases hc
    · cases hc
  · cases hc
end

def triS (s : Sg) : List (Int × Int) := [(s.ax, s.ay), (s.bx, s.by_), (s.cx, s.cy)]
def ptsS (s : Sg) : List (Int × Int) := (triS s).take (namedI s.v).toNat
def fmt2 (p : Int × Int) : List (List UInt8) := [fmtI p.1, fmtI p.2]
def letS (v : Int) : UInt8 := if v = 1 then 77 else if v = 2 then 76 else if v = 3 then 81 else if v = 4 then 67 else 90
def segW (s : Sg) : List (List UInt8) := [letS s.v] :: (ptsS s).flatMap fmt2
def wordsP (l : List Sg) : List (List UInt8) := l.flatMap segW
def fmtP (l : List Sg) : List UInt8 := joinBy 32 (wordsP l)
def okPath (l : List Sg) : Bool := decide ((chk l).1 = 0)
/-- What a good path's segments are. -/
def GoodS (s : Sg) : Prop := (s.v = 1 ∨ s.v = 2 ∨ s.v = 3 ∨ s.v = 4 ∨ s.v = 5) ∧ fitsB s = true
theorem chkL_good : ∀ {last : Int} {k : Nat} {l : List Sg}, (chkL last k l).1 = 0 → ∀ s ∈ l, GoodS s
  | _, _, [], _, s, hs => by cases hs
  | last, k, s :: l, h, t, ht => by
    rw [chkL] at h
    split at h
    · rename_i h0
      have hs : GoodS s := by
        unfold chkS at h0
        split at h0
        · cases h0
        · rename_i hn
          split at h0
          · cases h0
          · split at h0
            · cases h0
            · rename_i hf
              refine ⟨?_, by cases hb : fitsB s; exact absurd hb hf; rfl⟩
              rcases named_cases s.v with h1 | h1 | h1 | h1 | h1 | h1
              · exact .inl h1
              · exact .inr (.inl h1)
              · exact .inr (.inr (.inl h1))
              · exact .inr (.inr (.inr (.inl h1)))
              · exact .inr (.inr (.inr (.inr h1)))
              · rw [named_other h1] at hn; omega
      rcases List.mem_cons.1 ht with rfl | ht
      · exact hs
      · exact chkL_good h t ht
    · rename_i h0; exact absurd h h0
theorem good_path {l : List Sg} (h : okPath l = true) : (∀ s ∈ l, GoodS s) ∧ l.length ≤ 256 := by
  have h1 : (chk l).1 = 0 := of_decide_eq_true h
  unfold chk at h1
  split at h1
  · cases h1
  · exact ⟨chkL_good h1, by omega⟩
theorem fits_rng {s : Sg} (h : fitsB s = true) : (-1048576 ≤ s.ax ∧ s.ax ≤ 1048576 ∧ -1048576 ≤ s.ay ∧ s.ay ≤ 1048576) ∧ (-1048576 ≤ s.bx ∧ s.bx ≤ 1048576 ∧ -1048576 ≤ s.by_ ∧ s.by_ ≤ 1048576) ∧ (-1048576 ≤ s.cx ∧ s.cx ≤ 1048576 ∧ -1048576 ≤ s.cy ∧ s.cy ≤ 1048576) := by
  simp only [fitsB, okP, Bool.and_eq_true, validP, decide_eq_true_eq] at h
  omega
theorem fmtI_small {x : Int} (h : -1048576 ≤ x ∧ x ≤ 1048576) : (fmtI x).length ≤ 25 := by
  have := fmtI_len (x := x) (k := 1) (by decide) (by rw [show pw 1 = 4294967296 from by decide]; omega)
  omega
theorem joinBy_cons (c : UInt8) (x : List UInt8) (l : List (List UInt8)) : joinBy c (x :: l) = x ++ l.flatMap (c :: ·) := by
  induction l generalizing x with
  | nil => simp [joinBy]
  | cons y l ih =>
    show x ++ c :: joinBy c (y :: l) = _
    rw [ih y]; simp
theorem joinBy_app (c : UInt8) {a b : List (List UInt8)} (ha : a ≠ []) : joinBy c (a ++ b) = joinBy c a ++ b.flatMap (c :: ·) := by
  cases a with
  | nil => exact absurd rfl ha
  | cons x a => rw [List.cons_append, joinBy_cons, joinBy_cons]; simp
theorem wordsP_snoc {l : List Sg} {k : Nat} {s : Sg} (h : l[k]? = some s) : wordsP (l.take (k + 1)) = wordsP (l.take k) ++ segW s := by
  unfold wordsP; rw [List.take_add_one, h]; simp
theorem segW_len (s : Sg) : (segW s).length ≤ 7 := by
  have h1 : (ptsS s).length ≤ 3 := by unfold ptsS triS; rw [List.length_take]; simp; omega
  simp only [segW, fmt2, List.length_cons, List.length_flatMap]
  have h2 : ∀ l : List (Int × Int), (l.map fun _ => 0 + 1 + 1).sum = 2 * l.length := fun l => by
    induction l with
    | nil => rfl
    | cons p l ih => simp only [List.map_cons, List.sum_cons, ih, List.length_cons]; omega
  have h3 := h2 (ptsS s)
  simp only [List.length_nil] at h3 ⊢
  omega
theorem wordsP_len : ∀ l : List Sg, (wordsP l).length ≤ 7 * l.length
  | [] => Nat.le_refl _
  | s :: l => by
    have ih := wordsP_len l
    have := segW_len s
    simp only [wordsP, List.flatMap_cons, List.length_append, List.length_cons] at ih ⊢
    omega
theorem sumL_app : ∀ a b : List (List UInt8), sumL (a ++ b) = sumL a + sumL b
  | [], b => by simp [sumL]
  | x :: a, b => by have ih := sumL_app a b; simp only [List.cons_append, sumL, ih]; omega
theorem segW_sum {s : Sg} (h : GoodS s) : sumL (segW s) ≤ 151 := by
  obtain ⟨h1, h2, h3⟩ := fits_rng h.2
  have a1 := fmtI_small ⟨h1.1, h1.2.1⟩
  have a2 := fmtI_small ⟨h1.2.2.1, h1.2.2.2⟩
  have b1 := fmtI_small ⟨h2.1, h2.2.1⟩
  have b2 := fmtI_small ⟨h2.2.2.1, h2.2.2.2⟩
  have c1 := fmtI_small ⟨h3.1, h3.2.1⟩
  have c2 := fmtI_small ⟨h3.2.2.1, h3.2.2.2⟩
  unfold segW ptsS triS
  rcases named_rng s.v with hr | hr | hr | hr | hr <;> rw [hr] <;> simp [sumL, fmt2] <;> omega
theorem wordsP_sum : ∀ {l : List Sg}, (∀ s ∈ l, GoodS s) → sumL (wordsP l) ≤ 151 * l.length
  | [], _ => Nat.le_refl _
  | s :: l, h => by
    have ih := wordsP_sum (l := l) fun t ht => h t (by simp [ht])
    have := segW_sum (h s (by simp))
    have e : wordsP (s :: l) = segW s ++ wordsP l := by simp [wordsP]
    rw [e, sumL_app]
    simp only [List.length_cons]
    omega
theorem fmtP_len {l : List Sg} (h : ∀ s ∈ l, GoodS s) : (fmtP l).length ≤ 158 * l.length := by
  have h1 := join_len 32 (wordsP l)
  have h2 := wordsP_sum h
  have h3 := wordsP_len l
  unfold fmtP; omega
theorem mem_take {l : List Sg} {k : Nat} (h : ∀ s ∈ l, GoodS s) : ∀ s ∈ l.take k, GoodS s := fun s hs => h s (List.mem_of_mem_take hs)
section
variable {w : World} {A : Option Addr} {n c : Nat} {ls : List Sg}
theorem lit_ne {u : World} {B m cc g : Nat} {Y : Option Addr} {xs : List Value} {cells : Array Value} (h : OwnR u B 9 1 Y m cc xs) (hl : litG 39 cells g u) : g ∉ bl Y := fun hg => by
  obtain ⟨cur, own, h1⟩ := h.ty g hg
  have h2 : u.heap[g]? = some (.cells cells 39 (0, 0)) := hl
  rw [h2] at h1
  simp only [Option.some.injEq, Obj.cells.injEq] at h1
  exact absurd h1.2.1 (by decide)
set_option maxRecDepth 100000 in
set_option maxHeartbeats 1000000 in
theorem points_m {v r : Int} (hv : v = 1 ∨ v = 2 ∨ v = 3 ∨ v = 4 ∨ v = 5) (h : namedI v = r) : Calls Tryd.prog 17 #[.int .i64 v] w (CallPost w (fun _ : Unit => .int .i64 r) fun _ _ => True) := by
  rcases hv with rfl | rfl | rfl | rfl | rfl
  · obtain rfl : r = 1 := h.symm
    refine Good.enter Tryd.func17 rfl ?_
    refine Good.run (by kernel_rfl) (stop := 1000) 1000 _ ?_
    refine Good.ret (v := .int .i64 1) (by kernel_rfl) (fun w1 hw h => ⟨(), rfl, hw, fun _ _ _ => trivial⟩)
  · obtain rfl : r = 1 := h.symm
    refine Good.enter Tryd.func17 rfl ?_
    refine Good.run (by kernel_rfl) (stop := 1000) 1000 _ ?_
    refine Good.ret (v := .int .i64 1) (by kernel_rfl) (fun w1 hw h => ⟨(), rfl, hw, fun _ _ _ => trivial⟩)
  · obtain rfl : r = 2 := h.symm
    refine Good.enter Tryd.func17 rfl ?_
    refine Good.run (by kernel_rfl) (stop := 1000) 1000 _ ?_
    refine Good.ret (v := .int .i64 2) (by kernel_rfl) (fun w1 hw h => ⟨(), rfl, hw, fun _ _ _ => trivial⟩)
  · obtain rfl : r = 3 := h.symm
    refine Good.enter Tryd.func17 rfl ?_
    refine Good.run (by kernel_rfl) (stop := 1000) 1000 _ ?_
    refine Good.ret (v := .int .i64 3) (by kernel_rfl) (fun w1 hw h => ⟨(), rfl, hw, fun _ _ _ => trivial⟩)
  · obtain rfl : r = 0 := h.symm
    refine Good.enter Tryd.func17 rfl ?_
    refine Good.run (by kernel_rfl) (stop := 1000) 1000 _ ?_
    refine Good.ret (v := .int .i64 0) (by kernel_rfl) (fun w1 hw h => ⟨(), rfl, hw, fun _ _ _ => trivial⟩)
theorem app_strs {B m yc gb : Nat} {y : Option Addr} {p l : List (List UInt8)} (ho : OwnR w B 9 1 y m yc (sv p)) (hB : B ≤ w.heap.size) (hg : litG 9 (sv l).toArray gb w) (hm : m < 1000000) (hl : l.length ≤ 10) :
    MutRun Tryd.prog w (bl y) (fun z : Option Addr × Nat => .slice z.1 (m + l.length) z.2) (fun z v => OwnR v B 9 1 z.1 (m + l.length) z.2 (sv (p ++ l))) (appS 43 43 (.slice y m yc) (litV l.length gb)) := by
  have ha := appendR_m (P := Tryd.prog) (s := 1) (z := .string ⟨#[]⟩) (bytes := 16) (m := l.length) (cc := l.length) (t := 43) (elem := 9) (by kernel_rfl) (by kernel_rfl) rfl (by decide) ho hB (litG_reads (n := l.length) hg (by simp [sv])) (by intro v hv; simp [sv] at hv; obtain ⟨x, _, rfl⟩ := hv; rfl) (by omega) (by decide)
  have e : sv (p ++ l) = sv p ++ sv l := by simp [sv]
  rw [e]; exact ha
theorem run_slHp {g n c i : Nat} (hi : i ≤ c := by decide) : (slH 36 (.slice (some ⟨g, 0, none⟩) n c) i).run Tryd.prog w = .ok (.value (.slice (some ⟨g, 0, none⟩) i c)) w := by
  have ht : Tryd.prog.underlying 36 = some (.slice 39) := by kernel_rfl
  have he : Tryd.prog.elem 36 = 39 := by kernel_rfl
  have hs : sizeT Tryd.prog 39 = some 2 := by kernel_rfl
  have h1 := run_slice_h (P := Tryd.prog) w 36 (some ⟨g, 0, none⟩) n c (by rw [he]; exact ht) .i64 i (by omega) (by omega)
  have h2 := run_sliceAt_slice (P := Tryd.prog) w 36 (.slice (some ⟨g, 0, none⟩) n c) none (some (.int .i64 i)) none (by rw [he]; exact ht)
  simp only [slH, Sem.run_bind, h2, h1, he, run_sizeT hs, Result.andThen_ok, Sem.run_pure]
  simp [sliced, Addr.add]
end

section
variable {w : World} {A : Option Addr} {n c : Nat} {ls : List Sg}
theorem run_let {v : Int} (hv : v = 1 ∨ v = 2 ∨ v = 3 ∨ v = 4 ∨ v = 5) : (slC 9 (strOf [32, 77, 76, 81, 67, 90]) .i64 v (IntKind.i64.wrap (v + 1))).run Tryd.prog w = .ok (.value (strOf [letS v])) w := by
  rcases hv with rfl | rfl | rfl | rfl | rfl
  · exact run_slC1 (i := 1) (by kernel_rfl) rfl
  · exact run_slC1 (i := 2) (by kernel_rfl) rfl
  · exact run_slC1 (i := 3) (by kernel_rfl) rfl
  · exact run_slC1 (i := 4) (by kernel_rfl) rfl
  · exact run_slC1 (i := 5) (by kernel_rfl) rfl
theorem tri_ld {g j : Nat} {v ax ay bx by_ cx cy : Int} {q : Int × Int} (h : litG 39 #[.int .i64 ax, .int .i64 ay, .int .i64 bx, .int .i64 by_, .int .i64 cx, .int .i64 cy] g w) (hq : (triS ⟨v, ax, ay, bx, by_, cx, cy⟩)[j]? = some q) : (ldS 39 ⟨g, j * 2, none⟩).run Tryd.prog w = .ok (.value (pt q.1 q.2)) w := by
  rcases j with _ | _ | _ | j
  · obtain rfl : (ax, ay) = q := by simpa [triS] using hq
    refine lit_ld h fun i x hx => ?_
    rcases i with _ | _ | i <;> simp at hx <;> subst hx <;> rfl
  · obtain rfl : (bx, by_) = q := by simpa [triS] using hq
    refine lit_ld h fun i x hx => ?_
    rcases i with _ | _ | i <;> simp at hx <;> subst hx <;> rfl
  · obtain rfl : (cx, cy) = q := by simpa [triS] using hq
    refine lit_ld h fun i x hx => ?_
    rcases i with _ | _ | i <;> simp at hx <;> subst hx <;> rfl
  · simp [triS] at hq
theorem tri_rng {s : Sg} {j : Nat} {q : Int × Int} (h : fitsB s = true) (hq : (triS s)[j]? = some q) : -1048576 ≤ q.1 ∧ q.1 ≤ 1048576 ∧ -1048576 ≤ q.2 ∧ q.2 ≤ 1048576 := by
  obtain ⟨ra, rb, rc⟩ := fits_rng h
  rcases j with _ | _ | _ | j
  · obtain rfl : (s.ax, s.ay) = q := by simpa [triS] using hq
    exact ra
  · obtain rfl : (s.bx, s.by_) = q := by simpa [triS] using hq
    exact rb
  · obtain rfl : (s.cx, s.cy) = q := by simpa [triS] using hq
    exact rc
  · simp [triS] at hq
theorem named_good {v : Int} (hv : v = 1 ∨ v = 2 ∨ v = 3 ∨ v = 4 ∨ v = 5) : ∃ r : Nat, namedI v = (r : Int) ∧ r ≤ 3 := by
  rcases hv with rfl | rfl | rfl | rfl | rfl
  · exact ⟨1, rfl, by decide⟩
  · exact ⟨1, rfl, by decide⟩
  · exact ⟨2, rfl, by decide⟩
  · exact ⟨3, rfl, by decide⟩
  · exact ⟨0, rfl, by decide⟩
set_option maxRecDepth 100000 in
set_option maxHeartbeats 4000000 in
theorem format_n (hs : SgAt w A n ls) (hn : n ≤ 1000000) (hB : okPath ls = false) : Calls Tryd.prog 9 #[.slice A n c] w (CallPost w (fun _ : Unit => .tuple #[strOf [], .int .i64 10]) fun _ _ => True) := by
  refine Good.enter Tryd.func9 rfl ?_
  refine Good.run (by kernel_rfl) (stop := 1000) 1000 _ ?_
  refine Good.callv (fun w1 hw h => validL_m (c := c) (hs.below hw) hn hB) (by kernel_rfl) (fun u => ?_)
  refine Good.run (by kernel_rfl) (stop := 1000) 1000 _ ?_
  refine Good.cond true (by kernel_rfl) ?_
  refine Good.run (by kernel_rfl) (stop := 1000) 1000 _ ?_
  refine Good.ret (v := .tuple #[.string ⟨#[]⟩, .int .i64 10]) (by kernel_rfl) (fun w1 hw h => ⟨(), rfl, hw, fun _ _ _ => trivial⟩)
set_option maxRecDepth 100000 in
set_option maxHeartbeats 4000000 in
theorem format_s (hs : SgAt w A n ls) (hB : okPath ls = true) : Calls Tryd.prog 9 #[.slice A n c] w (CallPost w (fun _ : Unit => .tuple #[strOf (fmtP ls), .int .i64 0]) fun _ _ => True) := by
  have hln := hs.1
  obtain ⟨hgood, hsmall⟩ := good_path hB
  have hfl := fmtP_len hgood
  refine Good.enter Tryd.func9 rfl ?_
  refine Good.run (by kernel_rfl) (stop := 1000) 1000 _ ?_
  refine Good.callv (fun w1 hw h => validL_m (c := c) (hs.below hw) (by omega) hB) (by kernel_rfl) (fun u => ?_)
  refine Good.run (by kernel_rfl) (stop := 1000) 1000 _ ?_
  refine Good.cond false (by kernel_rfl) ?_
  refine Good.run (by kernel_rfl) (stop := 1000) 1000 _ ?_
  refine Good.loop (ι := {q : Nat × Nat × (Option Addr × Nat) // q.1 ≤ n ∧ q.2.1 = (wordsP (ls.take q.1)).length}) 56 (fun q => ⟨[(0, .v (.slice A n c)), (4, .v (.slice q.1.2.2.1 q.1.2.1 q.1.2.2.2)), (12, .v (.slice A n c)), (13, .v (.int .i64 n)), (14, .v (.int .i64 q.1.1))], []⟩) (fun q u => OwnR u w.heap.size 9 1 q.1.2.2.1 q.1.2.1 q.1.2.2.2 (sv (wordsP (ls.take q.1.1)))) (fun q => n - q.1.1) (⟨(0, 0, none, 0), Nat.zero_le _, rfl⟩) (by kernel_rfl) (fun _ => by kernel_rfl) ⟨by kernel_rfl, by kernel_rfl, by kernel_rfl⟩ (fun u h => OwnR.nil_) ?_
  rintro ⟨⟨k, m, y, yc⟩, hk, hm⟩ gg
  have hk : k ≤ n := hk
  have hm : m = (wordsP (ls.take k)).length := hm
  have hml : m ≤ 7 * 256 := by
    have h1 := wordsP_len (ls.take k)
    have h2 : (ls.take k).length ≤ 256 := by rw [List.length_take]; omega
    omega
  by_cases hlt : k < n
  case neg =>
    obtain rfl : k = n := by omega
    have hfull : ls.take k = ls := List.take_of_length_le (by omega)
    refine Good.run (by kernel_rfl) (stop := 1000) 1000 _ ?_
    refine Good.condr (decide ((k : Int) < (k : Int))) false (by kernel_rfl) (by simp) ?_
    refine Good.run (by kernel_rfl) (stop := 1000) 1000 _ ?_
    refine Good.leave (by kernel_rfl) ?_
    refine Good.run (by kernel_rfl) (stop := 1000) 1000 _ ?_
    refine Good.callv (fun w1 hw h => join_m (p := wordsP ls) (by rw [← hfull]; exact h) (by show (fmtP ls).length ≤ _; omega) (show m ≤ 100000000 from by omega)) (by kernel_rfl) (fun u => ?_)
    refine Good.run (by kernel_rfl) (stop := 1000) 1000 _ ?_
    refine Good.ret (v := .tuple #[strOf (joinBy 32 (wordsP ls)), .int .i64 0]) (by kernel_rfl) (fun w1 hw h => ⟨(), rfl, hw, fun _ _ _ => trivial⟩)
  obtain ⟨s, hsk⟩ : ∃ s, ls[k]? = some s := ⟨_, List.getElem?_eq_getElem (by omega)⟩
  obtain ⟨ad, hA, hc⟩ := hs.2 k s hsk
  have hgs := hgood s (List.mem_of_getElem? hsk)
  have hnext := wordsP_snoc hsk
  obtain ⟨p, hp⟩ : ∃ p, p = wordsP (ls.take k) := ⟨_, rfl⟩
  rw [← hp] at hnext hm
  refine Good.run (by kernel_rfl) (stop := 1000) 1000 _ ?_
  refine Good.condr (decide ((k : Int) < (n : Int))) true (by kernel_rfl) (by simp; omega) ?_
  refine Good.run (by kernel_rfl) (stop := 1000) 1000 _ ?_
  refine Good.ask (idxS 22 (.slice A n c) k) (.pointer (some (ad.add (k * 7)))) (by kernel_rfl) (fun w1 hw h => sg_idx hA hlt) ?_
  refine Good.run (by kernel_rfl) (stop := 1000) 1000 _ ?_
  have htri := @tri_rng s
  obtain ⟨v, ax, ay, bx, by_, cx, cy⟩ := s
  obtain ⟨hv, hfit⟩ := hgs
  replace htri := fun j q => @htri j q hfit
  have hv : v = 1 ∨ v = 2 ∨ v = 3 ∨ v = 4 ∨ v = 5 := hv
  obtain ⟨r, hr, hr3⟩ := named_good hv
  have hpts : segW ⟨v, ax, ay, bx, by_, cx, cy⟩ = [letS v] :: ((triS ⟨v, ax, ay, bx, by_, cx, cy⟩).take r).flatMap fmt2 := by
    unfold segW ptsS; rw [show (Sg.mk v ax ay bx by_ cx cy).v = v from rfl, hr]; rfl
  obtain ⟨T, hT⟩ : ∃ T, T = triS ⟨v, ax, ay, bx, by_, cx, cy⟩ := ⟨_, rfl⟩
  have hTl : T.length = 3 := by rw [hT]; rfl
  rw [hpts, ← hT] at hnext
  refine Good.ask (ldS 41 (ad.add (k * 7))) (Sg.val ⟨v, ax, ay, bx, by_, cx, cy⟩) (by kernel_rfl) (fun w1 hw h => sg_ld fun j u hj => keepc hw (hc j u hj)) ?_
  refine Good.run (by kernel_rfl) (stop := 6) 1000 _ ?_
  refine Good.ask (slC 9 (strOf [32, 77, 76, 81, 67, 90]) .i64 v (IntKind.i64.wrap (v + 1))) (strOf [letS v]) (by kernel_rfl) (fun w1 hw h => run_let hv) ?_
  refine Good.run (by kernel_rfl) (stop := 7) 1000 _ ?_
  refine Good.make (litS 43 1 #[(0, strOf [letS v])]) (litV 1) (litG 9 #[strOf [letS v]]) (by kernel_rfl) (fun w1 hw h => make_lit (by kernel_rfl)) (fun gb => ?_)
  refine Good.run (by kernel_rfl) (stop := 8) 1000 _ ?_
  refine Good.mutOp (L := bl y) (val := fun (z : Option Addr × Nat) => .slice z.1 (m + 1) z.2) (Φ' := fun (z : Option Addr × Nat) vv => OwnR vv w.heap.size 9 1 z.1 (m + 1) z.2 (sv (p ++ [[letS v]]))) (G := fun (z : Option Addr × Nat) vv => OwnR vv w.heap.size 9 1 z.1 (m + 1) z.2 (sv (p ++ [[letS v]]))) (appS 43 43 (.slice y m yc) (litV 1 gb)) (fun w1 hw h => by have ho : OwnR w1 w.heap.size 9 1 y m yc (sv (p)) := (by rw [hp]; exact h.1); exact app_strs (l := [[letS v]]) ho hw.size h.2 (show m < 1000000 from by omega) (by simp)) (fun w1 h => fun b hb => ⟨((show OwnR w1 w.heap.size 9 1 y m yc (sv (p)) from (by rw [hp]; exact h.1)).lt b hb).1, ((show OwnR w1 w.heap.size 9 1 y m yc (sv (p)) from (by rw [hp]; exact h.1)).blk b hb).2⟩) (fun z wa w1 e1 e2 h hG => hG) (by kernel_rfl) (by kernel_rfl) (fun z => ?_)
  refine Good.run (by kernel_rfl) (stop := 1000) 1000 _ ?_
  refine Good.two (i := 6) (j := 9) (by kernel_rfl) ?_ ?_
  ·
    refine GoodAt.make (i := 6) (litS (36) 3 #[(0, pt ax ay), (1, pt bx by_), (2, pt cx cy)]) (litV 3) (litG 39 #[.int .i64 ax, .int .i64 ay, .int .i64 bx, .int .i64 by_, .int .i64 cx, .int .i64 cy]) (by kernel_rfl) (fun w1 hw h => make_lit (by kernel_rfl)) (fun g => ?_)
    refine Good.run (by kernel_rfl) (stop := 1000) 1000 _ ?_
    refine Good.callv (fun w1 hw h => points_m hv hr) (by kernel_rfl) (fun u => ?_)
    refine Good.run (by kernel_rfl) (stop := 10) 1000 _ ?_
    refine Good.ask (slH 36 (.slice (some ⟨g, 0, none⟩) 3 3) (r : Nat)) (.slice (some ⟨g, 0, none⟩) r 3) (by kernel_rfl) (fun w1 hw h => run_slHp (by omega)) ?_
    refine Good.run (by kernel_rfl) (stop := 1000) 1000 _ ?_
    refine Good.loop (ι := {q : Nat × Nat × (Option Addr × Nat) // q.1 ≤ r ∧ q.2.1 = m + 1 + 2 * q.1}) 56 (fun q => ⟨[(0, .v (.slice A n c)), (4, .v (.slice q.1.2.2.1 q.1.2.1 q.1.2.2.2)), (12, .v (.slice A n c)), (13, .v (.int .i64 n)), (14, .v (.int .i64 k)), (37, .v (.slice (some ⟨g, 0, none⟩) r 3)), (38, .v (.int .i64 r)), (39, .v (.int .i64 q.1.1))], []⟩) (fun q u => OwnR u w.heap.size 9 1 q.1.2.2.1 q.1.2.1 q.1.2.2.2 (sv ((p ++ [[letS v]]) ++ (T.take q.1.1).flatMap fmt2)) ∧ litG 39 #[.int .i64 ax, .int .i64 ay, .int .i64 bx, .int .i64 by_, .int .i64 cx, .int .i64 cy] g u) (fun q => r - q.1.1) (⟨(0, m + 1, z.1, z.2), Nat.zero_le _, rfl⟩) (by kernel_rfl) (fun _ => by kernel_rfl) ⟨by kernel_rfl, by kernel_rfl, by kernel_rfl⟩ (fun u h => (by have h2 := h; simp only [List.take_zero, List.flatMap_nil, List.append_nil]; exact ⟨h2.1.1, h2.1.2⟩)) ?_
    rintro ⟨⟨j, mj, y2, yc2⟩, hj, hmj⟩ gg2
    have hj : j ≤ r := hj
    have hmj : mj = m + 1 + 2 * j := hmj
    by_cases hlt2 : j < r
    case neg =>
      obtain rfl : j = r := by omega
      refine Good.run (by kernel_rfl) (stop := 1000) 1000 _ ?_
      refine Good.condr (decide ((j : Int) < (j : Int))) false (by kernel_rfl) (by simp) ?_
      refine Good.run (by kernel_rfl) (stop := 1000) 1000 _ ?_
      refine Good.leave (by kernel_rfl) ?_
      refine Good.run (by kernel_rfl) (stop := 1000) 1000 _ ?_
      refine Good.slot 14 (.int .i64 (IntKind.i64.wrap ((k : Int) + 1))) (.int .i64 ((k + 1 : Nat) : Int)) (by kernel_rfl) (by rw [wrap_succ hlt (by omega)]) ?_
      refine Good.next (⟨(k + 1, mj, y2, yc2), by show k + 1 ≤ n; omega, by show mj = _; rw [hnext]; simp only [List.length_append, List.length_cons, List.length_flatMap, fmt2, List.length_nil]; have e : ∀ l : List (Int × Int), (l.map fun _ => 0 + 1 + 1).sum = 2 * l.length := (fun l => by induction l with | nil => rfl | cons p l ih => simp only [List.map_cons, List.sum_cons, ih, List.length_cons]; omega); rw [e, List.length_take, hTl]; omega⟩) (by kernel_rfl) (by show n - (k + 1) < n - k; omega) ⟨by kernel_rfl, by kernel_rfl, by kernel_rfl⟩ (fun u h => (by have h1 := h.1; show OwnR u w.heap.size 9 1 y2 mj yc2 (sv (wordsP (ls.take (k + 1)))); rw [hnext, List.append_cons]; exact h1))
    obtain ⟨q, hq⟩ : ∃ q, T[j]? = some q := ⟨_, List.getElem?_eq_getElem (by omega)⟩
    have hstep : (T.take (j + 1)).flatMap fmt2 = (T.take j).flatMap fmt2 ++ [fmtI q.1, fmtI q.2] := by rw [List.take_add_one, hq]; simp [fmt2]
    obtain ⟨pj, hpj⟩ : ∃ pj, pj = (p ++ [[letS v]]) ++ (T.take j).flatMap fmt2 := ⟨_, rfl⟩
    have hrng := htri j q (hT ▸ hq)
    refine Good.run (by kernel_rfl) (stop := 1000) 1000 _ ?_
    refine Good.condr (decide ((j : Int) < (r : Int))) true (by kernel_rfl) (by simp; omega) ?_
    refine Good.run (by kernel_rfl) (stop := 1000) 1000 _ ?_
    refine Good.ask (idxS 36 (.slice (some ⟨g, 0, none⟩) r 3) j) (.pointer (some ⟨g, j * 2, none⟩)) (by kernel_rfl) (fun w1 hw h => run_idxN (elem := 39) (by kernel_rfl) (by kernel_rfl) hlt2) ?_
    refine Good.run (by kernel_rfl) (stop := 1000) 1000 _ ?_
    refine Good.ask (ldS 39 ⟨g, j * 2, none⟩) (pt q.1 q.2) (by kernel_rfl) (fun w1 hw h => tri_ld h.2 (hT ▸ hq)) ?_
    refine Good.run (by kernel_rfl) (stop := 1000) 1000 _ ?_
    refine Good.callv (fun w1 hw h => xformatInt_m (n := q.1) (by omega) (by omega)) (by kernel_rfl) (fun u1 => ?_)
    refine Good.run (by kernel_rfl) (stop := 1000) 1000 _ ?_
    refine Good.callv (fun w1 hw h => xformatInt_m (n := q.2) (by omega) (by omega)) (by kernel_rfl) (fun u2 => ?_)
    refine Good.run (by kernel_rfl) (stop := 1000) 1000 _ ?_
    refine Good.make (litS 43 2 #[(0, strOf (fmtI q.1)), (1, strOf (fmtI q.2))]) (litV 2) (litG 9 #[strOf (fmtI q.1), strOf (fmtI q.2)]) (by kernel_rfl) (fun w1 hw h => make_lit (by kernel_rfl)) (fun gb2 => ?_)
    refine Good.run (by kernel_rfl) (stop := 8) 1000 _ ?_
    refine Good.mutAny (L := bl y2) (val := fun (z : Option Addr × Nat) => .slice z.1 (mj + 2) z.2) (Φ' := fun (z : Option Addr × Nat) vv => OwnR vv w.heap.size 9 1 z.1 (mj + 2) z.2 (sv (pj ++ [fmtI q.1, fmtI q.2])) ∧ litG 39 #[.int .i64 ax, .int .i64 ay, .int .i64 bx, .int .i64 by_, .int .i64 cx, .int .i64 cy] g vv) (G := fun (z : Option Addr × Nat) vv => OwnR vv w.heap.size 9 1 z.1 (mj + 2) z.2 (sv (pj ++ [fmtI q.1, fmtI q.2]))) (appS 43 43 (.slice y2 mj yc2) (litV 2 gb2)) (fun w1 hw h => by have ho : OwnR w1 w.heap.size 9 1 y2 mj yc2 (sv (pj)) := (by rw [hpj]; exact h.1.1.1.1); exact app_strs (l := [fmtI q.1, fmtI q.2]) ho hw.size h.2 (show mj < 1000000 from by omega) (by simp)) (fun w1 h => fun b hb => ⟨((show OwnR w1 w.heap.size 9 1 y2 mj yc2 (sv (pj)) from (by rw [hpj]; exact h.1.1.1.1)).lt b hb).1, ((show OwnR w1 w.heap.size 9 1 y2 mj yc2 (sv (pj)) from (by rw [hpj]; exact h.1.1.1.1)).blk b hb).2⟩) (fun z wa w1 e1 e2 h hG => ⟨hG, (e2 g (lit_ne (show OwnR wa w.heap.size 9 1 y2 mj yc2 (sv (pj)) from (by rw [hpj]; exact h.1.1.1.1)) h.1.1.1.2)).symm.trans h.1.1.1.2⟩) (by kernel_rfl) (by kernel_rfl) (fun z2 => ?_)
    refine Good.run (by kernel_rfl) (stop := 1000) 1000 _ ?_
    refine Good.slot 39 (.int .i64 (IntKind.i64.wrap ((j : Int) + 1))) (.int .i64 ((j + 1 : Nat) : Int)) (by kernel_rfl) (by rw [wrap_succ hlt2 (by omega)]) ?_
    refine Good.next (⟨(j + 1, mj + 2, z2.1, z2.2), by show j + 1 ≤ r; omega, by show mj + 2 = _; omega⟩) (by kernel_rfl) (by show r - (j + 1) < r - j; omega) ⟨by kernel_rfl, by kernel_rfl, by kernel_rfl⟩ (fun u h => ⟨(by have h1 := h.1; show OwnR u w.heap.size 9 1 z2.1 (mj + 2) z2.2 (sv ((p ++ [[letS v]]) ++ (T.take (j + 1)).flatMap fmt2)); rw [hstep, ← List.append_assoc, ← hpj]; exact h1), h.2⟩)
  ·
    refine GoodAt.callv (i := 9) (fun w1 hw h => points_m hv hr) (by kernel_rfl) (fun u => ?_)
    refine Good.run (by kernel_rfl) (stop := 1000) 1000 _ ?_
    refine Good.make (litS (36) 3 #[(0, pt ax ay), (1, pt bx by_), (2, pt cx cy)]) (litV 3) (litG 39 #[.int .i64 ax, .int .i64 ay, .int .i64 bx, .int .i64 by_, .int .i64 cx, .int .i64 cy]) (by kernel_rfl) (fun w1 hw h => make_lit (by kernel_rfl)) (fun g => ?_)
    refine Good.run (by kernel_rfl) (stop := 10) 1000 _ ?_
    refine Good.ask (slH 36 (.slice (some ⟨g, 0, none⟩) 3 3) (r : Nat)) (.slice (some ⟨g, 0, none⟩) r 3) (by kernel_rfl) (fun w1 hw h => run_slHp (by omega)) ?_
    refine Good.run (by kernel_rfl) (stop := 1000) 1000 _ ?_
    refine Good.loop (ι := {q : Nat × Nat × (Option Addr × Nat) // q.1 ≤ r ∧ q.2.1 = m + 1 + 2 * q.1}) 56 (fun q => ⟨[(0, .v (.slice A n c)), (4, .v (.slice q.1.2.2.1 q.1.2.1 q.1.2.2.2)), (12, .v (.slice A n c)), (13, .v (.int .i64 n)), (14, .v (.int .i64 k)), (37, .v (.slice (some ⟨g, 0, none⟩) r 3)), (38, .v (.int .i64 r)), (39, .v (.int .i64 q.1.1))], []⟩) (fun q u => OwnR u w.heap.size 9 1 q.1.2.2.1 q.1.2.1 q.1.2.2.2 (sv ((p ++ [[letS v]]) ++ (T.take q.1.1).flatMap fmt2)) ∧ litG 39 #[.int .i64 ax, .int .i64 ay, .int .i64 bx, .int .i64 by_, .int .i64 cx, .int .i64 cy] g u) (fun q => r - q.1.1) (⟨(0, m + 1, z.1, z.2), Nat.zero_le _, rfl⟩) (by kernel_rfl) (fun _ => by kernel_rfl) ⟨by kernel_rfl, by kernel_rfl, by kernel_rfl⟩ (fun u h => (by have h2 := h; simp only [List.take_zero, List.flatMap_nil, List.append_nil]; exact ⟨h2.1.1, h2.2⟩)) ?_
    rintro ⟨⟨j, mj, y2, yc2⟩, hj, hmj⟩ gg2
    have hj : j ≤ r := hj
    have hmj : mj = m + 1 + 2 * j := hmj
    by_cases hlt2 : j < r
    case neg =>
      obtain rfl : j = r := by omega
      refine Good.run (by kernel_rfl) (stop := 1000) 1000 _ ?_
      refine Good.condr (decide ((j : Int) < (j : Int))) false (by kernel_rfl) (by simp) ?_
      refine Good.run (by kernel_rfl) (stop := 1000) 1000 _ ?_
      refine Good.leave (by kernel_rfl) ?_
      refine Good.run (by kernel_rfl) (stop := 1000) 1000 _ ?_
      refine Good.slot 14 (.int .i64 (IntKind.i64.wrap ((k : Int) + 1))) (.int .i64 ((k + 1 : Nat) : Int)) (by kernel_rfl) (by rw [wrap_succ hlt (by omega)]) ?_
      refine Good.next (⟨(k + 1, mj, y2, yc2), by show k + 1 ≤ n; omega, by show mj = _; rw [hnext]; simp only [List.length_append, List.length_cons, List.length_flatMap, fmt2, List.length_nil]; have e : ∀ l : List (Int × Int), (l.map fun _ => 0 + 1 + 1).sum = 2 * l.length := (fun l => by induction l with | nil => rfl | cons p l ih => simp only [List.map_cons, List.sum_cons, ih, List.length_cons]; omega); rw [e, List.length_take, hTl]; omega⟩) (by kernel_rfl) (by show n - (k + 1) < n - k; omega) ⟨by kernel_rfl, by kernel_rfl, by kernel_rfl⟩ (fun u h => (by have h1 := h.1; show OwnR u w.heap.size 9 1 y2 mj yc2 (sv (wordsP (ls.take (k + 1)))); rw [hnext, List.append_cons]; exact h1))
    obtain ⟨q, hq⟩ : ∃ q, T[j]? = some q := ⟨_, List.getElem?_eq_getElem (by omega)⟩
    have hstep : (T.take (j + 1)).flatMap fmt2 = (T.take j).flatMap fmt2 ++ [fmtI q.1, fmtI q.2] := by rw [List.take_add_one, hq]; simp [fmt2]
    obtain ⟨pj, hpj⟩ : ∃ pj, pj = (p ++ [[letS v]]) ++ (T.take j).flatMap fmt2 := ⟨_, rfl⟩
    have hrng := htri j q (hT ▸ hq)
    refine Good.run (by kernel_rfl) (stop := 1000) 1000 _ ?_
    refine Good.condr (decide ((j : Int) < (r : Int))) true (by kernel_rfl) (by simp; omega) ?_
    refine Good.run (by kernel_rfl) (stop := 1000) 1000 _ ?_
    refine Good.ask (idxS 36 (.slice (some ⟨g, 0, none⟩) r 3) j) (.pointer (some ⟨g, j * 2, none⟩)) (by kernel_rfl) (fun w1 hw h => run_idxN (elem := 39) (by kernel_rfl) (by kernel_rfl) hlt2) ?_
    refine Good.run (by kernel_rfl) (stop := 1000) 1000 _ ?_
    refine Good.ask (ldS 39 ⟨g, j * 2, none⟩) (pt q.1 q.2) (by kernel_rfl) (fun w1 hw h => tri_ld h.2 (hT ▸ hq)) ?_
    refine Good.run (by kernel_rfl) (stop := 1000) 1000 _ ?_
    refine Good.callv (fun w1 hw h => xformatInt_m (n := q.1) (by omega) (by omega)) (by kernel_rfl) (fun u1 => ?_)
    refine Good.run (by kernel_rfl) (stop := 1000) 1000 _ ?_
    refine Good.callv (fun w1 hw h => xformatInt_m (n := q.2) (by omega) (by omega)) (by kernel_rfl) (fun u2 => ?_)
    refine Good.run (by kernel_rfl) (stop := 1000) 1000 _ ?_
    refine Good.make (litS 43 2 #[(0, strOf (fmtI q.1)), (1, strOf (fmtI q.2))]) (litV 2) (litG 9 #[strOf (fmtI q.1), strOf (fmtI q.2)]) (by kernel_rfl) (fun w1 hw h => make_lit (by kernel_rfl)) (fun gb2 => ?_)
    refine Good.run (by kernel_rfl) (stop := 8) 1000 _ ?_
    refine Good.mutAny (L := bl y2) (val := fun (z : Option Addr × Nat) => .slice z.1 (mj + 2) z.2) (Φ' := fun (z : Option Addr × Nat) vv => OwnR vv w.heap.size 9 1 z.1 (mj + 2) z.2 (sv (pj ++ [fmtI q.1, fmtI q.2])) ∧ litG 39 #[.int .i64 ax, .int .i64 ay, .int .i64 bx, .int .i64 by_, .int .i64 cx, .int .i64 cy] g vv) (G := fun (z : Option Addr × Nat) vv => OwnR vv w.heap.size 9 1 z.1 (mj + 2) z.2 (sv (pj ++ [fmtI q.1, fmtI q.2]))) (appS 43 43 (.slice y2 mj yc2) (litV 2 gb2)) (fun w1 hw h => by have ho : OwnR w1 w.heap.size 9 1 y2 mj yc2 (sv (pj)) := (by rw [hpj]; exact h.1.1.1.1); exact app_strs (l := [fmtI q.1, fmtI q.2]) ho hw.size h.2 (show mj < 1000000 from by omega) (by simp)) (fun w1 h => fun b hb => ⟨((show OwnR w1 w.heap.size 9 1 y2 mj yc2 (sv (pj)) from (by rw [hpj]; exact h.1.1.1.1)).lt b hb).1, ((show OwnR w1 w.heap.size 9 1 y2 mj yc2 (sv (pj)) from (by rw [hpj]; exact h.1.1.1.1)).blk b hb).2⟩) (fun z wa w1 e1 e2 h hG => ⟨hG, (e2 g (lit_ne (show OwnR wa w.heap.size 9 1 y2 mj yc2 (sv (pj)) from (by rw [hpj]; exact h.1.1.1.1)) h.1.1.1.2)).symm.trans h.1.1.1.2⟩) (by kernel_rfl) (by kernel_rfl) (fun z2 => ?_)
    refine Good.run (by kernel_rfl) (stop := 1000) 1000 _ ?_
    refine Good.slot 39 (.int .i64 (IntKind.i64.wrap ((j : Int) + 1))) (.int .i64 ((j + 1 : Nat) : Int)) (by kernel_rfl) (by rw [wrap_succ hlt2 (by omega)]) ?_
    refine Good.next (⟨(j + 1, mj + 2, z2.1, z2.2), by show j + 1 ≤ r; omega, by show mj + 2 = _; omega⟩) (by kernel_rfl) (by show r - (j + 1) < r - j; omega) ⟨by kernel_rfl, by kernel_rfl, by kernel_rfl⟩ (fun u h => ⟨(by have h1 := h.1; show OwnR u w.heap.size 9 1 z2.1 (mj + 2) z2.2 (sv ((p ++ [[letS v]]) ++ (T.take (j + 1)).flatMap fmt2)); rw [hstep, ← List.append_assoc, ← hpj]; exact h1), h.2⟩)
end

def PtsAt (w : World) (A : Option Addr) (ps : List (Int × Int)) : Prop := ∀ (j : Nat) (q : Int × Int), ps[j]? = some q → ∃ ad, A = some ad ∧ w.cell? ((ad.add (j * 2)).add 0) = some (.int .i64 q.1) ∧ w.cell? ((ad.add (j * 2)).add 1) = some (.int .i64 q.2)
def ptC (ps : List (Int × Int)) : List Value := ps.flatMap fun q => [.int .i64 q.1, .int .i64 q.2]
section
variable {w : World} {A : Option Addr} {n c : Nat} {ls : List Sg}
theorem ptC_get : ∀ {ps : List (Int × Int)} {j : Nat} {q : Int × Int}, ps[j]? = some q → (ptC ps)[j * 2]? = some (.int .i64 q.1) ∧ (ptC ps)[j * 2 + 1]? = some (.int .i64 q.2)
  | [], j, q, h => by simp at h
  | p :: ps, 0, q, h => by
    obtain rfl : p = q := by simpa using h
    simp [ptC]
  | p :: ps, j + 1, q, h => by
    have ih := ptC_get (ps := ps) (j := j) (q := q) (by simpa using h)
    rw [show (j + 1) * 2 = j * 2 + 2 by omega]
    simpa [ptC] using ih
theorem pts_lit {g : Nat} {cells : Array Value} {ps : List (Int × Int)} (h : litG 39 cells g w) (hc : cells.toList = ptC ps) : PtsAt w (some ⟨g, 0, none⟩) ps := fun j q hq => by
  obtain ⟨h0, h1⟩ := ptC_get hq
  have h2 : w.heap[g]? = some (.cells cells 39 (0, 0)) := h
  refine ⟨_, rfl, ?_, ?_⟩
  · rw [Addr.add_mid, Addr.add_mid]
    simp only [World.cell?, h2, Option.isSome_none, Bool.false_eq_true, if_false]
    rw [← hc] at h0
    simpa using h0
  · rw [Addr.add_mid, Addr.add_mid]
    simp only [World.cell?, h2, Option.isSome_none, Bool.false_eq_true, if_false]
    rw [← hc] at h1
    simpa using h1
theorem PtsAt.below {w1 : World} {ps : List (Int × Int)} (h : PtsAt w A ps) (hw : Below w.heap.size w w1) : PtsAt w1 A ps := fun j q hq => by
  obtain ⟨ad, h1, h2, h3⟩ := h j q hq
  exact ⟨ad, h1, keepc hw h2, keepc hw h3⟩
theorem pt_idx {j r cc : Nat} {ad : Addr} (hA : A = some ad) (hj : j < r) : (idxS 36 (.slice A r cc) j).run Tryd.prog w = .ok (.value (.pointer (some (ad.add (j * 2))))) w := by
  rw [hA]; exact run_idxA (elem := 39) (by kernel_rfl) (by kernel_rfl) hj
set_option maxRecDepth 100000 in
set_option maxHeartbeats 4000000 in
theorem rpoints_m {v ax ay bx by_ cx cy : Int} {r : Nat} (hv : v = 1 ∨ v = 2 ∨ v = 3 ∨ v = 4 ∨ v = 5) (hr : namedI v = (r : Int)) : Calls Tryd.prog 15 #[Sg.val ⟨v, ax, ay, bx, by_, cx, cy⟩] w (CallPost w (fun y : {y : Option Addr // 0 < r → ∃ a, y = some a} => .slice y.1 r r) fun y u => PtsAt u y.1 ((triS ⟨v, ax, ay, bx, by_, cx, cy⟩).take r)) := by
  rcases hv with rfl | rfl | rfl | rfl | rfl
  · obtain rfl : r = 1 := by have h1 : (1 : Int) = (r : Int) := hr; omega
    refine Good.enter Tryd.func15 rfl ?_
    refine Good.runC (by kernel_rfl) (stop := 1000) 6000 _ ?_
    refine Good.make (litS (36) 1 #[(0, pt ax ay)]) (litV 1) (litG 39 #[.int .i64 ax, .int .i64 ay]) (by kernel_rfl) (fun w1 hw h => make_lit (by kernel_rfl)) (fun g => ?_)
    refine Good.run (by kernel_rfl) (stop := 1000) 1000 _ ?_
    refine Good.ret (v := .slice (some ⟨g, 0, none⟩) 1 1) (by kernel_rfl) (fun w1 hw h => ⟨⟨some ⟨g, 0, none⟩, fun _ => ⟨_, rfl⟩⟩, rfl, hw, fun w'' k1 k2 => pts_lit (h w'' k1 k2).2 rfl⟩)
  · obtain rfl : r = 1 := by have h1 : (1 : Int) = (r : Int) := hr; omega
    refine Good.enter Tryd.func15 rfl ?_
    refine Good.runC (by kernel_rfl) (stop := 1000) 6000 _ ?_
    refine Good.make (litS (36) 1 #[(0, pt ax ay)]) (litV 1) (litG 39 #[.int .i64 ax, .int .i64 ay]) (by kernel_rfl) (fun w1 hw h => make_lit (by kernel_rfl)) (fun g => ?_)
    refine Good.run (by kernel_rfl) (stop := 1000) 1000 _ ?_
    refine Good.ret (v := .slice (some ⟨g, 0, none⟩) 1 1) (by kernel_rfl) (fun w1 hw h => ⟨⟨some ⟨g, 0, none⟩, fun _ => ⟨_, rfl⟩⟩, rfl, hw, fun w'' k1 k2 => pts_lit (h w'' k1 k2).2 rfl⟩)
  · obtain rfl : r = 2 := by have h1 : (2 : Int) = (r : Int) := hr; omega
    refine Good.enter Tryd.func15 rfl ?_
    refine Good.runC (by kernel_rfl) (stop := 1000) 6000 _ ?_
    refine Good.make (litS (36) 2 #[(0, pt ax ay), (1, pt bx by_)]) (litV 2) (litG 39 #[.int .i64 ax, .int .i64 ay, .int .i64 bx, .int .i64 by_]) (by kernel_rfl) (fun w1 hw h => make_lit (by kernel_rfl)) (fun g => ?_)
    refine Good.run (by kernel_rfl) (stop := 1000) 1000 _ ?_
    refine Good.ret (v := .slice (some ⟨g, 0, none⟩) 2 2) (by kernel_rfl) (fun w1 hw h => ⟨⟨some ⟨g, 0, none⟩, fun _ => ⟨_, rfl⟩⟩, rfl, hw, fun w'' k1 k2 => pts_lit (h w'' k1 k2).2 rfl⟩)
  · obtain rfl : r = 3 := by have h1 : (3 : Int) = (r : Int) := hr; omega
    refine Good.enter Tryd.func15 rfl ?_
    refine Good.runC (by kernel_rfl) (stop := 1000) 6000 _ ?_
    refine Good.make (litS (36) 3 #[(0, pt ax ay), (1, pt bx by_), (2, pt cx cy)]) (litV 3) (litG 39 #[.int .i64 ax, .int .i64 ay, .int .i64 bx, .int .i64 by_, .int .i64 cx, .int .i64 cy]) (by kernel_rfl) (fun w1 hw h => make_lit (by kernel_rfl)) (fun g => ?_)
    refine Good.run (by kernel_rfl) (stop := 1000) 1000 _ ?_
    refine Good.ret (v := .slice (some ⟨g, 0, none⟩) 3 3) (by kernel_rfl) (fun w1 hw h => ⟨⟨some ⟨g, 0, none⟩, fun _ => ⟨_, rfl⟩⟩, rfl, hw, fun w'' k1 k2 => pts_lit (h w'' k1 k2).2 rfl⟩)
  · obtain rfl : r = 0 := by have h1 : (0 : Int) = (r : Int) := hr; omega
    refine Good.enter Tryd.func15 rfl ?_
    refine Good.runC (by kernel_rfl) (stop := 1000) 6000 _ ?_
    refine Good.ret (v := .slice none 0 0) (by kernel_rfl) (fun w1 hw h => ⟨⟨none, fun h => absurd h (by decide)⟩, rfl, hw, fun w'' k1 k2 => fun j q hq => by simp at hq⟩)
theorem run_let2 {v : Int} (hv : v = 1 ∨ v = 2 ∨ v = 3 ∨ v = 4 ∨ v = 5) : (slC 9 (strOf [77, 76, 81, 67, 90]) .i64 (IntKind.i64.wrap (v - 1)) v).run Tryd.prog w = .ok (.value (strOf [letS v])) w := by
  rcases hv with rfl | rfl | rfl | rfl | rfl
  · exact run_slC1 (i := 0) (by kernel_rfl) rfl
  · exact run_slC1 (i := 1) (by kernel_rfl) rfl
  · exact run_slC1 (i := 2) (by kernel_rfl) rfl
  · exact run_slC1 (i := 3) (by kernel_rfl) rfl
  · exact run_slC1 (i := 4) (by kernel_rfl) rfl
def glue (l : List (List UInt8)) : List UInt8 := l.flatMap (32 :: ·)
theorem glue_len : ∀ {l : List (Int × Int)}, (∀ q ∈ l, -1048576 ≤ q.1 ∧ q.1 ≤ 1048576 ∧ -1048576 ≤ q.2 ∧ q.2 ≤ 1048576) → (glue (l.flatMap fmt2)).length ≤ 52 * l.length
  | [], _ => Nat.le_refl _
  | q :: l, h => by
    have ih := glue_len (l := l) fun p hp => h p (by simp [hp])
    have hq := h q (by simp)
    have h1 := fmtI_small (x := q.1) ⟨hq.1, hq.2.1⟩
    have h2 := fmtI_small (x := q.2) ⟨hq.2.2.1, hq.2.2.2⟩
    simp only [glue, List.flatMap_cons, List.flatMap_append, fmt2, List.flatMap_nil, List.length_append, List.length_cons, List.length_nil] at ih ⊢
    omega
theorem glue_app (a b : List (List UInt8)) : glue (a ++ b) = glue a ++ glue b := by simp [glue]
def sepB (k : Nat) : List UInt8 := if k = 0 then [] else [32]
theorem fmtP_snoc {k : Nat} {l : List (List UInt8)} {x : List UInt8} {p : List (List UInt8)} (hp : p = [] ↔ k = 0) : joinBy 32 (p ++ x :: l) = joinBy 32 p ++ sepB k ++ x ++ glue l := by
  cases p with
  | nil =>
    rw [hp.1 rfl, List.nil_append, joinBy_cons]; simp [sepB, joinBy, glue]
  | cons y p =>
    have hk : k ≠ 0 := fun h => by cases hp.2 h
    rw [joinBy_app _ (List.cons_ne_nil _ _), List.flatMap_cons]; simp [sepB, hk, glue]
theorem wordsP_nil {l : List Sg} : wordsP l = [] ↔ l = [] := by
  cases l <;> simp [wordsP, segW]
set_option maxRecDepth 100000 in
set_option maxHeartbeats 4000000 in
theorem rformat_n (hs : SgAt w A n ls) (hn : n ≤ 1000000) (hB : okPath ls = false) : Calls Tryd.prog 10 #[.slice A n c] w (CallPost w (fun _ : Unit => .tuple #[strOf [], .int .i64 10]) fun _ _ => True) := by
  refine Good.enter Tryd.func10 rfl ?_
  refine Good.run (by kernel_rfl) (stop := 1000) 1000 _ ?_
  refine Good.callv (fun w1 hw h => rvalidL_m (c := c) (hs.below hw) hn hB) (by kernel_rfl) (fun u => ?_)
  refine Good.run (by kernel_rfl) (stop := 1000) 1000 _ ?_
  refine Good.cond true (by kernel_rfl) ?_
  refine Good.run (by kernel_rfl) (stop := 1000) 1000 _ ?_
  refine Good.ret (v := .tuple #[.string ⟨#[]⟩, .int .i64 10]) (by kernel_rfl) (fun w1 hw h => ⟨(), rfl, hw, fun _ _ _ => trivial⟩)
set_option maxRecDepth 100000 in
set_option maxHeartbeats 4000000 in
theorem rformat_s (hs : SgAt w A n ls) (hB : okPath ls = true) : Calls Tryd.prog 10 #[.slice A n c] w (CallPost w (fun _ : Unit => .tuple #[strOf (fmtP ls), .int .i64 0]) fun _ _ => True) := by
  have hln := hs.1
  obtain ⟨hgood, hsmall⟩ := good_path hB
  refine Good.enter Tryd.func10 rfl ?_
  refine Good.run (by kernel_rfl) (stop := 1000) 1000 _ ?_
  refine Good.callv (fun w1 hw h => rvalidL_m (c := c) (hs.below hw) (by omega) hB) (by kernel_rfl) (fun u => ?_)
  refine Good.run (by kernel_rfl) (stop := 1000) 1000 _ ?_
  refine Good.cond false (by kernel_rfl) ?_
  refine Good.run (by kernel_rfl) (stop := 1000) 1000 _ ?_
  refine Good.loop (ι := {q : Nat // q ≤ n}) 66 (fun q => ⟨[(0, .v (.slice A n c)), (4, .v (.string ⟨#[77, 76, 81, 67, 90]⟩)), (5, .v (strOf (fmtP (ls.take q.1)))), (6, .v (.int .i64 q.1))], []⟩) (fun q u => True) (fun q => n - q.1) (⟨0, Nat.zero_le _⟩) (by kernel_rfl) (fun _ => by kernel_rfl) ⟨by kernel_rfl, by kernel_rfl, by kernel_rfl⟩ (fun u h => trivial) ?_
  rintro ⟨k, hk⟩ gg
  have hk : k ≤ n := hk
  by_cases hlt : k < n
  case neg =>
    obtain rfl : k = n := by omega
    have hfull : ls.take k = ls := List.take_of_length_le (by omega)
    refine Good.run (by kernel_rfl) (stop := 1000) 1000 _ ?_
    refine Good.condr (decide ((k : Int) < (k : Int))) false (by kernel_rfl) (by simp) ?_
    refine Good.run (by kernel_rfl) (stop := 1000) 1000 _ ?_
    refine Good.leave (by kernel_rfl) ?_
    refine Good.run (by kernel_rfl) (stop := 1000) 1000 _ ?_
    refine Good.ret (v := .tuple #[strOf (fmtP (ls.take k)), .int .i64 0]) (by kernel_rfl) (fun w1 hw h => ⟨(), by rw [hfull], hw, fun _ _ _ => trivial⟩)
  obtain ⟨s, hsk⟩ : ∃ s, ls[k]? = some s := ⟨_, List.getElem?_eq_getElem (by omega)⟩
  obtain ⟨ad, hA, hc⟩ := hs.2 k s hsk
  have hgs := hgood s (List.mem_of_getElem? hsk)
  have hnext := wordsP_snoc hsk
  have hpn : wordsP (ls.take k) = [] ↔ k = 0 := by
    rw [wordsP_nil]
    constructor
    · intro h; have := congrArg List.length h; rw [List.length_take, List.length_nil] at this; omega
    · rintro rfl; rfl
  have hfk := fmtP_len (mem_take (k := k) hgood)
  have hkl : (ls.take k).length ≤ 256 := by rw [List.length_take]; omega
  have htri := @tri_rng s
  obtain ⟨v, ax, ay, bx, by_, cx, cy⟩ := s
  obtain ⟨hv, hfit⟩ := hgs
  replace htri := fun j q => @htri j q hfit
  have hv : v = 1 ∨ v = 2 ∨ v = 3 ∨ v = 4 ∨ v = 5 := hv
  obtain ⟨r, hr, hr3⟩ := named_good hv
  have hpts : segW ⟨v, ax, ay, bx, by_, cx, cy⟩ = [letS v] :: ((triS ⟨v, ax, ay, bx, by_, cx, cy⟩).take r).flatMap fmt2 := by
    unfold segW ptsS; rw [show (Sg.mk v ax ay bx by_ cx cy).v = v from rfl, hr]; rfl
  have hpt := fun w => @rpoints_m w v ax ay bx by_ cx cy r hv hr
  have hldv := hc 0 _ rfl
  have hldS := fun (w1 : World) (hw : Below w.heap.size w w1) => sg_ld (w := w1) (s := ⟨v, ax, ay, bx, by_, cx, cy⟩) (ad := ad.add (k * 7)) fun j u hj => keepc hw (hc j u hj)
  obtain ⟨T, hT⟩ : ∃ T, T = (triS ⟨v, ax, ay, bx, by_, cx, cy⟩).take r := ⟨_, rfl⟩
  have hTl : T.length = r := by rw [hT, List.length_take]; simp [triS]; omega
  have hTr : ∀ (j : Nat) (q : Int × Int), T[j]? = some q → -1048576 ≤ q.1 ∧ q.1 ≤ 1048576 ∧ -1048576 ≤ q.2 ∧ q.2 ≤ 1048576 := fun j q hq => by
    rw [hT, List.getElem?_take] at hq
    split at hq
    · exact htri j q hq
    · cases hq
  rw [← hT] at hpts hpt
  rw [hpts] at hnext
  have hfmt : fmtP (ls.take (k + 1)) = fmtP (ls.take k) ++ sepB k ++ [letS v] ++ glue (T.flatMap fmt2) := by
    unfold fmtP; rw [hnext]; exact fmtP_snoc hpn
  obtain ⟨F, hF⟩ : ∃ F, F = fmtP (ls.take k) := ⟨_, rfl⟩
  rw [← hF] at hfmt hfk
  have hld0 : ∀ w1 : World, Below w.heap.size w w1 → (ldS 3 ((ad.add (k * 7)).add 0)).run Tryd.prog w1 = .ok (.value (.int .i64 v)) w1 := fun w1 hw => run_ldS (by kernel_rfl) (keepc hw hldv)
  refine Good.run (by kernel_rfl) (stop := 1000) 1000 _ ?_
  refine Good.slot 5 (strOf (fmtP (ls.take k))) (strOf F) (by kernel_rfl) (by rw [hF]) ?_
  refine Good.condr (decide ((k : Int) < (n : Int))) true (by kernel_rfl) (by simp; omega) ?_
  refine Good.run (by kernel_rfl) (stop := 1000) 1000 _ ?_
  rcases k with _ | k
  · have hs0 : F = F ++ sepB 0 := by simp [sepB]
    refine Good.condr (decide (((0 : Nat) : Int) > 0)) false (by kernel_rfl) (by simp) ?_
    refine Good.run (by kernel_rfl) (stop := 1000) 1000 _ ?_
    refine Good.slot 22 (strOf F) (strOf (F ++ sepB 0)) (by kernel_rfl) (by rw [← hs0]) ?_
    refine Good.askAt 4 (idxS 22 (.slice A n c) (0 : Nat)) (.pointer (some (ad.add (0 * 7)))) (by kernel_rfl) (fun w1 hw h => sg_idx hA hlt) ?_
    refine Good.run (by kernel_rfl) (stop := 5) 1000 _ ?_
    refine Good.askAt 5 (fldS 41 (ad.add (0 * 7)) 0) (.pointer (some ((ad.add (0 * 7)).add 0))) (by kernel_rfl) (fun w1 hw h => run_fldA (d := 0) (by kernel_rfl)) ?_
    refine Good.run (by kernel_rfl) (stop := 1000) 1000 _ ?_
    refine Good.askAt 6 (ldS 3 ((ad.add (0 * 7)).add 0)) (.int .i64 v) (by kernel_rfl) (fun w1 hw h => hld0 w1 hw) ?_
    refine Good.run (by kernel_rfl) (stop := 1000) 1000 _ ?_
    refine Good.askAt 10 (idxS 22 (.slice A n c) (0 : Nat)) (.pointer (some (ad.add (0 * 7)))) (by kernel_rfl) (fun w1 hw h => sg_idx hA hlt) ?_
    refine Good.run (by kernel_rfl) (stop := 11) 1000 _ ?_
    refine Good.askAt 11 (fldS 41 (ad.add (0 * 7)) 0) (.pointer (some ((ad.add (0 * 7)).add 0))) (by kernel_rfl) (fun w1 hw h => run_fldA (d := 0) (by kernel_rfl)) ?_
    refine Good.run (by kernel_rfl) (stop := 1000) 1000 _ ?_
    refine Good.askAt 12 (ldS 3 ((ad.add (0 * 7)).add 0)) (.int .i64 v) (by kernel_rfl) (fun w1 hw h => hld0 w1 hw) ?_
    refine Good.run (by kernel_rfl) (stop := 13) 1000 _ ?_
    refine Good.ask (slC 9 (strOf [77, 76, 81, 67, 90]) .i64 (IntKind.i64.wrap (v - 1)) v) (strOf [letS v]) (by kernel_rfl) (fun w1 hw h => run_let2 hv) ?_
    refine Good.run (by kernel_rfl) (stop := 14) 1000 _ ?_
    refine Good.ask (opS .add 9 (.tmp 22) (.tmp 35) (strOf (F ++ sepB 0)) (strOf [letS v])) (strOf (F ++ sepB 0 ++ [letS v])) (by kernel_rfl) (fun w1 hw h => run_addP (by simp [sepB] <;> omega)) ?_
    refine Good.run (by kernel_rfl) (stop := 1000) 1000 _ ?_
    refine Good.ask (idxS 22 (.slice A n c) (0 : Nat)) (.pointer (some (ad.add (0 * 7)))) (by kernel_rfl) (fun w1 hw h => sg_idx hA hlt) ?_
    refine Good.run (by kernel_rfl) (stop := 1000) 1000 _ ?_
    refine Good.ask (ldS 41 (ad.add (0 * 7))) (Sg.val ⟨v, ax, ay, bx, by_, cx, cy⟩) (by kernel_rfl) (fun w1 hw h => hldS w1 hw) ?_
    refine Good.run (by kernel_rfl) (stop := 1000) 1000 _ ?_
    refine Good.callv (fun w1 hw h => hpt w1) (by kernel_rfl) (fun y0 => ?_)
    refine Good.run (by kernel_rfl) (stop := 1000) 1000 _ ?_
    obtain ⟨y, hy⟩ := y0
    refine Good.slot 5 (strOf (F ++ sepB 0 ++ [letS v])) (strOf (F ++ sepB 0 ++ [letS v] ++ glue ((T.take 0).flatMap fmt2))) (by kernel_rfl) (by simp [glue]) ?_
    refine Good.loop (ι := {j : Nat // j ≤ r}) 66 (fun q => ⟨[(0, .v (.slice A n c)), (4, .v (.string ⟨#[77, 76, 81, 67, 90]⟩)), (5, .v (strOf (F ++ sepB 0 ++ [letS v] ++ glue ((T.take q.1).flatMap fmt2)))), (6, .v (.int .i64 (0 : Nat))), (7, .v (.slice y r r)), (8, .v (.int .i64 q.1))], []⟩) (fun q u => PtsAt u y T) (fun q => r - q.1) (⟨0, Nat.zero_le _⟩) (by kernel_rfl) (fun _ => by kernel_rfl) ⟨by kernel_rfl, by kernel_rfl, by kernel_rfl⟩ (fun u h => h.2) ?_
    rintro ⟨j, hj⟩ gg2
    have hj : j ≤ r := hj
    by_cases hlt2 : j < r
    case neg =>
      obtain rfl : j = r := by omega
      have hfullT : T.take j = T := List.take_of_length_le (by omega)
      refine Good.run (by kernel_rfl) (stop := 1000) 1000 _ ?_
      refine Good.condr (decide ((j : Int) < (j : Int))) false (by kernel_rfl) (by simp) ?_
      refine Good.run (by kernel_rfl) (stop := 1000) 1000 _ ?_
      refine Good.leave (by kernel_rfl) ?_
      refine Good.run (by kernel_rfl) (stop := 1000) 1000 _ ?_
      refine Good.slot 6 (.int .i64 (IntKind.i64.wrap (((0 : Nat) : Int) + 1))) (.int .i64 ((0 + 1 : Nat) : Int)) (by kernel_rfl) (by rw [wrap_succ hlt (by omega)]) ?_
      refine Good.slot 5 (strOf (F ++ sepB 0 ++ [letS v] ++ glue ((T.take j).flatMap fmt2))) (strOf (fmtP (ls.take (0 + 1)))) (by kernel_rfl) (by rw [hfmt, hfullT]) ?_
      refine Good.next (⟨0 + 1, by omega⟩) (by kernel_rfl) (by show n - (0 + 1) < n - 0; omega) ⟨by kernel_rfl, by kernel_rfl, by kernel_rfl⟩ (fun u h => trivial)
    obtain ⟨q, hq⟩ : ∃ q, T[j]? = some q := ⟨_, List.getElem?_eq_getElem (by omega)⟩
    have hstep : (T.take (j + 1)).flatMap fmt2 = (T.take j).flatMap fmt2 ++ [fmtI q.1, fmtI q.2] := by rw [List.take_add_one, hq]; simp [fmt2]
    have hrng := hTr j q hq
    have hG := glue_len (l := T.take j) fun x hx => by obtain ⟨i, hi⟩ := List.mem_iff_getElem?.1 (List.mem_of_mem_take hx); exact hTr i x hi
    have hGl : (T.take j).length ≤ 3 := by rw [List.length_take]; omega
    have f1 := fmtI_small (x := q.1) ⟨hrng.1, hrng.2.1⟩
    have f2 := fmtI_small (x := q.2) ⟨hrng.2.2.1, hrng.2.2.2⟩
    obtain ⟨E, hE⟩ : ∃ E, E = F ++ sepB 0 ++ [letS v] ++ glue ((T.take j).flatMap fmt2) := ⟨_, rfl⟩
    have hEl : E.length ≤ 50000 := by rw [hE]; simp only [List.length_append, List.length_cons, List.length_nil, sepB]; simp; omega
    have hE2 : F ++ sepB 0 ++ [letS v] ++ glue ((T.take (j + 1)).flatMap fmt2) = E ++ ([32] ++ fmtI q.1 ++ [32] ++ fmtI q.2) := by rw [hstep, glue_app, ← List.append_assoc, ← hE]; simp [glue]
    have hcp : ∀ u : World, PtsAt u y T → ∃ pa, y = some pa ∧ u.cell? ((pa.add (j * 2)).add 0) = some (.int .i64 q.1) ∧ u.cell? ((pa.add (j * 2)).add 1) = some (.int .i64 q.2) := fun u hu => hu j q hq
    obtain ⟨pa, hpa⟩ := hy (by omega)
    have hld1 : ∀ u : World, PtsAt u y T → (ldS 3 ((pa.add (j * 2)).add 0)).run Tryd.prog u = .ok (.value (.int .i64 q.1)) u := fun u hu => by
      obtain ⟨pb, h1, h2, h3⟩ := hcp u hu
      obtain rfl : pb = pa := by rw [hpa] at h1; injection h1 with h1; exact h1.symm
      exact run_ldS (by kernel_rfl) h2
    have hld2 : ∀ u : World, PtsAt u y T → (ldS 3 ((pa.add (j * 2)).add 1)).run Tryd.prog u = .ok (.value (.int .i64 q.2)) u := fun u hu => by
      obtain ⟨pb, h1, h2, h3⟩ := hcp u hu
      obtain rfl : pb = pa := by rw [hpa] at h1; injection h1 with h1; exact h1.symm
      exact run_ldS (by kernel_rfl) h3
    refine Good.run (by kernel_rfl) (stop := 1000) 1000 _ ?_
    refine Good.condr (decide ((j : Int) < (r : Int))) true (by kernel_rfl) (by simp; omega) ?_
    refine Good.run (by kernel_rfl) (stop := 1000) 1000 _ ?_
    refine Good.slot 48 (strOf (F ++ sepB 0 ++ [letS v] ++ glue ((T.take j).flatMap fmt2))) (strOf E) (by kernel_rfl) (by rw [hE]) ?_
    refine Good.askAt 3 (idxS 36 (.slice y r r) j) (.pointer (some (pa.add (j * 2)))) (by kernel_rfl) (fun w1 hw h => pt_idx hpa hlt2) ?_
    refine Good.run (by kernel_rfl) (stop := 4) 1000 _ ?_
    refine Good.askAt 4 (fldS 39 (pa.add (j * 2)) 0) (.pointer (some ((pa.add (j * 2)).add 0))) (by kernel_rfl) (fun w1 hw h => run_fldA (d := 0) (by kernel_rfl)) ?_
    refine Good.run (by kernel_rfl) (stop := 1000) 1000 _ ?_
    refine Good.askAt 5 (ldS 3 ((pa.add (j * 2)).add 0)) (.int .i64 q.1) (by kernel_rfl) (fun w1 hw h => hld1 w1 h) ?_
    refine Good.run (by kernel_rfl) (stop := 1000) 1000 _ ?_
    refine Good.askAt 11 (idxS 36 (.slice y r r) j) (.pointer (some (pa.add (j * 2)))) (by kernel_rfl) (fun w1 hw h => pt_idx hpa hlt2) ?_
    refine Good.run (by kernel_rfl) (stop := 12) 1000 _ ?_
    refine Good.askAt 12 (fldS 39 (pa.add (j * 2)) 1) (.pointer (some ((pa.add (j * 2)).add 1))) (by kernel_rfl) (fun w1 hw h => run_fldA (d := 1) (by kernel_rfl)) ?_
    refine Good.run (by kernel_rfl) (stop := 1000) 1000 _ ?_
    refine Good.askAt 13 (ldS 3 ((pa.add (j * 2)).add 1)) (.int .i64 q.2) (by kernel_rfl) (fun w1 hw h => hld2 w1 h) ?_
    refine Good.run (by kernel_rfl) (stop := 1000) 1000 _ ?_
    refine Good.callv (fun w1 hw h => rformatInt_m (n := q.1) (by omega) (by omega)) (by kernel_rfl) (fun u1 => ?_)
    refine Good.run (by kernel_rfl) (stop := 7) 1000 _ ?_
    refine Good.askAt 7 (opS .add 9 (.const (.string ⟨#[32]⟩)) (.tmp 54) (strOf [32]) (strOf (fmtI q.1))) (strOf ([32] ++ fmtI q.1)) (by kernel_rfl) (fun w1 hw h => run_addP (by simp; omega)) ?_
    refine Good.run (by kernel_rfl) (stop := 8) 1000 _ ?_
    refine Good.askAt 8 (opS .add 9 (.tmp 55) (.const (.string ⟨#[32]⟩)) (strOf ([32] ++ fmtI q.1)) (strOf [32])) (strOf ([32] ++ fmtI q.1 ++ [32])) (by kernel_rfl) (fun w1 hw h => run_addP (by simp; omega)) ?_
    refine Good.run (by kernel_rfl) (stop := 9) 1000 _ ?_
    refine Good.callv (fun w1 hw h => rformatInt_m (n := q.2) (by omega) (by omega)) (by kernel_rfl) (fun u2 => ?_)
    refine Good.run (by kernel_rfl) (stop := 15) 1000 _ ?_
    refine Good.ask (opS .add 9 (.tmp 56) (.tmp 62) (strOf ([32] ++ fmtI q.1 ++ [32])) (strOf (fmtI q.2))) (strOf ([32] ++ fmtI q.1 ++ [32] ++ fmtI q.2)) (by kernel_rfl) (fun w1 hw h => run_addP (by simp; omega)) ?_
    refine Good.run (by kernel_rfl) (stop := 16) 1000 _ ?_
    refine Good.ask (opS .add 9 (.tmp 48) (.tmp 63) (strOf E) (strOf ([32] ++ fmtI q.1 ++ [32] ++ fmtI q.2))) (strOf (E ++ ([32] ++ fmtI q.1 ++ [32] ++ fmtI q.2))) (by kernel_rfl) (fun w1 hw h => run_addP (by simp; omega)) ?_
    refine Good.run (by kernel_rfl) (stop := 1000) 1000 _ ?_
    refine Good.slot 8 (.int .i64 (IntKind.i64.wrap ((j : Int) + 1))) (.int .i64 ((j + 1 : Nat) : Int)) (by kernel_rfl) (by rw [wrap_succ hlt2 (by omega)]) ?_
    refine Good.slot 5 (strOf (E ++ ([32] ++ fmtI q.1 ++ [32] ++ fmtI q.2))) (strOf (F ++ sepB 0 ++ [letS v] ++ glue ((T.take (j + 1)).flatMap fmt2))) (by kernel_rfl) (by rw [hE2]) ?_
    refine Good.next (⟨j + 1, by omega⟩) (by kernel_rfl) (by show r - (j + 1) < r - j; omega) ⟨by kernel_rfl, by kernel_rfl, by kernel_rfl⟩ (fun u h => h.1.1)
  · have hs0 : F ++ [32] = F ++ sepB (k + 1) := by simp [sepB]
    refine Good.condr (decide (((k + 1 : Nat) : Int) > 0)) true (by kernel_rfl) (by simp) ?_
    refine Good.run (by kernel_rfl) (stop := 1) 1000 _ ?_
    refine Good.ask (opS .add 9 (.tmp 20) (.const (.string ⟨#[32]⟩)) (strOf F) (strOf [32])) (strOf (F ++ [32])) (by kernel_rfl) (fun w1 hw h => run_addP (by simp; omega)) ?_
    refine Good.run (by kernel_rfl) (stop := 1000) 1000 _ ?_
    refine Good.slot 22 (strOf (F ++ [32])) (strOf (F ++ sepB (k + 1))) (by kernel_rfl) (by rw [hs0]) ?_
    refine Good.askAt 4 (idxS 22 (.slice A n c) (k + 1 : Nat)) (.pointer (some (ad.add ((k + 1) * 7)))) (by kernel_rfl) (fun w1 hw h => sg_idx hA hlt) ?_
    refine Good.run (by kernel_rfl) (stop := 5) 1000 _ ?_
    refine Good.askAt 5 (fldS 41 (ad.add ((k + 1) * 7)) 0) (.pointer (some ((ad.add ((k + 1) * 7)).add 0))) (by kernel_rfl) (fun w1 hw h => run_fldA (d := 0) (by kernel_rfl)) ?_
    refine Good.run (by kernel_rfl) (stop := 1000) 1000 _ ?_
    refine Good.askAt 6 (ldS 3 ((ad.add ((k + 1) * 7)).add 0)) (.int .i64 v) (by kernel_rfl) (fun w1 hw h => hld0 w1 hw) ?_
    refine Good.run (by kernel_rfl) (stop := 1000) 1000 _ ?_
    refine Good.askAt 10 (idxS 22 (.slice A n c) (k + 1 : Nat)) (.pointer (some (ad.add ((k + 1) * 7)))) (by kernel_rfl) (fun w1 hw h => sg_idx hA hlt) ?_
    refine Good.run (by kernel_rfl) (stop := 11) 1000 _ ?_
    refine Good.askAt 11 (fldS 41 (ad.add ((k + 1) * 7)) 0) (.pointer (some ((ad.add ((k + 1) * 7)).add 0))) (by kernel_rfl) (fun w1 hw h => run_fldA (d := 0) (by kernel_rfl)) ?_
    refine Good.run (by kernel_rfl) (stop := 1000) 1000 _ ?_
    refine Good.askAt 12 (ldS 3 ((ad.add ((k + 1) * 7)).add 0)) (.int .i64 v) (by kernel_rfl) (fun w1 hw h => hld0 w1 hw) ?_
    refine Good.run (by kernel_rfl) (stop := 13) 1000 _ ?_
    refine Good.ask (slC 9 (strOf [77, 76, 81, 67, 90]) .i64 (IntKind.i64.wrap (v - 1)) v) (strOf [letS v]) (by kernel_rfl) (fun w1 hw h => run_let2 hv) ?_
    refine Good.run (by kernel_rfl) (stop := 14) 1000 _ ?_
    refine Good.ask (opS .add 9 (.tmp 22) (.tmp 35) (strOf (F ++ sepB (k + 1))) (strOf [letS v])) (strOf (F ++ sepB (k + 1) ++ [letS v])) (by kernel_rfl) (fun w1 hw h => run_addP (by simp [sepB] <;> omega)) ?_
    refine Good.run (by kernel_rfl) (stop := 1000) 1000 _ ?_
    refine Good.ask (idxS 22 (.slice A n c) (k + 1 : Nat)) (.pointer (some (ad.add ((k + 1) * 7)))) (by kernel_rfl) (fun w1 hw h => sg_idx hA hlt) ?_
    refine Good.run (by kernel_rfl) (stop := 1000) 1000 _ ?_
    refine Good.ask (ldS 41 (ad.add ((k + 1) * 7))) (Sg.val ⟨v, ax, ay, bx, by_, cx, cy⟩) (by kernel_rfl) (fun w1 hw h => hldS w1 hw) ?_
    refine Good.run (by kernel_rfl) (stop := 1000) 1000 _ ?_
    refine Good.callv (fun w1 hw h => hpt w1) (by kernel_rfl) (fun y0 => ?_)
    refine Good.run (by kernel_rfl) (stop := 1000) 1000 _ ?_
    obtain ⟨y, hy⟩ := y0
    refine Good.slot 5 (strOf (F ++ sepB (k + 1) ++ [letS v])) (strOf (F ++ sepB (k + 1) ++ [letS v] ++ glue ((T.take 0).flatMap fmt2))) (by kernel_rfl) (by simp [glue]) ?_
    refine Good.loop (ι := {j : Nat // j ≤ r}) 66 (fun q => ⟨[(0, .v (.slice A n c)), (4, .v (.string ⟨#[77, 76, 81, 67, 90]⟩)), (5, .v (strOf (F ++ sepB (k + 1) ++ [letS v] ++ glue ((T.take q.1).flatMap fmt2)))), (6, .v (.int .i64 (k + 1 : Nat))), (7, .v (.slice y r r)), (8, .v (.int .i64 q.1))], []⟩) (fun q u => PtsAt u y T) (fun q => r - q.1) (⟨0, Nat.zero_le _⟩) (by kernel_rfl) (fun _ => by kernel_rfl) ⟨by kernel_rfl, by kernel_rfl, by kernel_rfl⟩ (fun u h => h.2) ?_
    rintro ⟨j, hj⟩ gg2
    have hj : j ≤ r := hj
    by_cases hlt2 : j < r
    case neg =>
      obtain rfl : j = r := by omega
      have hfullT : T.take j = T := List.take_of_length_le (by omega)
      refine Good.run (by kernel_rfl) (stop := 1000) 1000 _ ?_
      refine Good.condr (decide ((j : Int) < (j : Int))) false (by kernel_rfl) (by simp) ?_
      refine Good.run (by kernel_rfl) (stop := 1000) 1000 _ ?_
      refine Good.leave (by kernel_rfl) ?_
      refine Good.run (by kernel_rfl) (stop := 1000) 1000 _ ?_
      refine Good.slot 6 (.int .i64 (IntKind.i64.wrap (((k + 1 : Nat) : Int) + 1))) (.int .i64 ((k + 1 + 1 : Nat) : Int)) (by kernel_rfl) (by rw [wrap_succ hlt (by omega)]) ?_
      refine Good.slot 5 (strOf (F ++ sepB (k + 1) ++ [letS v] ++ glue ((T.take j).flatMap fmt2))) (strOf (fmtP (ls.take (k + 1 + 1)))) (by kernel_rfl) (by rw [hfmt, hfullT]) ?_
      refine Good.next (⟨k + 1 + 1, by omega⟩) (by kernel_rfl) (by show n - (k + 1 + 1) < n - (k + 1); omega) ⟨by kernel_rfl, by kernel_rfl, by kernel_rfl⟩ (fun u h => trivial)
    obtain ⟨q, hq⟩ : ∃ q, T[j]? = some q := ⟨_, List.getElem?_eq_getElem (by omega)⟩
    have hstep : (T.take (j + 1)).flatMap fmt2 = (T.take j).flatMap fmt2 ++ [fmtI q.1, fmtI q.2] := by rw [List.take_add_one, hq]; simp [fmt2]
    have hrng := hTr j q hq
    have hG := glue_len (l := T.take j) fun x hx => by obtain ⟨i, hi⟩ := List.mem_iff_getElem?.1 (List.mem_of_mem_take hx); exact hTr i x hi
    have hGl : (T.take j).length ≤ 3 := by rw [List.length_take]; omega
    have f1 := fmtI_small (x := q.1) ⟨hrng.1, hrng.2.1⟩
    have f2 := fmtI_small (x := q.2) ⟨hrng.2.2.1, hrng.2.2.2⟩
    obtain ⟨E, hE⟩ : ∃ E, E = F ++ sepB (k + 1) ++ [letS v] ++ glue ((T.take j).flatMap fmt2) := ⟨_, rfl⟩
    have hEl : E.length ≤ 50000 := by rw [hE]; simp only [List.length_append, List.length_cons, List.length_nil, sepB]; simp; omega
    have hE2 : F ++ sepB (k + 1) ++ [letS v] ++ glue ((T.take (j + 1)).flatMap fmt2) = E ++ ([32] ++ fmtI q.1 ++ [32] ++ fmtI q.2) := by rw [hstep, glue_app, ← List.append_assoc, ← hE]; simp [glue]
    have hcp : ∀ u : World, PtsAt u y T → ∃ pa, y = some pa ∧ u.cell? ((pa.add (j * 2)).add 0) = some (.int .i64 q.1) ∧ u.cell? ((pa.add (j * 2)).add 1) = some (.int .i64 q.2) := fun u hu => hu j q hq
    obtain ⟨pa, hpa⟩ := hy (by omega)
    have hld1 : ∀ u : World, PtsAt u y T → (ldS 3 ((pa.add (j * 2)).add 0)).run Tryd.prog u = .ok (.value (.int .i64 q.1)) u := fun u hu => by
      obtain ⟨pb, h1, h2, h3⟩ := hcp u hu
      obtain rfl : pb = pa := by rw [hpa] at h1; injection h1 with h1; exact h1.symm
      exact run_ldS (by kernel_rfl) h2
    have hld2 : ∀ u : World, PtsAt u y T → (ldS 3 ((pa.add (j * 2)).add 1)).run Tryd.prog u = .ok (.value (.int .i64 q.2)) u := fun u hu => by
      obtain ⟨pb, h1, h2, h3⟩ := hcp u hu
      obtain rfl : pb = pa := by rw [hpa] at h1; injection h1 with h1; exact h1.symm
      exact run_ldS (by kernel_rfl) h3
    refine Good.run (by kernel_rfl) (stop := 1000) 1000 _ ?_
    refine Good.condr (decide ((j : Int) < (r : Int))) true (by kernel_rfl) (by simp; omega) ?_
    refine Good.run (by kernel_rfl) (stop := 1000) 1000 _ ?_
    refine Good.slot 48 (strOf (F ++ sepB (k + 1) ++ [letS v] ++ glue ((T.take j).flatMap fmt2))) (strOf E) (by kernel_rfl) (by rw [hE]) ?_
    refine Good.askAt 3 (idxS 36 (.slice y r r) j) (.pointer (some (pa.add (j * 2)))) (by kernel_rfl) (fun w1 hw h => pt_idx hpa hlt2) ?_
    refine Good.run (by kernel_rfl) (stop := 4) 1000 _ ?_
    refine Good.askAt 4 (fldS 39 (pa.add (j * 2)) 0) (.pointer (some ((pa.add (j * 2)).add 0))) (by kernel_rfl) (fun w1 hw h => run_fldA (d := 0) (by kernel_rfl)) ?_
    refine Good.run (by kernel_rfl) (stop := 1000) 1000 _ ?_
    refine Good.askAt 5 (ldS 3 ((pa.add (j * 2)).add 0)) (.int .i64 q.1) (by kernel_rfl) (fun w1 hw h => hld1 w1 h) ?_
    refine Good.run (by kernel_rfl) (stop := 1000) 1000 _ ?_
    refine Good.askAt 11 (idxS 36 (.slice y r r) j) (.pointer (some (pa.add (j * 2)))) (by kernel_rfl) (fun w1 hw h => pt_idx hpa hlt2) ?_
    refine Good.run (by kernel_rfl) (stop := 12) 1000 _ ?_
    refine Good.askAt 12 (fldS 39 (pa.add (j * 2)) 1) (.pointer (some ((pa.add (j * 2)).add 1))) (by kernel_rfl) (fun w1 hw h => run_fldA (d := 1) (by kernel_rfl)) ?_
    refine Good.run (by kernel_rfl) (stop := 1000) 1000 _ ?_
    refine Good.askAt 13 (ldS 3 ((pa.add (j * 2)).add 1)) (.int .i64 q.2) (by kernel_rfl) (fun w1 hw h => hld2 w1 h) ?_
    refine Good.run (by kernel_rfl) (stop := 1000) 1000 _ ?_
    refine Good.callv (fun w1 hw h => rformatInt_m (n := q.1) (by omega) (by omega)) (by kernel_rfl) (fun u1 => ?_)
    refine Good.run (by kernel_rfl) (stop := 7) 1000 _ ?_
    refine Good.askAt 7 (opS .add 9 (.const (.string ⟨#[32]⟩)) (.tmp 54) (strOf [32]) (strOf (fmtI q.1))) (strOf ([32] ++ fmtI q.1)) (by kernel_rfl) (fun w1 hw h => run_addP (by simp; omega)) ?_
    refine Good.run (by kernel_rfl) (stop := 8) 1000 _ ?_
    refine Good.askAt 8 (opS .add 9 (.tmp 55) (.const (.string ⟨#[32]⟩)) (strOf ([32] ++ fmtI q.1)) (strOf [32])) (strOf ([32] ++ fmtI q.1 ++ [32])) (by kernel_rfl) (fun w1 hw h => run_addP (by simp; omega)) ?_
    refine Good.run (by kernel_rfl) (stop := 9) 1000 _ ?_
    refine Good.callv (fun w1 hw h => rformatInt_m (n := q.2) (by omega) (by omega)) (by kernel_rfl) (fun u2 => ?_)
    refine Good.run (by kernel_rfl) (stop := 15) 1000 _ ?_
    refine Good.ask (opS .add 9 (.tmp 56) (.tmp 62) (strOf ([32] ++ fmtI q.1 ++ [32])) (strOf (fmtI q.2))) (strOf ([32] ++ fmtI q.1 ++ [32] ++ fmtI q.2)) (by kernel_rfl) (fun w1 hw h => run_addP (by simp; omega)) ?_
    refine Good.run (by kernel_rfl) (stop := 16) 1000 _ ?_
    refine Good.ask (opS .add 9 (.tmp 48) (.tmp 63) (strOf E) (strOf ([32] ++ fmtI q.1 ++ [32] ++ fmtI q.2))) (strOf (E ++ ([32] ++ fmtI q.1 ++ [32] ++ fmtI q.2))) (by kernel_rfl) (fun w1 hw h => run_addP (by simp; omega)) ?_
    refine Good.run (by kernel_rfl) (stop := 1000) 1000 _ ?_
    refine Good.slot 8 (.int .i64 (IntKind.i64.wrap ((j : Int) + 1))) (.int .i64 ((j + 1 : Nat) : Int)) (by kernel_rfl) (by rw [wrap_succ hlt2 (by omega)]) ?_
    refine Good.slot 5 (strOf (E ++ ([32] ++ fmtI q.1 ++ [32] ++ fmtI q.2))) (strOf (F ++ sepB (k + 1) ++ [letS v] ++ glue ((T.take (j + 1)).flatMap fmt2))) (by kernel_rfl) (by rw [hE2]) ?_
    refine Good.next (⟨j + 1, by omega⟩) (by kernel_rfl) (by show r - (j + 1) < r - j; omega) ⟨by kernel_rfl, by kernel_rfl, by kernel_rfl⟩ (fun u h => h.1.1)
end

end Go.Proofs.YtlpnjoenkohadaaDoor
