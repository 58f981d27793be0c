/-
  Integers: Neg, Sub, Mul, Sign, Cmp.
-/
import Derived.Test.YtlpnjoenkohadaaDoorIa
namespace Go.Proofs.YtlpnjoenkohadaaDoor
set_option linter.unusedVariables false
set_option linter.unusedSimpArgs false
open Go.RowKit
attribute [local go_sem ↓] Go.wp_at_zero Go.wp_at_succ

theorem zi_of (k : Int) {v : Nat} (h : v = k.natAbs) : zi (decide (k < 0)) v = k := by
  subst h
  by_cases e : k < 0
  · rw [decide_eq_true e]; simp [zi]; omega
  · rw [decide_eq_false e]; simp [zi]; omega
theorem zi_not (s : Bool) (v : Nat) : zi (!s) v = -zi s v := by cases s <;> simp [zi]
theorem zi_mul (s t : Bool) (a b : Nat) : zi (!(s == t)) (a * b) = zi s a * zi t b := by cases s <;> cases t <;> simp [zi] <;> grind
theorem abs_len {w w1 : World} {A C : Option Addr} {n c k e g : Nat} {a l : List Nat} (ha : In w A n c a) (N : Norm l) (v : val l = val a) (o : Own w1 g C k e l) : k ≤ n := dif_len (x := 0) ha N (by rw [v, Nat.sub_zero]) o
theorem mul_len {w w1 : World} {A B C : Option Addr} {n c m d k e g : Nat} {a b l : List Nat} (ha : In w A n c a) (hb : In w B m d b) (N : Norm l) (v : val l = val a * val b) (o : Own w1 g C k e l) : k ≤ n + m := by
  have h1 := val_lt_of ha.dig (Nat.le_of_eq ha.len)
  have h2 := val_lt_of hb.dig (Nat.le_of_eq hb.len)
  have h3 := N.length_le (k := n + m) (by rw [v]; exact pw_mul_lt h1 h2 (Nat.le_refl _))
  rw [o.len] at h3
  exact h3

--BOTH
/-- -1, 0 or 1. -/
def sgn (k : Int) : Int := if k < 0 then -1 else if k = 0 then 0 else 1
/-- The call hands back v; old memory is as it was. -/
def RetV (w : World) (v : Value) (e : Ending) (w' : World) : Prop := e = .returned v ∧ Below w.heap.size w w'

set_option maxRecDepth 100000 in
set_option maxHeartbeats 1000000 in
theorem isign_c {A : Option Addr} {n c : Nat} {a : List Nat} {s : Bool} {k : Int} (w : World) (ha : In w A n c a) (hn : n ≤ 274877906944) (hk : zi s (val a) = k) :
    Calls Tryd.prog 46 #[.agg #[.bool s, .slice A n c]] w (RetV w (.int .i64 (sgn k))) := by
  subst hk
  by_cases h0 : val a = 0
  · have hb : ((bitsN (val a) : Int) == 0) = true := by rw [bitsN_zero.2 h0]; rfl
    have K : Hid (sgn (zi s (val a)) = 0) := by rw [h0]; cases s <;> rfl
    clear h0
    go_enter Tryd.func46, Tryd.ntmps46
    go_wp2_with fail
    obtain ⟨w0, hw0⟩ : ∃ w0, w0 = (w.alloc (.cells #[.bool s, .slice A n c] 64)) := ⟨_, rfl⟩
    have kw00 : Blk w0 (w.heap.size) 64 #[.bool s, .slice A n c] := by rw [hw0]; exact allocs_blk [(#[.bool s, .slice A n c], 64)] w 0 _ _ rfl
    have fr : Fr w [] w0 := (⟨by rw [hw0]; exact allocs_below [(#[.bool s, .slice A n c], 64)] w, fun _ h => by cases h⟩ : Fr w [] w0)
    have sw0 : w0.heap.size = w.heap.size + 1 := by rw [hw0]; exact allocs_size [(#[.bool s, .slice A n c], 64)] w
    rw [← hw0]
    clear hw0
    have a0 := kw00.cell 0
    have a1 := kw00.cell 1
    clear kw00
    go_wp2_with fail
    refine (bitLen_c _ (fr.in_ ha) hn).mono ?_
    rintro e w' ⟨rfl, rfl⟩
    go_wp2_with fail
    go_ret
    rw [unhide K]
    exact ⟨rfl, fr.bel⟩
  · have hb : ((bitsN (val a) : Int) == 0) = false := by
      have := mt bitsN_zero.1 h0
      simp; omega
    cases s
    · have K : Hid (sgn (zi false (val a)) = 1) := by show (if ((val a : Nat) : Int) < 0 then (-1 : Int) else if ((val a : Nat) : Int) = 0 then 0 else 1) = 1; rw [if_neg (by omega), if_neg (by omega)]
      clear h0
      go_enter Tryd.func46, Tryd.ntmps46
      go_wp2_with fail
      obtain ⟨w0, hw0⟩ : ∃ w0, w0 = (w.alloc (.cells #[.bool false, .slice A n c] 64)) := ⟨_, rfl⟩
      have kw00 : Blk w0 (w.heap.size) 64 #[.bool false, .slice A n c] := by rw [hw0]; exact allocs_blk [(#[.bool false, .slice A n c], 64)] w 0 _ _ rfl
      have fr : Fr w [] w0 := (⟨by rw [hw0]; exact allocs_below [(#[.bool false, .slice A n c], 64)] w, fun _ h => by cases h⟩ : Fr w [] w0)
      have sw0 : w0.heap.size = w.heap.size + 1 := by rw [hw0]; exact allocs_size [(#[.bool false, .slice A n c], 64)] w
      rw [← hw0]
      clear hw0
      have a0 := kw00.cell 0
      have a1 := kw00.cell 1
      clear kw00
      go_wp2_with fail
      refine (bitLen_c _ (fr.in_ ha) hn).mono ?_
      rintro e w' ⟨rfl, rfl⟩
      go_wp2_with fail
      go_ret
      rw [unhide K]
      exact ⟨rfl, fr.bel⟩
    · have K : Hid (sgn (zi true (val a)) = -1) := by show (if -((val a : Nat) : Int) < 0 then (-1 : Int) else if -((val a : Nat) : Int) = 0 then 0 else 1) = -1; rw [if_pos (by omega)]
      clear h0
      go_enter Tryd.func46, Tryd.ntmps46
      go_wp2_with fail
      obtain ⟨w0, hw0⟩ : ∃ w0, w0 = (w.alloc (.cells #[.bool true, .slice A n c] 64)) := ⟨_, rfl⟩
      have kw00 : Blk w0 (w.heap.size) 64 #[.bool true, .slice A n c] := by rw [hw0]; exact allocs_blk [(#[.bool true, .slice A n c], 64)] w 0 _ _ rfl
      have fr : Fr w [] w0 := (⟨by rw [hw0]; exact allocs_below [(#[.bool true, .slice A n c], 64)] w, fun _ h => by cases h⟩ : Fr w [] w0)
      have sw0 : w0.heap.size = w.heap.size + 1 := by rw [hw0]; exact allocs_size [(#[.bool true, .slice A n c], 64)] w
      rw [← hw0]
      clear hw0
      have a0 := kw00.cell 0
      have a1 := kw00.cell 1
      clear kw00
      go_wp2_with fail
      refine (bitLen_c _ (fr.in_ ha) hn).mono ?_
      rintro e w' ⟨rfl, rfl⟩
      go_wp2_with fail
      go_ret
      rw [unhide K]
      exact ⟨rfl, fr.bel⟩

theorem k_len {w : World} {A : Option Addr} {n c K : Nat} {l : List Nat} {k : Int} (N : Norm l) (v : val l = k.natAbs) (o : In w A n c l) (h : k.natAbs < pw K) : n ≤ K := by
  have := N.length_le (k := K) (by rw [v]; exact h)
  rw [o.len] at this
  exact this
theorem zi_lt {w : World} {A : Option Addr} {n c : Nat} {l : List Nat} (s : Bool) (h : In w A n c l) : (zi s (val l)).natAbs < pw n := by
  rw [zi_abs]; exact val_lt_of h.dig (Nat.le_of_eq h.len)
theorem abs_sub_lt {x y : Int} {n m K : Nat} (hx : x.natAbs < pw n) (hy : y.natAbs < pw m) (h1 : n + 1 ≤ K) (h2 : m + 1 ≤ K) : (x - y).natAbs < pw K := by
  have := pw_add_lt hx hy h1 h2
  omega
theorem abs_add_lt {x y : Int} {n m K : Nat} (hx : x.natAbs < pw n) (hy : y.natAbs < pw m) (h1 : n + 1 ≤ K) (h2 : m + 1 ≤ K) : (x + y).natAbs < pw K := by
  have := pw_add_lt hx hy h1 h2
  omega
theorem abs_mul_lt {x y : Int} {n m K : Nat} (hx : x.natAbs < pw n) (hy : y.natAbs < pw m) (h1 : n + m ≤ K) : (x * y).natAbs < pw K := by
  rw [Int.natAbs_mul]
  exact pw_mul_lt hx hy h1

--BOTH2
end Go.Proofs.YtlpnjoenkohadaaDoor
