/-
  Integers: Neg, Sub, Mul, Sign, Cmp.
-/
import Derived.Test.YtlpnjoenkohadaaIa
namespace Go.Proofs.Ytlpnjoenkohadaa
set_option linter.unusedVariables false
set_option linter.unusedSimpArgs false
open Go.RowKit
attribute [local go_sem ↓] Go.wp_at_zero Go.wp_at_succ

theorem iadd_k {A B : Option Addr} {n c m d : Nat} {a b : List Nat} {s t : Bool} {k : Int} (w : World) (ha : In w A n c a) (hb : In w B m d b) (hn : n ≤ 549755813888) (hm : m ≤ 549755813888) (hk : zi s (val a) + zi t (val b) = k) :
    Calls Try.prog 82 #[.agg #[.bool s, .slice A n c], .agg #[.bool t, .slice B m d]] w (RetI w k) := by
  rw [← hk]; exact iadd_c s t w ha hb hn hm
theorem zi_of (k : Int) {v : Nat} (h : v = k.natAbs) : zi (decide (k < 0)) v = k := by
  subst h
  by_cases e : k < 0
  · rw [decide_eq_true e]; simp [zi]; omega
  · rw [decide_eq_false e]; simp [zi]; omega
theorem zi_not (s : Bool) (v : Nat) : zi (!s) v = -zi s v := by cases s <;> simp [zi]
theorem zi_mul (s t : Bool) (a b : Nat) : zi (!(s == t)) (a * b) = zi s a * zi t b := by cases s <;> cases t <;> simp [zi] <;> grind
theorem abs_len {w w1 : World} {A C : Option Addr} {n c k e g : Nat} {a l : List Nat} (ha : In w A n c a) (N : Norm l) (v : val l = val a) (o : Own w1 g C k e l) : k ≤ n := dif_len (x := 0) ha N (by rw [v, Nat.sub_zero]) o
theorem mul_len {w w1 : World} {A B C : Option Addr} {n c m d k e g : Nat} {a b l : List Nat} (ha : In w A n c a) (hb : In w B m d b) (N : Norm l) (v : val l = val a * val b) (o : Own w1 g C k e l) : k ≤ n + m := by
  have h1 := val_lt_of ha.dig (Nat.le_of_eq ha.len)
  have h2 := val_lt_of hb.dig (Nat.le_of_eq hb.len)
  have h3 := N.length_le (k := n + m) (by rw [v]; exact pw_mul_lt h1 h2 (Nat.le_refl _))
  rw [o.len] at h3
  exact h3

--BOTH
set_option maxRecDepth 100000 in
set_option maxHeartbeats 2000000 in
theorem ineg_c {A : Option Addr} {n c : Nat} {a : List Nat} {s : Bool} {k : Int} (w : World) (ha : In w A n c a) (hn : n ≤ 1099511627776) (hk : -zi s (val a) = k) :
    Calls Try.prog 83 #[.agg #[.bool s, .slice A n c]] w (RetI w k) := by
  have HK := hide hk
  clear hk
  go_enter Try.func83, Try.ntmps83
  go_wp2_with fail
  obtain ⟨w0, hw0⟩ : ∃ w0, w0 = ((w.alloc (.cells #[.bool s, .slice A n c] 31)).alloc (.cells #[.bool false, .slice none 0 0] 31)) := ⟨_, rfl⟩
  have kw00 : Blk w0 (w.heap.size) 31 #[.bool s, .slice A n c] := by rw [hw0]; exact allocs_blk [(#[.bool s, .slice A n c], 31), (#[.bool false, .slice none 0 0], 31)] w 0 _ _ rfl
  have kw01 : Blk w0 (w.heap.size + 1) 31 #[.bool false, .slice none 0 0] := by rw [hw0]; exact allocs_blk [(#[.bool s, .slice A n c], 31), (#[.bool false, .slice none 0 0], 31)] w 1 _ _ rfl
  have fr : Fr w [(w.heap.size + 1, 2)] w0 := Fr.cons ((⟨by rw [hw0]; exact allocs_below [(#[.bool s, .slice A n c], 31), (#[.bool false, .slice none 0 0], 31)] w, fun _ h => by cases h⟩ : Fr w [] w0)) (g := w.heap.size + 1) (k := 2) (by omega) (.of_blk kw01 rfl)
  have sw0 : w0.heap.size = w.heap.size + 2 := by rw [hw0]; exact allocs_size [(#[.bool s, .slice A n c], 31), (#[.bool false, .slice none 0 0], 31)] w
  rw [← hw0]
  clear hw0
  have a0 := kw00.cell 0
  have a1 := kw00.cell 1
  have FR := hide fr
  clear kw00 kw01 fr
  go_wp2_with fail
  refine (new_k (k := k) _ ((unhide FR).in_ ha) hn (by rw [zi_not]; exact unhide HK)).mono ?_
  rintro e w2 ⟨A2, n2, c2, l2, rfl, N2, v2, o2, hw2⟩
  have fr2 := (unhide FR).below hw2
  obtain ⟨⟨x0, k0, f0⟩, ⟨x1, k1, f1⟩⟩ := fr2.two (g := w.heap.size + 1) (by simp)
  go_wp2_with fail
  exact bodyPost_ret (v := .agg #[.bool (decide (k < 0)), .slice A2 n2 c2]) (by simp [results, Try.results83, go_sem, k0, k1, f0, f1]) rfl (.fin N2 v2 o2 ((fr2.set (by simp) _).set (by simp) _).bel (by omega) (by omega))

set_option maxRecDepth 100000 in
set_option maxHeartbeats 2000000 in
theorem isub_c {A B : Option Addr} {n c m d : Nat} {a b : List Nat} {s t : Bool} {k : Int} (w : World) (ha : In w A n c a) (hb : In w B m d b) (hn : n ≤ 549755813888) (hm : m ≤ 549755813888) (hk : zi s (val a) - zi t (val b) = k) :
    Calls Try.prog 63 #[.agg #[.bool s, .slice A n c], .agg #[.bool t, .slice B m d]] w (RetI w k) := by
  have HK := hide hk
  clear hk
  obtain ⟨y, hy⟩ : ∃ y, y = -zi t (val b) := ⟨_, rfl⟩
  have HY := hide hy
  clear hy
  go_enter Try.func63, Try.ntmps63
  go_wp2_with fail
  obtain ⟨w0, hw0⟩ : ∃ w0, w0 = (((w.alloc (.cells #[.bool s, .slice A n c] 31)).alloc (.cells #[.bool t, .slice B m d] 31)).alloc (.cells #[.bool false, .slice none 0 0] 31)) := ⟨_, rfl⟩
  have kw00 : Blk w0 (w.heap.size) 31 #[.bool s, .slice A n c] := by rw [hw0]; exact allocs_blk [(#[.bool s, .slice A n c], 31), (#[.bool t, .slice B m d], 31), (#[.bool false, .slice none 0 0], 31)] w 0 _ _ rfl
  have kw01 : Blk w0 (w.heap.size + 1) 31 #[.bool t, .slice B m d] := by rw [hw0]; exact allocs_blk [(#[.bool s, .slice A n c], 31), (#[.bool t, .slice B m d], 31), (#[.bool false, .slice none 0 0], 31)] w 1 _ _ rfl
  have kw02 : Blk w0 (w.heap.size + 1 + 1) 31 #[.bool false, .slice none 0 0] := by rw [hw0]; exact allocs_blk [(#[.bool s, .slice A n c], 31), (#[.bool t, .slice B m d], 31), (#[.bool false, .slice none 0 0], 31)] w 2 _ _ rfl
  have fr : Fr w [(w.heap.size + 1 + 1, 2)] w0 := Fr.cons ((⟨by rw [hw0]; exact allocs_below [(#[.bool s, .slice A n c], 31), (#[.bool t, .slice B m d], 31), (#[.bool false, .slice none 0 0], 31)] w, fun _ h => by cases h⟩ : Fr w [] w0)) (g := w.heap.size + 1 + 1) (k := 2) (by omega) (.of_blk kw02 rfl)
  have sw0 : w0.heap.size = w.heap.size + 3 := by rw [hw0]; exact allocs_size [(#[.bool s, .slice A n c], 31), (#[.bool t, .slice B m d], 31), (#[.bool false, .slice none 0 0], 31)] w
  rw [← hw0]
  clear hw0
  have hS := And.intro (kw00.cell 0) (And.intro (kw00.cell 1) (And.intro (kw01.cell 0) (And.intro (kw01.cell 1) (hide fr))))
  clear kw00 kw01 kw02 fr
  go_region_held3 (fun w' => w'.cell? ⟨w.heap.size, 0, none⟩ = some (.bool s) ∧ w'.cell? ⟨w.heap.size, 1, none⟩ = some (.slice A n c) ∧ w'.cell? ⟨w.heap.size + 1, 0, none⟩ = some (.bool t) ∧ w'.cell? ⟨w.heap.size + 1, 1, none⟩ = some (.slice B m d) ∧ Hid (Fr w [(w.heap.size + 1 + 1, 2)] w')) (first | exact keep4 (by assumption) (by assumption) | exact drew4 (by assumption) | exact stor4 (stor4 (stor4 (stor4 (by assumption) (by simp <;> omega)) (by simp <;> omega)) (by simp <;> omega)) (by simp <;> omega) | exact stor4 (stor4 (by assumption) (by simp <;> omega)) (by simp <;> omega) | exact stor4 (by assumption) (by simp <;> omega))
    (first
      | (go_at_call 83; refine (ineg_c (k := y) _ (Fr.in_ (to4 (by assumption)) hb) (by omega) (unhide HY).symm).mono ?_; rintro e w1 ⟨A1, n1, c1, l1, rfl, N1, v1, o1, hw1⟩; have V1 := hide v1; clear v1)
      | (go_at_call 82; refine (iadd_k (k := k) _ (Fr.in_ (to4 (by assumption)) ha) o1.toIn hn (Nat.le_trans (abs_len hb N1 (by rw [unhide V1, unhide HY]; have := zi_abs t (val b); omega) o1) hm) (by rw [zi_of y (unhide V1), ← unhide HK, unhide HY]; omega)).mono ?_; rintro e w2 ⟨A2, n2, c2, l2, rfl, N2, v2, o2, hw2⟩; obtain ⟨⟨x0, k0, f0⟩, ⟨x1, k1, f1⟩⟩ := ((to4 (by assumption)).below hw2).two (g := w.heap.size + 1 + 1) (by simp)))
  have z1 : w.heap.size + 1 + 1 < w1.heap.size := by have := hw1.size; simp at this; omega
  clear sw0
  go_wp2_with fail
  exact bodyPost_ret (v := .agg #[.bool (decide (k < 0)), .slice A2 n2 c2]) (by simp [results, Try.results63, go_sem, k0, k1, f0, f1]) rfl (.fin N2 v2 o2 (to4 (by assumption)).bel (by omega) z1)

set_option maxRecDepth 100000 in
set_option maxHeartbeats 2000000 in
theorem imul_c {A B : Option Addr} {n c m d : Nat} {a b : List Nat} {s t : Bool} {k : Int} (w : World) (ha : In w A n c a) (hb : In w B m d b) (hn : n ≤ 274877906944) (hm : m ≤ 274877906944) (hk : zi s (val a) * zi t (val b) = k) :
    Calls Try.prog 69 #[.agg #[.bool s, .slice A n c], .agg #[.bool t, .slice B m d]] w (RetI w k) := by
  have HK := hide hk
  clear hk
  go_enter Try.func69, Try.ntmps69
  go_wp2_with fail
  obtain ⟨w0, hw0⟩ : ∃ w0, w0 = (((w.alloc (.cells #[.bool s, .slice A n c] 31)).alloc (.cells #[.bool t, .slice B m d] 31)).alloc (.cells #[.bool false, .slice none 0 0] 31)) := ⟨_, rfl⟩
  have kw00 : Blk w0 (w.heap.size) 31 #[.bool s, .slice A n c] := by rw [hw0]; exact allocs_blk [(#[.bool s, .slice A n c], 31), (#[.bool t, .slice B m d], 31), (#[.bool false, .slice none 0 0], 31)] w 0 _ _ rfl
  have kw01 : Blk w0 (w.heap.size + 1) 31 #[.bool t, .slice B m d] := by rw [hw0]; exact allocs_blk [(#[.bool s, .slice A n c], 31), (#[.bool t, .slice B m d], 31), (#[.bool false, .slice none 0 0], 31)] w 1 _ _ rfl
  have kw02 : Blk w0 (w.heap.size + 1 + 1) 31 #[.bool false, .slice none 0 0] := by rw [hw0]; exact allocs_blk [(#[.bool s, .slice A n c], 31), (#[.bool t, .slice B m d], 31), (#[.bool false, .slice none 0 0], 31)] w 2 _ _ rfl
  have fr : Fr w [(w.heap.size + 1 + 1, 2)] w0 := Fr.cons ((⟨by rw [hw0]; exact allocs_below [(#[.bool s, .slice A n c], 31), (#[.bool t, .slice B m d], 31), (#[.bool false, .slice none 0 0], 31)] w, fun _ h => by cases h⟩ : Fr w [] w0)) (g := w.heap.size + 1 + 1) (k := 2) (by omega) (.of_blk kw02 rfl)
  have sw0 : w0.heap.size = w.heap.size + 3 := by rw [hw0]; exact allocs_size [(#[.bool s, .slice A n c], 31), (#[.bool t, .slice B m d], 31), (#[.bool false, .slice none 0 0], 31)] w
  rw [← hw0]
  clear hw0
  have hS := And.intro (kw00.cell 0) (And.intro (kw00.cell 1) (And.intro (kw01.cell 0) (And.intro (kw01.cell 1) (hide fr))))
  clear kw00 kw01 kw02 fr
  go_region_held3 (fun w' => w'.cell? ⟨w.heap.size, 0, none⟩ = some (.bool s) ∧ w'.cell? ⟨w.heap.size, 1, none⟩ = some (.slice A n c) ∧ w'.cell? ⟨w.heap.size + 1, 0, none⟩ = some (.bool t) ∧ w'.cell? ⟨w.heap.size + 1, 1, none⟩ = some (.slice B m d) ∧ Hid (Fr w [(w.heap.size + 1 + 1, 2)] w')) (first | exact keep4 (by assumption) (by assumption) | exact drew4 (by assumption) | exact stor4 (stor4 (stor4 (stor4 (by assumption) (by simp <;> omega)) (by simp <;> omega)) (by simp <;> omega)) (by simp <;> omega) | exact stor4 (stor4 (by assumption) (by simp <;> omega)) (by simp <;> omega) | exact stor4 (by assumption) (by simp <;> omega))
    (first
      | (go_at_call 72; refine (mul_c _ (Fr.in_ (to4 (by assumption)) ha) (Fr.in_ (to4 (by assumption)) hb) (by omega) (by omega)).mono ?_; rintro e w1 ⟨A1, n1, c1, l1, rfl, N1, v1, o1, hw1⟩; have V1 := hide v1; clear v1)
      | (go_at_call 54; refine (new_k (k := k) _ o1.toIn (by have := mul_len ha hb N1 (unhide V1) o1; omega) (by rw [unhide V1, ← unhide HK, ← zi_mul])).mono ?_; rintro e w2 ⟨A2, n2, c2, l2, rfl, N2, v2, o2, hw2⟩; obtain ⟨⟨x0, k0, f0⟩, ⟨x1, k1, f1⟩⟩ := ((to4 (by assumption)).below hw2).two (g := w.heap.size + 1 + 1) (by simp)))
  have z1 : w.heap.size + 1 + 1 < w1.heap.size := by have := hw1.size; simp at this; omega
  clear sw0
  go_wp2_with fail
  exact bodyPost_ret (v := .agg #[.bool (decide (k < 0)), .slice A2 n2 c2]) (by simp [results, Try.results69, go_sem, k0, k1, f0, f1]) rfl (.fin N2 v2 o2 (to4 (by assumption)).bel (by omega) z1)

--NOTBOTH
/-- -1, 0 or 1. -/
def sgn (k : Int) : Int := if k < 0 then -1 else if k = 0 then 0 else 1
/-- The call hands back v; old memory is as it was. -/
def RetV (w : World) (v : Value) (e : Ending) (w' : World) : Prop := e = .returned v ∧ Below w.heap.size w w'

set_option maxRecDepth 100000 in
set_option maxHeartbeats 1000000 in
theorem isign_c {A : Option Addr} {n c : Nat} {a : List Nat} {s : Bool} {k : Int} (w : World) (ha : In w A n c a) (hn : n ≤ 274877906944) (hk : zi s (val a) = k) :
    Calls Try.prog 47 #[.agg #[.bool s, .slice A n c]] w (RetV w (.int .i64 (sgn k))) := by
  subst hk
  by_cases h0 : val a = 0
  · have hb : ((bitsN (val a) : Int) == 0) = true := by rw [bitsN_zero.2 h0]; rfl
    have K : Hid (sgn (zi s (val a)) = 0) := by rw [h0]; cases s <;> rfl
    clear h0
    go_enter Try.func47, Try.ntmps47
    go_wp2_with fail
    obtain ⟨w0, hw0⟩ : ∃ w0, w0 = (w.alloc (.cells #[.bool s, .slice A n c] 31)) := ⟨_, rfl⟩
    have kw00 : Blk w0 (w.heap.size) 31 #[.bool s, .slice A n c] := by rw [hw0]; exact allocs_blk [(#[.bool s, .slice A n c], 31)] w 0 _ _ rfl
    have fr : Fr w [] w0 := (⟨by rw [hw0]; exact allocs_below [(#[.bool s, .slice A n c], 31)] w, fun _ h => by cases h⟩ : Fr w [] w0)
    have sw0 : w0.heap.size = w.heap.size + 1 := by rw [hw0]; exact allocs_size [(#[.bool s, .slice A n c], 31)] w
    rw [← hw0]
    clear hw0
    have a0 := kw00.cell 0
    have a1 := kw00.cell 1
    clear kw00
    go_wp2_with fail
    refine (bitLen_c _ (fr.in_ ha) hn).mono ?_
    rintro e w' ⟨rfl, rfl⟩
    go_wp2_with fail
    go_ret
    rw [unhide K]
    exact ⟨rfl, fr.bel⟩
  · have hb : ((bitsN (val a) : Int) == 0) = false := by
      have := mt bitsN_zero.1 h0
      simp; omega
    cases s
    · have K : Hid (sgn (zi false (val a)) = 1) := by show (if ((val a : Nat) : Int) < 0 then (-1 : Int) else if ((val a : Nat) : Int) = 0 then 0 else 1) = 1; rw [if_neg (by omega), if_neg (by omega)]
      clear h0
      go_enter Try.func47, Try.ntmps47
      go_wp2_with fail
      obtain ⟨w0, hw0⟩ : ∃ w0, w0 = (w.alloc (.cells #[.bool false, .slice A n c] 31)) := ⟨_, rfl⟩
      have kw00 : Blk w0 (w.heap.size) 31 #[.bool false, .slice A n c] := by rw [hw0]; exact allocs_blk [(#[.bool false, .slice A n c], 31)] w 0 _ _ rfl
      have fr : Fr w [] w0 := (⟨by rw [hw0]; exact allocs_below [(#[.bool false, .slice A n c], 31)] w, fun _ h => by cases h⟩ : Fr w [] w0)
      have sw0 : w0.heap.size = w.heap.size + 1 := by rw [hw0]; exact allocs_size [(#[.bool false, .slice A n c], 31)] w
      rw [← hw0]
      clear hw0
      have a0 := kw00.cell 0
      have a1 := kw00.cell 1
      clear kw00
      go_wp2_with fail
      refine (bitLen_c _ (fr.in_ ha) hn).mono ?_
      rintro e w' ⟨rfl, rfl⟩
      go_wp2_with fail
      go_ret
      rw [unhide K]
      exact ⟨rfl, fr.bel⟩
    · have K : Hid (sgn (zi true (val a)) = -1) := by show (if -((val a : Nat) : Int) < 0 then (-1 : Int) else if -((val a : Nat) : Int) = 0 then 0 else 1) = -1; rw [if_pos (by omega)]
      clear h0
      go_enter Try.func47, Try.ntmps47
      go_wp2_with fail
      obtain ⟨w0, hw0⟩ : ∃ w0, w0 = (w.alloc (.cells #[.bool true, .slice A n c] 31)) := ⟨_, rfl⟩
      have kw00 : Blk w0 (w.heap.size) 31 #[.bool true, .slice A n c] := by rw [hw0]; exact allocs_blk [(#[.bool true, .slice A n c], 31)] w 0 _ _ rfl
      have fr : Fr w [] w0 := (⟨by rw [hw0]; exact allocs_below [(#[.bool true, .slice A n c], 31)] w, fun _ h => by cases h⟩ : Fr w [] w0)
      have sw0 : w0.heap.size = w.heap.size + 1 := by rw [hw0]; exact allocs_size [(#[.bool true, .slice A n c], 31)] w
      rw [← hw0]
      clear hw0
      have a0 := kw00.cell 0
      have a1 := kw00.cell 1
      clear kw00
      go_wp2_with fail
      refine (bitLen_c _ (fr.in_ ha) hn).mono ?_
      rintro e w' ⟨rfl, rfl⟩
      go_wp2_with fail
      go_ret
      rw [unhide K]
      exact ⟨rfl, fr.bel⟩

theorem k_len {w : World} {A : Option Addr} {n c K : Nat} {l : List Nat} {k : Int} (N : Norm l) (v : val l = k.natAbs) (o : In w A n c l) (h : k.natAbs < pw K) : n ≤ K := by
  have := N.length_le (k := K) (by rw [v]; exact h)
  rw [o.len] at this
  exact this
theorem zi_lt {w : World} {A : Option Addr} {n c : Nat} {l : List Nat} (s : Bool) (h : In w A n c l) : (zi s (val l)).natAbs < pw n := by
  rw [zi_abs]; exact val_lt_of h.dig (Nat.le_of_eq h.len)
theorem abs_sub_lt {x y : Int} {n m K : Nat} (hx : x.natAbs < pw n) (hy : y.natAbs < pw m) (h1 : n + 1 ≤ K) (h2 : m + 1 ≤ K) : (x - y).natAbs < pw K := by
  have := pw_add_lt hx hy h1 h2
  omega
theorem abs_add_lt {x y : Int} {n m K : Nat} (hx : x.natAbs < pw n) (hy : y.natAbs < pw m) (h1 : n + 1 ≤ K) (h2 : m + 1 ≤ K) : (x + y).natAbs < pw K := by
  have := pw_add_lt hx hy h1 h2
  omega
theorem abs_mul_lt {x y : Int} {n m K : Nat} (hx : x.natAbs < pw n) (hy : y.natAbs < pw m) (h1 : n + m ≤ K) : (x * y).natAbs < pw K := by
  rw [Int.natAbs_mul]
  exact pw_mul_lt hx hy h1

--BOTH2
set_option maxRecDepth 100000 in
set_option maxHeartbeats 2000000 in
theorem icmp_c {A B : Option Addr} {n c m d : Nat} {a b : List Nat} {s t : Bool} {k : Int} (w : World) (ha : In w A n c a) (hb : In w B m d b) (hn : n ≤ 137438953472) (hm : m ≤ 137438953472) (hk : zi s (val a) - zi t (val b) = k) :
    Calls Try.prog 39 #[.agg #[.bool s, .slice A n c], .agg #[.bool t, .slice B m d]] w (RetV w (.int .i64 (sgn k))) := by
  have hkl : Hid (k.natAbs < pw 137438953473) := by rw [← hk]; exact abs_sub_lt (zi_lt s ha) (zi_lt t hb) (by omega) (by omega)
  have HK := hide hk
  clear hk
  go_enter Try.func39, Try.ntmps39
  go_wp2_with fail
  obtain ⟨w0, hw0⟩ : ∃ w0, w0 = ((w.alloc (.cells #[.bool s, .slice A n c] 31)).alloc (.cells #[.bool t, .slice B m d] 31)) := ⟨_, rfl⟩
  have kw00 : Blk w0 (w.heap.size) 31 #[.bool s, .slice A n c] := by rw [hw0]; exact allocs_blk [(#[.bool s, .slice A n c], 31), (#[.bool t, .slice B m d], 31)] w 0 _ _ rfl
  have kw01 : Blk w0 (w.heap.size + 1) 31 #[.bool t, .slice B m d] := by rw [hw0]; exact allocs_blk [(#[.bool s, .slice A n c], 31), (#[.bool t, .slice B m d], 31)] w 1 _ _ rfl
  have fr : Fr w [] w0 := (⟨by rw [hw0]; exact allocs_below [(#[.bool s, .slice A n c], 31), (#[.bool t, .slice B m d], 31)] w, fun _ h => by cases h⟩ : Fr w [] w0)
  have sw0 : w0.heap.size = w.heap.size + 2 := by rw [hw0]; exact allocs_size [(#[.bool s, .slice A n c], 31), (#[.bool t, .slice B m d], 31)] w
  rw [← hw0]
  clear hw0
  have a0 := kw00.cell 0
  have a1 := kw00.cell 1
  have b0 := kw01.cell 0
  have b1 := kw01.cell 1
  clear kw00 kw01
  go_wp2_with fail
  refine (isub_c (k := k) _ (fr.in_ ha) (fr.in_ hb) (by omega) (by omega) (unhide HK)).mono ?_
  rintro e w1 ⟨A1, n1, c1, l1, rfl, N1, v1, o1, hw1⟩
  have b1 : n1 ≤ 137438953473 := k_len N1 v1 o1.toIn (unhide hkl)
  have V1 := hide v1
  clear v1
  go_wp2_with fail
  refine (isign_c (k := k) _ o1.toIn (by omega) (zi_of k (unhide V1))).mono ?_
  rintro e w2 ⟨rfl, hw2⟩
  go_wp2_with fail
  go_ret
  have fr2 := (fr.below hw1).below hw2
  exact ⟨rfl, fr2.bel⟩

end Go.Proofs.Ytlpnjoenkohadaa
