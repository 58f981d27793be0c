/-
  The reference of chapter 2: Neg, Sub, Mul, Sign, Cmp.
-/
import Derived.Test.YtlpnjoenkohadaaIb
import Derived.Test.YtlpnjoenkohadaaJa
namespace Go.Proofs.Ytlpnjoenkohadaa
set_option linter.unusedVariables false
set_option linter.unusedSimpArgs false
open Go.RowKit
attribute [local go_sem ↓] Go.wp_at_zero Go.wp_at_succ

theorem radd_k {A B : Option Addr} {n c m d : Nat} {a b : List Nat} {s t : Bool} {k : Int} (w : World) (ha : In w A n c a) (hb : In w B m d b) (hn : n ≤ 549755813888) (hm : m ≤ 549755813888) (hk : zi s (val a) + zi t (val b) = k) :
    Calls Try.prog 84 #[.agg #[.bool s, .slice A n c], .agg #[.bool t, .slice B m d]] w (RetI w k) := by
  rw [← hk]; exact radd_c s t w ha hb hn hm

set_option maxRecDepth 100000 in
set_option maxHeartbeats 2000000 in
theorem rneg_c {A : Option Addr} {n c : Nat} {a : List Nat} {s : Bool} {k : Int} (w : World) (ha : In w A n c a) (hn : n ≤ 1099511627776) (hk : -zi s (val a) = k) :
    Calls Try.prog 85 #[.agg #[.bool s, .slice A n c]] w (RetI w k) := by
  have HK := hide hk
  clear hk
  go_enter Try.func85, Try.ntmps85
  go_wp2_with fail
  obtain ⟨w0, hw0⟩ : ∃ w0, w0 = ((w.alloc (.cells #[.bool s, .slice A n c] 31)).alloc (.cells #[.bool false, .slice none 0 0] 31)) := ⟨_, rfl⟩
  have kw00 : Blk w0 (w.heap.size) 31 #[.bool s, .slice A n c] := by rw [hw0]; exact allocs_blk [(#[.bool s, .slice A n c], 31), (#[.bool false, .slice none 0 0], 31)] w 0 _ _ rfl
  have kw01 : Blk w0 (w.heap.size + 1) 31 #[.bool false, .slice none 0 0] := by rw [hw0]; exact allocs_blk [(#[.bool s, .slice A n c], 31), (#[.bool false, .slice none 0 0], 31)] w 1 _ _ rfl
  have fr : Fr w [(w.heap.size + 1, 2)] w0 := Fr.cons ((⟨by rw [hw0]; exact allocs_below [(#[.bool s, .slice A n c], 31), (#[.bool false, .slice none 0 0], 31)] w, fun _ h => by cases h⟩ : Fr w [] w0)) (g := w.heap.size + 1) (k := 2) (by omega) (.of_blk kw01 rfl)
  have sw0 : w0.heap.size = w.heap.size + 2 := by rw [hw0]; exact allocs_size [(#[.bool s, .slice A n c], 31), (#[.bool false, .slice none 0 0], 31)] w
  rw [← hw0]
  clear hw0
  have a0 := kw00.cell 0
  have a1 := kw00.cell 1
  have FR := hide fr
  clear kw00 kw01 fr
  go_wp2_with fail
  refine (rnew_k (k := k) _ ((unhide FR).in_ ha) hn (by rw [zi_not]; exact unhide HK)).mono ?_
  rintro e w2 ⟨A2, n2, c2, l2, rfl, N2, v2, o2, hw2⟩
  have fr2 := (unhide FR).below hw2
  obtain ⟨⟨x0, k0, f0⟩, ⟨x1, k1, f1⟩⟩ := fr2.two (g := w.heap.size + 1) (by simp)
  go_wp2_with fail
  exact bodyPost_ret (v := .agg #[.bool (decide (k < 0)), .slice A2 n2 c2]) (by simp [results, Try.results85, go_sem, k0, k1, f0, f1]) rfl (.fin N2 v2 o2 ((fr2.set (by simp) _).set (by simp) _).bel (by omega) (by omega))

set_option maxRecDepth 100000 in
set_option maxHeartbeats 2000000 in
theorem rsub_c {A B : Option Addr} {n c m d : Nat} {a b : List Nat} {s t : Bool} {k : Int} (w : World) (ha : In w A n c a) (hb : In w B m d b) (hn : n ≤ 549755813888) (hm : m ≤ 549755813888) (hk : zi s (val a) - zi t (val b) = k) :
    Calls Try.prog 64 #[.agg #[.bool s, .slice A n c], .agg #[.bool t, .slice B m d]] w (RetI w k) := by
  have HK := hide hk
  clear hk
  obtain ⟨y, hy⟩ : ∃ y, y = -zi t (val b) := ⟨_, rfl⟩
  have HY := hide hy
  clear hy
  go_enter Try.func64, Try.ntmps64
  go_wp2_with fail
  obtain ⟨w0, hw0⟩ : ∃ w0, w0 = (((w.alloc (.cells #[.bool s, .slice A n c] 31)).alloc (.cells #[.bool t, .slice B m d] 31)).alloc (.cells #[.bool false, .slice none 0 0] 31)) := ⟨_, rfl⟩
  have kw00 : Blk w0 (w.heap.size) 31 #[.bool s, .slice A n c] := by rw [hw0]; exact allocs_blk [(#[.bool s, .slice A n c], 31), (#[.bool t, .slice B m d], 31), (#[.bool false, .slice none 0 0], 31)] w 0 _ _ rfl
  have kw01 : Blk w0 (w.heap.size + 1) 31 #[.bool t, .slice B m d] := by rw [hw0]; exact allocs_blk [(#[.bool s, .slice A n c], 31), (#[.bool t, .slice B m d], 31), (#[.bool false, .slice none 0 0], 31)] w 1 _ _ rfl
  have kw02 : Blk w0 (w.heap.size + 1 + 1) 31 #[.bool false, .slice none 0 0] := by rw [hw0]; exact allocs_blk [(#[.bool s, .slice A n c], 31), (#[.bool t, .slice B m d], 31), (#[.bool false, .slice none 0 0], 31)] w 2 _ _ rfl
  have fr : Fr w [(w.heap.size + 1 + 1, 2)] w0 := Fr.cons ((⟨by rw [hw0]; exact allocs_below [(#[.bool s, .slice A n c], 31), (#[.bool t, .slice B m d], 31), (#[.bool false, .slice none 0 0], 31)] w, fun _ h => by cases h⟩ : Fr w [] w0)) (g := w.heap.size + 1 + 1) (k := 2) (by omega) (.of_blk kw02 rfl)
  have sw0 : w0.heap.size = w.heap.size + 3 := by rw [hw0]; exact allocs_size [(#[.bool s, .slice A n c], 31), (#[.bool t, .slice B m d], 31), (#[.bool false, .slice none 0 0], 31)] w
  rw [← hw0]
  clear hw0
  have hS := And.intro (kw00.cell 0) (And.intro (kw00.cell 1) (And.intro (kw01.cell 0) (And.intro (kw01.cell 1) (hide fr))))
  clear kw00 kw01 kw02 fr
  go_region_held3 (fun w' => w'.cell? ⟨w.heap.size, 0, none⟩ = some (.bool s) ∧ w'.cell? ⟨w.heap.size, 1, none⟩ = some (.slice A n c) ∧ w'.cell? ⟨w.heap.size + 1, 0, none⟩ = some (.bool t) ∧ w'.cell? ⟨w.heap.size + 1, 1, none⟩ = some (.slice B m d) ∧ Hid (Fr w [(w.heap.size + 1 + 1, 2)] w')) (first | exact keep4 (by assumption) (by assumption) | exact drew4 (by assumption) | exact stor4 (stor4 (stor4 (stor4 (by assumption) (by simp <;> omega)) (by simp <;> omega)) (by simp <;> omega)) (by simp <;> omega) | exact stor4 (stor4 (by assumption) (by simp <;> omega)) (by simp <;> omega) | exact stor4 (by assumption) (by simp <;> omega))
    (first
      | (go_at_call 85; refine (rneg_c (k := y) _ (Fr.in_ (to4 (by assumption)) hb) (by omega) (unhide HY).symm).mono ?_; rintro e w1 ⟨A1, n1, c1, l1, rfl, N1, v1, o1, hw1⟩; have V1 := hide v1; clear v1)
      | (go_at_call 84; refine (radd_k (k := k) _ (Fr.in_ (to4 (by assumption)) ha) o1.toIn hn (Nat.le_trans (abs_len hb N1 (by rw [unhide V1, unhide HY]; have := zi_abs t (val b); omega) o1) hm) (by rw [zi_of y (unhide V1), ← unhide HK, unhide HY]; omega)).mono ?_; rintro e w2 ⟨A2, n2, c2, l2, rfl, N2, v2, o2, hw2⟩; obtain ⟨⟨x0, k0, f0⟩, ⟨x1, k1, f1⟩⟩ := ((to4 (by assumption)).below hw2).two (g := w.heap.size + 1 + 1) (by simp)))
  have z1 : w.heap.size + 1 + 1 < w1.heap.size := by have := hw1.size; simp at this; omega
  clear sw0
  go_wp2_with fail
  exact bodyPost_ret (v := .agg #[.bool (decide (k < 0)), .slice A2 n2 c2]) (by simp [results, Try.results64, go_sem, k0, k1, f0, f1]) rfl (.fin N2 v2 o2 (to4 (by assumption)).bel (by omega) z1)

set_option maxRecDepth 100000 in
set_option maxHeartbeats 1000000 in
theorem rsign_c {A : Option Addr} {n c : Nat} {a : List Nat} {s : Bool} {k : Int} (w : World) (ha : In w A n c a) (hn : n ≤ 274877906944) (hk : zi s (val a) = k) :
    Calls Try.prog 61 #[.agg #[.bool s, .slice A n c]] w (RetV w (.int .i64 (sgn k))) := by
  go_enter Try.func61, Try.ntmps61
  go_wp2_with fail
  obtain ⟨w0, hw0⟩ : ∃ w0, w0 = (w.alloc (.cells #[.bool s, .slice A n c] 31)) := ⟨_, rfl⟩
  have kw00 : Blk w0 (w.heap.size) 31 #[.bool s, .slice A n c] := by rw [hw0]; exact allocs_blk [(#[.bool s, .slice A n c], 31)] w 0 _ _ rfl
  have fr : Fr w [] w0 := (⟨by rw [hw0]; exact allocs_below [(#[.bool s, .slice A n c], 31)] w, fun _ h => by cases h⟩ : Fr w [] w0)
  have sw0 : w0.heap.size = w.heap.size + 1 := by rw [hw0]; exact allocs_size [(#[.bool s, .slice A n c], 31)] w
  rw [← hw0]
  clear hw0
  have a0 := kw00.cell 0
  have a1 := kw00.cell 1
  clear kw00
  have HK := hide hk
  clear hk
  go_wp2_with fail
  refine (rnew_k (k := k) _ (fr.in_ ha) (by omega) (unhide HK)).mono ?_
  rintro e w1 ⟨A1, n1, c1, l1, rfl, N1, v1, o1, hw1⟩
  have fr1 := fr.below hw1
  have hl := o1.len
  have hlI := o1.toIn.lenI
  rcases Int.lt_trichotomy k 0 with h | h | h
  · have K : Hid (sgn k = -1) := by show _ = _; rw [sgn, if_pos h]
    have h0 : ((n1 : Int) == 0) = false := by
      have : n1 ≠ 0 := by
        intro e
        rw [e] at hl
        rw [List.length_eq_zero_iff.1 hl, val_nil] at v1
        omega
      simp; omega
    rw [decide_eq_true h]
    clear h hl v1
    go_wp2_with fail
    go_ret
    rw [unhide K]
    exact ⟨rfl, by first | exact fr1.bel.alloc fr1.bel.size _ | exact ((fr1.bel.alloc fr1.bel.size _).setCell fr1.bel.size _).setCell fr1.bel.size _⟩
  · have K : Hid (sgn k = 0) := by show _ = _; rw [sgn, if_neg (by omega), if_pos h]
    have h0 : n1 = 0 := by
      rw [← hl, N1.zero (by rw [v1, h]; rfl)]; rfl
    subst h0
    rw [decide_eq_false (by omega : ¬ k < 0)]
    clear h hl v1
    go_wp2_with fail
    go_ret
    rw [unhide K]
    exact ⟨rfl, by first | exact fr1.bel.alloc fr1.bel.size _ | exact ((fr1.bel.alloc fr1.bel.size _).setCell fr1.bel.size _).setCell fr1.bel.size _⟩
  · have K : Hid (sgn k = 1) := by show _ = _; rw [sgn, if_neg (by omega), if_neg (by omega)]
    have h0 : ((n1 : Int) == 0) = false := by
      have : n1 ≠ 0 := by
        intro e
        rw [e] at hl
        rw [List.length_eq_zero_iff.1 hl, val_nil] at v1
        omega
      simp; omega
    rw [decide_eq_false (by omega : ¬ k < 0)]
    clear h hl v1
    go_wp2_with fail
    go_ret
    rw [unhide K]
    exact ⟨rfl, by first | exact fr1.bel.alloc fr1.bel.size _ | exact ((fr1.bel.alloc fr1.bel.size _).setCell fr1.bel.size _).setCell fr1.bel.size _⟩

set_option maxRecDepth 100000 in
set_option maxHeartbeats 2000000 in
theorem rcmp_c {A B : Option Addr} {n c m d : Nat} {a b : List Nat} {s t : Bool} {k : Int} (w : World) (ha : In w A n c a) (hb : In w B m d b) (hn : n ≤ 137438953472) (hm : m ≤ 137438953472) (hk : zi s (val a) - zi t (val b) = k) :
    Calls Try.prog 41 #[.agg #[.bool s, .slice A n c], .agg #[.bool t, .slice B m d]] w (RetV w (.int .i64 (sgn k))) := by
  have hkl : Hid (k.natAbs < pw 137438953473) := by rw [← hk]; exact abs_sub_lt (zi_lt s ha) (zi_lt t hb) (by omega) (by omega)
  have HK := hide hk
  clear hk
  go_enter Try.func41, Try.ntmps41
  go_wp2_with fail
  obtain ⟨w0, hw0⟩ : ∃ w0, w0 = ((w.alloc (.cells #[.bool s, .slice A n c] 31)).alloc (.cells #[.bool t, .slice B m d] 31)) := ⟨_, rfl⟩
  have kw00 : Blk w0 (w.heap.size) 31 #[.bool s, .slice A n c] := by rw [hw0]; exact allocs_blk [(#[.bool s, .slice A n c], 31), (#[.bool t, .slice B m d], 31)] w 0 _ _ rfl
  have kw01 : Blk w0 (w.heap.size + 1) 31 #[.bool t, .slice B m d] := by rw [hw0]; exact allocs_blk [(#[.bool s, .slice A n c], 31), (#[.bool t, .slice B m d], 31)] w 1 _ _ rfl
  have fr : Fr w [] w0 := (⟨by rw [hw0]; exact allocs_below [(#[.bool s, .slice A n c], 31), (#[.bool t, .slice B m d], 31)] w, fun _ h => by cases h⟩ : Fr w [] w0)
  have sw0 : w0.heap.size = w.heap.size + 2 := by rw [hw0]; exact allocs_size [(#[.bool s, .slice A n c], 31), (#[.bool t, .slice B m d], 31)] w
  rw [← hw0]
  clear hw0
  have a0 := kw00.cell 0
  have a1 := kw00.cell 1
  have b0 := kw01.cell 0
  have b1 := kw01.cell 1
  clear kw00 kw01
  go_wp2_with fail
  refine (rsub_c (k := k) _ (fr.in_ ha) (fr.in_ hb) (by omega) (by omega) (unhide HK)).mono ?_
  rintro e w1 ⟨A1, n1, c1, l1, rfl, N1, v1, o1, hw1⟩
  have b1 : n1 ≤ 137438953473 := k_len N1 v1 o1.toIn (unhide hkl)
  have V1 := hide v1
  clear v1
  go_wp2_with fail
  refine (rsign_c (k := k) _ o1.toIn (by omega) (zi_of k (unhide V1))).mono ?_
  rintro e w2 ⟨rfl, hw2⟩
  go_wp2_with fail
  go_ret
  have fr2 := (fr.below hw1).below hw2
  exact ⟨rfl, fr2.bel⟩

end Go.Proofs.Ytlpnjoenkohadaa
