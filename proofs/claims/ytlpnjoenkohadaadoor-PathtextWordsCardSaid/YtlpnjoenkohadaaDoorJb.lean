/-
  The reference of chapter 2: Neg, Sub, Mul, Sign, Cmp.
-/
import Derived.Test.YtlpnjoenkohadaaDoorIb
import Derived.Test.YtlpnjoenkohadaaDoorJa
namespace Go.Proofs.YtlpnjoenkohadaaDoor
set_option linter.unusedVariables false
set_option linter.unusedSimpArgs false
open Go.RowKit
attribute [local go_sem ↓] Go.wp_at_zero Go.wp_at_succ

set_option maxRecDepth 100000 in
set_option maxHeartbeats 1000000 in
theorem rsign_c {A : Option Addr} {n c : Nat} {a : List Nat} {s : Bool} {k : Int} (w : World) (ha : In w A n c a) (hn : n ≤ 274877906944) (hk : zi s (val a) = k) :
    Calls Tryd.prog 53 #[.agg #[.bool s, .slice A n c]] w (RetV w (.int .i64 (sgn k))) := by
  go_enter Tryd.func53, Tryd.ntmps53
  go_wp2_with fail
  obtain ⟨w0, hw0⟩ : ∃ w0, w0 = (w.alloc (.cells #[.bool s, .slice A n c] 64)) := ⟨_, rfl⟩
  have kw00 : Blk w0 (w.heap.size) 64 #[.bool s, .slice A n c] := by rw [hw0]; exact allocs_blk [(#[.bool s, .slice A n c], 64)] w 0 _ _ rfl
  have fr : Fr w [] w0 := (⟨by rw [hw0]; exact allocs_below [(#[.bool s, .slice A n c], 64)] w, fun _ h => by cases h⟩ : Fr w [] w0)
  have sw0 : w0.heap.size = w.heap.size + 1 := by rw [hw0]; exact allocs_size [(#[.bool s, .slice A n c], 64)] w
  rw [← hw0]
  clear hw0
  have a0 := kw00.cell 0
  have a1 := kw00.cell 1
  clear kw00
  have HK := hide hk
  clear hk
  go_wp2_with fail
  refine (rnew_k (k := k) _ (fr.in_ ha) (by omega) (unhide HK)).mono ?_
  rintro e w1 ⟨A1, n1, c1, l1, rfl, N1, v1, o1, hw1⟩
  have fr1 := fr.below hw1
  have hl := o1.len
  have hlI := o1.toIn.lenI
  rcases Int.lt_trichotomy k 0 with h | h | h
  · have K : Hid (sgn k = -1) := by show _ = _; rw [sgn, if_pos h]
    have h0 : ((n1 : Int) == 0) = false := by
      have : n1 ≠ 0 := by
        intro e
        rw [e] at hl
        rw [List.length_eq_zero_iff.1 hl, val_nil] at v1
        omega
      simp; omega
    rw [decide_eq_true h]
    clear h hl v1
    go_wp2_with fail
    go_ret
    rw [unhide K]
    exact ⟨rfl, by first | exact fr1.bel.alloc fr1.bel.size _ | exact ((fr1.bel.alloc fr1.bel.size _).setCell fr1.bel.size _).setCell fr1.bel.size _⟩
  · have K : Hid (sgn k = 0) := by show _ = _; rw [sgn, if_neg (by omega), if_pos h]
    have h0 : n1 = 0 := by
      rw [← hl, N1.zero (by rw [v1, h]; rfl)]; rfl
    subst h0
    rw [decide_eq_false (by omega : ¬ k < 0)]
    clear h hl v1
    go_wp2_with fail
    go_ret
    rw [unhide K]
    exact ⟨rfl, by first | exact fr1.bel.alloc fr1.bel.size _ | exact ((fr1.bel.alloc fr1.bel.size _).setCell fr1.bel.size _).setCell fr1.bel.size _⟩
  · have K : Hid (sgn k = 1) := by show _ = _; rw [sgn, if_neg (by omega), if_neg (by omega)]
    have h0 : ((n1 : Int) == 0) = false := by
      have : n1 ≠ 0 := by
        intro e
        rw [e] at hl
        rw [List.length_eq_zero_iff.1 hl, val_nil] at v1
        omega
      simp; omega
    rw [decide_eq_false (by omega : ¬ k < 0)]
    clear h hl v1
    go_wp2_with fail
    go_ret
    rw [unhide K]
    exact ⟨rfl, by first | exact fr1.bel.alloc fr1.bel.size _ | exact ((fr1.bel.alloc fr1.bel.size _).setCell fr1.bel.size _).setCell fr1.bel.size _⟩

end Go.Proofs.YtlpnjoenkohadaaDoor
