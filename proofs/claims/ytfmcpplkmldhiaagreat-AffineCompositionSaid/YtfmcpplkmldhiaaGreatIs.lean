/-
  Integers: the closure that applies a sign.
-/
import Derived.Test.YtfmcpplkmldhiaaGreatIc
namespace Go.Proofs.YtfmcpplkmldhiaaGreat
set_option linter.unusedVariables false
set_option linter.unusedSimpArgs false
open Go.RowKit
attribute [local go_sem ↓] Go.wp_at_zero Go.wp_at_succ

set_option maxRecDepth 100000 in
set_option maxHeartbeats 1000000 in
theorem signed_c (s : Bool) (w : World) :
    Calls Tryz.prog 124 #[.bool s] w (fun e w' => e = .returned (.func (Fn.func 139) #[] #[.pointer (some ⟨w.heap.size, 0, none⟩)]) ∧ w' = w.alloc (.cells #[.bool s] 4)) := by
  go_enter Tryz.func124, Tryz.ntmps124
  go_wp2_with fail
  go_ret
  exact ⟨rfl, rfl⟩

set_option maxRecDepth 100000 in
set_option maxHeartbeats 1000000 in
theorem signed1_c {A : Option Addr} {n c g : Nat} {l : List Nat} {s : Bool} {k : Int} (w : World) (h : In w A n c l) (hc : w.cell? ⟨g, 0, none⟩ = some (.bool s)) (hb : n ≤ 1099511627776) (hk : zi s (val l) = k) :
    Calls Tryz.prog 139 #[.slice A n c, .pointer (some ⟨g, 0, none⟩)] w (RetI w k) := by
  have HK := hide hk
  clear hk
  have hg := World.block_lt_of_cell? w ⟨g, 0, none⟩ hc
  simp only at hg
  have hc2 : (w.alloc (.cells #[.bool false, .slice none 0 0] 24)).cell? ⟨g, 0, none⟩ = some (.bool s) := (World.cell?_alloc_lt _ _ _ hg).trans hc
  go_enter Tryz.func139, Tryz.ntmps139
  go_wp2_with fail
  obtain ⟨w0, hw0⟩ : ∃ w0, w0 = (w.alloc (.cells #[.bool false, .slice none 0 0] 24)) := ⟨_, rfl⟩
  have kw00 : Blk w0 (w.heap.size) 24 #[.bool false, .slice none 0 0] := by rw [hw0]; exact allocs_blk [(#[.bool false, .slice none 0 0], 24)] w 0 _ _ rfl
  have fr : Fr w [(w.heap.size, 2)] w0 := Fr.cons ((⟨by rw [hw0]; exact allocs_below [(#[.bool false, .slice none 0 0], 24)] w, fun _ h => by cases h⟩ : Fr w [] w0)) (g := w.heap.size) (k := 2) (by omega) (.of_blk kw00 rfl)
  have sw0 : w0.heap.size = w.heap.size + 1 := by rw [hw0]; exact allocs_size [(#[.bool false, .slice none 0 0], 24)] w
  rw [← hw0]
  clear hw0
  refine (new_k (k := k) _ (fr.in_ h) hb (unhide HK)).mono ?_
  rintro e w2 ⟨A2, n2, c2, l2, rfl, N2, v2, o2, hw2⟩
  have fr2 := fr.below hw2
  obtain ⟨⟨x0, k0, f0⟩, ⟨x1, k1, f1⟩⟩ := fr2.two (g := w.heap.size) (by simp)
  clear hc2
  go_wp2_with fail
  exact bodyPost_ret (v := .agg #[.bool (decide (k < 0)), .slice A2 n2 c2]) (by simp [results, Tryz.results139, go_sem, k0, k1, f0, f1]) rfl (.fin N2 v2 o2 ((fr2.set (by simp) _).set (by simp) _).bel (by omega) (by omega))

/-- Floor division by absolute values and signs. -/
theorem fdiv_signs (x y : Int) (hy : y ≠ 0) : zi (!(decide (x < 0) == decide (y < 0))) (x.natAbs / y.natAbs + if (!(decide (x < 0) == decide (y < 0))) && decide (0 < x.natAbs % y.natAbs) then 1 else 0) = x.fdiv y := by
  have hpos : ∀ (a b q r : Nat), 0 < b → b * q + r = a → r < b → (a : Int).fdiv b = q ∧ (-(a : Int)).fdiv b = -((q + if 0 < r then 1 else 0 : Nat) : Int) := by
    intro a b q r hb h hr
    have hb' : (0 : Int) ≤ (b : Int) := by omega
    rw [Int.fdiv_eq_ediv_of_nonneg _ hb', Int.fdiv_eq_ediv_of_nonneg _ hb']
    constructor
    · exact ((Int.ediv_emod_unique (by omega)).2 ⟨(by rw [← h]; push_cast; rw [Int.add_comm]), by omega, by omega⟩).1
    · by_cases h0 : 0 < r
      · rw [if_pos h0]
        refine ((Int.ediv_emod_unique (r := (b : Int) - r) (by omega)).2 ⟨?_, by omega, by omega⟩).1
        rw [← h]; push_cast; grind
      · obtain rfl : r = 0 := by omega
        rw [if_neg h0]
        refine ((Int.ediv_emod_unique (r := 0) (by omega)).2 ⟨?_, by omega, by omega⟩).1
        rw [← h]; push_cast; grind
  obtain ⟨h1, h2⟩ := hpos x.natAbs y.natAbs (x.natAbs / y.natAbs) (x.natAbs % y.natAbs) (by omega) (Nat.div_add_mod _ _) (Nat.mod_lt _ (by omega))
  by_cases hx : x < 0 <;> by_cases hy' : y < 0
  · rw [decide_eq_true hx, decide_eq_true hy']
    have e : x.fdiv y = (x.natAbs : Int).fdiv y.natAbs := by rw [← Int.neg_fdiv_neg, show -x = x.natAbs by omega, show -y = y.natAbs by omega]
    rw [e, h1]; simp [zi]
  · rw [decide_eq_true hx, decide_eq_false hy']
    have e : x.fdiv y = (-(x.natAbs : Int)).fdiv y.natAbs := by rw [show -(x.natAbs : Int) = x by omega, show (y.natAbs : Int) = y by omega]
    rw [e, h2]; simp [zi]
  · rw [decide_eq_false hx, decide_eq_true hy']
    have e : x.fdiv y = (-(x.natAbs : Int)).fdiv y.natAbs := by rw [← Int.neg_fdiv_neg, show -x = -(x.natAbs : Int) by omega, show -y = y.natAbs by omega]
    rw [e, h2]; simp [zi]
  · rw [decide_eq_false hx, decide_eq_false hy']
    have e : x.fdiv y = (x.natAbs : Int).fdiv y.natAbs := by rw [show (x.natAbs : Int) = x by omega, show (y.natAbs : Int) = y by omega]
    rw [e, h1]; simp [zi]

end Go.Proofs.YtfmcpplkmldhiaaGreat
