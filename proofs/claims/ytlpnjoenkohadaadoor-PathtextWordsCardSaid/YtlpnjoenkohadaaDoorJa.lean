/-
  The reference of chapter 2: New, Add.
-/
import Derived.Test.YtlpnjoenkohadaaDoorIa
import Derived.Test.YtlpnjoenkohadaaDoorRi
namespace Go.Proofs.YtlpnjoenkohadaaDoor
set_option linter.unusedVariables false
set_option linter.unusedSimpArgs false
open Go.RowKit
attribute [local go_sem ↓] Go.wp_at_zero Go.wp_at_succ

set_option maxRecDepth 100000 in
set_option maxHeartbeats 1000000 in
theorem rnew_c {A : Option Addr} {n c : Nat} {l : List Nat} (s : Bool) (w : World) (h : In w A n c l) (hb : n ≤ 1099511627776) :
    Calls Tryd.prog 54 #[.bool s, .slice A n c] w (RetI w (zi s (val l))) := by
  go_enter Tryd.func54, Tryd.ntmps54
  go_wp2_with fail
  obtain ⟨w0, hw0⟩ : ∃ w0, w0 = (w.alloc (.cells #[.bool false, .slice none 0 0] 64)) := ⟨_, rfl⟩
  have kw00 : Blk w0 (w.heap.size) 64 #[.bool false, .slice none 0 0] := by rw [hw0]; exact allocs_blk [(#[.bool false, .slice none 0 0], 64)] w 0 _ _ rfl
  have fr : Fr w [(w.heap.size, 2)] w0 := Fr.cons ((⟨by rw [hw0]; exact allocs_below [(#[.bool false, .slice none 0 0], 64)] w, fun _ h => by cases h⟩ : Fr w [] w0)) (g := w.heap.size) (k := 2) (by omega) (.of_blk kw00 rfl)
  have sw0 : w0.heap.size = w.heap.size + 1 := by rw [hw0]; exact allocs_size [(#[.bool false, .slice none 0 0], 64)] w
  rw [← hw0]
  clear hw0
  refine (refNormalize_c _ (fr.in_ h) hb).mono ?_
  rintro e w1 ⟨A1, n1, c1, rfl, o1, hw⟩
  have N1 := trim_norm h.dig
  have v1 := val_trim l
  have e1 : decide (0 < val l) = decide (0 < n1) := by rw [← v1, ← o1.len]; exact N1.len_pos
  have fr1 := fr.below hw
  obtain ⟨_, k0, f0⟩ := ((fr1.res (w.heap.size, 2) (by simp)).2) 0 (by omega)
  obtain ⟨_, k1, f1⟩ := ((fr1.res (w.heap.size, 2) (by simp)).2) 1 (by omega)
  have hlenI : n1 ≤ 9223372036854775807 := o1.toIn.lenI
  have fin : ∀ t, t = (s && decide (0 < n1)) → RetI w (zi s (val l)) (.returned (.agg #[.bool t, .slice A1 n1 c1])) ((w1.setCell ⟨w.heap.size, 0, none⟩ (.bool t)).setCell ⟨w.heap.size, 1, none⟩ (.slice A1 n1 c1)) := by
    intro t ht
    rw [ht, ← e1, ← zi_neg]
    exact .fin N1 (by rw [v1, zi_abs]) o1 ((fr1.bel.setCell (Nat.le_refl _) _).setCell (Nat.le_refl _) _) (Nat.le_refl _) (by omega)
  cases s
  · have F := hide (fin false rfl)
    clear fin e1 v1 sw0
    go_wp2_with fail
    exact bodyPost_ret (v := .agg #[.bool false, .slice A1 n1 c1]) (by simp [results, Tryd.results54, go_sem, k0, k1, f0, f1]) rfl (unhide F)
  · have F := hide (fin (decide (0 < n1)) rfl)
    clear fin e1 v1 sw0
    go_wp2_with fail
    exact bodyPost_ret (v := .agg #[.bool (decide (0 < n1)), .slice A1 n1 c1]) (by simp [results, Tryd.results54, go_sem, k0, k1, f0, f1]) rfl (unhide F)

theorem rnew_k {A : Option Addr} {n c : Nat} {l : List Nat} {s : Bool} {k : Int} (w : World) (h : In w A n c l) (hb : n ≤ 1099511627776) (hk : zi s (val l) = k) :
    Calls Tryd.prog 54 #[.bool s, .slice A n c] w (RetI w k) := by
  rw [← hk]; exact rnew_c s w h hb
end Go.Proofs.YtlpnjoenkohadaaDoor
