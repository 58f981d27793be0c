/-
  Integers: what a struct of sign and digits means; integer.New, Add.
-/
import Derived.Test.YtlpnjoenkohadaaDoorHeld
namespace Go.Proofs.YtlpnjoenkohadaaDoor
set_option linter.unusedVariables false
set_option linter.unusedSimpArgs false
open Go.RowKit
attribute [local go_sem ↓] Go.wp_at_zero Go.wp_at_succ

/-- The number of a sign and an absolute value. -/
def zi (s : Bool) (v : Nat) : Int := if s then -(v : Int) else (v : Int)
theorem zi_abs (s : Bool) (v : Nat) : (zi s v).natAbs = v := by cases s <;> simp [zi]
theorem zi_neg (s : Bool) (v : Nat) : decide (zi s v < 0) = (s && decide (0 < v)) := by
  cases s <;> simp [zi] <;> omega
/-- The call hands back the integer k, normalized, in new memory. -/
def RetI (w : World) (k : Int) (e : Ending) (w' : World) : Prop :=
  ∃ A n c l, e = .returned (.agg #[.bool (decide (k < 0)), .slice A n c]) ∧ Norm l ∧ val l = k.natAbs ∧ Own w' w.heap.size A n c l ∧ Below w.heap.size w w'
theorem Norm.len_pos {l : List Nat} (h : Norm l) : decide (0 < val l) = decide (0 < l.length) := by
  by_cases e : l = []
  · subst e; rfl
  · have h1 := h.pos e
    have h2 := pw_pos (l.length - 1)
    have h3 := List.length_pos_iff.2 e
    rw [decide_eq_true (by omega), decide_eq_true h3]
theorem RetI.fin {w w2 : World} {k : Int} {A : Option Addr} {n c B g : Nat} {l : List Nat} {x y : Value} (N : Norm l) (v : val l = k.natAbs) (o : Own w2 B A n c l) (hb : Below w.heap.size w ((w2.setCell ⟨g, 0, none⟩ x).setCell ⟨g, 1, none⟩ y)) (h1 : w.heap.size ≤ g) (h2 : g < B) :
    RetI w k (.returned (.agg #[.bool (decide (k < 0)), .slice A n c])) ((w2.setCell ⟨g, 0, none⟩ x).setCell ⟨g, 1, none⟩ y) :=
  ⟨A, n, c, l, rfl, N, v, ((o.set h2 _).set h2 _).base (by omega), hb⟩

set_option maxRecDepth 100000 in
set_option maxHeartbeats 1000000 in
theorem new_c {A : Option Addr} {n c : Nat} {l : List Nat} (s : Bool) (w : World) (h : In w A n c l) (hb : n ≤ 1099511627776) :
    Calls Tryd.prog 48 #[.bool s, .slice A n c] w (RetI w (zi s (val l))) := by
  go_enter Tryd.func48, Tryd.ntmps48
  go_wp2_with fail
  obtain ⟨w0, hw0⟩ : ∃ w0, w0 = (w.alloc (.cells #[.bool false, .slice none 0 0] 64)) := ⟨_, rfl⟩
  have kw00 : Blk w0 (w.heap.size) 64 #[.bool false, .slice none 0 0] := by rw [hw0]; exact allocs_blk [(#[.bool false, .slice none 0 0], 64)] w 0 _ _ rfl
  have fr : Fr w [(w.heap.size, 2)] w0 := Fr.cons ((⟨by rw [hw0]; exact allocs_below [(#[.bool false, .slice none 0 0], 64)] w, fun _ h => by cases h⟩ : Fr w [] w0)) (g := w.heap.size) (k := 2) (by omega) (.of_blk kw00 rfl)
  have sw0 : w0.heap.size = w.heap.size + 1 := by rw [hw0]; exact allocs_size [(#[.bool false, .slice none 0 0], 64)] w
  rw [← hw0]
  clear hw0
  refine (normalize_c _ (fr.in_ h) hb).mono ?_
  rintro e w1 ⟨A1, n1, c1, rfl, o1, hw⟩
  have N1 := trim_norm h.dig
  have v1 := val_trim l
  have e1 : decide (0 < val l) = decide (0 < n1) := by rw [← v1, ← o1.len]; exact N1.len_pos
  have fr1 := fr.below hw
  obtain ⟨_, k0, f0⟩ := ((fr1.res (w.heap.size, 2) (by simp)).2) 0 (by omega)
  obtain ⟨_, k1, f1⟩ := ((fr1.res (w.heap.size, 2) (by simp)).2) 1 (by omega)
  have hlenI : n1 ≤ 9223372036854775807 := o1.toIn.lenI
  have fin : ∀ t, t = (s && decide (0 < n1)) → RetI w (zi s (val l)) (.returned (.agg #[.bool t, .slice A1 n1 c1])) ((w1.setCell ⟨w.heap.size, 0, none⟩ (.bool t)).setCell ⟨w.heap.size, 1, none⟩ (.slice A1 n1 c1)) := by
    intro t ht
    rw [ht, ← e1, ← zi_neg]
    exact .fin N1 (by rw [v1, zi_abs]) o1 ((fr1.bel.setCell (Nat.le_refl _) _).setCell (Nat.le_refl _) _) (Nat.le_refl _) (by omega)
  cases s
  · have F := hide (fin false rfl)
    clear fin e1 v1 sw0
    go_wp2_with fail
    exact bodyPost_ret (v := .agg #[.bool false, .slice A1 n1 c1]) (by simp [results, Tryd.results48, go_sem, k0, k1, f0, f1]) rfl (unhide F)
  · have F := hide (fin (decide (0 < n1)) rfl)
    clear fin e1 v1 sw0
    go_wp2_with fail
    exact bodyPost_ret (v := .agg #[.bool (decide (0 < n1)), .slice A1 n1 c1]) (by simp [results, Tryd.results48, go_sem, k0, k1, f0, f1]) rfl (unhide F)

theorem new_k {A : Option Addr} {n c : Nat} {l : List Nat} {s : Bool} {k : Int} (w : World) (h : In w A n c l) (hb : n ≤ 1099511627776) (hk : zi s (val l) = k) :
    Calls Tryd.prog 48 #[.bool s, .slice A n c] w (RetI w k) := by
  rw [← hk]; exact new_c s w h hb
theorem sum_len {w w1 : World} {A B C : Option Addr} {n c m d k e g : Nat} {a b l : List Nat} (ha : In w A n c a) (hb : In w B m d b) (N : Norm l) (v : val l = val a + val b) (o : Own w1 g C k e l) (hn : n ≤ 549755813888) (hm : m ≤ 549755813888) : k ≤ 1099511627776 := by
  have h1 := val_lt_of ha.dig (Nat.le_trans (Nat.le_of_eq ha.len) hn)
  have h2 := val_lt_of hb.dig (Nat.le_trans (Nat.le_of_eq hb.len) hm)
  have h3 := N.length_le (k := 549755813889) (by rw [v]; exact pw_add_lt h1 h2 (Nat.le_refl _) (Nat.le_refl _))
  rw [o.len] at h3
  omega
theorem zi_add (s : Bool) (a b : Nat) : zi s (a + b) = zi s a + zi s b := by cases s <;> simp [zi] <;> omega

theorem zi_sub (s t : Bool) (a b : Nat) (h : (s == t) = false) (hle : b ≤ a) : zi s (a - b) = zi s a + zi t b := by cases s <;> cases t <;> simp [zi] at * <;> omega
theorem zi_bus (s t : Bool) (a b : Nat) (h : (s == t) = false) (hle : a ≤ b) : zi t (b - a) = zi s a + zi t b := by cases s <;> cases t <;> simp [zi] at * <;> omega
theorem dif_len {w w1 : World} {A C : Option Addr} {n c k e g x : Nat} {a l : List Nat} (ha : In w A n c a) (N : Norm l) (v : val l = val a - x) (o : Own w1 g C k e l) : k ≤ n := by
  have h1 := val_lt_of ha.dig (Nat.le_of_eq ha.len)
  have h3 := N.length_le (k := n) (by rw [v]; omega)
  rw [o.len] at h3
  exact h3

end Go.Proofs.YtlpnjoenkohadaaDoor
