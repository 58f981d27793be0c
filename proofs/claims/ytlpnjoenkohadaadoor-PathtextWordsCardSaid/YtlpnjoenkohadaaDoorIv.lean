/-
  Integers: contracts in terms of numbers and bounds on digits.
-/
import Derived.Test.YtlpnjoenkohadaaDoorId
import Derived.Test.YtlpnjoenkohadaaDoorJc
namespace Go.Proofs.YtlpnjoenkohadaaDoor
set_option linter.unusedVariables false
set_option linter.unusedSimpArgs false
open Go.RowKit

/-- The struct '.agg #[.bool s, .slice A n c]' is the integer x, of at most K digits. -/
structure II (w : World) (s : Bool) (A : Option Addr) (n c : Nat) (l : List Nat) (x : Int) (K : Nat) : Prop where
  inn : In w A n c l
  zi : zi s (val l) = x
  le : n ≤ K
theorem II.below {w w' : World} {s : Bool} {A : Option Addr} {n c : Nat} {l : List Nat} {x : Int} {K : Nat} (h : II w s A n c l x K) (hb : Below w.heap.size w w') : II w' s A n c l x K := ⟨h.inn.below hb, h.zi, h.le⟩
theorem II.drew {w : World} {s : Bool} {A : Option Addr} {n c : Nat} {l : List Nat} {x : Int} {K : Nat} (h : II w s A n c l x K) : II w.drew s A n c l x K := ⟨h.inn.drew, h.zi, h.le⟩
theorem II.drewN {w : World} {s : Bool} {A : Option Addr} {n c : Nat} {l : List Nat} {x : Int} {K : Nat} (h : II w s A n c l x K) (q : Nat) : II (w.drewN q) s A n c l x K := ⟨h.inn.drewN q, h.zi, h.le⟩
theorem Fr.ii {w : World} {rs : List (Nat × Nat)} {w1 : World} (h : Fr w rs w1) {s : Bool} {A : Option Addr} {n c : Nat} {l : List Nat} {x : Int} {K : Nat} (ha : II w s A n c l x K) : II w1 s A n c l x K := ha.below h.bel
theorem II.lt {w : World} {s : Bool} {A : Option Addr} {n c : Nat} {l : List Nat} {x : Int} {K : Nat} (h : II w s A n c l x K) : x.natAbs < pw K := by
  rw [← h.zi]; exact Nat.lt_of_lt_of_le (zi_lt s h.inn) (pw_le h.le)
theorem II.abs {w : World} {s : Bool} {A : Option Addr} {n c : Nat} {l : List Nat} {x : Int} {K : Nat} (h : II w s A n c l x K) : x.natAbs = val l := by
  rw [← h.zi, zi_abs]

/-- .. normalized, in new memory. -/
def RetII (w : World) (k : Int) (K : Nat) (e : Ending) (w' : World) : Prop :=
  ∃ A n c l, e = .returned (.agg #[.bool (decide (k < 0)), .slice A n c]) ∧ Norm l ∧ Own w' w.heap.size A n c l ∧ II w' (decide (k < 0)) A n c l k K ∧ Below w.heap.size w w'
theorem RetI.ii {w : World} {k : Int} {K : Nat} {e : Ending} {w' : World} (h : RetI w k e w') (hK : k.natAbs < pw K) : RetII w k K e w' := by
  obtain ⟨A, n, c, l, rfl, N, v, o, hb⟩ := h
  exact ⟨A, n, c, l, rfl, N, o, ⟨o.toIn, zi_of k v, k_len N v o.toIn hK⟩, hb⟩
theorem RetII.i {w : World} {k : Int} {K : Nat} {e : Ending} {w' : World} (h : RetII w k K e w') : RetI w k e w' := by
  obtain ⟨A, n, c, l, rfl, N, o, i, hb⟩ := h
  exact ⟨A, n, c, l, rfl, N, i.abs.symm, o, hb⟩

section
variable {A B : Option Addr} {n c m d K1 K2 K : Nat} {a b : List Nat} {s t : Bool} {x y : Int}
--EACH inew ineg iadd isub imul isign icmp
theorem inew_v (w : World) (ha : II w s A n c a x K1) (hK : K1 ≤ K) (hb : K1 ≤ 68719476736) :
    Calls Tryd.prog 48 #[.bool s, .slice A n c] w (RetII w x K) :=
  (new_k w ha.inn (by have := ha.le; omega) ha.zi).mono fun _ _ h => h.ii (Nat.lt_of_lt_of_le ha.lt (pw_le hK))
theorem isign_v (w : World) (ha : II w s A n c a x K1) (hb : K1 ≤ 68719476736) :
    Calls Tryd.prog 46 #[.agg #[.bool s, .slice A n c]] w (RetV w (.int .i64 (sgn x))) :=
  isign_c w ha.inn (by have := ha.le; omega) ha.zi
theorem pw_two_lt {z : Int} {K : Nat} (h1 : -9223372036854775808 ≤ z) (h2 : z ≤ 9223372036854775807) (hK : 2 ≤ K) : z.natAbs < pw K :=
  Nat.lt_of_lt_of_le (by rw [pw_two]; omega : z.natAbs < pw 2) (pw_le hK)
theorem fromInt_v (z : Int) (w : World) (h1 : -9223372036854775808 ≤ z) (h2 : z ≤ 9223372036854775807) (hK : 2 ≤ K) :
    Calls Tryd.prog 32 #[.int .i64 z] w (RetII w z K) :=
  (fromInt_c z w h1 h2).mono fun _ _ h => h.ii (pw_two_lt h1 h2 hK)
--END
theorem rnew_v (w : World) (ha : II w s A n c a x K1) (hK : K1 ≤ K) (hb : K1 ≤ 68719476736) :
    Calls Tryd.prog 54 #[.bool s, .slice A n c] w (RetII w x K) :=
  (rnew_k w ha.inn (by have := ha.le; omega) ha.zi).mono fun _ _ h => h.ii (Nat.lt_of_lt_of_le ha.lt (pw_le hK))
theorem rsign_v (w : World) (ha : II w s A n c a x K1) (hb : K1 ≤ 68719476736) :
    Calls Tryd.prog 53 #[.agg #[.bool s, .slice A n c]] w (RetV w (.int .i64 (sgn x))) :=
  rsign_c w ha.inn (by have := ha.le; omega) ha.zi
theorem rfromInt_v (z : Int) (w : World) (h1 : -9223372036854775808 ≤ z) (h2 : z ≤ 9223372036854775807) (hK : 2 ≤ K) :
    Calls Tryd.prog 37 #[.int .i64 z] w (RetII w z K) :=
  (rfromInt_c z w h1 h2).mono fun _ _ h => h.ii (pw_two_lt h1 h2 hK)
theorem quoI_lt {x y : Int} {K : Nat} (h : x.natAbs < pw K) : (quoI x y).natAbs < pw (K + 1) := by
  unfold quoI
  split
  · exact pw_pos _
  · rename_i hy
    have h1 : (x.fdiv y).natAbs ≤ x.natAbs := by
      rw [← fdiv_signs x y hy, zi_abs]
      have h2 := Nat.div_add_mod x.natAbs y.natAbs
      have h3 : x.natAbs / y.natAbs ≤ y.natAbs * (x.natAbs / y.natAbs) := Nat.le_mul_of_pos_left _ (by omega)
      split
      · rename_i h4
        simp only [Bool.and_eq_true, decide_eq_true_eq] at h4
        omega
      · omega
    exact Nat.lt_of_le_of_lt h1 (Nat.lt_trans h (pw_lt (by omega)))
theorem remI_lt {x y : Int} {K : Nat} (h : y.natAbs < pw K) : (remI x y).natAbs < pw K := by
  unfold remI
  split
  · exact pw_pos _
  · rename_i hy
    exact Nat.lt_trans (fmod_lt_abs x y hy) h
def RetDII (w : World) (x y : Int) (K1 K2 : Nat) (e : Ending) (w' : World) : Prop :=
  ∃ A1 n1 c1 l1 A2 n2 c2 l2, e = .returned (.tuple #[.agg #[.bool (decide (quoI x y < 0)), .slice A1 n1 c1], .agg #[.bool (decide (remI x y < 0)), .slice A2 n2 c2], .int .i64 (divEI y)]) ∧
    Norm l1 ∧ Own w' w.heap.size A1 n1 c1 l1 ∧ II w' (decide (quoI x y < 0)) A1 n1 c1 l1 (quoI x y) (K1 + 1) ∧ Norm l2 ∧ Own w' w.heap.size A2 n2 c2 l2 ∧ II w' (decide (remI x y < 0)) A2 n2 c2 l2 (remI x y) K2 ∧ Below w.heap.size w w'
theorem DivPostI.v {w : World} {x y : Int} {K1 K2 : Nat} {e : Ending} {w' : World} (h : DivPostI w x y e w') (hx : x.natAbs < pw K1) (hy : y.natAbs < pw K2) : RetDII w x y K1 K2 e w' := by
  obtain ⟨A1, n1, c1, l1, A2, n2, c2, l2, rfl, N1, v1, N2, v2, o1, o2, hb⟩ := h
  exact ⟨A1, n1, c1, l1, A2, n2, c2, l2, rfl, N1, o1, ⟨o1.toIn, zi_of _ v1, k_len N1 v1 o1.toIn (quoI_lt hx)⟩, N2, o2, ⟨o2.toIn, zi_of _ v2, k_len N2 v2 o2.toIn (remI_lt hy)⟩, hb⟩
end

end Go.Proofs.YtlpnjoenkohadaaDoor
