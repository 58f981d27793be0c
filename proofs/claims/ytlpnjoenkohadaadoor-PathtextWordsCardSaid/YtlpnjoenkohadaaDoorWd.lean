/-
  Walks over natural: one, BitLen, Shift.
-/
import Derived.Test.YtlpnjoenkohadaaDoorWc
namespace Go.Proofs.YtlpnjoenkohadaaDoor
set_option linter.unusedVariables false
set_option linter.unusedSimpArgs false
open Go.RowKit

theorem or_join {x y : Nat} (hx : x < 4294967296) (hy : y < 4294967296) : bits .or .u64 ((x : Int) * 4294967296) (y : Int) = ((x * 4294967296 + y : Nat) : Int) := by
  rw [show (x : Int) * 4294967296 = ((x * 4294967296 : Nat) : Int) by omega, u64_or_nat _ _ (by omega) (by omega), nat_join 32 _ _ (by omega) (by omega)]

set_option maxRecDepth 100000 in
set_option maxHeartbeats 1000000 in
theorem one_c {A : Option Addr} {n c : Nat} {a : List Nat} (d : Nat) (w : World) (ha : In w A n c a) (hn : n ≤ 1099511627776) (h0 : 0 < d) (h1 : d < 4294967296) :
    Calls Tryd.prog 70 #[.slice A n c, .int .u32 d] w fun e w' => ∃ A' n' c' l, e = .returned (.tuple #[.slice A' n' c', .int .u32 ((val a % d : Nat) : Int)]) ∧ Norm l ∧ val l = val a / d ∧ Own w' w.heap.size A' n' c' l ∧ Below w.heap.size w w' := by
  have hmk := fun W => run_make_u32 W (n : Int) n rfl (by omega)
  have Hl := hide ha.len
  go_enter Tryd.func70, Tryd.ntmps70
  go_wp2_with fail
  go_loopw [7, 8] (fun re i wr => ∃ (k r : Nat) (z : Int) (o : List Nat), k ≤ n ∧ z + 1 = k ∧ i = .int .i64 z ∧ re = .int .u64 r ∧ r < d ∧ o.length = n ∧ Dig o ∧ Hid (val (o.drop k) * d + r = val (a.drop k)) ∧ Mk wr w.heap.size 90 o ∧ Below w.heap.size w wr) (fun _ i _ => (intOf i + 1).toNat)
  case atStart => exact ⟨n, 0, (n : Int) - 1, _, Nat.le_refl _, by omega, rfl, rfl, h0, by simp, Dig.replicate _, (show val ((List.replicate n 0).drop n) * d + 0 = val (a.drop n) by rw [val_drop_all (l := a) (by rw [unhide Hl]; exact Nat.le_refl _), val_drop_all (by simp)]; omega), Mk.zero w n, (Below.refl _ _).alloc (Nat.le_refl _) _⟩
  case round =>
    obtain ⟨k, r, z, o, hk, hz, rfl, rfl, hr, hol, hod, hI, hmo, hbw⟩ := hrel
    have Hol := hide hol
    clear hol
    by_cases hk0 : k = 0
    · subst hk0
      obtain rfl : z = -1 := by omega
      clear hz
      have ho := hmo.own hod (Nat.le_refl _) (by rw [unhide Hol]; unfold maxLen; omega)
      rw [unhide Hol] at ho
      go_wp2_with fail
      refine (short_c _ ho.toIn).mono ?_
      rintro e w' ⟨rfl, rfl⟩
      go_wp2_with fail
      go_ret2
      obtain ⟨e1, e2⟩ := div_unique (unhide hI) hr
      simp only [List.drop_zero] at e1 e2
      subst e2
      exact ⟨_, _, _, trim o, rfl, trim_norm hod, by rw [val_trim]; exact e1, ho.trim, hbw⟩
    · obtain ⟨j, rfl⟩ : ∃ j, k = j + 1 := ⟨k - 1, by omega⟩
      obtain rfl : z = (j : Int) := by omega
      clear hz hk0
      obtain ⟨ad, hA, hca⟩ := (ha.below hbw).at_ (k := j) (by omega)
      have hx := ha.dig j
      have hcell := hmo.cell (i := j) (by rw [unhide Hol]; omega)
      have hfz := hmo.frozen j
      have hor := or_join (x := r) (y := dg a j) (by omega) hx
      subst hA
      have hdiv := div_digit hr hx
      have hmod := Nat.mod_lt (r * 4294967296 + dg a j) h0
      go_wp2
      have hst := hmo.set_ j ((r * 4294967296 + dg a j) / d)
      have e1 : (((r * 4294967296 + dg a j) / d : Nat) : Int) = ((r : Int) * 4294967296 + dg a j) / d % 4294967296 := by
        have e : (((r * 4294967296 + dg a j) / d : Nat) : Int) = ((r : Int) * 4294967296 + dg a j) / d := by rw [Int.natCast_ediv]; rfl
        rw [← e]; exact (Int.emod_eq_of_lt (Int.natCast_nonneg _) (Int.ofNat_lt.2 hdiv)).symm
      have e2 : (((r * 4294967296 + dg a j) % d : Nat) : Int) = ((r : Int) * 4294967296 + dg a j) % d := by rw [Int.natCast_emod]; rfl
      rw [e1] at hst
      go_roundw
      case rel => exact ⟨j, (r * 4294967296 + dg a j) % d, (j : Int) - 1, _, by omega, by omega, rfl, by rw [e2], hmod, by rw [List.length_set]; exact unhide Hol, hod.set _ hdiv, div_step (by rw [unhide Hl]; omega) (by rw [unhide Hol]; omega) (unhide hI) rfl rfl, hst, hbw.setCell (Nat.le_refl _) _⟩
      case measure => simp [intOf]

/-- .. the capacity being the length. -/
def RetX (w : World) (k : Nat) (e : Ending) (w' : World) : Prop :=
  ∃ A n l, e = .returned (.slice A n n) ∧ Norm l ∧ val l = k ∧ Own w' w.heap.size A n n l ∧ Below w.heap.size w w'
theorem RetX.retN {w : World} {k : Nat} {e : Ending} {w' : World} (h : RetX w k e w') : RetN w k e w' := by
  obtain ⟨A, n, l, h⟩ := h
  exact ⟨A, n, n, l, h⟩

end Go.Proofs.YtlpnjoenkohadaaDoor
