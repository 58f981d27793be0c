/-
  Walks over the reference of chapter 1: up, tenth, Shift.
-/
import Derived.Test.YtlpnjoenkohadaaDoorRc
import Derived.Test.YtlpnjoenkohadaaDoorWe
namespace Go.Proofs.YtlpnjoenkohadaaDoor
set_option linter.unusedVariables false
set_option linter.unusedSimpArgs false
open Go.RowKit

theorem refup_step {o a : List Nat} {k h y x z c : Nat} (hk : o.length = h + k) (hI : val o + y * pw (h + k) = lo a k * c * pw h) (e : x + z * 4294967296 = dg a k * c + y) :
    val (o ++ [x]) + z * pw (h + (k + 1)) = lo a (k + 1) * c * pw h := by
  rw [val_snoc hk, ← Nat.add_assoc, pw_succ, lo_succ]
  have h2 : (x + z * 4294967296) * pw (h + k) = (dg a k * c + y) * pw (h + k) := by rw [e]
  have h3 := pw_add h k
  rw [h3] at h2 hI ⊢
  generalize pw h = P at *
  generalize pw k = R at *
  grind

set_option maxRecDepth 100000 in
set_option maxHeartbeats 1000000 in
theorem refTenth_c {A : Option Addr} {n c : Nat} {a : List Nat} (w : World) (ha : In w A n c a) (hn : n ≤ 1099511627776) :
    Calls Tryd.prog 75 #[.slice A n c] w fun e w' => ∃ A' n' c' l, e = .returned (.tuple #[.slice A' n' c', .int .u64 ((val a % 10 : Nat) : Int)]) ∧ Norm l ∧ val l = val a / 10 ∧ Own w' w.heap.size A' n' c' l ∧ Below w.heap.size w w' := by
  have hmk := fun W => run_make_u32 W (n : Int) n rfl (by omega)
  have Hl := hide ha.len
  go_enter Tryd.func75, Tryd.ntmps75
  go_wp2_with fail
  go_loopw [5, 6] (fun re i wr => ∃ (k r : Nat) (z : Int) (o : List Nat), k ≤ n ∧ z + 1 = k ∧ i = .int .i64 z ∧ re = .int .u64 r ∧ r < 10 ∧ o.length = n ∧ Dig o ∧ Hid (val (o.drop k) * 10 + r = val (a.drop k)) ∧ Mk wr w.heap.size 90 o ∧ Below w.heap.size w wr) (fun _ i _ => (intOf i + 1).toNat)
  case atStart => exact ⟨n, 0, (n : Int) - 1, _, Nat.le_refl _, by omega, rfl, rfl, by omega, by simp, Dig.replicate _, (show val ((List.replicate n 0).drop n) * 10 + 0 = val (a.drop n) by rw [val_drop_all (l := a) (by rw [unhide Hl]; exact Nat.le_refl _), val_drop_all (by simp)]), Mk.zero w n, (Below.refl _ _).alloc (Nat.le_refl _) _⟩
  case round =>
    obtain ⟨k, r, z, o, hk, hz, rfl, rfl, hr, hol, hod, hI, hmo, hbw⟩ := hrel
    have Hol := hide hol
    clear hol
    by_cases hk0 : k = 0
    · subst hk0
      obtain rfl : z = -1 := by omega
      clear hz
      have ho := hmo.own hod (Nat.le_refl _) (by rw [unhide Hol]; unfold maxLen; omega)
      rw [unhide Hol] at ho
      go_wp2_with fail
      refine (refNormalize_c _ ho.toIn (by omega)).mono ?_
      rintro e w' ⟨A2, n2, c2, rfl, ho2, hw⟩
      go_wp2_with fail
      go_ret2
      obtain ⟨e1, e2⟩ := div_unique (unhide hI) hr
      simp only [List.drop_zero] at e1 e2
      subst e2
      exact ⟨A2, n2, c2, _, rfl, trim_norm hod, by rw [val_trim]; exact e1, ho2.base hbw.size, hbw.trans (hw.mono hbw.size)⟩
    · obtain ⟨j, rfl⟩ : ∃ j, k = j + 1 := ⟨k - 1, by omega⟩
      obtain rfl : z = (j : Int) := by omega
      clear hz hk0
      obtain ⟨ad, hA, hca⟩ := (ha.below hbw).at_ (k := j) (by omega)
      have hx := ha.dig j
      have hcell := hmo.cell (i := j) (by rw [unhide Hol]; omega)
      have hfz := hmo.frozen j
      subst hA
      go_wp2
      have hst := hmo.set_ j ((r * 4294967296 + dg a j) / 10)
      rw [show (((r * 4294967296 + dg a j) / 10 : Nat) : Int) = ((r : Int) * 4294967296 + dg a j) / 10 by omega] at hst
      go_roundw
      case rel => exact ⟨j, (r * 4294967296 + dg a j) % 10, (j : Int) - 1, _, by omega, by omega, rfl, congrArg (Value.int .u64) (by omega), by omega, by rw [List.length_set]; exact unhide Hol, hod.set _ (by omega), div_step (by rw [unhide Hl]; omega) (by rw [unhide Hol]; omega) (unhide hI) rfl rfl, hst, hbw.setCell (Nat.le_refl _) _⟩
      case measure => simp [intOf]

theorem refdown_step {b o : List Nat} {k c e d : Nat} (hc : c * e = 4294967296) (hb : Dig b) (hk : o.length = k)
    (hI : val o + pw k * (dg b k / c) = lo b (k + 1) / c) (hd : d = (dg b (k + 1) * 4294967296 + dg b k) / c % 4294967296) :
    val (o ++ [d]) + pw (k + 1) * (dg b (k + 1) / c) = lo b (k + 1 + 1) / c := by
  have h1 := down_step (o := o ++ [0]) (k := k) (d := d) hc hb (by rw [List.length_append, hk]; simp) (by rw [← hI]; congr 1; rw [← hk, lo, List.take_left]) (by rw [hd, Nat.add_comm])
  rw [lo_set_succ (by rw [List.length_append, hk]; simp), lo, ← hk, List.take_left] at h1
  rw [val_snoc rfl, hk] at *
  exact h1

end Go.Proofs.YtlpnjoenkohadaaDoor
