/-
  More plain facts on lists of digits: shifts.
-/
import Derived.Test.YtlpnjoenkohadaaDoorNum
namespace Go.Proofs.YtlpnjoenkohadaaDoor
set_option linter.unusedVariables false
set_option linter.unusedSimpArgs false

theorem pw_two (k : Nat) : pw k = 2 ^ (32 * k) := by
  rw [pw, Nat.pow_mul]
theorem two_pos (k : Nat) : 0 < 2 ^ k := Nat.pow_pos (by omega)
theorem two_le31 {k : Nat} (h : k < 32) : 2 ^ k ≤ 2147483648 := by
  have : 2 ^ k ≤ 2 ^ 31 := Nat.pow_le_pow_right (by omega) (by omega)
  simpa using this
theorem two_split {k : Nat} (h : k ≤ 32) : 2 ^ k * 2 ^ (32 - k) = 4294967296 := by
  rw [← Nat.pow_add, show k + (32 - k) = 32 by omega]
/-- x * c where c * e = 2^32. -/
theorem up_parts {x c e : Nat} (hc : c * e = 4294967296) (hx : x < 4294967296) : x * c / 4294967296 < c ∧ x * c % 4294967296 % c = 0 ∧ x * c % 4294967296 + c ≤ 4294967296 := by
  have hc0 : 0 < c := by rcases Nat.eq_zero_or_pos c with h | h; · subst h; omega
                         · exact h
  have he0 : 0 < e := by rcases Nat.eq_zero_or_pos e with h | h; · subst h; omega
                         · exact h
  refine ⟨?_, ?_, ?_⟩
  · rw [Nat.div_lt_iff_lt_mul (by omega), Nat.mul_comm]
    exact Nat.mul_lt_mul_of_pos_left hx hc0
  · rw [← hc, Nat.mod_mul_right_mod, Nat.mul_mod_left]
  · have h1 : x * c % 4294967296 = x % e * c := by
      rw [← hc, Nat.mul_comm c e, Nat.mul_mod_mul_right]
    rw [h1]
    have h2 : (x % e + 1) * c ≤ e * c := Nat.mul_le_mul_right _ (Nat.mod_lt _ he0)
    rw [Nat.add_mul, Nat.mul_comm e c, hc] at h2
    omega
theorem up_step {a o : List Nat} {k h c x : Nat} (hlen : k + h + 1 < o.length)
    (hI : lo o (k + h + 1) = lo a k * c * pw h) (hx : x = dg a k) :
    lo ((o.set (k + h) (dg o (k + h) + x * c % 4294967296)).set (k + h + 1) (x * c / 4294967296)) (k + 1 + h + 1) = lo a (k + 1) * c * pw h := by
  rw [show k + 1 + h + 1 = (k + h + 1) + 1 by omega, lo_set_succ (by rw [List.length_set]; omega), show k + h + 1 = (k + h) + 1 by omega, lo_set_succ (by omega), lo_succ a, ← hx]
  rw [lo_succ] at hI
  have e := Nat.div_add_mod (x * c) 4294967296
  generalize x * c % 4294967296 = r at e ⊢
  generalize x * c / 4294967296 = q at e ⊢
  rw [pw_succ]
  rw [pw_add] at hI ⊢
  have e2 : (r + q * 4294967296) * (pw k * pw h) = x * c * (pw k * pw h) := by rw [← e]; grind
  grind
/-- One digit of a shift to the right: b is the list cut at the whole digits. -/
theorem down_digit {x y c e : Nat} (hc : c * e = 4294967296) (hx : x < 4294967296) (hy : y < 4294967296) :
    (x + y * 4294967296) / c = x / c + y * e ∧ (x + y * 4294967296) / c % 4294967296 + y / c * 4294967296 = x / c + y * e := by
  have hc0 : 0 < c := by rcases Nat.eq_zero_or_pos c with h | h; · subst h; omega
                         · exact h
  have he0 : 0 < e := by rcases Nat.eq_zero_or_pos e with h | h; · subst h; omega
                         · exact h
  have h1 : (x + y * 4294967296) / c = x / c + y * e := by
    rw [← hc, show y * (c * e) = y * e * c by grind, Nat.add_mul_div_right _ _ hc0]
  refine ⟨h1, ?_⟩
  rw [h1]
  have h2 : x / c < e := by rw [Nat.div_lt_iff_lt_mul hc0, Nat.mul_comm, hc]; exact hx
  have h3 := Nat.div_add_mod y c
  have h4 : y % c * e + e ≤ 4294967296 := by
    have : (y % c + 1) * e ≤ c * e := Nat.mul_le_mul_right _ (Nat.mod_lt _ hc0)
    rw [Nat.add_mul, hc] at this; omega
  have h5 : y * e = y / c * 4294967296 + y % c * e := by rw [← hc]; grind
  rw [h5]
  have h6 : (x / c + (y / c * 4294967296 + y % c * e)) % 4294967296 = x / c + y % c * e := by
    rw [show x / c + (y / c * 4294967296 + y % c * e) = (x / c + y % c * e) + y / c * 4294967296 by omega, Nat.add_mul_mod_self_right, Nat.mod_eq_of_lt (by omega)]
  rw [h6]; omega
theorem down_step {b o : List Nat} {k c e d : Nat} (hc : c * e = 4294967296) (hb : Dig b) (hk : k < o.length)
    (hI : lo o k + pw k * (dg b k / c) = lo b (k + 1) / c) (hd : d = (dg b k + dg b (k + 1) * 4294967296) / c % 4294967296) :
    lo (o.set k d) (k + 1) + pw (k + 1) * (dg b (k + 1) / c) = lo b (k + 1 + 1) / c := by
  have hc0 : 0 < c := by rcases Nat.eq_zero_or_pos c with h | h; · subst h; omega
                         · exact h
  have h1 := (down_digit hc (hb k) (hb (k + 1))).2
  rw [← hd] at h1
  rw [lo_set_succ hk, lo_succ b (k + 1), pw_succ]
  have h2 : (lo b (k + 1) + dg b (k + 1) * (pw k * 4294967296)) / c = lo b (k + 1) / c + dg b (k + 1) * e * pw k := by
    rw [← hc, show dg b (k + 1) * (pw k * (c * e)) = (dg b (k + 1) * e * pw k) * c by grind, Nat.add_mul_div_right _ _ hc0]
  rw [h2, ← hI]
  have h3 : (d + dg b (k + 1) / c * 4294967296) * pw k = (dg b k / c + dg b (k + 1) * e) * pw k := by rw [h1]
  grind
theorem down_end {b o : List Nat} {c : Nat} (hlen : o.length = b.length) (hI : lo o b.length + pw b.length * (dg b b.length / c) = lo b (b.length + 1) / c) : val o = val b / c := by
  rw [dg_out (Nat.le_refl _), Nat.zero_div, lo_all (by omega), lo_all (by omega)] at hI
  simpa using hI
theorem val_drop_div (a : List Nat) (k : Nat) (h : Dig a) : val (a.drop k) = val a / pw k := by
  have h1 := lo_drop a k
  have h2 := lo_lt h k
  rw [h1, Nat.add_mul_div_left _ _ (pw_pos k), Nat.div_eq_of_lt h2]; omega
theorem shift_split {v t : Nat} : v * 2 ^ t = v * 2 ^ (t % 32) * pw (t / 32) := by
  rw [pw_two, Nat.mul_assoc, ← Nat.pow_add]
  congr 2
  omega
theorem shift_div {v t : Nat} : v / 2 ^ t = v / pw (t / 32) / 2 ^ (t % 32) := by
  rw [Nat.div_div_eq_div_mul, pw_two, ← Nat.pow_add]
  congr 2
  omega

end Go.Proofs.YtlpnjoenkohadaaDoor
