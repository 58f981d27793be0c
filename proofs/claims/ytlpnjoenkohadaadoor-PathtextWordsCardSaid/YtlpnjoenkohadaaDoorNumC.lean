/-
  Plain facts for long division: the estimate of a digit, the subtraction, the correction, the whole.
-/
import Derived.Test.YtlpnjoenkohadaaDoorNumB
import Derived.Lib.BitFns
namespace Go.Proofs.YtlpnjoenkohadaaDoor
set_option linter.unusedVariables false
set_option linter.unusedSimpArgs false

/-- The number of the first i digits from place k on. -/
def pl (l : List Nat) (k i : Nat) : Nat := lo (l.drop k) i
theorem pl_zero (l : List Nat) (k : Nat) : pl l k 0 = 0 := lo_zero _
theorem pl_succ (l : List Nat) (k i : Nat) : pl l k (i + 1) = pl l k i + dg l (k + i) * pw i := by
  rw [pl, lo_succ, dg_drop]; rfl
theorem pl_ext {a b : List Nat} {k i : Nat} (h : ∀ j, k ≤ j → j < k + i → dg a j = dg b j) : pl a k i = pl b k i :=
  lo_ext fun j hj => by rw [dg_drop, dg_drop]; exact h _ (by omega) (by omega)
theorem pl_set_succ {l : List Nat} {k i d : Nat} (h : k + i < l.length) : pl (l.set (k + i) d) k (i + 1) = pl l k i + d * pw i := by
  rw [pl_succ, dg_set, if_pos ⟨rfl, h⟩]
  congr 1
  exact pl_ext fun j h1 h2 => by rw [dg_set, if_neg (by omega)]
theorem pl_lt {l : List Nat} (h : Dig l) (k i : Nat) : pl l k i < pw i := lo_lt (h.drop k) i
theorem pl_val {l : List Nat} {k i : Nat} (h : ∀ j, k + i ≤ j → dg l j = 0) : val (l.drop k) = pl l k i :=
  val_lo fun j hj => by rw [dg_drop]; exact h _ (by omega)

/-! The estimate. U = (top * 2^32 + u2) * p + ru; V = (v1 * 2^32 + v2) * p + rv. -/
theorem guess_dec {top u2 v1 v2 p ru rv q r U V : Nat} (hU : U = (top * 4294967296 + u2) * p + ru) (hV : V = (v1 * 4294967296 + v2) * p + rv) (hru : ru < p)
    (hUV : U < 4294967296 * V) (hq : q * v1 + r = top) (h : 4294967296 ≤ q ∨ r * 4294967296 + u2 < q * v2) : U < q * V := by
  rcases h with h | h
  · exact Nat.lt_of_lt_of_le hUV (Nat.mul_le_mul_right _ h)
  · have h1 : top * 4294967296 + u2 + 1 ≤ q * (v1 * 4294967296 + v2) := by
      rw [Nat.mul_add, ← Nat.mul_assoc]
      omega
    have h2 : (top * 4294967296 + u2 + 1) * p ≤ q * (v1 * 4294967296 + v2) * p := Nat.mul_le_mul_right _ h1
    rw [hV, hU, Nat.mul_add, ← Nat.mul_assoc]
    rw [Nat.add_mul _ 1] at h2
    omega
theorem guess_end {top u2 v1 v2 p ru rv q r U V : Nat} (hU : U = (top * 4294967296 + u2) * p + ru) (hV : V = (v1 * 4294967296 + v2) * p + rv) (hrv : rv < p) (hv1 : 1 ≤ v1)
    (hq : q * v1 + r = top) (hq2 : q < 4294967296) (h : q * v2 ≤ r * 4294967296 + u2) : q * V ≤ U + V := by
  have h1 : q * (v1 * 4294967296 + v2) ≤ top * 4294967296 + u2 := by
    rw [Nat.mul_add, ← Nat.mul_assoc]; omega
  have h2 : q * (v1 * 4294967296 + v2) * p ≤ (top * 4294967296 + u2) * p := Nat.mul_le_mul_right _ h1
  have h3 : q * rv ≤ 4294967296 * p := Nat.mul_le_mul (by omega) (by omega)
  have h4 : 1 * 4294967296 * p ≤ v1 * 4294967296 * p := Nat.mul_le_mul_right _ (Nat.mul_le_mul_right _ hv1)
  have h5 : V = v1 * 4294967296 * p + v2 * p + rv := by rw [hV, Nat.add_mul]
  have h6 : q * V = q * (v1 * 4294967296 + v2) * p + q * rv := by rw [hV, Nat.mul_add, ← Nat.mul_assoc]
  omega
theorem guess_init {top u2 v1 v2 p ru rv U V : Nat} (hU : U = (top * 4294967296 + u2) * p + ru) (hV : V = (v1 * 4294967296 + v2) * p + rv) (hru : ru < p) (hrv : rv < p) (hu2 : u2 < 4294967296) (hv2 : v2 < 4294967296)
    (hv1 : 2147483648 ≤ v1) (hUV : U < 4294967296 * V) :
    U < (top / v1 + 1) * V ∧ top / v1 * v1 + top % v1 = top ∧ top < v1 * 4294967296 + 4294967296 ∧ top / v1 ≤ 4294967297 := by
  have e : top / v1 * v1 + top % v1 = top := Nat.div_add_mod' top v1
  have hp : 0 < p := by omega
  have h0 : top < v1 * 4294967296 + 4294967296 := by
    have h1 : top * 4294967296 * p ≤ U := by rw [hU, Nat.add_mul]; omega
    have h2 : 4294967296 * V < 4294967296 * ((v1 * 4294967296 + 4294967296) * p) := by
      apply Nat.mul_lt_mul_of_pos_left _ (by omega)
      have h3 : (v1 * 4294967296 + v2 + 1) * p ≤ (v1 * 4294967296 + 4294967296) * p := Nat.mul_le_mul_right _ (by omega)
      rw [Nat.add_mul _ 1] at h3
      omega
    have h4 : (4294967296 * p) * top < (4294967296 * p) * (v1 * 4294967296 + 4294967296) := by grind
    exact Nat.lt_of_mul_lt_mul_left h4
  refine ⟨?_, e, h0, ?_⟩
  · have h1 : top + 1 ≤ (top / v1 + 1) * v1 := by
      have := Nat.mod_lt top (show v1 > 0 by omega)
      rw [Nat.add_mul]; omega
    have h2 : (top + 1) * (4294967296 * p) ≤ (top / v1 + 1) * v1 * (4294967296 * p) := Nat.mul_le_mul_right _ h1
    have h3 : (top / v1 + 1) * V = (top / v1 + 1) * v1 * (4294967296 * p) + (top / v1 + 1) * (v2 * p + rv) := by rw [hV]; grind
    have h4 : (u2 + 1) * p ≤ 4294967296 * p := Nat.mul_le_mul_right _ (by omega)
    have h5 : U = top * (4294967296 * p) + u2 * p + ru := by rw [hU]; grind
    rw [Nat.add_mul] at h2 h4
    omega
  · have : top / v1 < 4294967298 := by
      rw [Nat.div_lt_iff_lt_mul (by omega)]; omega
    omega
/-- What the estimate gives. -/
def GuessOk (U V q : Nat) : Prop := q < 4294967296 ∧ U < (q + 1) * V ∧ q * V ≤ U + V

theorem two_lists {l : List Nat} {n : Nat} : lo l (n + 2) = (dg l (n + 1) * 4294967296 + dg l n) * pw n + lo l n := by
  rw [show n + 2 = (n + 1) + 1 by omega, lo_succ, lo_succ, pw_succ]
  grind
theorem three_lists {l : List Nat} {k n : Nat} : pl l k (n + 3) = ((dg l (k + (n + 2)) * 4294967296 + dg l (k + (n + 1))) * 4294967296 + dg l (k + n)) * pw n + pl l k n := by
  rw [show n + 3 = ((n + 1) + 1) + 1 by omega, pl_succ, pl_succ, pl_succ]
  simp only [pw_succ]
  grind

/-! The subtraction q * v from the digits of u from place k on. -/
theorem take_step {U P v : List Nat} {k i q c y d y' : Nat} (hk : k + i < U.length) (hd : dg U (k + i) = dg P (k + i))
    (h : pl U k i + q * lo v i = pl P k i + (y + c) * pw i) (hdd : d + (c + q * dg v i) % 4294967296 + y = dg U (k + i) + y' * 4294967296) :
    pl (U.set (k + i) d) k (i + 1) + q * lo v (i + 1) = pl P k (i + 1) + (y' + (c + q * dg v i) / 4294967296) * pw (i + 1) := by
  rw [pl_set_succ hk, lo_succ, pl_succ, pw_succ, ← hd]
  have e := Nat.div_add_mod (c + q * dg v i) 4294967296
  generalize (c + q * dg v i) % 4294967296 = m at e hdd
  generalize (c + q * dg v i) / 4294967296 = t at e ⊢
  have e2 : (d + m + y) * pw i = (dg U (k + i) + y' * 4294967296) * pw i := by rw [hdd]
  have e3 : (4294967296 * t + m) * pw i = (c + q * dg v i) * pw i := by rw [e]
  grind
theorem take_end {U P v : List Nat} {k n q c y d y' : Nat} (hk : k + n < U.length) (hd : dg U (k + n) = dg P (k + n))
    (h : pl U k n + q * lo v n = pl P k n + (y + c) * pw n) (hdd : d + c + y = dg U (k + n) + y' * 4294967296) :
    pl (U.set (k + n) d) k (n + 1) + q * lo v n = pl P k (n + 1) + y' * pw (n + 1) := by
  rw [pl_set_succ hk, pl_succ, pw_succ, ← hd]
  have e2 : (d + c + y) * pw n = (dg U (k + n) + y' * 4294967296) * pw n := by rw [hdd]
  grind
theorem back_step {U P v : List Nat} {k i y : Nat} (hk : k + i < U.length) (hd : dg U (k + i) = dg P (k + i))
    (h : pl U k i + y * pw i = pl P k i + lo v i) :
    pl (U.set (k + i) ((y + (dg U (k + i) + dg v i)) % 4294967296)) k (i + 1) + (y + (dg U (k + i) + dg v i)) / 4294967296 * pw (i + 1) = pl P k (i + 1) + lo v (i + 1) := by
  rw [pl_set_succ hk, lo_succ, pl_succ, pw_succ, ← hd]
  have e := Nat.div_add_mod (y + (dg U (k + i) + dg v i)) 4294967296
  generalize (y + (dg U (k + i) + dg v i)) % 4294967296 = m at e ⊢
  generalize (y + (dg U (k + i) + dg v i)) / 4294967296 = t at e ⊢
  grind
theorem back_end {U P v : List Nat} {k n y : Nat} (hk : k + n < U.length) (hd : dg U (k + n) = dg P (k + n))
    (h : pl U k n + y * pw n = pl P k n + lo v n) :
    ∃ z, pl (U.set (k + n) ((dg U (k + n) + y) % 4294967296)) k (n + 1) + z * pw (n + 1) = pl P k (n + 1) + lo v n := by
  refine ⟨(dg U (k + n) + y) / 4294967296, ?_⟩
  rw [pl_set_succ hk, pl_succ, pw_succ, ← hd]
  have e := Nat.div_add_mod (dg U (k + n) + y) 4294967296
  generalize (dg U (k + n) + y) % 4294967296 = m at e ⊢
  generalize (dg U (k + n) + y) / 4294967296 = t at e ⊢
  grind
/-- The digit was exact. -/
theorem div_exact {P P' V q : Nat} (hg : GuessOk P V q) (h : P' + q * V = P) : P' < V := by
  have h1 := hg.2.1
  rw [Nat.add_mul] at h1; omega
/-- The digit was one too large, and v has been added back. -/
theorem div_back {P P' P2 V q B z : Nat} (hg : GuessOk P V q) (hP : P' < B) (hPB : P < B) (hP2 : P2 < B) (h : P' + q * V = P + B) (h2 : P2 + z * B = P' + V) :
    1 ≤ q ∧ P2 < V ∧ P2 + (q - 1) * V = P := by
  have h1 := hg.2.2
  have hq : 1 ≤ q := by
    rcases Nat.eq_zero_or_pos q with e | e
    · subst e; omega
    · exact e
  obtain ⟨m, rfl⟩ : ∃ m, q = m + 1 := ⟨q - 1, by omega⟩
  rw [Nat.add_mul] at h h1
  have hz : z = 1 := by
    rcases Nat.lt_trichotomy z 1 with e | e | e
    · have : z = 0 := by omega
      subst this; omega
    · exact e
    · have : 2 * B ≤ z * B := Nat.mul_le_mul_right _ e
      omega
  subst hz
  rw [Nat.add_sub_cancel]
  omega
/-- One digit of the quotient is done. -/
theorem div_round {U U' Q : List Nat} {k n q V A : Nat} (hkQ : k < Q.length) (hz : ∀ j, k + (n + 1) ≤ j → dg U j = 0) (hz' : ∀ j, k + (n + 1) ≤ j → dg U' j = 0) (hlow : ∀ j, j < k → dg U' j = dg U j)
    (hP : pl U' k (n + 1) + q * V = pl U k (n + 1)) (hI : val (Q.drop (k + 1)) * pw (k + 1) * V + val U = A) :
    val ((Q.set k q).drop k) * pw k * V + val U' = A := by
  have h1 := lo_drop U k
  have h2 := lo_drop U' k
  rw [pl_val hz, ← lo_ext hlow] at h1
  rw [pl_val hz'] at h2
  have h3 : val ((Q.set k q).drop (k + 1)) = val (Q.drop (k + 1)) := val_ext fun j => by
    rw [dg_drop, dg_drop, dg_set, if_neg (by omega)]
  rw [val_drop_succ (by rw [List.length_set]; exact hkQ), h3, dg_set, if_pos ⟨rfl, hkQ⟩]
  rw [pw_succ] at hI
  have e : (pl U' k (n + 1) + q * V) * pw k = pl U k (n + 1) * pw k := by rw [hP]
  grind

theorem bitLen_zero : Lib.bitLen 0 = 0 := by decide
theorem bitLen_spec : ∀ (f x : Nat), x < 2 ^ f → f ≤ 64 → x ≠ 0 → 1 ≤ Lib.bitLen x ∧ 2 ^ (Lib.bitLen x - 1) ≤ x ∧ x < 2 ^ Lib.bitLen x
  | 0, x, h, _, h0 => by simp at h; omega
  | f + 1, x, h, hf, h0 => by
    have h64 : x < 2 ^ 64 := Nat.lt_of_lt_of_le h (Nat.pow_le_pow_right (by omega) hf)
    rw [Lib.bitLen_half x h0 h64]
    by_cases h2 : x / 2 = 0
    · have hx : x = 1 := by omega
      subst hx
      rw [show 1 / 2 = 0 from rfl, bitLen_zero]
      decide
    · obtain ⟨h3, h4, h5⟩ := bitLen_spec f (x / 2) (by rw [Nat.pow_succ] at h; omega) (by omega) h2
      refine ⟨by omega, ?_, ?_⟩
      · rw [show 1 + Lib.bitLen (x / 2) - 1 = (Lib.bitLen (x / 2) - 1) + 1 by omega, Nat.pow_succ]; omega
      · rw [Nat.add_comm, Nat.pow_succ]; omega
/-- The number of bits of a number. -/
def bitsN (v : Nat) : Nat := if v = 0 then 0 else Nat.log2 v + 1
theorem bits_unique {v k : Nat} (h1 : 2 ^ k ≤ v) (h2 : v < 2 ^ (k + 1)) : Nat.log2 v = k := by
  have h0 : v ≠ 0 := by have := two_pos k; omega
  have h3 := Nat.log2_self_le h0
  have h4 := @Nat.lt_log2_self v
  rcases Nat.lt_trichotomy (Nat.log2 v) k with h | h | h
  · have := Nat.pow_le_pow_right (show 2 > 0 by omega) (show Nat.log2 v + 1 ≤ k by omega); omega
  · exact h
  · have := Nat.pow_le_pow_right (show 2 > 0 by omega) (show k + 1 ≤ Nat.log2 v by omega); omega
/-- The top digit of a normalized list, and the bits of its number. -/
theorem top_bits {l : List Nat} {n : Nat} (hd : Dig l) (hl : l.length = n + 1) (h0 : dg l n ≠ 0) :
    bitsN (val l) = 32 * n + Lib.bitLen (dg l n) := by
  have h1 := hd n
  obtain ⟨h2, h3, h4⟩ := bitLen_spec 32 (dg l n) h1 (by omega) h0
  have h5 : val l = lo l n + dg l n * pw n := by rw [← lo_succ, lo_all (by omega)]
  have h6 := lo_lt hd n
  have h7 : 2 ^ (Lib.bitLen (dg l n) - 1) * pw n ≤ dg l n * pw n := Nat.mul_le_mul_right _ h3
  have h8 : (dg l n + 1) * pw n ≤ 2 ^ Lib.bitLen (dg l n) * pw n := Nat.mul_le_mul_right _ h4
  rw [Nat.add_mul] at h8
  have hp := pw_pos n
  have e1 : 2 ^ (Lib.bitLen (dg l n) - 1) * pw n = 2 ^ (32 * n + (Lib.bitLen (dg l n) - 1)) := by rw [pw_two, ← Nat.pow_add]; congr 1; omega
  have e2 : 2 ^ Lib.bitLen (dg l n) * pw n = 2 ^ (32 * n + (Lib.bitLen (dg l n) - 1) + 1) := by rw [pw_two, ← Nat.pow_add]; congr 1; omega
  have hv : val l ≠ 0 := by
    have := two_pos (32 * n + (Lib.bitLen (dg l n) - 1)); omega
  rw [bitsN, if_neg hv, bits_unique (k := 32 * n + (Lib.bitLen (dg l n) - 1)) (by omega) (by omega)]
  omega
/-- Shifting so that the top bit of the top digit is set. -/
theorem norm_shift {l : List Nat} {n : Nat} (hd : Dig l) (hl : l.length = n + 1) (h0 : dg l n ≠ 0) :
    2147483648 * pw n ≤ val l * 2 ^ (32 - Lib.bitLen (dg l n)) ∧ val l * 2 ^ (32 - Lib.bitLen (dg l n)) < pw (n + 1) := by
  have h1 := hd n
  obtain ⟨h2, h3, h4⟩ := bitLen_spec 32 (dg l n) h1 (by omega) h0
  have hle : Lib.bitLen (dg l n) ≤ 32 := by
    rcases Nat.lt_or_ge 32 (Lib.bitLen (dg l n)) with h | h
    · have := Nat.pow_le_pow_right (show 2 > 0 by omega) (show 32 ≤ Lib.bitLen (dg l n) - 1 by omega)
      have e : (2 : Nat) ^ 32 = 4294967296 := by decide
      omega
    · exact h
  have h5 : val l = lo l n + dg l n * pw n := by rw [← lo_succ, lo_all (by omega)]
  have h6 := lo_lt hd n
  have h7 : 2 ^ (Lib.bitLen (dg l n) - 1) * pw n ≤ dg l n * pw n := Nat.mul_le_mul_right _ h3
  have h8 : (dg l n + 1) * pw n ≤ 2 ^ Lib.bitLen (dg l n) * pw n := Nat.mul_le_mul_right _ h4
  rw [Nat.add_mul] at h8
  have hp := pw_pos n
  have hv1 : 2 ^ (Lib.bitLen (dg l n) - 1) * pw n ≤ val l := by omega
  have hv2 : val l < 2 ^ Lib.bitLen (dg l n) * pw n := by omega
  constructor
  · have h9 : 2 ^ (Lib.bitLen (dg l n) - 1) * pw n * 2 ^ (32 - Lib.bitLen (dg l n)) ≤ val l * 2 ^ (32 - Lib.bitLen (dg l n)) := Nat.mul_le_mul_right _ hv1
    have e : 2 ^ (Lib.bitLen (dg l n) - 1) * pw n * 2 ^ (32 - Lib.bitLen (dg l n)) = 2147483648 * pw n := by
      rw [Nat.mul_right_comm, ← Nat.pow_add, show Lib.bitLen (dg l n) - 1 + (32 - Lib.bitLen (dg l n)) = 31 by omega]
    omega
  · have h9 : val l * 2 ^ (32 - Lib.bitLen (dg l n)) < 2 ^ Lib.bitLen (dg l n) * pw n * 2 ^ (32 - Lib.bitLen (dg l n)) := Nat.mul_lt_mul_of_pos_right hv2 (two_pos _)
    have e : 2 ^ Lib.bitLen (dg l n) * pw n * 2 ^ (32 - Lib.bitLen (dg l n)) = pw (n + 1) := by
      rw [Nat.mul_right_comm, ← Nat.pow_add, show Lib.bitLen (dg l n) + (32 - Lib.bitLen (dg l n)) = 32 by omega, pw_succ, Nat.mul_comm]
    omega
theorem bitLen_le32 {x : Nat} (h : x < 4294967296) : Lib.bitLen x ≤ 32 := Lib.bitLen_le x 32 (by omega) h
/-- A list of n + 1 digits whose number is at least 2^31 * 2^(32 n): its top digit. -/
theorem top_digit {l : List Nat} {n : Nat} (hd : Dig l) (hl : l.length = n + 1) (h : 2147483648 * pw n ≤ val l) : 2147483648 ≤ dg l n := by
  have h5 : val l = lo l n + dg l n * pw n := by rw [← lo_succ, lo_all (by omega)]
  have h6 := lo_lt hd n
  rcases Nat.lt_or_ge (dg l n) 2147483648 with h1 | h1
  · have : (dg l n + 1) * pw n ≤ 2147483648 * pw n := Nat.mul_le_mul_right _ h1
    rw [Nat.add_mul] at this
    omega
  · exact h1

end Go.Proofs.YtlpnjoenkohadaaDoor
