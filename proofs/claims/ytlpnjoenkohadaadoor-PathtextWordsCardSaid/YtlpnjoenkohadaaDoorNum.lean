/-
  Numbers as lists of digits in base 2^32, least digit first: the plain facts on them. No program in sight.
-/
import Derived.Below
namespace Go.Proofs.YtlpnjoenkohadaaDoor
set_option linter.unusedVariables false
set_option linter.unusedSimpArgs false

/-- The number that the digits spell. -/
def val : List Nat → Nat
  | [] => 0
  | d :: l => d + 4294967296 * val l
/-- Digit i, 0 beyond the end. -/
def dg (l : List Nat) (i : Nat) : Nat := l.getD i 0
/-- All digits are below 2^32. -/
def Dig (l : List Nat) : Prop := ∀ i, dg l i < 4294967296
def pw (k : Nat) : Nat := 4294967296 ^ k
/-- The number that the first k digits spell. -/
def lo (l : List Nat) (k : Nat) : Nat := val (l.take k)
/-- Normalized: the last digit is not 0. -/
def Norm (l : List Nat) : Prop := Dig l ∧ (l = [] ∨ dg l (l.length - 1) ≠ 0)

theorem pw_zero : pw 0 = 1 := rfl
theorem pw_succ (k : Nat) : pw (k + 1) = pw k * 4294967296 := Nat.pow_succ ..
theorem pw_add (a b : Nat) : pw (a + b) = pw a * pw b := Nat.pow_add ..
theorem pw_pos (k : Nat) : 0 < pw k := Nat.pow_pos (by omega)
theorem pw_le {a b : Nat} (h : a ≤ b) : pw a ≤ pw b := Nat.pow_le_pow_right (by omega) h
theorem pw_lt {a b : Nat} (h : a < b) : pw a < pw b := Nat.pow_lt_pow_right (by omega) h

theorem dg_nil (i : Nat) : dg [] i = 0 := by simp [dg]
theorem dg_cons_zero (d : Nat) (l : List Nat) : dg (d :: l) 0 = d := by simp [dg]
theorem dg_cons_succ (d : Nat) (l : List Nat) (i : Nat) : dg (d :: l) (i + 1) = dg l i := by simp [dg]
theorem dg_out {l : List Nat} {i : Nat} (h : l.length ≤ i) : dg l i = 0 := by
  simp [dg, List.getElem?_eq_none h]
theorem dg_in {l : List Nat} {i : Nat} (h : i < l.length) : dg l i = l[i] := by
  simp [dg, h]
theorem dg_take {l : List Nat} {k i : Nat} (h : i < k) : dg (l.take k) i = dg l i := by
  simp [dg, h]
theorem dg_take_ge {l : List Nat} {k i : Nat} (h : k ≤ i) : dg (l.take k) i = 0 :=
  dg_out (by simp; omega)
theorem dg_set {l : List Nat} {k i d : Nat} : dg (l.set k d) i = if k = i ∧ k < l.length then d else dg l i := by
  unfold dg
  by_cases h : k = i
  · subst h
    by_cases hl : k < l.length <;> simp [hl]
  · simp [h]
theorem dg_append_left {a b : List Nat} {i : Nat} (h : i < a.length) : dg (a ++ b) i = dg a i := by
  simp [dg, List.getElem?_append, h]
theorem dg_append_right {a b : List Nat} {i : Nat} (h : a.length ≤ i) : dg (a ++ b) i = dg b (i - a.length) := by
  simp [dg, List.getElem?_append, show ¬ i < a.length by omega]
theorem dg_drop {l : List Nat} {k i : Nat} : dg (l.drop k) i = dg l (k + i) := by
  simp [dg, List.getElem?_drop]
theorem dg_replicate {n i : Nat} : dg (List.replicate n 0) i = 0 := by
  by_cases h : i < n <;> simp [dg, h]

theorem Dig.nil : Dig [] := fun i => by rw [dg_nil]; omega
theorem Dig.of_all {l : List Nat} (h : ∀ d ∈ l, d < 4294967296) : Dig l := by
  intro i
  by_cases hi : i < l.length
  · rw [dg_in hi]; exact h _ (List.getElem_mem hi)
  · rw [dg_out (by omega)]; omega
theorem Dig.mem {l : List Nat} (h : Dig l) : ∀ d ∈ l, d < 4294967296 := by
  intro d hd
  obtain ⟨i, hi, rfl⟩ := List.getElem_of_mem hd
  have := h i
  rwa [dg_in hi] at this
theorem Dig.cons {d : Nat} {l : List Nat} (hd : d < 4294967296) (h : Dig l) : Dig (d :: l)
  | 0 => by rw [dg_cons_zero]; exact hd
  | i + 1 => by rw [dg_cons_succ]; exact h i
theorem Dig.tail {d : Nat} {l : List Nat} (h : Dig (d :: l)) : Dig l := fun i => by
  have := h (i + 1); rwa [dg_cons_succ] at this
theorem Dig.head {d : Nat} {l : List Nat} (h : Dig (d :: l)) : d < 4294967296 := by
  have := h 0; rwa [dg_cons_zero] at this
theorem Dig.take {l : List Nat} (h : Dig l) (k : Nat) : Dig (l.take k) := fun i => by
  by_cases hi : i < k
  · rw [dg_take hi]; exact h i
  · rw [dg_take_ge (by omega)]; omega
theorem Dig.drop {l : List Nat} (h : Dig l) (k : Nat) : Dig (l.drop k) := fun i => by
  rw [dg_drop]; exact h _
theorem Dig.set {l : List Nat} (h : Dig l) (k : Nat) {d : Nat} (hd : d < 4294967296) : Dig (l.set k d) := fun i => by
  rw [dg_set]; split
  · exact hd
  · exact h i
theorem Dig.append {a b : List Nat} (ha : Dig a) (hb : Dig b) : Dig (a ++ b) := fun i => by
  by_cases hi : i < a.length
  · rw [dg_append_left hi]; exact ha i
  · rw [dg_append_right (by omega)]; exact hb _
theorem Dig.replicate (n : Nat) : Dig (List.replicate n 0) := fun i => by rw [dg_replicate]; omega
theorem Dig.one {d : Nat} (h : d < 4294967296) : Dig [d] := Dig.cons h Dig.nil

theorem val_nil : val [] = 0 := rfl
theorem val_cons (d : Nat) (l : List Nat) : val (d :: l) = d + 4294967296 * val l := rfl
theorem val_one (d : Nat) : val [d] = d := by simp [val]
theorem val_append (a b : List Nat) : val (a ++ b) = val a + pw a.length * val b := by
  induction a with
  | nil => simp [val, pw]
  | cons d l ih => simp only [List.cons_append, val_cons, ih, List.length_cons, pw_succ]; grind
theorem lo_zero (l : List Nat) : lo l 0 = 0 := by simp [lo, val]
theorem lo_succ (l : List Nat) : ∀ k, lo l (k + 1) = lo l k + dg l k * pw k := by
  induction l with
  | nil => intro k; simp [lo, val, dg_nil]
  | cons d l ih =>
    intro k
    cases k with
    | zero => simp [lo, val, dg_cons_zero, pw]
    | succ k =>
      have h := ih k
      simp only [lo, List.take_succ_cons, val_cons, dg_cons_succ, pw_succ] at h ⊢
      grind
theorem lo_all {l : List Nat} {k : Nat} (h : l.length ≤ k) : lo l k = val l := by
  rw [lo, List.take_of_length_le h]
theorem lo_lt {l : List Nat} (h : Dig l) : ∀ k, lo l k < pw k := by
  intro k
  induction k with
  | zero => rw [lo_zero, pw_zero]; omega
  | succ k ih =>
    rw [lo_succ, pw_succ]
    have hd := h k
    have : dg l k * pw k ≤ 4294967295 * pw k := Nat.mul_le_mul_right _ (by omega)
    omega
theorem val_lt {l : List Nat} (h : Dig l) : val l < pw l.length := by
  rw [← lo_all (Nat.le_refl _)]; exact lo_lt h _
theorem val_lt_of {l : List Nat} {k : Nat} (h : Dig l) (hk : l.length ≤ k) : val l < pw k :=
  Nat.lt_of_lt_of_le (val_lt h) (pw_le hk)
theorem lo_mono (l : List Nat) {a b : Nat} (h : a ≤ b) : lo l a ≤ lo l b := by
  induction b with
  | zero => have : a = 0 := by omega
            subst this; exact Nat.le_refl _
  | succ b ih =>
    by_cases e : a = b + 1
    · subst e; exact Nat.le_refl _
    · have := ih (by omega)
      rw [lo_succ]; omega
theorem lo_le (l : List Nat) (k : Nat) : lo l k ≤ val l := by
  rw [← lo_all (l := l) (Nat.le_max_left l.length k)]
  exact lo_mono l (Nat.le_max_right _ _)
theorem lo_drop (l : List Nat) (k : Nat) : val l = lo l k + pw k * val (l.drop k) := by
  by_cases h : k ≤ l.length
  · have := val_append (l.take k) (l.drop k)
    rw [List.take_append_drop, List.length_take, Nat.min_eq_left h] at this
    exact this
  · rw [lo_all (by omega), List.drop_eq_nil_of_le (by omega), val]; omega
/-- Where the digits from k on are the same, the difference lies in the digits below k. -/
theorem val_agree {a b : List Nat} {k : Nat} (h : ∀ j, k ≤ j → dg a j = dg b j) : val a + lo b k = val b + lo a k := by
  have key : ∀ n k, (∀ j, k ≤ j → dg a j = dg b j) → max a.length b.length ≤ k + n → val a + lo b k = val b + lo a k := by
    intro n
    induction n with
    | zero =>
      intro k _ hk
      rw [lo_all (l := a) (by omega), lo_all (l := b) (by omega)]; omega
    | succ n ih =>
      intro k hj hk
      have h1 := ih (k + 1) (fun j hj' => hj j (by omega)) (by omega)
      rw [lo_succ, lo_succ, hj k (Nat.le_refl _)] at h1
      omega
  exact key _ k h (Nat.le_add_left _ _)
/-- Two lists with the same digits spell the same number. -/
theorem val_ext {a b : List Nat} (h : ∀ j, dg a j = dg b j) : val a = val b := by
  have := val_agree (a := a) (b := b) (k := 0) (fun j _ => h j)
  rw [lo_zero, lo_zero] at this; omega
theorem lo_ext {a b : List Nat} {k : Nat} (h : ∀ j, j < k → dg a j = dg b j) : lo a k = lo b k := by
  induction k with
  | zero => rw [lo_zero, lo_zero]
  | succ k ih => rw [lo_succ, lo_succ, ih (fun j hj => h j (by omega)), h k (by omega)]
theorem val_lt_at {a b : List Nat} {k : Nat} (ha : Dig a) (h : ∀ j, k < j → dg a j = dg b j) (hk : dg a k < dg b k) : val a < val b := by
  have h1 := val_agree (a := a) (b := b) (k := k + 1) (fun j hj => h j (by omega))
  rw [lo_succ, lo_succ] at h1
  have h2 := lo_lt ha k
  have h3 : (dg a k + 1) * pw k ≤ dg b k * pw k := Nat.mul_le_mul_right _ hk
  rw [Nat.add_mul] at h3
  omega
theorem lo_set_lt {l : List Nat} {k i d : Nat} (h : k ≤ i) : lo (l.set i d) k = lo l k :=
  lo_ext fun j hj => by rw [dg_set, if_neg (by omega)]
theorem lo_set_succ {l : List Nat} {i d : Nat} (h : i < l.length) : lo (l.set i d) (i + 1) = lo l i + d * pw i := by
  rw [lo_succ, lo_set_lt (Nat.le_refl _), dg_set, if_pos ⟨rfl, h⟩]
theorem lo_replicate (n k : Nat) : lo (List.replicate n 0) k = 0 := by
  induction k with
  | zero => exact lo_zero _
  | succ k ih => rw [lo_succ, ih, dg_replicate]; omega
theorem val_replicate (n : Nat) : val (List.replicate n 0) = 0 := by
  rw [← lo_all (Nat.le_refl _)]; exact lo_replicate _ _
/-- All digits from k on are 0. -/
theorem val_lo {l : List Nat} {k : Nat} (h : ∀ j, k ≤ j → dg l j = 0) : val l = lo l k := by
  have := val_agree (a := l) (b := []) (k := k) (fun j hj => by rw [h j hj, dg_nil])
  have e : lo [] k = 0 := by simp [lo, val]
  rw [e, val_nil] at this; omega

/-- How many digits are left when the zeros at the end are taken off the first n. -/
def tlen (l : List Nat) : Nat → Nat
  | 0 => 0
  | n + 1 => if dg l n = 0 then tlen l n else n + 1
def trim (l : List Nat) : List Nat := l.take (tlen l l.length)
theorem tlen_le (l : List Nat) : ∀ n, tlen l n ≤ n
  | 0 => Nat.le_refl _
  | n + 1 => by
    unfold tlen; split
    · exact Nat.le_succ_of_le (tlen_le l n)
    · exact Nat.le_refl _
theorem tlen_zero (l : List Nat) : ∀ n j, tlen l n ≤ j → j < n → dg l j = 0
  | 0, _, _, h => absurd h (by omega)
  | n + 1, j, h, hj => by
    unfold tlen at h
    split at h
    · rename_i h0
      by_cases e : j = n
      · subst e; exact h0
      · exact tlen_zero l n j h (by omega)
    · omega
theorem tlen_top (l : List Nat) : ∀ n, tlen l n = 0 ∨ dg l (tlen l n - 1) ≠ 0
  | 0 => Or.inl rfl
  | n + 1 => by
    unfold tlen; split
    · exact tlen_top l n
    · rename_i h; right; simpa using h
theorem tlen_step {l : List Nat} {n : Nat} (h : dg l n = 0) : tlen l (n + 1) = tlen l n := by
  rw [tlen, if_pos h]
theorem tlen_stop {l : List Nat} {n : Nat} (h : dg l n ≠ 0) : tlen l (n + 1) = n + 1 := by
  rw [tlen, if_neg h]
theorem trim_length (l : List Nat) : (trim l).length = tlen l l.length := by
  rw [trim, List.length_take]; exact Nat.min_eq_left (tlen_le _ _)
theorem trim_length_le (l : List Nat) : (trim l).length ≤ l.length := by
  rw [trim_length]; exact tlen_le _ _
theorem dg_trim (l : List Nat) (i : Nat) : dg (trim l) i = dg l i := by
  by_cases h : i < tlen l l.length
  · rw [trim, dg_take h]
  · rw [trim, dg_take_ge (by omega)]
    by_cases h2 : i < l.length
    · exact (tlen_zero l _ i (by omega) h2).symm
    · exact (dg_out (by omega)).symm
theorem val_trim (l : List Nat) : val (trim l) = val l := val_ext (dg_trim l)
theorem Dig.trim {l : List Nat} (h : Dig l) : Dig (trim l) := h.take _
theorem trim_norm {l : List Nat} (h : Dig l) : Norm (trim l) := by
  refine ⟨h.trim, ?_⟩
  rcases tlen_top l l.length with h0 | h0
  · left; rw [trim, h0]; rfl
  · right
    rw [trim_length, dg_trim]; exact h0
theorem Norm.nil : Norm [] := ⟨Dig.nil, Or.inl rfl⟩
theorem Norm.dig {l : List Nat} (h : Norm l) : Dig l := h.1
theorem Norm.pos {l : List Nat} (h : Norm l) (hl : l ≠ []) : pw (l.length - 1) ≤ val l := by
  have h0 : dg l (l.length - 1) ≠ 0 := h.2.resolve_left hl
  have hlen : 0 < l.length := List.length_pos_iff.2 hl
  have e : l.length = (l.length - 1) + 1 := by omega
  have h1 : val l = lo l (l.length - 1) + dg l (l.length - 1) * pw (l.length - 1) := by
    rw [← lo_succ, ← e, lo_all (Nat.le_refl _)]
  have h2 : 1 * pw (l.length - 1) ≤ dg l (l.length - 1) * pw (l.length - 1) := Nat.mul_le_mul_right _ (by omega)
  omega
theorem Norm.zero {l : List Nat} (h : Norm l) (hv : val l = 0) : l = [] := by
  rcases l with _ | ⟨d, l⟩
  · rfl
  · have := h.pos (by simp)
    have := pw_pos ((d :: l).length - 1)
    omega
theorem Norm.length_lt {a b : List Nat} (ha : Norm a) (hb : Norm b) (h : a.length < b.length) : val a < val b := by
  have h1 := val_lt ha.1
  have hb0 : b ≠ [] := by intro e; subst e; simp at h
  have h2 := hb.pos hb0
  have h3 : pw a.length ≤ pw (b.length - 1) := pw_le (by omega)
  omega
theorem dg_eq_of_val {a b : List Nat} (ha : Dig a) (hb : Dig b) (h : val a = val b) : ∀ i, dg a i = dg b i := by
  induction a generalizing b with
  | nil =>
    intro i
    induction b generalizing i with
    | nil => rfl
    | cons d l ih =>
      rw [val_nil, val_cons] at h
      cases i with
      | zero => rw [dg_nil, dg_cons_zero]; omega
      | succ i =>
        have := ih hb.tail (by rw [val_nil]; omega) i
        rw [dg_cons_succ, ← this, dg_nil, dg_nil]
  | cons c k ih =>
    intro i
    rcases b with _ | ⟨d, l⟩
    · rw [val_nil, val_cons] at h
      cases i with
      | zero => rw [dg_nil, dg_cons_zero]; omega
      | succ i =>
        have := ih ha.tail Dig.nil (by rw [val_nil]; omega) i
        rw [dg_cons_succ, this, dg_nil, dg_nil]
    · have h1 := ha.head
      have h2 := hb.head
      rw [val_cons, val_cons] at h
      cases i with
      | zero => rw [dg_cons_zero, dg_cons_zero]; omega
      | succ i => rw [dg_cons_succ, dg_cons_succ]; exact ih ha.tail hb.tail (by omega) i
theorem ext_dg {a b : List Nat} (hl : a.length = b.length) (h : ∀ i, i < a.length → dg a i = dg b i) : a = b := by
  apply List.ext_getElem hl
  intro i h1 h2
  have := h i h1
  rwa [dg_in h1, dg_in h2] at this
/-- A normalized list of digits is known by its number. -/
theorem Norm.unique {a b : List Nat} (ha : Norm a) (hb : Norm b) (h : val a = val b) : a = b := by
  have hl : a.length = b.length := by
    rcases Nat.lt_trichotomy a.length b.length with h1 | h1 | h1
    · have := ha.length_lt hb h1; omega
    · exact h1
    · have := hb.length_lt ha h1; omega
  exact ext_dg hl fun i _ => dg_eq_of_val ha.1 hb.1 h i
theorem Norm.trim {l : List Nat} (h : Norm l) : trim l = l := (trim_norm h.1).unique h (val_trim l)
theorem Norm.length_le {l : List Nat} (h : Norm l) {k : Nat} (hv : val l < pw k) : l.length ≤ k := by
  rcases Nat.lt_or_ge k l.length with h1 | h1
  · have hl : l ≠ [] := by intro e; subst e; simp at h1
    have h2 := h.pos hl
    have h3 : pw k ≤ pw (l.length - 1) := pw_le (by omega)
    omega
  · exact h1
theorem Norm.one {d : Nat} (h0 : d ≠ 0) (h : d < 4294967296) : Norm [d] :=
  ⟨Dig.one h, Or.inr (by simpa [dg] using h0)⟩
theorem trim_eq_of_val {a b : List Nat} (ha : Dig a) (hb : Norm b) (h : val a = val b) : trim a = b :=
  (trim_norm ha).unique hb (by rw [val_trim]; exact h)

theorem add_step {o a b : List Nat} {k y : Nat} (hk : k < o.length) (h : lo o k + y * pw k = lo a k + lo b k) :
    lo (o.set k ((y + (dg a k + dg b k)) % 4294967296)) (k + 1) + (y + (dg a k + dg b k)) / 4294967296 * pw (k + 1) = lo a (k + 1) + lo b (k + 1) := by
  rw [lo_set_succ hk, lo_succ, lo_succ, pw_succ]
  have e := Nat.div_add_mod (y + (dg a k + dg b k)) 4294967296
  generalize (y + (dg a k + dg b k)) % 4294967296 = r at e ⊢
  generalize (y + (dg a k + dg b k)) / 4294967296 = q at e ⊢
  grind
theorem add_end {o a b : List Nat} {N y : Nat} (ho : o.length = N + 1) (had : Dig a) (hbd : Dig b) (ha : a.length ≤ N) (hb : b.length ≤ N) (h : lo o (N + 1) + y * pw (N + 1) = lo a (N + 1) + lo b (N + 1)) : val o = val a + val b := by
  rw [lo_all (by omega), lo_all (by omega), lo_all (by omega)] at h
  have h1 := val_lt_of had ha
  have h2 := val_lt_of hbd hb
  rw [pw_succ] at h
  have hp := pw_pos N
  rcases Nat.eq_zero_or_pos y with e | e
  · subst e; omega
  · have : 1 * (pw N * 4294967296) ≤ y * (pw N * 4294967296) := Nat.mul_le_mul_right _ e
    omega

theorem sub_step {o a b : List Nat} {k y d y' : Nat} (hk : k < o.length) (h : lo o k + lo b k = lo a k + y * pw k) (hd : d + dg b k + y = dg a k + y' * 4294967296) :
    lo (o.set k d) (k + 1) + lo b (k + 1) = lo a (k + 1) + y' * pw (k + 1) := by
  rw [lo_set_succ hk, lo_succ, lo_succ, pw_succ]
  have e : (d + dg b k + y) * pw k = (dg a k + y' * 4294967296) * pw k := by rw [hd]
  grind
theorem sub_end {o a b : List Nat} {y : Nat} (hol : o.length = (trim a).length) (ho : Dig o) (had : Dig a) (hle : val b ≤ val a) (h : lo o (trim a).length + lo b (trim a).length = lo a (trim a).length + y * pw (trim a).length) : val o = val a - val b := by
  have ha : lo a (trim a).length = val a := by rw [← val_trim a, ← lo_ext (a := trim a) (fun j _ => dg_trim a j), lo_all (Nat.le_refl _)]
  have h1 : val a < pw (trim a).length := by rw [← val_trim a]; exact val_lt had.trim
  have h2 := lo_drop b (trim a).length
  have h3 : val (b.drop (trim a).length) = 0 := by
    rcases Nat.eq_zero_or_pos (val (b.drop (trim a).length)) with e | e
    · exact e
    · have : pw (trim a).length * 1 ≤ pw (trim a).length * val (b.drop (trim a).length) := Nat.mul_le_mul_left _ e
      omega
  rw [h3] at h2
  rw [ha, lo_all (l := o) (by omega)] at h
  have h4 := val_lt_of ho (Nat.le_of_eq hol)
  rcases Nat.eq_zero_or_pos y with e | e
  · subst e; omega
  · have : 1 * pw (trim a).length ≤ y * pw (trim a).length := Nat.mul_le_mul_right _ e
    omega

theorem mul_le32 {x y : Nat} (hx : x < 4294967296) (hy : y < 4294967296) : x * y ≤ 18446744065119617025 :=
  Nat.mul_le_mul (show x ≤ 4294967295 by omega) (show y ≤ 4294967295 by omega)
theorem mul_le32i {x y : Nat} (hx : x < 4294967296) (hy : y < 4294967296) : (x : Int) * (y : Int) ≤ 18446744065119617025 ∧ 0 ≤ (x : Int) * (y : Int) := by
  have h := mul_le32 hx hy
  have e : ((x * y : Nat) : Int) = (x : Int) * (y : Int) := Int.natCast_mul ..
  omega
/-- One digit of a row of a product. -/
theorem mul_step {o o0 b : List Nat} {i k x y s : Nat} (hk : i + k < o.length) (hd : dg o (i + k) = dg o0 (i + k))
    (h : lo o (i + k) + y * pw (i + k) = lo o0 (i + k) + x * lo b k * pw i) (hs : s = y + (x * dg b k + dg o (i + k))) :
    lo (o.set (i + k) (s % 4294967296)) (i + (k + 1)) + s / 4294967296 * pw (i + (k + 1)) = lo o0 (i + (k + 1)) + x * lo b (k + 1) * pw i := by
  rw [show i + (k + 1) = i + k + 1 by omega, lo_set_succ hk, lo_succ, lo_succ, pw_succ, ← hd]
  have e := Nat.div_add_mod s 4294967296
  generalize s % 4294967296 = r at e ⊢
  generalize s / 4294967296 = q at e ⊢
  rw [pw_add] at h ⊢
  grind
theorem mul_row {o o0 a b : List Nat} {i q x y : Nat} (hlen : i + q < o.length) (hx : dg a i = x) (hb : val b = lo b q)
    (h0 : val o0 = lo a i * val b) (hz0 : ∀ j, i + q ≤ j → dg o0 j = 0) (hag : ∀ j, i + q ≤ j → dg o j = dg o0 j)
    (h : lo o (i + q) + y * pw (i + q) = lo o0 (i + q) + x * lo b q * pw i) :
    val (o.set (i + q) y) = lo a (i + 1) * val b ∧ ∀ j, i + 1 + q ≤ j → dg (o.set (i + q) y) j = 0 := by
  have hz : ∀ j, i + 1 + q ≤ j → dg (o.set (i + q) y) j = 0 := by
    intro j hj
    rw [dg_set, if_neg (by omega), hag j (by omega), hz0 j (by omega)]
  refine ⟨?_, hz⟩
  rw [val_lo hz, show i + 1 + q = i + q + 1 by omega, lo_set_succ hlen, h, ← val_lo hz0, h0, lo_succ, hx, hb]
  grind

theorem val_drop_succ {l : List Nat} {k : Nat} (h : k < l.length) : val (l.drop k) = dg l k + 4294967296 * val (l.drop (k + 1)) := by
  rw [List.drop_eq_getElem_cons h, val_cons, dg_in h]
theorem val_drop_all {l : List Nat} {k : Nat} (h : l.length ≤ k) : val (l.drop k) = 0 := by
  rw [List.drop_eq_nil_of_le h]; rfl
theorem div_step {a o : List Nat} {k d r q r' : Nat} (ha : k < a.length) (ho : k < o.length) (h : val (o.drop (k + 1)) * d + r = val (a.drop (k + 1)))
    (hq : q = (r * 4294967296 + dg a k) / d) (hr : r' = (r * 4294967296 + dg a k) % d) :
    val ((o.set k q).drop k) * d + r' = val (a.drop k) := by
  have h1 : val ((o.set k q).drop (k + 1)) = val (o.drop (k + 1)) := val_ext fun j => by
    rw [dg_drop, dg_drop, dg_set, if_neg (by omega)]
  rw [val_drop_succ ha, val_drop_succ (by rw [List.length_set]; exact ho), h1, dg_set, if_pos ⟨rfl, ho⟩]
  have e := Nat.div_add_mod (r * 4294967296 + dg a k) d
  rw [← hq, ← hr] at e
  clear hq hr h1
  grind
theorem div_digit {r x d : Nat} (hr : r < d) (hx : x < 4294967296) : (r * 4294967296 + x) / d < 4294967296 := by
  rw [Nat.div_lt_iff_lt_mul (by omega)]
  have : (r + 1) * 4294967296 ≤ d * 4294967296 := Nat.mul_le_mul_right _ hr
  have : d * 4294967296 = 4294967296 * d := Nat.mul_comm ..
  omega
theorem div_unique {a q d r : Nat} (h : q * d + r = a) (hr : r < d) : q = a / d ∧ r = a % d := by
  subst h
  constructor
  · rw [Nat.add_comm, Nat.add_mul_div_right _ _ (by omega), Nat.div_eq_of_lt hr]; omega
  · rw [Nat.add_comm, Nat.add_mul_mod_self_right, Nat.mod_eq_of_lt hr]

end Go.Proofs.YtlpnjoenkohadaaDoor
