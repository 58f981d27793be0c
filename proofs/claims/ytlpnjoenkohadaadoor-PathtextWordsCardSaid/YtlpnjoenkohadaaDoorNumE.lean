/-
  Plain facts: decimal digits as bytes.
-/
import Derived.Test.YtlpnjoenkohadaaDoorNumD
namespace Go.Proofs.YtlpnjoenkohadaaDoor
set_option linter.unusedVariables false
set_option linter.unusedSimpArgs false

/-- The number that decimal digits spell, least digit first. -/
def dval : List UInt8 → Nat
  | [] => 0
  | b :: l => (b.toNat - 48) + 10 * dval l
def IsD (l : List UInt8) : Prop := ∀ b ∈ l, 48 ≤ b.toNat ∧ b.toNat < 58
def chr (d : Nat) : UInt8 := UInt8.ofNat (48 + d)
/-- The decimal digits of n, least first; none for 0. -/
def decF : Nat → Nat → List UInt8
  | 0, _ => []
  | f + 1, n => if n = 0 then [] else chr (n % 10) :: decF f (n / 10)
def decR (n : Nat) : List UInt8 := decF n n
/-- The decimal text of n. -/
def decS (n : Nat) : List UInt8 := if n = 0 then [48] else (decR n).reverse

theorem chr_toNat {d : Nat} (h : d < 10) : (chr d).toNat = 48 + d := by
  unfold chr
  rw [UInt8.toNat_ofNat']
  omega
theorem chr_of {b : UInt8} (h1 : 48 ≤ b.toNat) : chr (b.toNat - 48) = b := by
  unfold chr
  rw [show 48 + (b.toNat - 48) = b.toNat by omega]
  exact UInt8.ofNat_toNat
theorem decF_fuel : ∀ f g n, n ≤ f → n ≤ g → decF f n = decF g n
  | 0, g, n, h, _ => by
    have : n = 0 := by omega
    subst this
    cases g <;> simp [decF]
  | f + 1, 0, n, _, h => by
    have : n = 0 := by omega
    subst this
    simp [decF]
  | f + 1, g + 1, n, h1, h2 => by
    simp only [decF]
    split
    · rfl
    · rw [decF_fuel f g (n / 10) (by omega) (by omega)]
theorem decR_zero : decR 0 = [] := rfl
theorem decR_step {n : Nat} (h : n ≠ 0) : decR n = chr (n % 10) :: decR (n / 10) := by
  obtain ⟨m, rfl⟩ : ∃ m, n = m + 1 := ⟨n - 1, by omega⟩
  unfold decR
  rw [decF, if_neg h, decF_fuel m ((m + 1) / 10) ((m + 1) / 10) (by omega) (by omega)]
theorem IsD.nil : IsD [] := fun _ h => by cases h
theorem IsD.cons {b : UInt8} {l : List UInt8} (h1 : 48 ≤ b.toNat ∧ b.toNat < 58) (h : IsD l) : IsD (b :: l) := by
  intro x hx
  rcases List.mem_cons.1 hx with rfl | hx
  · exact h1
  · exact h x hx
theorem IsD.append {a b : List UInt8} (h1 : IsD a) (h2 : IsD b) : IsD (a ++ b) := by
  intro x hx
  rcases List.mem_append.1 hx with hx | hx
  · exact h1 x hx
  · exact h2 x hx
theorem IsD.chr {d : Nat} (h : d < 10) : IsD [chr d] := IsD.cons (by rw [chr_toNat h]; omega) IsD.nil
theorem dval_append (a b : List UInt8) : dval (a ++ b) = dval a + 10 ^ a.length * dval b := by
  induction a with
  | nil => simp [dval]
  | cons x l ih => simp only [List.cons_append, dval, ih, List.length_cons, Nat.pow_succ]; grind
theorem dval_one (b : UInt8) : dval [b] = b.toNat - 48 := by simp [dval]
theorem decR_isD : ∀ n, IsD (decR n) := by
  intro n
  induction n using Nat.strongRecOn with
  | _ n ih =>
    by_cases h : n = 0
    · subst h; exact IsD.nil
    · rw [decR_step h]
      exact IsD.cons (by rw [chr_toNat (by omega)]; omega) (ih _ (by omega))
theorem dval_decR : ∀ n, dval (decR n) = n := by
  intro n
  induction n using Nat.strongRecOn with
  | _ n ih =>
    by_cases h : n = 0
    · subst h; rfl
    · rw [decR_step h, dval, ih _ (by omega), chr_toNat (by omega)]; omega
theorem last_cons {b : UInt8} {t : List UInt8} (h : t ≠ []) : (b :: t).getLast? = t.getLast? := by
  cases t with
  | nil => exact absurd rfl h
  | cons c u => exact List.getLast?_cons_cons
theorem dval_pos {l : List UInt8} (h : IsD l) (hl : l ≠ []) (h0 : l.getLast? ≠ some 48) : dval l ≠ 0 := by
  induction l with
  | nil => exact absurd rfl hl
  | cons b t ih =>
    by_cases ht : t = []
    · subst ht
      have hb := h b (by simp)
      have : b ≠ 48 := by intro e; subst e; simp at h0
      have h2 : b.toNat ≠ 48 := by intro e; exact this (UInt8.toNat_inj.1 e)
      rw [dval_one]; omega
    · have := ih (fun x hx => h x (by simp [hx])) ht (by rw [last_cons ht] at h0; exact h0)
      rw [dval]; omega
/-- The digits of a number are known by the number. -/
theorem dec_unique {l : List UInt8} (h : IsD l) (h0 : l.getLast? ≠ some 48) : decR (dval l) = l := by
  induction l with
  | nil => rfl
  | cons b t ih =>
    have hne := dval_pos h (by simp) h0
    have hb := h b (by simp)
    rw [decR_step hne]
    rw [dval]
    have h1 : (b.toNat - 48 + 10 * dval t) % 10 = b.toNat - 48 := by omega
    have h2 : (b.toNat - 48 + 10 * dval t) / 10 = dval t := by omega
    rw [h1, h2, chr_of hb.1]
    by_cases ht : t = []
    · subst ht; rfl
    · rw [ih (fun x hx => h x (by simp [hx])) (by rw [last_cons ht] at h0; exact h0)]
theorem decR_last : ∀ n, (decR n).getLast? ≠ some 48 := by
  intro n
  induction n using Nat.strongRecOn with
  | _ n ih =>
    by_cases h : n = 0
    · subst h; simp [decR_zero]
    · rw [decR_step h]
      by_cases h2 : n / 10 = 0
      · rw [h2, decR_zero]
        intro e
        have e2 : chr (n % 10) = 48 := by simpa using e
        have := chr_toNat (show n % 10 < 10 by omega)
        rw [e2] at this
        have : n % 10 = 0 := by simpa using this
        omega
      · have := ih (n / 10) (by omega)
        rw [last_cons (by rw [decR_step h2]; simp)]
        exact this
theorem decR_length {n k : Nat} (h : n < 10 ^ k) : (decR n).length ≤ k := by
  induction k generalizing n with
  | zero => have : n = 0 := by simpa using h
            subst this; simp [decR_zero]
  | succ k ih =>
    by_cases h0 : n = 0
    · subst h0; simp [decR_zero]
    · rw [decR_step h0, List.length_cons]
      have := ih (n := n / 10) (by rw [Nat.pow_succ] at h; omega)
      omega
theorem decS_isD (n : Nat) : IsD (decS n) := by
  unfold decS
  split
  · exact IsD.cons (by decide) IsD.nil
  · intro b hb
    exact decR_isD n b (List.mem_reverse.1 hb)
theorem two_le_ten (k : Nat) : 2 ^ k ≤ 10 ^ k := Nat.pow_le_pow_left (by omega) k
/-- How many decimal digits can have been written of a number of 32 n bits. -/
theorem dec_bound {d x a len n : Nat} (h : d + 10 ^ len * x = a) (hx : 1 ≤ x) (ha : a < 2 ^ (32 * n)) : len < 32 * n := by
  have h1 : 10 ^ len * 1 ≤ 10 ^ len * x := Nat.mul_le_mul_left _ hx
  have h2 := two_le_ten len
  rcases Nat.lt_or_ge len (32 * n) with h3 | h3
  · exact h3
  · have := Nat.pow_le_pow_right (show 2 > 0 by omega) h3
    omega
theorem dec_step {bs : List UInt8} {r k q a : Nat} (h : dval bs + 10 ^ bs.length * (r + 10 ^ (k + 1) * q) = a) :
    dval (bs ++ [chr (r % 10)]) + 10 ^ (bs ++ [chr (r % 10)]).length * (r / 10 + 10 ^ k * q) = a := by
  rw [dval_append, dval_one, chr_toNat (by omega), List.length_append, List.length_singleton, Nat.pow_succ]
  rw [Nat.pow_succ] at h
  have e := Nat.div_add_mod r 10
  rw [show 48 + r % 10 - 48 = r % 10 by omega]
  generalize r % 10 = x at e ⊢
  generalize r / 10 = y at e ⊢
  subst e
  rw [← h]
  grind
/-- Taking off a zero that stands last. -/
theorem dval_drop0 (l : List UInt8) : dval (l ++ [48]) = dval l := by
  rw [dval_append, dval_one]; simp

/-! Reading: most significant digit first. -/
def rdv (l : List UInt8) : Nat := dval l.reverse
theorem rdv_snoc (l : List UInt8) (b : UInt8) : rdv (l ++ [b]) = 10 * rdv l + (b.toNat - 48) := by
  unfold rdv; rw [List.reverse_append]; simp [dval]; omega
theorem rdv_nil : rdv [] = 0 := rfl
def isDB (l : List UInt8) : Bool := l.all fun b => decide (48 ≤ b.toNat) && decide (b.toNat < 58)
theorem isDB_iff (l : List UInt8) : isDB l = true ↔ IsD l := by
  simp [isDB, IsD, List.all_eq_true]
/-- What a reader of decimal text answers: a number and an error code. -/
def parseE (l : List UInt8) : Int :=
  if isDB l = false then 3 else if l = [] ∨ (l.head? = some 48 ∧ 1 < l.length) then 3 else if 1000 < l.length then 5 else 0
def parseV (l : List UInt8) : Nat := if parseE l = 0 then rdv l else 0

theorem parse_decS {n : Nat} (h : (decS n).length ≤ 1000) : parseE (decS n) = 0 ∧ parseV (decS n) = n := by
  have h1 : isDB (decS n) = true := (isDB_iff _).2 (decS_isD n)
  have h2 : ¬ (decS n = [] ∨ ((decS n).head? = some 48 ∧ 1 < (decS n).length)) := by
    unfold decS
    by_cases h0 : n = 0
    · simp [h0]
    · rw [if_neg h0]
      have hl := decR_last n
      have hne : decR n ≠ [] := by rw [decR_step h0]; simp
      rintro (h3 | ⟨h3, _⟩)
      · exact hne (by simpa using h3)
      · rw [List.head?_reverse] at h3; exact hl h3
  have h3 : parseE (decS n) = 0 := by
    unfold parseE
    rw [if_neg (by simp [h1]), if_neg h2, if_neg (by omega)]
  refine ⟨h3, ?_⟩
  unfold parseV
  rw [if_pos h3]
  unfold decS rdv
  split
  · subst_vars; rfl
  · rw [List.reverse_reverse, dval_decR]
theorem decS_parse {l : List UInt8} (h : parseE l = 0) : decS (parseV l) = l ∧ IsD l ∧ l.length ≤ 1000 ∧ l ≠ [] := by
  have hE := h
  unfold parseE at h
  split at h
  · omega
  · rename_i h1
    split at h
    · omega
    · rename_i h2
      split at h
      · omega
      · rename_i h3
        have hd : IsD l := (isDB_iff l).1 (by simpa using h1)
        have hne : l ≠ [] := fun e => h2 (Or.inl e)
        refine ⟨?_, hd, by omega, hne⟩
        unfold parseV
        rw [if_pos hE]
        unfold decS rdv
        by_cases h4 : l.head? = some 48
        · have h5 : l.length = 1 := by
            have : 0 < l.length := List.length_pos_iff.2 hne
            rcases Nat.lt_or_ge 1 l.length with h6 | h6
            · exact absurd (Or.inr ⟨h4, h6⟩) h2
            · omega
          obtain ⟨b, rfl⟩ := List.length_eq_one_iff.1 h5
          have : b = 48 := by simpa using h4
          subst this
          rfl
        · have h5 : IsD l.reverse := fun b hb => hd b (List.mem_reverse.1 hb)
          have h6 : l.reverse.getLast? ≠ some 48 := by rw [List.getLast?_reverse]; exact h4
          have h7 := dval_pos h5 (by simpa using hne) h6
          rw [if_neg h7, dec_unique h5 h6, List.reverse_reverse]

end Go.Proofs.YtlpnjoenkohadaaDoor
