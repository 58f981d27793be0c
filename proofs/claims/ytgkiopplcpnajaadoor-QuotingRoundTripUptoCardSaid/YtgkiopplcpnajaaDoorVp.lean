/-
  Quoting: what words, fields and lines are (plain lists, no program).
-/
import Derived.Test.YtgkiopplcpnajaaDoorVA
namespace Go.Proofs.YtgkiopplcpnajaaDoor
set_option linter.unusedVariables false
set_option linter.unusedSimpArgs false
open Go.RowKit

def plainB (c : UInt8) : Bool := (decide (97 ≤ c.toNat) && decide (c.toNat ≤ 122)) || (decide (65 ≤ c.toNat) && decide (c.toNat ≤ 90)) || (decide (48 ≤ c.toNat) && decide (c.toNat ≤ 57)) || [46, 95, 58, 47, 43, 45, 44, 61, 35].contains c.toNat
def q1 (c : UInt8) : List UInt8 := if plainB c then [c] else 42 :: enc2 c
def quoL (l : List UInt8) : List UInt8 := if l = [] then [42] else l.flatMap q1
def unqS : List UInt8 → Option (List UInt8)
  | [] => some []
  | c :: l => if plainB c then (unqS l).map (c :: ·) else if c = 42 then (match l with
    | a :: b :: r => if valH a < 0 ∨ valH b < 0 ∨ plainB (byteH a b) = true then none else (unqS r).map (byteH a b :: ·)
    | _ => none) else none
termination_by l => l.length
def refS : List UInt8 → Option (List UInt8)
  | [] => some []
  | c :: l => if c = 42 then (match l with
    | a :: b :: r => if valH a < 0 ∨ valH b < 0 then none else (refS r).map (byteH a b :: ·)
    | _ => none) else (refS l).map (c :: ·)
termination_by l => l.length
def unqL (w : List UInt8) : Option (List UInt8) := if w = [42] then some [] else match unqS w with
  | some b => if b = [] then none else some b
  | none => none
theorem q1_plain {c : UInt8} (h : plainB c = true) : q1 c = [c] := if_pos h
theorem q1_not {c : UInt8} (h : plainB c = false) : q1 c = 42 :: enc2 c := if_neg (by rw [h]; decide)
theorem plain_mark : plainB 42 = false := by decide +kernel
theorem hex_lt (b : UInt8) : b.toNat / 16 < 16 ∧ b.toNat % 16 < 16 := by have := b.toNat_lt; omega
theorem unqS_plain {c : UInt8} {l : List UInt8} (h : plainB c = true) : unqS (c :: l) = (unqS l).map (c :: ·) := by rw [unqS.eq_def]; exact if_pos h
theorem unqS_mark {a b : UInt8} {r : List UInt8} : unqS (42 :: a :: b :: r) = if valH a < 0 ∨ valH b < 0 ∨ plainB (byteH a b) = true then none else (unqS r).map (byteH a b :: ·) := by
  rw [unqS.eq_def]
  show (if plainB 42 = true then _ else if (42 : UInt8) = 42 then _ else _) = _
  rw [if_neg (by rw [plain_mark]; decide), if_pos rfl]
theorem unqS_short {l : List UInt8} (h : l.length < 2) : unqS (42 :: l) = none := by
  rw [unqS.eq_def]
  show (if plainB 42 = true then _ else if (42 : UInt8) = 42 then _ else _) = _
  rw [if_neg (by rw [plain_mark]; decide), if_pos rfl]
  match l, h with
  | [], _ => rfl
  | [_], _ => rfl
  | _ :: _ :: _, h => simp at h; omega
theorem unqS_bad {c : UInt8} {l : List UInt8} (h : plainB c = false) (h2 : c ≠ 42) : unqS (c :: l) = none := by
  rw [unqS.eq_def]
  show (if plainB c = true then _ else if c = 42 then _ else _) = _
  rw [if_neg (by rw [h]; decide), if_neg h2]
theorem refS_plain {c : UInt8} {l : List UInt8} (h : c ≠ 42) : refS (c :: l) = (refS l).map (c :: ·) := by rw [refS.eq_def]; exact if_neg h
theorem refS_mark {a b : UInt8} {r : List UInt8} : refS (42 :: a :: b :: r) = if valH a < 0 ∨ valH b < 0 then none else (refS r).map (byteH a b :: ·) := by
  rw [refS.eq_def]
  show (if (42 : UInt8) = 42 then _ else _) = _
  rw [if_pos rfl]
theorem refS_short {l : List UInt8} (h : l.length < 2) : refS (42 :: l) = none := by
  rw [refS.eq_def]
  show (if (42 : UInt8) = 42 then _ else _) = _
  rw [if_pos rfl]
  match l, h with
  | [], _ => rfl
  | [_], _ => rfl
  | _ :: _ :: _, h => simp at h; omega
theorem unqS_quo : ∀ l : List UInt8, unqS (l.flatMap q1) = some l
  | [] => by rw [List.flatMap_nil, unqS]
  | c :: l => by
    rw [List.flatMap_cons]
    cases hp : plainB c
    · rw [q1_not hp]
      show unqS (42 :: hexC (c.toNat / 16) :: hexC (c.toNat % 16) :: l.flatMap q1) = _
      rw [unqS_mark, byteH_enc, valH_hexC _ (hex_lt c).1, valH_hexC _ (hex_lt c).2, hp, if_neg (by simp; omega), unqS_quo l]
      rfl
    · rw [q1_plain hp]
      show unqS (c :: l.flatMap q1) = _
      rw [unqS_plain hp, unqS_quo l]
      rfl
theorem refS_quo : ∀ l : List UInt8, refS (l.flatMap q1) = some l
  | [] => by rw [List.flatMap_nil, refS]
  | c :: l => by
    rw [List.flatMap_cons]
    cases hp : plainB c
    · rw [q1_not hp]
      show refS (42 :: hexC (c.toNat / 16) :: hexC (c.toNat % 16) :: l.flatMap q1) = _
      rw [refS_mark, byteH_enc, valH_hexC _ (hex_lt c).1, valH_hexC _ (hex_lt c).2, if_neg (by omega), refS_quo l]
      rfl
    · rw [q1_plain hp]
      show refS (c :: l.flatMap q1) = _
      rw [refS_plain (by rintro rfl; rw [plain_mark] at hp; cases hp), refS_quo l]
      rfl
theorem enc2_byteH {a b : UInt8} (ha : ¬ valH a < 0) (hb : ¬ valH b < 0) : enc2 (byteH a b) = [a, b] := by
  have ra := (valH_rng a).2
  have rb := (valH_rng b).2
  rw [byteH, enc2_ofNat (by omega) (by omega), hexC_valH a ha, hexC_valH b hb]
theorem quo_unqS : ∀ (n : Nat) {w p : List UInt8}, w.length ≤ n → unqS w = some p → p.flatMap q1 = w
  | _, [], p, _, h => by rw [unqS] at h; cases h; rfl
  | 0, _ :: _, _, hn, _ => by simp at hn
  | n + 1, c :: l, p, hn, h => by
    simp only [List.length_cons] at hn
    cases hp : plainB c
    · by_cases hc : c = 42
      · subst hc
        match l, hn, h with
        | [], _, h => rw [unqS_short (by simp)] at h; cases h
        | [_], _, h => rw [unqS_short (by simp)] at h; cases h
        | a :: b :: r, hn, h =>
          rw [unqS_mark] at h
          split at h
          · cases h
          · rename_i hv
            cases hr : unqS r with
            | none => rw [hr] at h; cases h
            | some q =>
              rw [hr] at h
              cases h
              have h3 : plainB (byteH a b) = false := by
                cases h4 : plainB (byteH a b)
                · rfl
                · exact absurd (.inr (.inr h4)) hv
              simp only [List.length_cons] at hn
              rw [List.flatMap_cons, quo_unqS n (by omega) hr, q1_not h3, enc2_byteH (fun k => hv (.inl k)) (fun k => hv (.inr (.inl k)))]
              rfl
      · rw [unqS_bad hp hc] at h; cases h
    · rw [unqS_plain hp] at h
      cases hr : unqS l with
      | none => rw [hr] at h; cases h
      | some q =>
        rw [hr] at h
        cases h
        rw [List.flatMap_cons, quo_unqS n (by omega) hr, q1_plain hp]
        rfl
theorem unq_quo (l : List UInt8) : unqL (quoL l) = some l := by
  unfold quoL
  split
  · rename_i h; subst h; exact if_pos rfl
  · rename_i h
    unfold unqL
    rw [if_neg ?_, unqS_quo]
    · exact if_neg h
    · intro e
      have := unqS_quo l
      rw [e, unqS_short (by simp)] at this
      cases this
theorem quo_unq {w p : List UInt8} (h : unqL w = some p) : quoL p = w := by
  unfold unqL at h
  split at h
  · rename_i hw; subst hw; cases h; rfl
  · split at h
    · rename_i b hb
      split at h
      · cases h
      · rename_i h0
        cases h
        unfold quoL
        rw [if_neg h0]
        exact quo_unqS _ (Nat.le_refl _) hb
    · cases h
theorem refL_eq (w : List UInt8) : (if w = [42] then some [] else match refS w with
    | some b => if b = [] ∨ quoL b ≠ w then none else some b
    | none => none) = unqL w := by
  by_cases hw : w = [42]
  · rw [if_pos hw]; unfold unqL; rw [if_pos hw]
  rw [if_neg hw]
  cases hu : unqL w with
  | some p =>
    have hq := quo_unq hu
    have h0 : p ≠ [] := by
      rintro rfl
      exact hw hq.symm
    have : refS w = some p := by
      rw [← hq, quoL, if_neg h0]
      exact refS_quo p
    rw [this]
    exact if_neg fun k => k.elim h0 fun k => k hq
  | none =>
    cases hr : refS w with
    | none => rfl
    | some b =>
      show (if b = [] ∨ quoL b ≠ w then none else some b) = none
      split
      · rfl
      · rename_i hb
        have h1 : quoL b = w := Classical.byContradiction fun k => hb (.inr k)
        rw [← h1, unq_quo] at hu
        cases hu
theorem q1_len (c : UInt8) : 1 ≤ (q1 c).length ∧ (q1 c).length ≤ 3 := by
  unfold q1; split <;> simp [enc2]
theorem flat_len (l : List UInt8) : l.length ≤ (l.flatMap q1).length ∧ (l.flatMap q1).length ≤ 3 * l.length := by
  induction l with
  | nil => simp
  | cons c l ih =>
    have := q1_len c
    simp only [List.flatMap_cons, List.length_append, List.length_cons]
    omega
theorem quo_len (l : List UInt8) : 1 ≤ (quoL l).length ∧ (quoL l).length ≤ 3 * l.length + 1 := by
  unfold quoL
  split
  · simp
  · rename_i h
    have := flat_len l
    have : 0 < l.length := List.length_pos_iff.2 h
    omega
theorem quo_inj {s t : List UInt8} (h : quoL s = quoL t) : s = t := by
  have := unq_quo s
  rw [h, unq_quo] at this
  cases this; rfl
theorem quo_ne (l : List UInt8) : quoL l ≠ [] := fun h => by have := (quo_len l).1; rw [h] at this; simp at this
theorem q1_mem {c b : UInt8} (h : b ∈ q1 c) : plainB b = true ∨ b = 42 := by
  have key : ∀ n : Fin 256, (q1 (UInt8.ofNat n.val)).all (fun b => plainB b || b == 42) = true := by decide +kernel
  have := key ⟨c.toNat, by have := c.toNat_lt; omega⟩
  simp only [UInt8.ofNat_toNat, List.all_eq_true, Bool.or_eq_true, beq_iff_eq] at this
  exact this b h
theorem quo_mem {l : List UInt8} {b : UInt8} (h : b ∈ quoL l) : plainB b = true ∨ b = 42 := by
  unfold quoL at h
  split at h
  · right; simpa using h
  · obtain ⟨c, _, hc⟩ := List.mem_flatMap.1 h
    exact q1_mem hc
theorem quo_blank {l : List UInt8} : (32 : UInt8) ∉ quoL l := fun h => (quo_mem h).elim (fun k => absurd k (by decide +kernel)) (fun k => absurd k (by decide))

/-! Words of a line. -/
def splitBy (c : UInt8) : List UInt8 → List (List UInt8)
  | [] => [[]]
  | b :: l => if b = c then [] :: splitBy c l else match splitBy c l with
    | [] => [[b]]
    | h :: t => (b :: h) :: t
def joinBy (c : UInt8) : List (List UInt8) → List UInt8
  | [] => []
  | [x] => x
  | x :: l => x ++ c :: joinBy c l
theorem splitBy_ne (c : UInt8) (l : List UInt8) : splitBy c l ≠ [] := by
  cases l with
  | nil => simp [splitBy]
  | cons b l =>
    unfold splitBy
    split
    · simp
    · split <;> simp
theorem splitBy_eq {c : UInt8} {l : List UInt8} : splitBy c (c :: l) = [] :: splitBy c l := by rw [splitBy, if_pos rfl]
theorem splitBy_app {c : UInt8} : ∀ {x : List UInt8} (l : List UInt8), c ∉ x → splitBy c (x ++ c :: l) = x :: splitBy c l
  | [], l, _ => splitBy_eq
  | b :: x, l, h => by
    have hb : b ≠ c := fun e => h (by simp [e])
    show splitBy c (b :: (x ++ c :: l)) = _
    rw [splitBy, if_neg hb, splitBy_app l fun k => h (by simp [k])]
theorem splitBy_one {c : UInt8} : ∀ {x : List UInt8}, c ∉ x → splitBy c x = [x]
  | [], _ => rfl
  | b :: x, h => by
    have hb : b ≠ c := fun e => h (by simp [e])
    rw [splitBy, if_neg hb, splitBy_one fun k => h (by simp [k])]
theorem split_join {c : UInt8} : ∀ {l : List (List UInt8)}, l ≠ [] → (∀ x ∈ l, c ∉ x) → splitBy c (joinBy c l) = l
  | [], h, _ => absurd rfl h
  | [x], _, h => splitBy_one (h x (by simp))
  | x :: y :: l, _, h => by
    show splitBy c (x ++ c :: joinBy c (y :: l)) = _
    rw [splitBy_app _ (h x (by simp)), split_join (by simp) fun z hz => h z (by simp [hz])]
theorem join_split (c : UInt8) : ∀ l : List UInt8, joinBy c (splitBy c l) = l
  | [] => rfl
  | b :: l => by
    have ih := join_split c l
    rw [splitBy]
    have hne := splitBy_ne c l
    split
    · rename_i hb
      subst hb
      cases hs : splitBy b l with
      | nil => exact absurd hs hne
      | cons h t =>
        rw [hs] at ih
        show [] ++ b :: joinBy b (h :: t) = _
        rw [ih]; rfl
    · cases hs : splitBy c l with
      | nil => exact absurd hs hne
      | cons h t =>
        rw [hs] at ih
        cases t with
        | nil =>
          show b :: h = _
          have : h = l := ih
          rw [this]
        | cons y t =>
          show (b :: h) ++ c :: joinBy c (y :: t) = _
          have : h ++ c :: joinBy c (y :: t) = l := ih
          rw [List.cons_append, this]
/-- The strings that words stand for, up to the first that stands for none. -/
def unqAll : List (List UInt8) → List (List UInt8)
  | [] => []
  | w :: l => match unqL w with
    | some p => p :: unqAll l
    | none => []
/-- All words stand for strings. -/
def allW (l : List (List UInt8)) : Bool := l.all fun w => (unqL w).isSome
theorem unqAll_len : ∀ l : List (List UInt8), (unqAll l).length ≤ l.length
  | [] => Nat.le_refl _
  | w :: l => by
    unfold unqAll
    have := unqAll_len l
    split <;> simp <;> omega
theorem unqAll_quo : ∀ l : List (List UInt8), unqAll (l.map quoL) = l ∧ allW (l.map quoL) = true
  | [] => ⟨rfl, rfl⟩
  | x :: l => by
    have ih := unqAll_quo l
    constructor
    · rw [List.map_cons, unqAll, unq_quo]
      show x :: unqAll (l.map quoL) = _
      rw [ih.1]
    · simp only [allW, List.map_cons, List.all_cons, unq_quo, Option.isSome_some, Bool.true_and]
      exact ih.2
theorem quo_all : ∀ {l : List (List UInt8)}, allW l = true → (unqAll l).map quoL = l
  | [], _ => rfl
  | w :: l, h => by
    simp only [allW, List.all_cons, Bool.and_eq_true] at h
    obtain ⟨p, hp⟩ := Option.isSome_iff_exists.1 h.1
    rw [unqAll, hp]
    show quoL p :: (unqAll l).map quoL = _
    rw [quo_unq hp, quo_all h.2]
/-- Fields. -/
def joinF (l : List (List UInt8)) : List UInt8 := joinBy 32 (l.map quoL)
def wordsF (l : List UInt8) : List (List UInt8) := if l = [] then [] else splitBy 32 l
theorem words_join (l : List (List UInt8)) : wordsF (joinF l) = l.map quoL := by
  unfold wordsF joinF
  cases l with
  | nil => rfl
  | cons x l =>
    have hne : joinBy 32 ((x :: l).map quoL) ≠ [] := by
      intro h
      have hq := quo_ne x
      cases l with
      | nil => exact hq h
      | cons y l =>
        have h' : quoL x ++ 32 :: joinBy 32 ((y :: l).map quoL) = [] := h
        simp at h'
    rw [if_neg hne]
    exact split_join (by simp) fun z hz => by
      obtain ⟨y, _, rfl⟩ := List.mem_map.1 hz
      exact quo_blank
theorem join_words {l : List UInt8} (h : allW (wordsF l) = true) : joinF (unqAll (wordsF l)) = l := by
  unfold joinF
  rw [quo_all h]
  unfold wordsF
  split
  · rename_i h0; rw [h0]; rfl
  · exact join_split 32 l
/-- Lines. -/
def joinN (l : List (List UInt8)) : List UInt8 := l.flatMap (· ++ [10])
theorem joinN_cons (x : List UInt8) (l : List (List UInt8)) : joinN (x :: l) = x ++ 10 :: joinN l := by simp [joinN]
/-- The lines of a text that ends in a line feed. -/
def linesN (l : List UInt8) : List (List UInt8) := if l = [] then [] else splitBy 10 l.dropLast
def okN (l : List UInt8) : Bool := l.isEmpty || l.getLast? == some 10
theorem joinN_by : ∀ {l : List (List UInt8)}, l ≠ [] → joinN l = joinBy 10 l ++ [10]
  | [], h => absurd rfl h
  | [x], _ => by simp [joinN, joinBy]
  | x :: y :: l, _ => by
    rw [joinN_cons, joinN_by (l := y :: l) (by simp)]
    show _ = (x ++ 10 :: joinBy 10 (y :: l)) ++ [10]
    simp
theorem okN_join (l : List (List UInt8)) : okN (joinN l) = true := by
  cases l with
  | nil => rfl
  | cons x l =>
    rw [joinN_by (by simp)]
    simp [okN]
theorem lines_join (l : List (List UInt8)) : linesN (joinN l) = if l = [] then [] else splitBy 10 (joinBy 10 l) := by
  unfold linesN
  cases l with
  | nil => rfl
  | cons x l =>
    rw [joinN_by (by simp), if_neg (by simp), if_neg (by simp), List.dropLast_concat]
theorem lines_plain {l : List (List UInt8)} (h : ∀ x ∈ l, (10 : UInt8) ∉ x) : linesN (joinN l) = l := by
  rw [lines_join]
  split
  · rename_i h0; exact h0.symm
  · rename_i h0; exact split_join h0 h
theorem split_count (c : UInt8) : ∀ l : List UInt8, (splitBy c l).length = l.count c + 1
  | [] => rfl
  | b :: l => by
    have ih := split_count c l
    rw [splitBy]
    split
    · rename_i hb; subst hb
      simp [ih]
    · rename_i hb
      cases hs : splitBy c l with
      | nil => exact absurd hs (splitBy_ne c l)
      | cons h t =>
        rw [hs] at ih
        rw [List.count_cons_of_ne hb]
        simpa using ih
theorem join_count (c : UInt8) : ∀ l : List (List UInt8), l.length ≤ (joinBy c l).count c + 1
  | [] => Nat.zero_le _
  | [x] => by simp
  | x :: y :: l => by
    have ih := join_count c (y :: l)
    show _ ≤ (x ++ c :: joinBy c (y :: l)).count c + 1
    rw [List.count_append, List.count_cons_self]
    simp only [List.length_cons] at ih ⊢
    omega
theorem lines_many (l : List (List UInt8)) : l.length ≤ (linesN (joinN l)).length := by
  rw [lines_join]
  split
  · rename_i h; rw [h]; exact Nat.le_refl _
  · rw [split_count]; exact join_count 10 l
theorem join_lines {l : List UInt8} (h : okN l = true) : joinN (linesN l) = l := by
  unfold linesN
  split
  · rename_i h0; rw [h0]; rfl
  · rename_i h0
    rw [joinN_by (splitBy_ne _ _), join_split]
    have h1 : l.getLast? = some 10 := by
      unfold okN at h
      cases l with
      | nil => exact absurd rfl h0
      | cons b l => simpa using h
    obtain ⟨h2, h3⟩ := List.getLast?_eq_some_iff.1 h1
    rw [h3, List.dropLast_concat]
end Go.Proofs.YtgkiopplcpnajaaDoor
