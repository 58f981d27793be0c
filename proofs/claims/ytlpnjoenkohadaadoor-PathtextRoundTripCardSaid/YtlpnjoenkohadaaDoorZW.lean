/-
  Paths as text: the first three laws.
-/
import Derived.Test.YtlpnjoenkohadaaDoorZV
import Derived.Test.YtlpnjoenkohadaaDoorRows
namespace Go.Proofs.YtlpnjoenkohadaaDoor
set_option linter.unusedVariables false
set_option linter.unusedSimpArgs false
open Go.RowKit

section
variable {ws : List (List UInt8)}
theorem failAt_none : ∀ {m i : Nat}, (∀ t, t < m → numE ws (i + t) = 0) → failAt ws m i = none
  | 0, i, _ => rfl
  | m + 1, i, h => by
    have h0 := h 0 (by omega)
    rw [Nat.add_zero] at h0
    rw [failAt, if_pos h0]
    exact failAt_none fun t ht => by have := h (t + 1) (by omega); rw [show i + (t + 1) = i + 1 + t by omega] at this; exact this
theorem failAt_some : ∀ {m i j : Nat}, (∀ t, t < j → numE ws (i + t) = 0) → j < m → numE ws (i + j) ≠ 0 → failAt ws m i = some (i + j)
  | 0, i, j, _, h, _ => absurd h (Nat.not_lt_zero _)
  | m + 1, i, 0, _, _, h => by rw [Nat.add_zero] at h; rw [failAt, if_neg h, Nat.add_zero]
  | m + 1, i, j + 1, h, hj, h2 => by
    have h0 := h 0 (by omega)
    rw [Nat.add_zero] at h0
    rw [failAt, if_pos h0, failAt_some (j := j) (fun t ht => by have := h (t + 1) (by omega); rw [show i + (t + 1) = i + 1 + t by omega] at this; exact this) (by omega) (by rw [show i + 1 + j = i + (j + 1) by omega]; exact h2)]
    congr 1; omega
theorem failAt_zero : ∀ {m i : Nat}, failAt ws m i = none → ∀ t, t < m → numE ws (i + t) = 0
  | 0, i, _, t, ht => absurd ht (Nat.not_lt_zero _)
  | m + 1, i, h, t, ht => by
    rw [failAt] at h
    split at h
    · rename_i h0
      cases t with
      | zero => exact h0
      | succ t => rw [show i + (t + 1) = i + 1 + t by omega]; exact failAt_zero h t (by omega)
    · cases h
theorem failAt_bad : ∀ {m i j : Nat}, failAt ws m i = some j → numE ws j ≠ 0
  | 0, i, j, h => by cases h
  | m + 1, i, j, h => by
    rw [failAt] at h
    split at h
    · exact failAt_bad h
    · rename_i h0; injection h with h; rw [← h]; exact h0
theorem numE_ok {i : Nat} (h : numE ws i = 0) : ∃ x, ws[i]? = some x ∧ piE x = 0 ∧ numV ws i = piV x := by
  unfold numE at h
  unfold numV
  cases hx : ws[i]? with
  | none => rw [hx] at h; cases h
  | some x =>
    rw [hx] at h
    refine ⟨x, rfl, ?_, rfl⟩
    have h : wnE x = 0 := h
    unfold wnE at h
    split at h
    · assumption
    · split at h <;> cases h
theorem numE_fmt {i : Nat} {z : Int} (h : ws[i]? = some (fmtI z)) (hz : -1048576 ≤ z ∧ z ≤ 1048576) : numE ws i = 0 ∧ numV ws i = z := by
  obtain ⟨h1, h2⟩ := pi_fmt (n := z) (by omega)
  unfold numE numV
  rw [h]
  exact ⟨by show wnE (fmtI z) = 0; rw [wnE, if_pos h1], h2⟩
end
def nums (s : Sg) : List (List UInt8) := (ptsS s).flatMap fmt2
theorem segW_eq (s : Sg) : segW s = [letS s.v] :: nums s := rfl
def Rg (z : Int) : Prop := -1048576 ≤ z ∧ z ≤ 1048576
/-- A good segment, by its verb. -/
theorem good_cases {s : Sg} (h : GoodS s) : (∃ v a b, (v = 1 ∨ v = 2) ∧ s = ⟨v, a, b, 0, 0, 0, 0⟩ ∧ nums s = [fmtI a, fmtI b] ∧ Rg a ∧ Rg b) ∨ (∃ a b c d, s = ⟨3, a, b, c, d, 0, 0⟩ ∧ nums s = [fmtI a, fmtI b, fmtI c, fmtI d] ∧ Rg a ∧ Rg b ∧ Rg c ∧ Rg d)
    ∨ (∃ a b c d e f, s = ⟨4, a, b, c, d, e, f⟩ ∧ nums s = [fmtI a, fmtI b, fmtI c, fmtI d, fmtI e, fmtI f] ∧ Rg a ∧ Rg b ∧ Rg c ∧ Rg d ∧ Rg e ∧ Rg f) ∨ (s = ⟨5, 0, 0, 0, 0, 0, 0⟩ ∧ nums s = []) := by
  obtain ⟨hv, hf⟩ := h
  obtain ⟨ra, rb, rc⟩ := fits_rng hf
  obtain ⟨v, a, b, c, d, e, f⟩ := s
  have hv : v = 1 ∨ v = 2 ∨ v = 3 ∨ v = 4 ∨ v = 5 := hv
  rcases hv with rfl | rfl | rfl | rfl | rfl
  · simp [fitsB, okP, namedI] at hf
    obtain ⟨⟨h1, h2, h3, h4⟩, h5⟩ := hf
    obtain ⟨h6, h7, h8⟩ := h5
    subst h3 h4 h7 h8
    exact .inl ⟨1, a, b, .inl rfl, rfl, rfl, ⟨ra.1, ra.2.1⟩, ra.2.2⟩
  · simp [fitsB, okP, namedI] at hf
    obtain ⟨⟨h1, h2, h3, h4⟩, h5⟩ := hf
    obtain ⟨h6, h7, h8⟩ := h5
    subst h3 h4 h7 h8
    exact .inl ⟨2, a, b, .inr rfl, rfl, rfl, ⟨ra.1, ra.2.1⟩, ra.2.2⟩
  · simp [fitsB, okP, namedI] at hf
    obtain ⟨h1, h6, h7, h8⟩ := hf
    subst h7 h8
    exact .inr (.inl ⟨a, b, c, d, rfl, rfl, ⟨ra.1, ra.2.1⟩, ra.2.2, ⟨rb.1, rb.2.1⟩, rb.2.2⟩)
  · exact .inr (.inr (.inl ⟨a, b, c, d, e, f, rfl, rfl, ⟨ra.1, ra.2.1⟩, ra.2.2, ⟨rb.1, rb.2.1⟩, rb.2.2, ⟨rc.1, rc.2.1⟩, rc.2.2⟩))
  · simp [fitsB, okP, namedI] at hf
    obtain ⟨⟨⟨h1, h2, h3⟩, h4, h5, h6⟩, h7, h8, h9⟩ := hf
    subst h2 h3 h5 h6 h8 h9
    exact .inr (.inr (.inr ⟨rfl, rfl⟩))
theorem letS_verb {v : Int} (hv : v = 1 ∨ v = 2 ∨ v = 3 ∨ v = 4 ∨ v = 5) : verbI [letS v] = v := by
  rcases hv with rfl | rfl | rfl | rfl | rfl <;> decide
theorem good_nums {s : Sg} (h : GoodS s) : (nums s).length = 2 * (namedI s.v).toNat ∧ ∀ x ∈ nums s, ∃ z, x = fmtI z ∧ Rg z := by
  rcases good_cases h with ⟨v, a, b, hv, rfl, hn, ha, hb⟩ | ⟨a, b, c, d, rfl, hn, ha, hb, hc, hd⟩ | ⟨a, b, c, d, e, f, rfl, hn, ha, hb, hc, hd, he, hf⟩ | ⟨rfl, hn⟩
  · rw [hn]
    refine ⟨by rcases hv with rfl | rfl <;> rfl, fun x hx => ?_⟩
    simp only [List.mem_cons, List.not_mem_nil, or_false] at hx
    rcases hx with rfl | rfl
    · exact ⟨_, rfl, ha⟩
    · exact ⟨_, rfl, hb⟩
  · rw [hn]
    refine ⟨rfl, fun x hx => ?_⟩
    simp only [List.mem_cons, List.not_mem_nil, or_false] at hx
    rcases hx with rfl | rfl | rfl | rfl
    · exact ⟨_, rfl, ha⟩
    · exact ⟨_, rfl, hb⟩
    · exact ⟨_, rfl, hc⟩
    · exact ⟨_, rfl, hd⟩
  · rw [hn]
    refine ⟨rfl, fun x hx => ?_⟩
    simp only [List.mem_cons, List.not_mem_nil, or_false] at hx
    rcases hx with rfl | rfl | rfl | rfl | rfl | rfl
    · exact ⟨_, rfl, ha⟩
    · exact ⟨_, rfl, hb⟩
    · exact ⟨_, rfl, hc⟩
    · exact ⟨_, rfl, hd⟩
    · exact ⟨_, rfl, he⟩
    · exact ⟨_, rfl, hf⟩
  · rw [hn]
    exact ⟨rfl, fun x hx => by cases hx⟩
theorem good_sg {s : Sg} {ws : List (List UInt8)} {i : Nat} (h : GoodS s) (hw : ∀ t, t < (nums s).length → ws[i + 1 + t]? = (nums s)[t]?) : sgOf ws s.v i = s := by
  rcases good_cases h with ⟨v, a, b, hv, rfl, hn, ha, hb⟩ | ⟨a, b, c, d, rfl, hn, ha, hb, hc, hd⟩ | ⟨a, b, c, d, e, f, rfl, hn, ha, hb, hc, hd, he, hf⟩ | ⟨rfl, hn⟩
  · rw [hn] at hw
    have n1 := (numE_fmt (hw 0 (by simp)) ha).2
    have n2 := (numE_fmt (hw 1 (by simp)) hb).2
    show sgOf ws v i = _
    unfold sgOf
    rw [if_neg (by omega), if_neg (by omega), if_neg (by omega)]
    show Sg.mk v (numV ws (i + 1 + 0)) (numV ws (i + 1 + 1)) 0 0 0 0 = _
    rw [n1, n2]
  · rw [hn] at hw
    have n1 := (numE_fmt (hw 0 (by simp)) ha).2
    have n2 := (numE_fmt (hw 1 (by simp)) hb).2
    have n3 := (numE_fmt (hw 2 (by simp)) hc).2
    have n4 := (numE_fmt (hw 3 (by simp)) hd).2
    show sgOf ws 3 i = _
    unfold sgOf
    rw [if_neg (by decide), if_neg (by decide), if_pos rfl]
    show Sg.mk 3 (numV ws (i + 1 + 0)) (numV ws (i + 1 + 1)) (numV ws (i + 1 + 2)) (numV ws (i + 1 + 3)) 0 0 = _
    rw [n1, n2, n3, n4]
  · rw [hn] at hw
    have n1 := (numE_fmt (hw 0 (by simp)) ha).2
    have n2 := (numE_fmt (hw 1 (by simp)) hb).2
    have n3 := (numE_fmt (hw 2 (by simp)) hc).2
    have n4 := (numE_fmt (hw 3 (by simp)) hd).2
    have n5 := (numE_fmt (hw 4 (by simp)) he).2
    have n6 := (numE_fmt (hw 5 (by simp)) hf).2
    show sgOf ws 4 i = _
    unfold sgOf
    rw [if_neg (by decide), if_pos rfl]
    show Sg.mk 4 (numV ws (i + 1 + 0)) (numV ws (i + 1 + 1)) (numV ws (i + 1 + 2)) (numV ws (i + 1 + 3)) (numV ws (i + 1 + 4)) (numV ws (i + 1 + 5)) = _
    rw [n1, n2, n3, n4, n5, n6]
  · rfl
theorem get_mid {α : Type} (p l : List α) (t : Nat) : (p ++ l)[p.length + t]? = l[t]? := by
  rw [List.getElem?_append_right (by omega)]; congr 1; omega
/-- One good segment's words are read. -/
theorem parse_seg {pre rest : List (List UInt8)} {s : Sg} {acc : List Sg} (h : GoodS s) : parseW (pre ++ segW s ++ rest) pre.length acc = parseW (pre ++ segW s ++ rest) (pre.length + (segW s).length) (acc ++ [s]) := by
  obtain ⟨ws, hws⟩ : ∃ ws, ws = pre ++ segW s ++ rest := ⟨_, rfl⟩
  rw [← hws]
  have hat : ∀ t, t < (segW s).length → ws[pre.length + t]? = (segW s)[t]? := fun t ht => by
    rw [hws, List.append_assoc, get_mid, List.getElem?_append_left ht]
  obtain ⟨hl, hm⟩ := good_nums h
  have hsl : (segW s).length = 1 + (nums s).length := by rw [segW_eq, List.length_cons]; omega
  have hx : ws[pre.length]? = some [letS s.v] := by have := hat 0 (by omega); rw [Nat.add_zero] at this; exact this
  have hn : ∀ t, t < (nums s).length → ws[pre.length + 1 + t]? = (nums s)[t]? := fun t ht => by
    have := hat (t + 1) (by omega)
    rw [show pre.length + (t + 1) = pre.length + 1 + t by omega] at this
    exact this
  have hf : failAt ws (2 * (namedI s.v).toNat) (pre.length + 1) = none := failAt_none fun t ht => by
    rw [← hl] at ht
    have h1 := hn t ht
    obtain ⟨z, hz, hr⟩ := hm _ (List.getElem_mem ht)
    rw [List.getElem?_eq_getElem ht, hz] at h1
    exact (numE_fmt h1 hr).1
  have h0 : s.v ≠ 0 := by rcases h.1 with e | e | e | e | e <;> omega
  rw [pw_step hx (letS_verb h.1) h0 hf, good_sg h hn, ← hl, hsl]
  congr 1
  omega
theorem parse_segs : ∀ {ls acc : List Sg} {pre rest : List (List UInt8)}, (∀ s ∈ ls, GoodS s) → parseW (pre ++ wordsP ls ++ rest) pre.length acc = parseW (pre ++ wordsP ls ++ rest) (pre.length + (wordsP ls).length) (acc ++ ls)
  | [], acc, pre, rest, _ => by simp [wordsP]
  | s :: ls, acc, pre, rest, h => by
    have e : pre ++ wordsP (s :: ls) ++ rest = pre ++ segW s ++ (wordsP ls ++ rest) := by simp [wordsP]
    have e2 : pre ++ segW s ++ (wordsP ls ++ rest) = (pre ++ segW s) ++ wordsP ls ++ rest := by simp
    rw [e, parse_seg (h s (by simp)), e2]
    have ih := parse_segs (ls := ls) (acc := acc ++ [s]) (pre := pre ++ segW s) (rest := rest) fun t ht => h t (by simp [ht])
    rw [List.length_append] at ih
    rw [ih]
    have e3 : (wordsP (s :: ls)).length = (segW s).length + (wordsP ls).length := by simp [wordsP]
    rw [e3, List.append_assoc acc]
    congr 1
    omega
theorem parse_words {ls : List Sg} (h : ∀ s ∈ ls, GoodS s) : parseW (wordsP ls) 0 [] = endP ls := by
  have h1 := parse_segs (ls := ls) (acc := []) (pre := []) (rest := []) h
  simp only [List.nil_append, List.append_nil, List.length_nil, Nat.zero_add] at h1
  rw [h1, pw_end (Nat.le_refl _)]
theorem fmtI_blank (z : Int) : (32 : UInt8) ∉ fmtI z := by
  unfold fmtI
  split
  · intro h
    rcases List.mem_cons.1 h with h | h
    · exact absurd h (by decide)
    · have := decS_isD _ _ h; exact absurd this.1 (by decide)
  · intro h; have := decS_isD _ _ h; exact absurd this.1 (by decide)
theorem fmtI_ne (z : Int) (h : Rg z) : fmtI z ≠ [] := fun e => by
  have h1 := (pi_fmt (n := z) (by unfold Rg at h; omega)).1
  rw [e] at h1
  exact absurd h1 (by decide)
theorem wordsP_mem {ls : List Sg} (h : ∀ s ∈ ls, GoodS s) : ∀ x ∈ wordsP ls, (32 : UInt8) ∉ x ∧ x ≠ [] := fun x hx => by
  obtain ⟨s, hs, hx⟩ := List.mem_flatMap.1 hx
  rw [segW_eq] at hx
  rcases List.mem_cons.1 hx with rfl | hx
  · refine ⟨?_, by simp⟩
    rcases (h s hs).1 with e | e | e | e | e <;> rw [e] <;> decide
  · obtain ⟨z, rfl, hz⟩ := (good_nums (h s hs)).2 x hx
    exact ⟨fmtI_blank z, fmtI_ne z hz⟩
theorem joinBy_ne {ws : List (List UInt8)} (h0 : ws ≠ []) (h : ∀ x ∈ ws, x ≠ []) : joinBy 32 ws ≠ [] := by
  cases ws with
  | nil => exact absurd rfl h0
  | cons x l => rw [joinBy_cons]; have := h x (by simp); simp [this]
theorem words_joinP {ws : List (List UInt8)} (h : ∀ x ∈ ws, (32 : UInt8) ∉ x ∧ x ≠ []) : wordsF (joinBy 32 ws) = ws := by
  by_cases h0 : ws = []
  · subst h0; rfl
  · unfold wordsF
    rw [if_neg (joinBy_ne h0 fun x hx => (h x hx).2)]
    exact split_join h0 fun x hx => (h x hx).1
theorem words_fmt {ls : List Sg} (h : ∀ s ∈ ls, GoodS s) : wordsF (fmtP ls) = wordsP ls := words_joinP (wordsP_mem h)
theorem join_wordsF (l : List UInt8) : joinBy 32 (wordsF l) = l := by
  unfold wordsF
  split
  · rename_i h; rw [h]; rfl
  · exact join_split 32 l
/-- A path's text is read as the path. -/
theorem parse_fmtP {ls : List Sg} (h : okPath ls = true) : parseP (fmtP ls) = (ls, 0, 0) := by
  obtain ⟨hg, hs⟩ := good_path h
  have h1 := fmtP_len hg
  unfold parseP
  rw [if_neg (by omega), words_fmt hg, parse_words hg, endP, if_pos (of_decide_eq_true h)]
theorem letS_of {x : List UInt8} (h : verbI x ≠ 0) : x = [letS (verbI x)] ∧ (verbI x = 1 ∨ verbI x = 2 ∨ verbI x = 3 ∨ verbI x = 4 ∨ verbI x = 5) := by
  rcases verb_cases x with ⟨rfl, e⟩ | ⟨rfl, e⟩ | ⟨rfl, e⟩ | ⟨rfl, e⟩ | ⟨rfl, e⟩ | ⟨_, e⟩
  · rw [e]; exact ⟨rfl, .inl rfl⟩
  · rw [e]; exact ⟨rfl, .inr (.inl rfl)⟩
  · rw [e]; exact ⟨rfl, .inr (.inr (.inl rfl))⟩
  · rw [e]; exact ⟨rfl, .inr (.inr (.inr (.inl rfl)))⟩
  · rw [e]; exact ⟨rfl, .inr (.inr (.inr (.inr rfl)))⟩
  · exact absurd e h
theorem take_next {α : Type} {l : List α} {k : Nat} {x : α} (h : l[k]? = some x) : l.take (k + 1) = l.take k ++ [x] := by rw [List.take_add_one, h]; rfl
/-- The words of a segment that was read. -/
theorem segW_of {ws : List (List UInt8)} {i : Nat} {v : Int} (hx : ws[i]? = some [letS v]) (hv : v = 1 ∨ v = 2 ∨ v = 3 ∨ v = 4 ∨ v = 5) (hf : failAt ws (2 * (namedI v).toNat) (i + 1) = none) :
    ws.take (i + 1 + 2 * (namedI v).toNat) = ws.take i ++ segW (sgOf ws v i) := by
  have hn := failAt_zero hf
  have key : ∀ t, t < 2 * (namedI v).toNat → ws[i + 1 + t]? = some (fmtI (numV ws (i + 1 + t))) := fun t ht => by
    obtain ⟨x, h1, h2, h3⟩ := numE_ok (hn t ht)
    rw [h3, (fmt_pi h2).1]; exact h1
  have h0 := take_next hx
  rcases hv with rfl | rfl | rfl | rfl | rfl
  · have k0 := take_next (key 0 (by decide)); have k1 := take_next (key 1 (by decide))
    show ws.take (i + 1 + 1 + 1) = _
    rw [show i + 1 + 1 + 1 = i + 1 + 1 + 1 from rfl]
    rw [k1, show i + 1 + 1 = i + 1 + 0 + 1 from rfl, k0, Nat.add_zero, h0]
    simp only [List.append_assoc]
    rfl
  · have k0 := take_next (key 0 (by decide)); have k1 := take_next (key 1 (by decide))
    show ws.take (i + 1 + 1 + 1) = _
    rw [k1, show i + 1 + 1 = i + 1 + 0 + 1 from rfl, k0, Nat.add_zero, h0]
    simp only [List.append_assoc]
    rfl
  · have k0 := take_next (key 0 (by decide)); have k1 := take_next (key 1 (by decide)); have k2 := take_next (key 2 (by decide)); have k3 := take_next (key 3 (by decide))
    show ws.take (i + 1 + 3 + 1) = _
    rw [k3, show i + 1 + 3 = i + 1 + 2 + 1 from rfl, k2, show i + 1 + 2 = i + 1 + 1 + 1 from rfl, k1, show i + 1 + 1 = i + 1 + 0 + 1 from rfl, k0, Nat.add_zero, h0]
    simp only [List.append_assoc]
    rfl
  · have k0 := take_next (key 0 (by decide)); have k1 := take_next (key 1 (by decide)); have k2 := take_next (key 2 (by decide)); have k3 := take_next (key 3 (by decide)); have k4 := take_next (key 4 (by decide)); have k5 := take_next (key 5 (by decide))
    show ws.take (i + 1 + 5 + 1) = _
    rw [k5, show i + 1 + 5 = i + 1 + 4 + 1 from rfl, k4, show i + 1 + 4 = i + 1 + 3 + 1 from rfl, k3, show i + 1 + 3 = i + 1 + 2 + 1 from rfl, k2, show i + 1 + 2 = i + 1 + 1 + 1 from rfl, k1, show i + 1 + 1 = i + 1 + 0 + 1 from rfl, k0, Nat.add_zero, h0]
    simp only [List.append_assoc]
    rfl
  · show ws.take (i + 1) = _
    rw [h0]
    rfl
/-- What parsing answers: an error and no path, or the path of these words. -/
theorem parse_ends (ws : List (List UInt8)) : ∀ (f i : Nat) (acc : List Sg), ws.length - i ≤ f → wordsP acc = ws.take i → ∀ m at_ e, parseW ws i acc = (m, at_, e) → (e ≠ 0 ∧ m = []) ∨ (e = 0 ∧ at_ = 0 ∧ okPath m = true ∧ wordsP m = ws)
  | f, i, acc, hf, hacc, m, at_, e, h => by
    have hend : ws.length ≤ i → (e ≠ 0 ∧ m = []) ∨ (e = 0 ∧ at_ = 0 ∧ okPath m = true ∧ wordsP m = ws) := fun hi => by
      rw [pw_end hi, endP] at h
      split at h
      · rename_i h0
        cases h
        exact .inr ⟨rfl, rfl, decide_eq_true h0, by rw [hacc, List.take_of_length_le hi]⟩
      · rename_i h0
        cases h
        exact .inl ⟨h0, rfl⟩
    rcases Nat.lt_or_ge i ws.length with hi | hi
    case inr => exact hend hi
    obtain ⟨x, hx⟩ : ∃ x, ws[i]? = some x := ⟨_, List.getElem?_eq_getElem hi⟩
    by_cases hv : verbI x = 0
    · rw [pw_verb hx hv] at h
      cases h
      exact .inl ⟨by decide, rfl⟩
    · cases hfa : failAt ws (2 * (namedI (verbI x)).toNat) (i + 1) with
      | some j =>
        rw [pw_fail hx rfl hv hfa] at h
        cases h
        exact .inl ⟨failAt_bad hfa, rfl⟩
      | none =>
        rw [pw_step hx rfl hv hfa] at h
        obtain ⟨hx2, hvv⟩ := letS_of hv
        match f, hf with
        | 0, hf => exact absurd hi (by omega)
        | f + 1, hf =>
          refine parse_ends ws f _ _ (by omega) ?_ m at_ e h
          have hx3 : ws[i]? = some [letS (verbI x)] := by rw [← hx2]; exact hx
          rw [segW_of hx3 hvv hfa, ← hacc]
          simp [wordsP]
/-- The text that was read is the path's. -/
theorem parse_back {l : List UInt8} {m : List Sg} {at_ : Nat} {e : Int} (h : parseP l = (m, at_, e)) : (e ≠ 0 ∧ m = []) ∨ (e = 0 ∧ at_ = 0 ∧ okPath m = true ∧ fmtP m = l) := by
  unfold parseP at h
  split at h
  · cases h
    exact .inl ⟨by decide, rfl⟩
  · rcases parse_ends (wordsF l) _ 0 [] (Nat.le_refl _) (by simp [wordsP]) m at_ e h with h1 | ⟨h1, h2, h3, h4⟩
    · exact .inl h1
    · exact .inr ⟨h1, h2, h3, by unfold fmtP; rw [h4, join_wordsF]⟩

def fmtR (ls : List Sg) : List UInt8 × Int := if okPath ls then (fmtP ls, 0) else ([], 10)
section
variable {w : World} {l : List UInt8} {A : Option Addr} {n c : Nat} {ls : List Sg}
theorem pformat_m {t : List UInt8} {e : Int} (hs : SgAt w A n ls) (hn : n ≤ 1000000) (h : fmtR ls = (t, e)) : Calls Tryd.prog 9 #[.slice A n c] w (CallPost w (fun _ : Unit => .tuple #[strOf t, .int .i64 e]) fun _ _ => True) := by
  unfold fmtR at h
  split at h
  · rename_i h0; cases h; exact format_s hs h0
  · rename_i h0; cases h; exact format_n hs hn (by simpa using h0)
theorem pformatR_m {t : List UInt8} {e : Int} (hs : SgAt w A n ls) (hn : n ≤ 1000000) (h : fmtR ls = (t, e)) : Calls Tryd.prog 10 #[.slice A n c] w (CallPost w (fun _ : Unit => .tuple #[strOf t, .int .i64 e]) fun _ _ => True) := by
  unfold fmtR at h
  split at h
  · rename_i h0; cases h; exact rformat_s hs h0
  · rename_i h0; cases h; exact rformat_n hs hn (by simpa using h0)
theorem sg_nil {y : Option Addr} : SgAt w y 0 [] := ⟨rfl, fun k s hk => by simp at hk⟩
theorem pparse_m {out : List Sg} {at_ : Nat} {e : Int} (hM : ML w) (hl : l.length ≤ 1000000) (hR : parseP l = (out, at_, e)) : Calls Tryd.prog 12 #[strOf l] w (CallPost w (fun y : Option Addr × Nat => .tuple #[.slice y.1 out.length y.2, .int .i64 at_, .int .i64 e]) fun y u => SgAt u y.1 out.length out) := by
  unfold parseP at hR
  split at hR
  · rename_i h0
    cases hR
    exact (parse_big h0 hl).mono fun e w' k => by
      obtain ⟨x, h1, h2, h3⟩ := k
      exact ⟨(none, 0), h1, h2, fun _ _ _ => sg_nil⟩
  · rename_i h0
    by_cases hn : l = []
    · subst hn
      have h1 : parseW (wordsF []) 0 [] = ([], 0, 0) := by rw [pw_end (by decide)]; rfl
      rw [h1] at hR
      cases hR
      exact parse_nil.mono fun e w' k => by
        obtain ⟨x, h1, h2, h3⟩ := k
        exact ⟨(none, 0), h1, h2, fun _ _ _ => sg_nil⟩
    · exact parse_w hM hn (by omega) hR
theorem pparseR_m {out : List Sg} {at_ : Nat} {e : Int} (hl : l.length ≤ 1000000) (hR : parseP l = (out, at_, e)) : Calls Tryd.prog 13 #[strOf l] w (CallPost w (fun y : Option Addr × Nat => .tuple #[.slice y.1 out.length y.2, .int .i64 at_, .int .i64 e]) fun y u => SgAt u y.1 out.length out) := by
  unfold parseP at hR
  split at hR
  · rename_i h0
    cases hR
    exact (rparse_big h0 hl).mono fun e w' k => by
      obtain ⟨x, h1, h2, h3⟩ := k
      exact ⟨(none, 0), h1, h2, fun _ _ _ => sg_nil⟩
  · rename_i h0
    exact rparse_w (by omega) hR
theorem gv_len : ∀ ls : List Sg, (gv ls).length = ls.length * 7
  | [] => rfl
  | s :: ls => by
    have ih := gv_len ls
    show (s.cl ++ gv ls).length = _
    rw [List.length_append, ih]
    show 7 + ls.length * 7 = (ls.length + 1) * 7
    omega
theorem SgAt.reads (h : SgAt w A n ls) : Reads w w.heap.size 7 A n (gv ls) := by
  refine ⟨by rw [gv_len, h.1], fun h0 => ?_⟩
  obtain ⟨s, hs⟩ : ∃ s, ls[0]? = some s := ⟨_, List.getElem?_eq_getElem (by rw [h.1]; exact h0)⟩
  obtain ⟨ad, hA, hc⟩ := h.2 0 s hs
  refine ⟨ad, hA, ?_, fun j u hj => ?_⟩
  · have := cell_lt (hc 0 _ rfl)
    simpa [Addr.add] using this
  · have hjl := (List.getElem?_eq_some_iff.1 hj).1
    rw [gv_len] at hjl
    obtain ⟨k, r, hr, rfl⟩ : ∃ k r, r < 7 ∧ j = k * 7 + r := ⟨j / 7, j % 7, Nat.mod_lt _ (by decide), by omega⟩
    obtain ⟨s, hs⟩ : ∃ s, ls[k]? = some s := ⟨_, List.getElem?_eq_getElem (by omega)⟩
    obtain ⟨ad2, hA2, hc2⟩ := h.2 k s hs
    rw [hA] at hA2; cases hA2
    obtain ⟨v, hv⟩ : ∃ v, s.cl[r]? = some v := ⟨_, List.getElem?_eq_getElem (show r < s.cl.length from hr)⟩
    have := gv_get hs hv
    rw [this] at hj
    injection hj with hj
    rw [← Addr.add_add, ← hj]
    exact hc2 r v hv
theorem segs_one (ls : List Sg) : ∀ v ∈ gv ls, v.oneCell' = true := fun v hv => by
  obtain ⟨s, _, hv⟩ := List.mem_flatMap.1 hv
  simp only [Sg.cl, List.mem_cons, List.not_mem_nil, or_false] at hv
  rcases hv with rfl | rfl | rfl | rfl | rfl | rfl | rfl <;> rfl
theorem run_appS0 {g : Nat} : (appS 22 22 (.slice (some ⟨g, 0, none⟩) 0 0) (.slice A 0 c)).run Tryd.prog w = .ok (.value (.slice (some ⟨g, 0, none⟩) 0 0)) w := by
  have hu : Tryd.prog.underlying 22 = some (.slice 41) := by kernel_rfl
  obtain ⟨i, hi⟩ : ∃ i, Tryd.prog.info? 41 = some i := Option.isSome_iff_exists.1 (by kernel_rfl)
  have hs : Src Tryd.prog i.size 22 (.slice A 0 c) 0 [] w := by
    cases A with
    | none => exact Src.ofNil w hu c
    | some a => exact Src.ofSlice w hu a 0 c [] (by simp) (fun j u h => by simp at h) (fun u h => by cases h)
  simp only [appS, Sem.run_bind, run_append_nothing w _ _ _ _ i hu hi _ 0 0 (Nat.le_refl _) _ hs, Result.andThen_ok, Sem.run_pure]
theorem app_allS {g : Nat} (h : SgAt w A n ls) (hn : n ≤ 100000000) :
    MakePost Tryd.prog w (fun y : Option Addr × Nat => .slice y.1 n y.2) (fun y v => SgAt v y.1 n ls) (appS 22 22 (.slice (some ⟨g, 0, none⟩) 0 0) (.slice A n c)) := by
  by_cases h0 : n = 0
  · subst h0
    have hl : ls = [] := List.length_eq_zero_iff.1 h.1
    subst hl
    exact ⟨(some ⟨g, 0, none⟩, 0), w, run_appS0, Below.refl _ _, fun _ _ _ => sg_nil⟩
  · obtain ⟨ad, hA, _⟩ := h.reads.2 (by omega)
    have hl := h.1
    subst hA
    have := appendG_m (P := Tryd.prog) (w := w) (s := 7) (z := Sg.val ⟨0, 0, 0, 0, 0, 0, 0⟩) (bytes := 56) (n := 0) (c := 0) (m := n) (cc := c) (xs := []) (ys := gv ls) (b := ⟨g, 0, none⟩) (a := ad) (B := 0) (t := 22) (elem := 41) (by kernel_rfl) (by kernel_rfl) rfl (by decide) ⟨by simp, fun h => absurd h (by omega)⟩ h.reads (by omega) (by omega) (by decide) (Nat.zero_le _) (.inr rfl) (.inl (by omega))
    obtain ⟨x, w', h1, h2, h3⟩ := this
    rw [Nat.zero_add] at h1
    exact ⟨x, w', h1, h2, fun w'' k1 k2 => by have h4 := h3 w'' k1 k2; rw [Nat.zero_add, List.nil_append] at h4; exact own_segs h4 hl⟩
theorem lit_segs {g : Nat} {cells : Array Value} (h : litG 41 cells g w) (he : cells.toList = gv ls) (hn : cells.size = ls.length * 7) (hm : ls.length ≤ maxLen) : SgAt w (some ⟨g, 0, none⟩) ls.length ls := by
  have := OwnR.lit (B := 0) h hn (Nat.zero_le _) hm
  rw [he] at this
  exact own_segs this rfl
def exL : List Sg := [⟨1, 0, 0, 0, 0, 0, 0⟩, ⟨2, 256, 0, 0, 0, 0, 0⟩, ⟨5, 0, 0, 0, 0, 0, 0⟩]
theorem exL_ok : okPath exL = true := by decide
theorem exL_fmt : fmtP exL = [77, 32, 48, 32, 48, 32, 76, 32, 50, 53, 54, 32, 48, 32, 90] := by decide +kernel
theorem exL_fmtR : fmtR exL = ([77, 32, 48, 32, 48, 32, 76, 32, 50, 53, 54, 32, 48, 32, 90], 0) := by unfold fmtR; rw [if_pos exL_ok, exL_fmt]
theorem exL_parse : parseP [77, 32, 48, 32, 48, 32, 76, 32, 50, 53, 54, 32, 48, 32, 90] = (exL, 0, 0) := by rw [← exL_fmt]; exact parse_fmtP exL_ok
theorem ex_m0 : parseP [77, 32, 48] = ([], 2, 3) := by
  have hw : wordsF [77, 32, 48] = [[77], fmtI 0] := by decide +kernel
  unfold parseP
  rw [if_neg (by decide), hw]
  have h1 := (numE_fmt (ws := [[77], fmtI 0]) (i := 1) (z := 0) rfl (by decide)).1
  have h2 : numE [[77], fmtI 0] 2 = 3 := rfl
  rw [pw_fail (x := [77]) (v := 1) (j := 2) rfl (by decide) (by decide) (failAt_some (i := 1) (m := 2) (j := 1) (fun t ht => by obtain rfl : t = 0 := by { omega }; exact h1) (by decide) (by rw [h2]; decide)), h2]
theorem ex_bad : parseP [77, 32, 48, 32, 48, 32, 90] = ([], 1, 10) := by
  have hg : ∀ s ∈ ([⟨1, 0, 0, 0, 0, 0, 0⟩, ⟨5, 0, 0, 0, 0, 0, 0⟩] : List Sg), GoodS s := fun s hs => by
    simp only [List.mem_cons, List.not_mem_nil, or_false] at hs
    rcases hs with rfl | rfl
    · exact ⟨.inl rfl, by decide⟩
    · exact ⟨.inr (.inr (.inr (.inr rfl))), by decide⟩
  have hf : fmtP [⟨1, 0, 0, 0, 0, 0, 0⟩, ⟨5, 0, 0, 0, 0, 0, 0⟩] = [77, 32, 48, 32, 48, 32, 90] := by decide +kernel
  have hw := words_fmt hg
  rw [hf] at hw
  unfold parseP
  rw [if_neg (by decide), hw, parse_words hg]
  unfold endP
  rw [if_neg (by decide)]
  rfl
set_option maxRecDepth 100000 in
set_option maxHeartbeats 4000000 in
theorem example14_m (hM : ML w) : Calls Tryd.prog 8 #[] w (CallPost w (fun _ : Unit => .bool true) fun _ _ => True) := by
  refine Good.enter Tryd.func8 rfl ?_
  refine Good.run (by kernel_rfl) (stop := 1000) 1000 _ ?_
  refine Good.make (litS (22) 3 #[(0, Sg.val ⟨1, 0, 0, 0, 0, 0, 0⟩), (1, Sg.val ⟨2, 256, 0, 0, 0, 0, 0⟩), (2, Sg.val ⟨5, 0, 0, 0, 0, 0, 0⟩)]) (litV 3) (litG 41 (gv exL).toArray) (by kernel_rfl) (fun w1 hw h => make_lit (by kernel_rfl)) (fun g => ?_)
  refine Good.run (by kernel_rfl) (stop := 1000) 1000 _ ?_
  refine Good.callv (fun w1 hw h => pformat_m (A := some ⟨g, 0, none⟩) (n := 3) (c := 3) (lit_segs (ls := exL) h.2 rfl rfl (by decide)) (by decide) exL_fmtR) (by kernel_rfl) (fun u => ?_)
  refine Good.run (by kernel_rfl) (stop := 1000) 1000 _ ?_
  refine Good.callv (fun w1 hw h => pparse_m (l := [77, 32, 48, 32, 48, 32, 76, 32, 50, 53, 54, 32, 48, 32, 90]) (hM.below hw) (by decide) exL_parse) (by kernel_rfl) (fun y => ?_)
  refine Good.run (by kernel_rfl) (stop := 1000) 1000 _ ?_
  refine Good.callv (fun w1 hw h => pparse_m (l := [77, 32, 48]) (hM.below hw) (by decide) ex_m0) (by kernel_rfl) (fun y2 => ?_)
  refine Good.run (by kernel_rfl) (stop := 1000) 1000 _ ?_
  refine Good.callv (fun w1 hw h => pparse_m (l := [77, 32, 48, 32, 48, 32, 90]) (hM.below hw) (by decide) ex_bad) (by kernel_rfl) (fun y3 => ?_)
  refine Good.run (by kernel_rfl) (stop := 1000) 1000 _ ?_
  refine Good.callv (fun w1 hw h => pformat_m (A := none) (n := 0) (c := 0) (ls := []) (t := []) (e := 0) sg_nil (by decide) rfl) (by kernel_rfl) (fun u2 => ?_)
  refine Good.run (by kernel_rfl) (stop := 1000) 1000 _ ?_
  refine Good.callv (fun w1 hw h => requal_m (A := y.1) (n := 3) (c := y.2) (ls := exL) (A2 := some ⟨g, 0, none⟩) (n2 := 3) (c2 := 3) (ms := exL) (B := true) h.1.1.1.2 (lit_segs (ls := exL) h.1.1.1.1.1.2 rfl rfl (by decide)) (by decide) (by simp)) (by kernel_rfl) (fun u3 => ?_)
  refine Good.run (by kernel_rfl) (stop := 1000) 1000 _ ?_
  refine Good.ret (v := .bool true) (by kernel_rfl) (fun w1 hw h => ⟨(), rfl, hw, fun _ _ _ => trivial⟩)
set_option maxRecDepth 100000 in
set_option maxHeartbeats 4000000 in
theorem lawFormat (hM : ML w) (hs : SgAt w A n ls) : Calls Tryd.prog 3 #[.slice A n c] w (CallPost w (fun _ : Unit => .bool true) fun _ _ => True) := by
  refine Good.enter Tryd.func3 rfl ?_
  refine Good.run (by kernel_rfl) (stop := 1000) 1000 _ ?_
  by_cases hbig : n > 400
  ·
    refine Good.condr (decide ((n : Int) > 400)) true (by kernel_rfl) (by simp; omega) ?_
    refine Good.run (by kernel_rfl) (stop := 1000) 1000 _ ?_
    refine Good.callv (fun w1 hw h => example14_m (hM.below hw)) (by kernel_rfl) (fun u => ?_)
    refine Good.run (by kernel_rfl) (stop := 1000) 1000 _ ?_
    refine Good.ret (v := .bool true) (by kernel_rfl) (fun w1 hw h => ⟨(), rfl, hw, fun _ _ _ => trivial⟩)
  refine Good.condr (decide ((n : Int) > 400)) false (by kernel_rfl) (by simp; omega) ?_
  refine Good.run (by kernel_rfl) (stop := 1000) 1000 _ ?_
  obtain ⟨t, e, hf⟩ : ∃ t e, fmtR ls = (t, e) := ⟨_, _, rfl⟩
  refine Good.make (litS (22) 0 #[]) (litV 0) (litG 41 #[]) (by kernel_rfl) (fun w1 hw h => make_lit (by kernel_rfl)) (fun g => ?_)
  refine Good.run (by kernel_rfl) (stop := 2) 1000 _ ?_
  refine Good.make (appS 22 22 (.slice (some ⟨g, 0, none⟩) 0 0) (.slice A n c)) (fun y : Option Addr × Nat => .slice y.1 n y.2) (fun y v => SgAt v y.1 n ls) (by kernel_rfl) (fun w1 hw h => app_allS (hs.below hw) (by omega)) (fun y => ?_)
  refine Good.run (by kernel_rfl) (stop := 1000) 1000 _ ?_
  refine Good.callv (fun w1 hw h => pformat_m (A := y.1) (n := n) (c := y.2) h.2 (by omega) hf) (by kernel_rfl) (fun u => ?_)
  refine Good.run (by kernel_rfl) (stop := 1000) 1000 _ ?_
  refine Good.callv (fun w1 hw h => pformatR_m (A := A) (n := n) (c := c) (hs.below hw) (by omega) hf) (by kernel_rfl) (fun u2 => ?_)
  refine Good.run (by kernel_rfl) (stop := 1000) 7 _ ?_
  refine Good.run (by kernel_rfl) (stop := 2) 1000 _ ?_
  refine Good.ask (opS .eql 9 (.tmp 25) (.tmp 26) (strOf t) (strOf t)) (.bool true) (by kernel_rfl) (fun w1 hw h => run_eqS (by simp)) ?_
  refine Good.run (by kernel_rfl) (stop := 7) 1000 _ ?_
  refine Good.slot 31 (.bool (e == e)) (.bool true) (by kernel_rfl) (by simp) ?_
  refine Good.run (by kernel_rfl) (stop := 1000) 1000 _ ?_
  refine Good.callv (fun w1 hw h => requal_m (A := y.1) (n := n) (c := y.2) (ls := ls) (A2 := A) (n2 := n) (c2 := c) (ms := ls) (B := true) h.1.1.2 (hs.below hw) (by omega) (by simp)) (by kernel_rfl) (fun u3 => ?_)
  refine Good.run (by kernel_rfl) (stop := 1000) 1000 _ ?_
  refine Good.callv (fun w1 hw h => example14_m (hM.below hw)) (by kernel_rfl) (fun u4 => ?_)
  refine Good.run (by kernel_rfl) (stop := 1000) 1000 _ ?_
  refine Good.ret (v := .bool true) (by kernel_rfl) (fun w1 hw h => ⟨(), rfl, hw, fun _ _ _ => trivial⟩)
theorem parse_len {l : List UInt8} {m : List Sg} {at_ : Nat} {e : Int} (h : parseP l = (m, at_, e)) : m.length ≤ 256 := by
  rcases parse_back h with ⟨_, rfl⟩ | ⟨_, _, h1, _⟩
  · exact Nat.zero_le _
  · exact (good_path h1).2
set_option maxRecDepth 100000 in
set_option maxHeartbeats 4000000 in
theorem lawParse (hM : ML w) : Calls Tryd.prog 4 #[strOf l] w (CallPost w (fun _ : Unit => .bool true) fun _ _ => True) := by
  refine Good.enter Tryd.func4 rfl ?_
  refine Good.run (by kernel_rfl) (stop := 3) 1000 _ ?_
  obtain ⟨out, at_, e, hR⟩ : ∃ out at_ e, parseP l = (out, at_, e) := ⟨_, _, _, rfl⟩
  have hol : out.length ≤ 1000000 := Nat.le_trans (parse_len hR) (by decide)
  by_cases h1 : l.length > 6000
  ·
    refine Good.slot 11 (.bool (decide ((l.length : Int) > 6000))) (.bool true) (by kernel_rfl) (by simp; omega) ?_
    refine Good.run (by kernel_rfl) (stop := 7) 1000 _ ?_
    by_cases h2 : l.length ≤ 65536
    ·
      refine Good.slot 15 (.bool (decide ((l.length : Int) ≤ 65536))) (.bool true) (by kernel_rfl) (by simp; omega) ?_
      refine Good.run (by kernel_rfl) (stop := 1000) 1000 _ ?_
      refine Good.cond true (by kernel_rfl) ?_
      refine Good.run (by kernel_rfl) (stop := 1000) 1000 _ ?_
      refine Good.callv (fun w1 hw h => example14_m (hM.below hw)) (by kernel_rfl) (fun u => ?_)
      refine Good.run (by kernel_rfl) (stop := 1000) 1000 _ ?_
      refine Good.ret (v := .bool true) (by kernel_rfl) (fun w1 hw h => ⟨(), rfl, hw, fun _ _ _ => trivial⟩)
    ·
      refine Good.slot 15 (.bool (decide ((l.length : Int) ≤ 65536))) (.bool false) (by kernel_rfl) (by simp; omega) ?_
      refine Good.run (by kernel_rfl) (stop := 12) 1000 _ ?_
      by_cases h3 : l.length > 70000
      ·
        refine Good.slot 20 (.bool (decide ((l.length : Int) > 70000))) (.bool true) (by kernel_rfl) (by simp; omega) ?_
        refine Good.run (by kernel_rfl) (stop := 1000) 1000 _ ?_
        refine Good.cond true (by kernel_rfl) ?_
        refine Good.run (by kernel_rfl) (stop := 1000) 1000 _ ?_
        refine Good.callv (fun w1 hw h => example14_m (hM.below hw)) (by kernel_rfl) (fun u => ?_)
        refine Good.run (by kernel_rfl) (stop := 1000) 1000 _ ?_
        refine Good.ret (v := .bool true) (by kernel_rfl) (fun w1 hw h => ⟨(), rfl, hw, fun _ _ _ => trivial⟩)
      ·
        refine Good.slot 20 (.bool (decide ((l.length : Int) > 70000))) (.bool false) (by kernel_rfl) (by simp; omega) ?_
        refine Good.run (by kernel_rfl) (stop := 1000) 1000 _ ?_
        refine Good.cond false (by kernel_rfl) ?_
        refine Good.run (by kernel_rfl) (stop := 1000) 1000 _ ?_
        refine Good.callv (fun w1 hw h => pparse_m (l := l) (hM.below hw) (by omega) hR) (by kernel_rfl) (fun y => ?_)
        refine Good.run (by kernel_rfl) (stop := 1000) 1000 _ ?_
        refine Good.callv (fun w1 hw h => pparseR_m (l := l) (by omega) hR) (by kernel_rfl) (fun y2 => ?_)
        refine Good.run (by kernel_rfl) (stop := 1000) 1000 _ ?_
        refine Good.callv (fun w1 hw h => requal_m (A := y.1) (n := out.length) (c := y.2) (ls := out) (A2 := y2.1) (n2 := out.length) (c2 := y2.2) (ms := out) (B := true) h.1.2 h.2 hol (by simp)) (by kernel_rfl) (fun u3 => ?_)
        refine Good.run (by kernel_rfl) (stop := 7) 1000 _ ?_
        refine Good.slot 41 (.bool ((at_ : Int) == (at_ : Int))) (.bool true) (by kernel_rfl) (by simp) ?_
        refine Good.run (by kernel_rfl) (stop := 12) 1000 _ ?_
        refine Good.slot 46 (.bool (e == e)) (.bool true) (by kernel_rfl) (by simp) ?_
        refine Good.run (by kernel_rfl) (stop := 1000) 1000 _ ?_
        refine Good.callv (fun w1 hw h => example14_m (hM.below hw)) (by kernel_rfl) (fun u4 => ?_)
        refine Good.run (by kernel_rfl) (stop := 1000) 1000 _ ?_
        refine Good.ret (v := .bool true) (by kernel_rfl) (fun w1 hw h => ⟨(), rfl, hw, fun _ _ _ => trivial⟩)
  ·
    refine Good.slot 11 (.bool (decide ((l.length : Int) > 6000))) (.bool false) (by kernel_rfl) (by simp; omega) ?_
    refine Good.run (by kernel_rfl) (stop := 12) 1000 _ ?_
    refine Good.slot 20 (.bool (decide ((l.length : Int) > 70000))) (.bool false) (by kernel_rfl) (by simp; omega) ?_
    refine Good.run (by kernel_rfl) (stop := 1000) 1000 _ ?_
    refine Good.cond false (by kernel_rfl) ?_
    refine Good.run (by kernel_rfl) (stop := 1000) 1000 _ ?_
    refine Good.callv (fun w1 hw h => pparse_m (l := l) (hM.below hw) (by omega) hR) (by kernel_rfl) (fun y => ?_)
    refine Good.run (by kernel_rfl) (stop := 1000) 1000 _ ?_
    refine Good.callv (fun w1 hw h => pparseR_m (l := l) (by omega) hR) (by kernel_rfl) (fun y2 => ?_)
    refine Good.run (by kernel_rfl) (stop := 1000) 1000 _ ?_
    refine Good.callv (fun w1 hw h => requal_m (A := y.1) (n := out.length) (c := y.2) (ls := out) (A2 := y2.1) (n2 := out.length) (c2 := y2.2) (ms := out) (B := true) h.1.2 h.2 hol (by simp)) (by kernel_rfl) (fun u3 => ?_)
    refine Good.run (by kernel_rfl) (stop := 7) 1000 _ ?_
    refine Good.slot 41 (.bool ((at_ : Int) == (at_ : Int))) (.bool true) (by kernel_rfl) (by simp) ?_
    refine Good.run (by kernel_rfl) (stop := 12) 1000 _ ?_
    refine Good.slot 46 (.bool (e == e)) (.bool true) (by kernel_rfl) (by simp) ?_
    refine Good.run (by kernel_rfl) (stop := 1000) 1000 _ ?_
    refine Good.callv (fun w1 hw h => example14_m (hM.below hw)) (by kernel_rfl) (fun u4 => ?_)
    refine Good.run (by kernel_rfl) (stop := 1000) 1000 _ ?_
    refine Good.ret (v := .bool true) (by kernel_rfl) (fun w1 hw h => ⟨(), rfl, hw, fun _ _ _ => trivial⟩)
set_option maxRecDepth 100000 in
set_option maxHeartbeats 4000000 in
theorem lawRound (hM : ML w) (hs : SgAt w A n ls) : Calls Tryd.prog 5 #[.slice A n c, strOf l] w (CallPost w (fun _ : Unit => .bool true) fun _ _ => True) := by
  refine Good.enter Tryd.func5 rfl ?_
  refine Good.run (by kernel_rfl) (stop := 3) 1000 _ ?_
  obtain ⟨out, at_, e, hR⟩ : ∃ out at_ e, parseP l = (out, at_, e) := ⟨_, _, _, rfl⟩
  by_cases h1 : n > 400
  ·
    refine Good.slot 17 (.bool (decide ((n : Int) > 400))) (.bool true) (by kernel_rfl) (by simp; omega) ?_
    refine Good.run (by kernel_rfl) (stop := 1000) 1000 _ ?_
    refine Good.cond true (by kernel_rfl) ?_
    refine Good.run (by kernel_rfl) (stop := 1000) 1000 _ ?_
    refine Good.callv (fun w1 hw h => example14_m (hM.below hw)) (by kernel_rfl) (fun u => ?_)
    refine Good.run (by kernel_rfl) (stop := 1000) 1000 _ ?_
    refine Good.ret (v := .bool true) (by kernel_rfl) (fun w1 hw h => ⟨(), rfl, hw, fun _ _ _ => trivial⟩)
  refine Good.slot 17 (.bool (decide ((n : Int) > 400))) (.bool false) (by kernel_rfl) (by simp; omega) ?_
  refine Good.run (by kernel_rfl) (stop := 7) 1000 _ ?_
  by_cases h2 : l.length > 6000
  ·
    refine Good.slot 21 (.bool (decide ((l.length : Int) > 6000))) (.bool true) (by kernel_rfl) (by simp; omega) ?_
    refine Good.run (by kernel_rfl) (stop := 1000) 1000 _ ?_
    refine Good.cond true (by kernel_rfl) ?_
    refine Good.run (by kernel_rfl) (stop := 1000) 1000 _ ?_
    refine Good.callv (fun w1 hw h => example14_m (hM.below hw)) (by kernel_rfl) (fun u => ?_)
    refine Good.run (by kernel_rfl) (stop := 1000) 1000 _ ?_
    refine Good.ret (v := .bool true) (by kernel_rfl) (fun w1 hw h => ⟨(), rfl, hw, fun _ _ _ => trivial⟩)
  refine Good.slot 21 (.bool (decide ((l.length : Int) > 6000))) (.bool false) (by kernel_rfl) (by simp; omega) ?_
  refine Good.run (by kernel_rfl) (stop := 1000) 1000 _ ?_
  refine Good.cond false (by kernel_rfl) ?_
  refine Good.run (by kernel_rfl) (stop := 1000) 1000 _ ?_
  cases hok : okPath ls with
  | true =>
    have hf : fmtR ls = (fmtP ls, 0) := if_pos hok
    obtain ⟨hg, hsm⟩ := good_path hok
    have hfl := fmtP_len hg
    have hln := hs.1
    refine Good.callv (fun w1 hw h => pformat_m (A := A) (n := n) (c := c) (hs.below hw) (by omega) hf) (by kernel_rfl) (fun u => ?_)
    refine Good.run (by kernel_rfl) (stop := 1000) 1000 _ ?_
    refine Good.cond true (by kernel_rfl) ?_
    refine Good.run (by kernel_rfl) (stop := 1000) 1000 _ ?_
    refine Good.callv (fun w1 hw h => pparse_m (l := fmtP ls) (hM.below hw) (by omega) (parse_fmtP hok)) (by kernel_rfl) (fun y => ?_)
    refine Good.run (by kernel_rfl) (stop := 1000) 1000 _ ?_
    refine Good.callv (fun w1 hw h => requal_m (A := y.1) (n := ls.length) (c := y.2) (ls := ls) (A2 := A) (n2 := n) (c2 := c) (ms := ls) (B := true) h.2 (hs.below hw) (by omega) (by simp)) (by kernel_rfl) (fun u3 => ?_)
    refine Good.run (by kernel_rfl) (stop := 1000) 1000 _ ?_
    refine Good.cond false (by kernel_rfl) ?_
    refine Good.run (by kernel_rfl) (stop := 1000) 1000 _ ?_
    refine Good.callv (fun w1 hw h => pparse_m (l := l) (hM.below hw) (by omega) hR) (by kernel_rfl) (fun z => ?_)
    refine Good.run (by kernel_rfl) (stop := 1000) 1000 _ ?_
    rcases parse_back hR with ⟨he, rfl⟩ | ⟨rfl, rfl, hok2, hfm⟩
    ·
      refine Good.condr ((e != 0)) true (by kernel_rfl) (by simpa using he) ?_
      refine Good.run (by kernel_rfl) (stop := 6) 1000 _ ?_
      refine Good.slot 62 (.bool (decide ((at_ : Int) ≥ 0))) (.bool true) (by kernel_rfl) (by simp) ?_
      refine Good.run (by kernel_rfl) (stop := 1000) 1000 _ ?_
      refine Good.callv (fun w1 hw h => example14_m (hM.below hw)) (by kernel_rfl) (fun u4 => ?_)
      refine Good.run (by kernel_rfl) (stop := 1000) 1000 _ ?_
      refine Good.ret (v := .bool true) (by kernel_rfl) (fun w1 hw h => ⟨(), rfl, hw, fun _ _ _ => trivial⟩)
    · have hsm2 := (good_path hok2).2
      have hf2 : fmtR out = (l, 0) := by unfold fmtR; rw [if_pos hok2, hfm]
      refine Good.cond false (by kernel_rfl) ?_
      refine Good.run (by kernel_rfl) (stop := 1000) 1000 _ ?_
      refine Good.callv (fun w1 hw h => pformat_m (A := z.1) (n := out.length) (c := z.2) h.2 (by omega) hf2) (by kernel_rfl) (fun u5 => ?_)
      refine Good.run (by kernel_rfl) (stop := 1000) 7 _ ?_
      refine Good.run (by kernel_rfl) (stop := 5) 1000 _ ?_
      refine Good.ask (opS .eql 9 (.tmp 75) (.tmp 76) (strOf l) (strOf l)) (.bool true) (by kernel_rfl) (fun w1 hw h => run_eqS (by simp)) ?_
      refine Good.run (by kernel_rfl) (stop := 1000) 1000 _ ?_
      refine Good.callv (fun w1 hw h => example14_m (hM.below hw)) (by kernel_rfl) (fun u6 => ?_)
      refine Good.run (by kernel_rfl) (stop := 1000) 1000 _ ?_
      refine Good.ret (v := .bool true) (by kernel_rfl) (fun w1 hw h => ⟨(), rfl, hw, fun _ _ _ => trivial⟩)
  | false =>
    have hf : fmtR ls = ([], 10) := if_neg (by simp [hok])
    refine Good.callv (fun w1 hw h => pformat_m (A := A) (n := n) (c := c) (hs.below hw) (by omega) hf) (by kernel_rfl) (fun u => ?_)
    refine Good.run (by kernel_rfl) (stop := 1000) 1000 _ ?_
    refine Good.cond false (by kernel_rfl) ?_
    refine Good.run (by kernel_rfl) (stop := 1000) 1000 _ ?_
    refine Good.callv (fun w1 hw h => pparse_m (l := l) (hM.below hw) (by omega) hR) (by kernel_rfl) (fun z => ?_)
    refine Good.run (by kernel_rfl) (stop := 1000) 1000 _ ?_
    rcases parse_back hR with ⟨he, rfl⟩ | ⟨rfl, rfl, hok2, hfm⟩
    ·
      refine Good.condr ((e != 0)) true (by kernel_rfl) (by simpa using he) ?_
      refine Good.run (by kernel_rfl) (stop := 6) 1000 _ ?_
      refine Good.slot 62 (.bool (decide ((at_ : Int) ≥ 0))) (.bool true) (by kernel_rfl) (by simp) ?_
      refine Good.run (by kernel_rfl) (stop := 1000) 1000 _ ?_
      refine Good.callv (fun w1 hw h => example14_m (hM.below hw)) (by kernel_rfl) (fun u4 => ?_)
      refine Good.run (by kernel_rfl) (stop := 1000) 1000 _ ?_
      refine Good.ret (v := .bool true) (by kernel_rfl) (fun w1 hw h => ⟨(), rfl, hw, fun _ _ _ => trivial⟩)
    · have hsm2 := (good_path hok2).2
      have hf2 : fmtR out = (l, 0) := by unfold fmtR; rw [if_pos hok2, hfm]
      refine Good.cond false (by kernel_rfl) ?_
      refine Good.run (by kernel_rfl) (stop := 1000) 1000 _ ?_
      refine Good.callv (fun w1 hw h => pformat_m (A := z.1) (n := out.length) (c := z.2) h.2 (by omega) hf2) (by kernel_rfl) (fun u5 => ?_)
      refine Good.run (by kernel_rfl) (stop := 1000) 7 _ ?_
      refine Good.run (by kernel_rfl) (stop := 5) 1000 _ ?_
      refine Good.ask (opS .eql 9 (.tmp 75) (.tmp 76) (strOf l) (strOf l)) (.bool true) (by kernel_rfl) (fun w1 hw h => run_eqS (by simp)) ?_
      refine Good.run (by kernel_rfl) (stop := 1000) 1000 _ ?_
      refine Good.callv (fun w1 hw h => example14_m (hM.below hw)) (by kernel_rfl) (fun u6 => ?_)
      refine Good.run (by kernel_rfl) (stop := 1000) 1000 _ ?_
      refine Good.ret (v := .bool true) (by kernel_rfl) (fun w1 hw h => ⟨(), rfl, hw, fun _ _ _ => trivial⟩)
end

def shPt : Sh := .cons 1 (.int .i64) (.cons 1 (.int .i64) .nil)
def shSg : Sh := .cons 1 (.int .i64) (.cons 2 shPt (.cons 2 shPt (.cons 2 shPt .nil)))
section
variable {w : World} {A : Option Addr} {n c : Nat} {ls : List Sg}
theorem rd_int {k : IntKind} {a : List Value} (h : Rd w (.int k) a) : ∃ z, a = [.int k z] := by obtain ⟨z, h, _⟩ := h; exact ⟨z, h⟩
theorem rd_pt {a : List Value} (h : Rd w shPt a) : ∃ x y, a = [.int .i64 x, .int .i64 y] := by
  obtain ⟨a1, b1, rfl, _, h1, a2, b2, rfl, _, h2, h3⟩ := h
  obtain ⟨x, rfl⟩ := rd_int h1
  obtain ⟨y, rfl⟩ := rd_int h2
  have h3 : b2 = [] := h3
  subst h3
  exact ⟨x, y, rfl⟩
theorem rd_sg {a : List Value} (h : Rd w shSg a) : ∃ s : Sg, a = s.cl := by
  obtain ⟨a1, b1, rfl, _, h1, a2, b2, rfl, _, h2, a3, b3, rfl, _, h3, a4, b4, rfl, _, h4, h5⟩ := h
  obtain ⟨v, rfl⟩ := rd_int h1
  obtain ⟨ax, ay, rfl⟩ := rd_pt h2
  obtain ⟨bx, by_, rfl⟩ := rd_pt h3
  obtain ⟨cx, cy, rfl⟩ := rd_pt h4
  have h5 : b4 = [] := h5
  subst h5
  exact ⟨⟨v, ax, ay, bx, by_, cx, cy⟩, rfl⟩
theorem sg_of_rd (h : Rd w (.sl 7 shSg) [.slice A n c]) : ∃ ls, SgAt w A n ls := by
  obtain ⟨A', len, cap, e, h1, h2, h3⟩ := h
  simp only [List.cons.injEq, Value.slice.injEq, and_true] at e
  obtain ⟨rfl, rfl, rfl⟩ := e
  have key : ∀ j, j ≤ n → ∃ ls : List Sg, ls.length = j ∧ ∀ (k : Nat) (s : Sg), ls[k]? = some s → ∃ ad, A = some ad ∧ ∀ (i : Nat) (v : Value), s.cl[i]? = some v → w.cell? ((ad.add (k * 7)).add i) = some v := by
    intro j
    induction j with
    | zero => exact fun _ => ⟨[], rfl, fun k s h => by simp at h⟩
    | succ j ih =>
      intro hj
      obtain ⟨ls, k1, k2⟩ := ih (by omega)
      obtain ⟨ad, xs, hA, hx, hc, hr⟩ := h3 j (by omega)
      obtain ⟨s, rfl⟩ := rd_sg hr
      refine ⟨ls ++ [s], by simp [k1], fun k u hu => ?_⟩
      rcases Nat.lt_or_ge k j with hlt | hge
      · rw [List.getElem?_append_left (by omega)] at hu
        exact k2 k u hu
      · have hu' := (List.getElem?_eq_some_iff.1 hu).1
        simp only [List.length_append, List.length_singleton] at hu'
        obtain rfl : k = j := by omega
        rw [List.getElem?_append_right (by omega), k1, Nat.sub_self] at hu
        cases hu
        exact ⟨ad, hA, hc⟩
  obtain ⟨ls, k1, k2⟩ := key n (Nat.le_refl _)
  exact ⟨ls, k1, k2⟩
theorem rowFormat (hM : ML w) (i : Rd w (.sl 7 shSg) [.slice A n c]) : Calls Tryd.prog 3 #[.slice A n c] w (Done w) := by
  obtain ⟨ls, hs⟩ := sg_of_rd i
  exact (lawFormat hM hs).mono fun _ _ h => law_done h
theorem rowParse {s : ByteArray} (hM : ML w) : Calls Tryd.prog 4 #[.string s] w (Done w) := (lawParse (l := s.data.toList) hM).mono fun _ _ h => law_done h
theorem rowRound {s : ByteArray} (hM : ML w) (i : Rd w (.sl 7 shSg) [.slice A n c]) : Calls Tryd.prog 5 #[.slice A n c, .string s] w (Done w) := by
  obtain ⟨ls, hs⟩ := sg_of_rd i
  exact (lawRound (l := s.data.toList) hM hs).mono fun _ _ h => law_done h
end

end Go.Proofs.YtlpnjoenkohadaaDoor
